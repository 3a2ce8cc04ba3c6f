/- A part of the proof that FnCertificates returns true at every input: plain functions, contracts and lemmas. No conditions. -/
import Derived.Test.YtkfhejklnmkfmaaDoorQCertificatesc
set_option linter.unusedVariables false
set_option linter.unusedSimpArgs false
set_option linter.unusedSectionVars false
set_option maxHeartbeats 8000000
set_option maxRecDepth 100000
section
namespace Go.Proofs.YtkfhejklnmkfmaaDoor.A
open Go.RowKit Go.Proofs.YtkfhejklnmkfmaaDoorW.PrintWords Go.Proofs.YtkfhejklnmkfmaaDoorW.PrintLast Go.Proofs.YtkfhejklnmkfmaaDoorW.PrintMore
attribute [local go_sem] max2_int min2_int max_two min_two max_three min_three max_four min_four
def Zh.T10 : Bool × List (List Nat × List Nat) := (true,[([],[]),([0],[0]),([1,1],[1]),([],[]),([3],[3]),([4,2],[4]),([],[]),([6],[6]),([],[]),([7,8],[7,8]),([9],[9]),([2,5,10,5],[2,5,10]),([11,11,0,1,2,3,4,5,6,7,8,9,10,11],[11])])
def Zh.B10 : List Nat := [0,1,3,0,8,31,0,64,0,448,960,2047,4095]
theorem Zh.tab10 : rtab .any (opsOf Tryd.f7 10) = Zh.T10 := by kernel_rfl
theorem Zh.bits10 : waitsOk Zh.T10.2 Zh.B10 = true := by kernel_rfl
theorem Zh.calls (k : Nat) (a0 : Int) (a1_0 : ByteArray) (a1_1 : Int) (a1_2 : Int) (a1_3 : Int) (A1_4 : Option Addr) (c1_4 : Nat) (l1_4 : List Int) (A1_5 : Option Addr) (c1_5 : Nat) (l1_5 : List (S37)) (r : Int) (w : World) (hr1_4 : Kd.C (Kd.int .i64) w A1_4 l1_4.length l1_4) (hc1_4 : l1_4.length ≤ c1_4) (hr1_5 : Kd.C k37 w A1_5 l1_5.length l1_5) (hc1_5 : l1_5.length ≤ c1_5) (hL : Laid w) (hT : LaidT w) (h : Zh.f k a0 a1_0 a1_1 a1_2 a1_3 l1_4 l1_5 = some r) :
  Calls Tryd.prog 7 #[.int .i64 a0,.agg #[.string a1_0,.int .i64 a1_1,.int .i64 a1_2,.int .i64 a1_3,.slice A1_4 l1_4.length c1_4,.slice A1_5 l1_5.length c1_5]] w fun e w' => e = .returned (.int .i64 r) ∧ Below w.heap.size w w' := by
 have hu31 := Tryd.underlying31
 have hu24 := Tryd.underlying24
 have hu37 := Tryd.underlying37
 have HR1_4 := am_ hr1_4
 have HC1_4 := am_ hc1_4
 clear hr1_4 hc1_4
 have HR1_5 := am_ hr1_5
 have HC1_5 := am_ hc1_5
 clear hr1_5 hc1_5
 have HLD := am_ hL
 clear hL
 have HTD := am_ hT
 clear hT
 have HB := am_ (Below.refl w.heap.size w)
 have H : ((ZI.f k a1_0 a1_1 a1_2 a1_3).bind fun t395 => (if t395 = true then ((ZX.f a0).bind fun t396 => (if t396 = true then ((ZL.f k a0 l1_4).bind fun t397 => (if t397 = true then (if (l1_5.length : Int) = (l1_4.length : Int) then (Zh.l0 k l1_4 (l1_4.length : Int) 0 a1_0 a1_1 a1_2 a1_3 l1_4 l1_5) else (some 19)) else (some 19))) else (some 4))) else (some 1))) = some r := h
 clear h
 replace H := Option.bind_eq_some_iff.mp H
 obtain ⟨t395,A30,H⟩ := H
 try dsimp only at H
 have A3 := am_ A30
 clear A30
 by_cases c4 : t395 = true
 case neg =>
  replace c4 := Bool.eq_false_iff.mpr c4
  subst c4
  rw [if_neg (show ¬ (false = true) by decide)] at H
  obtain rfl := Option.some.inj H
  go_enter Tryd.func7,Tryd.ntmps7
  go_wp2_with (first | ((with_reducible refine gate_dst (N := 3) rfl ?_);(try (refine gate_guard (by rfl) ?_;dsimp only));refine zbx (N := 3) (cs := #[.string a1_0,.int .i64 a1_1,.int .i64 a1_2,.int .i64 a1_3,.slice A1_4 l1_4.length c1_4,.slice A1_5 l1_5.length c1_5]) (t := 31) ?_;intro gb394 hg w44 hbox hb;have BK394 := am_ (hbox);have GW394 := zw_ HB hg;have GE394 := zw_ HB hg;replace HB := zs_ HB hb;clear hb hbox hg;obtain ⟨hcz45_0,hcz45_1,hcz45_2,hcz45_3,hcz45_4,hcz45_5,hfz45_0,hfz45_1,hfz45_2,hfz45_3,hfz45_4,hfz45_5⟩ := zc6 BK394) | ((with_reducible refine gate_callee (f := 17) rfl ?_);refine zgl (some 11) Tryd.func17 #[.agg #[.string a1_0,.int .i64 a1_1,.int .i64 a1_2,.int .i64 a1_3]] ?_;(with_reducible refine (ZI.calls k a1_0 a1_1 a1_2 a1_3 false _ A3.out).mono ?_);rintro e w46 ⟨rfl,hb⟩;refine ⟨_,rfl,?_⟩;replace HB := zs_ HB hb;(try clear hb)))
  go_ret
  exact ⟨zt_,zl_ HB⟩
 subst c4
 rw [if_pos rfl] at H
 replace H := Option.bind_eq_some_iff.mp H
 obtain ⟨t396,A50,H⟩ := H
 try dsimp only at H
 have A5 := am_ A50
 clear A50
 by_cases c6 : t396 = true
 case neg =>
  replace c6 := Bool.eq_false_iff.mpr c6
  subst c6
  rw [if_neg (show ¬ (false = true) by decide)] at H
  obtain rfl := Option.some.inj H
  go_enter Tryd.func7,Tryd.ntmps7
  go_wp2_with (first | ((with_reducible refine gate_dst (N := 3) rfl ?_);(try (refine gate_guard (by rfl) ?_;dsimp only));refine zbx (N := 3) (cs := #[.string a1_0,.int .i64 a1_1,.int .i64 a1_2,.int .i64 a1_3,.slice A1_4 l1_4.length c1_4,.slice A1_5 l1_5.length c1_5]) (t := 31) ?_;intro gb394 hg w41 hbox hb;have BK394 := am_ (hbox);have GW394 := zw_ HB hg;have GE394 := zw_ HB hg;replace HB := zs_ HB hb;clear hb hbox hg;obtain ⟨hcz42_0,hcz42_1,hcz42_2,hcz42_3,hcz42_4,hcz42_5,hfz42_0,hfz42_1,hfz42_2,hfz42_3,hfz42_4,hfz42_5⟩ := zc6 BK394) | ((with_reducible refine gate_callee (f := 17) rfl ?_);refine zgl (some 11) Tryd.func17 #[.agg #[.string a1_0,.int .i64 a1_1,.int .i64 a1_2,.int .i64 a1_3]] ?_;(with_reducible refine (ZI.calls k a1_0 a1_1 a1_2 a1_3 true _ A3.out).mono ?_);rintro e w43 ⟨rfl,hb⟩;refine ⟨_,rfl,?_⟩;replace HB := zs_ HB hb;(try clear hb);(try clear hi)) | ((with_reducible refine gate_callee (f := 18) rfl ?_);refine zgl (some 15) Tryd.func18 #[.int .i64 a0] ?_;(with_reducible refine (ZX.calls a0 false _ A5.out).mono ?_);rintro e w' ⟨rfl,⟨nd,rfl⟩⟩;refine ⟨_,rfl,?_⟩))
  go_ret
  exact ⟨zt_,zl_ HB⟩
 subst c6
 rw [if_pos rfl] at H
 replace H := Option.bind_eq_some_iff.mp H
 obtain ⟨t397,A70,H⟩ := H
 try dsimp only at H
 have A7 := am_ A70
 clear A70
 by_cases c8 : t397 = true
 case neg =>
  replace c8 := Bool.eq_false_iff.mpr c8
  subst c8
  rw [if_neg (show ¬ (false = true) by decide)] at H
  obtain rfl := Option.some.inj H
  go_enter Tryd.func7,Tryd.ntmps7
  go_wp2_with (first | ((with_reducible refine gate_dst (N := 3) rfl ?_);(try (refine gate_guard (by rfl) ?_;dsimp only));refine zbx (N := 3) (cs := #[.string a1_0,.int .i64 a1_1,.int .i64 a1_2,.int .i64 a1_3,.slice A1_4 l1_4.length c1_4,.slice A1_5 l1_5.length c1_5]) (t := 31) ?_;intro gb394 hg w37 hbox hb;have BK394 := am_ (hbox);have GW394 := zw_ HB hg;have GE394 := zw_ HB hg;replace HB := zs_ HB hb;clear hb hbox hg;obtain ⟨hcz38_0,hcz38_1,hcz38_2,hcz38_3,hcz38_4,hcz38_5,hfz38_0,hfz38_1,hfz38_2,hfz38_3,hfz38_4,hfz38_5⟩ := zc6 BK394) | ((with_reducible refine gate_callee (f := 17) rfl ?_);refine zgl (some 11) Tryd.func17 #[.agg #[.string a1_0,.int .i64 a1_1,.int .i64 a1_2,.int .i64 a1_3]] ?_;(with_reducible refine (ZI.calls k a1_0 a1_1 a1_2 a1_3 true _ A3.out).mono ?_);rintro e w39 ⟨rfl,hb⟩;refine ⟨_,rfl,?_⟩;replace BK394 := zb BK394 hb;replace HB := zs_ HB hb;(try clear hb);(try clear hi)) | ((with_reducible refine gate_callee (f := 18) rfl ?_);refine zgl (some 15) Tryd.func18 #[.int .i64 a0] ?_;(with_reducible refine (ZX.calls a0 true _ A5.out).mono ?_);rintro e w' ⟨rfl,⟨nd,rfl⟩⟩;refine ⟨_,rfl,?_⟩;obtain ⟨hcz40_0,hcz40_1,hcz40_2,hcz40_3,hcz40_4,hcz40_5,hfz40_0,hfz40_1,hfz40_2,hfz40_3,hfz40_4,hfz40_5⟩ := zc6 BK394) | ((with_reducible refine gate_callee (f := 20) rfl ?_);refine zgl (some 21) Tryd.func20 #[.int .i64 a0,.slice A1_4 l1_4.length c1_4] ?_;(with_reducible refine (ZL.calls k a0 _ _ l1_4 false _ ?side1 ?side2 A7.out).mono ?_);(case side1 => repeat (first | exact (Kd.C_below HR1_4.out (zl_ HB)) | (with_reducible refine Kd.C_alloc ?_ _) | (with_reducible refine Kd.C_drewN ?_ _) | (with_reducible refine Kd.C_drew ?_)));(case side2 => exact HC1_4.out);rintro e w' ⟨rfl,⟨nd,rfl⟩⟩;refine ⟨_,rfl,?_⟩))
  go_ret
  exact ⟨zt_,zl_ HB⟩
 subst c8
 rw [if_pos rfl] at H
 by_cases c9 : (l1_5.length : Int) = (l1_4.length : Int)
 case neg =>
  rw [if_neg c9] at H
  have c9b0 := beq_eq_false_iff_ne.mpr c9
  have c9b1 := bne_iff_ne.mpr c9
  have c9b2 : (l1_5.length == l1_4.length) = false := by first | simpa using c9 | (simp at c9 ⊢;omega)
  obtain rfl := Option.some.inj H
  go_enter Tryd.func7,Tryd.ntmps7
  go_wp2_with (first | ((with_reducible refine gate_dst (N := 3) rfl ?_);(try (refine gate_guard (by rfl) ?_;dsimp only));refine zbx (N := 3) (cs := #[.string a1_0,.int .i64 a1_1,.int .i64 a1_2,.int .i64 a1_3,.slice A1_4 l1_4.length c1_4,.slice A1_5 l1_5.length c1_5]) (t := 31) ?_;intro gb394 hg w33 hbox hb;have BK394 := am_ (hbox);have GW394 := zw_ HB hg;have GE394 := zw_ HB hg;replace HB := zs_ HB hb;clear hb hbox hg;obtain ⟨hcz34_0,hcz34_1,hcz34_2,hcz34_3,hcz34_4,hcz34_5,hfz34_0,hfz34_1,hfz34_2,hfz34_3,hfz34_4,hfz34_5⟩ := zc6 BK394) | ((with_reducible refine gate_callee (f := 17) rfl ?_);refine zgl (some 11) Tryd.func17 #[.agg #[.string a1_0,.int .i64 a1_1,.int .i64 a1_2,.int .i64 a1_3]] ?_;(with_reducible refine (ZI.calls k a1_0 a1_1 a1_2 a1_3 true _ A3.out).mono ?_);rintro e w35 ⟨rfl,hb⟩;refine ⟨_,rfl,?_⟩;replace BK394 := zb BK394 hb;replace HB := zs_ HB hb;(try clear hb);(try clear hi)) | ((with_reducible refine gate_callee (f := 18) rfl ?_);refine zgl (some 15) Tryd.func18 #[.int .i64 a0] ?_;(with_reducible refine (ZX.calls a0 true _ A5.out).mono ?_);rintro e w' ⟨rfl,⟨nd,rfl⟩⟩;refine ⟨_,rfl,?_⟩;obtain ⟨hcz36_0,hcz36_1,hcz36_2,hcz36_3,hcz36_4,hcz36_5,hfz36_0,hfz36_1,hfz36_2,hfz36_3,hfz36_4,hfz36_5⟩ := zc6 BK394) | ((with_reducible refine gate_callee (f := 20) rfl ?_);refine zgl (some 21) Tryd.func20 #[.int .i64 a0,.slice A1_4 l1_4.length c1_4] ?_;(with_reducible refine (ZL.calls k a0 _ _ l1_4 true _ ?side1 ?side2 A7.out).mono ?_);(case side1 => repeat (first | exact (Kd.C_below HR1_4.out (zl_ HB)) | (with_reducible refine Kd.C_alloc ?_ _) | (with_reducible refine Kd.C_drewN ?_ _) | (with_reducible refine Kd.C_drew ?_)));(case side2 => exact HC1_4.out);rintro e w' ⟨rfl,⟨nd,rfl⟩⟩;refine ⟨_,rfl,?_⟩))
  go_ret
  exact ⟨zt_,zl_ HB⟩
 rw [if_pos c9] at H
 have c9b0 := beq_iff_eq.mpr c9
 have c9b1 := bne_eq_false_iff_eq.mpr c9
 have c9b2 : (l1_5.length == l1_4.length) = true := by first | simpa using c9 | (simp at c9 ⊢;omega)
 clear c9
 have H' := am_ H
 clear H
 go_enter Tryd.func7,Tryd.ntmps7
 go_wp2_with (first | ((with_reducible refine gate_dst (N := 3) rfl ?_);(try (refine gate_guard (by rfl) ?_;dsimp only));refine zbx (N := 3) (cs := #[.string a1_0,.int .i64 a1_1,.int .i64 a1_2,.int .i64 a1_3,.slice A1_4 l1_4.length c1_4,.slice A1_5 l1_5.length c1_5]) (t := 31) ?_;intro gb394 hg w10 hbox hb;have BK394 := am_ (hbox);have GW394 := zw_ HB hg;have GE394 := zw_ HB hg;replace HB := zs_ HB hb;clear hb hbox hg;obtain ⟨hcz11_0,hcz11_1,hcz11_2,hcz11_3,hcz11_4,hcz11_5,hfz11_0,hfz11_1,hfz11_2,hfz11_3,hfz11_4,hfz11_5⟩ := zc6 BK394) | ((with_reducible refine gate_callee (f := 17) rfl ?_);refine zgl (some 11) Tryd.func17 #[.agg #[.string a1_0,.int .i64 a1_1,.int .i64 a1_2,.int .i64 a1_3]] ?_;(with_reducible refine (ZI.calls k a1_0 a1_1 a1_2 a1_3 true _ A3.out).mono ?_);rintro e w12 ⟨rfl,hb⟩;refine ⟨_,rfl,?_⟩;replace BK394 := zb BK394 hb;replace HB := zs_ HB hb;(try clear hb);(try clear hi)) | ((with_reducible refine gate_callee (f := 18) rfl ?_);refine zgl (some 15) Tryd.func18 #[.int .i64 a0] ?_;(with_reducible refine (ZX.calls a0 true _ A5.out).mono ?_);rintro e w' ⟨rfl,⟨nd,rfl⟩⟩;refine ⟨_,rfl,?_⟩;obtain ⟨hcz13_0,hcz13_1,hcz13_2,hcz13_3,hcz13_4,hcz13_5,hfz13_0,hfz13_1,hfz13_2,hfz13_3,hfz13_4,hfz13_5⟩ := zc6 BK394) | ((with_reducible refine gate_callee (f := 20) rfl ?_);refine zgl (some 21) Tryd.func20 #[.int .i64 a0,.slice A1_4 l1_4.length c1_4] ?_;(with_reducible refine (ZL.calls k a0 _ _ l1_4 true _ ?side1 ?side2 A7.out).mono ?_);(case side1 => repeat (first | exact (Kd.C_below HR1_4.out (zl_ HB)) | (with_reducible refine Kd.C_alloc ?_ _) | (with_reducible refine Kd.C_drewN ?_ _) | (with_reducible refine Kd.C_drew ?_)));(case side2 => exact HC1_4.out);rintro e w' ⟨rfl,⟨nd,rfl⟩⟩;refine ⟨_,rfl,?_⟩))
 go_loopg [35] k (fun kq v35 w' => ∃ (x35_1 : Int),v35 = .int .i64 x35_1 ∧ Aside0 (Zh.l0 kq l1_4 (l1_4.length : Int) x35_1 a1_0 a1_1 a1_2 a1_3 l1_4 l1_5 = some r) ∧ Aside0 (kq ≤ k) ∧ Aside0 (w'.heap[gb394]? = some (.cells #[.string a1_0,.int .i64 a1_1,.int .i64 a1_2,.int .i64 a1_3,(.slice A1_4 l1_4.length c1_4),(.slice A1_5 l1_5.length c1_5)] 31 (0,0))) ∧ Aside0 (Below w.heap.size w w'))
 case atStart => exact ⟨(0),(by first | rfl | (simp;done) | (simp [*];done)),H',⟨Nat.le_refl _⟩,⟨by (with_reducible repeat (first | apply k1_ | apply k2_ | apply k3_));exact BK394.out⟩,⟨zl_ HB⟩⟩
 case round =>
  clear H'
  try clear c1
  try clear c2
  try clear p2
  try clear c4
  try clear c6
  try clear c7
  try clear c8
  try clear c9
  try clear c9b0
  try clear c9b1
  try clear c9b2
  try clear hcz11_0
  try clear hcz11_1
  try clear hcz11_2
  try clear hcz11_3
  try clear hcz11_4
  try clear hcz11_5
  try clear hcz13_0
  try clear hcz13_1
  try clear hcz13_2
  try clear hcz13_3
  try clear hcz13_4
  try clear hcz13_5
  try clear hfz11_0
  try clear hfz11_1
  try clear hfz11_2
  try clear hfz11_3
  try clear hfz11_4
  try clear hfz11_5
  try clear hfz13_0
  try clear hfz13_1
  try clear hfz13_2
  try clear hfz13_3
  try clear hfz13_4
  try clear hfz13_5
  obtain ⟨x35_1,rfl,HA,HK1,BK394,HB⟩ := hrel
  cases gk with
  | zero => exact absurd HA.out (by simp [Zh.l0])
  | succ k1 =>
   have H := HA.out
   clear HA
   simp only [Zh.l0] at H
   by_cases c14 : x35_1 < (l1_4.length : Int)
   case neg =>
    rw [if_neg c14] at H
    have c14b0 := decide_eq_false c14
    clear c14
    obtain rfl := Option.some.inj H
    go_wp2
    go_ret
    exact ⟨zt_,zl_ HB⟩
   rw [if_pos c14] at H
   have c14b0 := decide_eq_true c14
   clear c14
   by_cases c15 : 0 ≤ x35_1
   case neg =>
    rw [if_neg c15] at H
    exact absurd H (by simp)
   rw [if_pos c15] at H
   have c15b0 := decide_eq_true c15
   clear c15
   by_cases c16 : x35_1 < (l1_4.length : Int)
   case neg =>
    rw [if_neg c16] at H
    exact absurd H (by simp)
   rw [if_pos c16] at H
   have c16b0 := decide_eq_true c16
   clear c16
   replace H := Option.bind_eq_some_iff.mp H
   obtain ⟨t399,A170,H⟩ := H
   try dsimp only at H
   have A17 := am_ A170
   clear A170
   replace H := Option.bind_eq_some_iff.mp H
   obtain ⟨t400,A180,H⟩ := H
   try dsimp only at H
   have A18 := am_ A180
   clear A180
   replace H := Option.bind_eq_some_iff.mp H
   obtain ⟨t401,A190,H⟩ := H
   try dsimp only at H
   have A19 := am_ A190
   clear A190
   by_cases c20 : x35_1 < (l1_5.length : Int)
   case neg =>
    rw [if_neg c20] at H
    exact absurd H (by simp)
   rw [if_pos c20] at H
   have c20b0 := decide_eq_true c20
   clear c20
   replace H := Option.bind_eq_some_iff.mp H
   obtain ⟨t403,A210,H⟩ := H
   try dsimp only at H
   have A21 := am_ A210
   clear A210
   have p398 : 0 ≤ (x35_1 : Int) := zo_
   have q398 : x35_1 < (l1_4.length : Int) := zo_
   obtain ⟨ad398,e398,hx398_0⟩ := Kd.at_int HR1_4.out x35_1 p398 q398
   cases e398
   replace hx398_0 := zx_ HB hx398_0
   replace p398 := eq_true p398
   replace q398 := eq_true q398
   try go_wp2
   replace BK394 := am_ (blk_drew BK394.out)
   replace HB := am_ (below_drew1 HB.out)
   have p402 : 0 ≤ (x35_1 : Int) := zo_
   have q402 : x35_1 < (l1_5.length : Int) := zo_
   obtain ⟨ad402,A402_1,c402_1,A402_2,c402_2,A402_3,c402_3,e402,hx402_0,hx402_1,hx402_2,hx402_3,hl402_1,hi402_1,hl402_2,hi402_2,hl402_3,hi402_3⟩ := at_T37 HR1_5.out x35_1 p402 q402
   have hw402_3 := hx402_3
   have hw402_2 := hx402_2
   have hw402_1 := hx402_1
   have hw402_0 := hx402_0
   have hv402_1 := hx402_1
   have hv402_2 := hx402_2
   have hv402_3 := hx402_3
   cases e402
   replace hx402_0 := zx_ HB hx402_0
   replace hx402_1 := zx_ HB hx402_1
   replace hx402_2 := zx_ HB hx402_2
   replace hx402_3 := zx_ HB hx402_3
   have HR402_1 := am_ hi402_1
   have HC402_1 := am_ hl402_1
   clear hi402_1 hl402_1
   have HR402_2 := am_ hi402_2
   have HC402_2 := am_ hl402_2
   clear hi402_2 hl402_2
   have HR402_3 := am_ hi402_3
   have HC402_3 := am_ hl402_3
   clear hi402_3 hl402_3
   replace p402 := eq_true p402
   replace q402 := eq_true q402
   refine start_ (n := 13) (S := fun w' => w'.cell? ⟨gb394,0,none⟩ = some (.string a1_0) ∧ w'.cell? ⟨gb394,1,none⟩ = some (.int .i64 a1_1) ∧ w'.cell? ⟨gb394,2,none⟩ = some (.int .i64 a1_2) ∧ w'.cell? ⟨gb394,3,none⟩ = some (.int .i64 a1_3) ∧ w'.cell? ⟨gb394,4,none⟩ = some (.slice (some ad398) l1_4.length c1_4) ∧ w'.cell? ⟨gb394,5,none⟩ = some (.slice (some ad402) l1_5.length c1_5) ∧ w'.cell? (ad402.add ((x35_1).toNat * 4)) = some (.int .i64 ((rd_T37 l1_5 x35_1).f0)) ∧ w'.cell? ⟨(ad402.add ((x35_1).toNat * 4)).block,(ad402.add ((x35_1).toNat * 4)).off + 1,none⟩ = some (.slice A402_1 ((rd_T37 l1_5 x35_1).f1).length c402_1) ∧ w'.cell? ⟨(ad402.add ((x35_1).toNat * 4)).block,(ad402.add ((x35_1).toNat * 4)).off + 2,none⟩ = some (.slice A402_2 ((rd_T37 l1_5 x35_1).f2).length c402_2) ∧ w'.cell? ⟨(ad402.add ((x35_1).toNat * 4)).block,(ad402.add ((x35_1).toNat * 4)).off + 3,none⟩ = some (.slice A402_3 ((rd_T37 l1_5 x35_1).f3).length c402_3)) (ds := []) #[false,false,false,false,false,false,false,false,false,false,false,false,false] (by kernel_rfl) rfl rfl ⟨(blk_cell BK394.out 0).trans rfl,(blk_cell BK394.out 1).trans rfl,(blk_cell BK394.out 2).trans rfl,(blk_cell BK394.out 3).trans rfl,(blk_cell BK394.out 4).trans rfl,(blk_cell BK394.out 5).trans rfl,(zx_ HB hw402_0),(zx_ HB hw402_1),(zx_ HB hw402_2),(zx_ HB hw402_3)⟩ (fun hHeld => ?_);refine with_tabW Zh.tab10 Zh.bits10 (fun HT_ HW_ => ?_)
   generalize wr.drew = w23 at BK394 HB HR402_1 HR402_2 HR402_3 hx402_0 hx402_1 hx402_2 hx402_3 hHeld ⊢
   refine pu_ 0 40 HT_ ?_
   refine pu_ 3 43 HT_ ?_
   refine pu_ 6 46 HT_ ?_
   refine pu_ 8 48 HT_ ?_
   refine tk_ 4 44 HT_ HW_ hHeld ?_
   refine tk_ 7 47 HT_ HW_ hHeld ?_
   refine pu_ 9 49 HT_ ?_
   refine tk_ 10 50 HT_ HW_ hHeld ?_
   refine zon 1 (N := some 41) HT_ (fun K hK => ?_)
   refine zgo Tryd.func23 #[.int .i64 (rd l1_4 x35_1)] ?_
   with_reducible refine (ZE.calls k1 (rd l1_4 x35_1) t399 _ ?side1 A17.out).mono ?_
   (case side1 => exact HLD.out.on (zl_ HB))
   rintro e w24 ⟨rfl,hb⟩
   refine ⟨_,rfl,?_⟩
   replace BK394 := zb BK394 hb
   replace HB := zs_ HB hb
   try clear hb
   refine hK.out _ _ ⟨(blk_cell BK394.out 0).trans rfl,(blk_cell BK394.out 1).trans rfl,(blk_cell BK394.out 2).trans rfl,(blk_cell BK394.out 3).trans rfl,(blk_cell BK394.out 4).trans rfl,(blk_cell BK394.out 5).trans rfl,(zx_ HB hw402_0),(zx_ HB hw402_1),(zx_ HB hw402_2),(zx_ HB hw402_3)⟩ (fun hHeld => ?_)
   clear hK K
   refine nm_ ?_
   refine zon 2 (N := some 42) HT_ (fun K hK => ?_)
   refine zgo Tryd.func26 #[.string t399] ?_
   with_reducible refine (Zp.calls k1 t399 t400 _ ?side1 A18.out).mono ?_
   (case side1 => exact HLD.out.on (zl_ HB))
   rintro e w25 ⟨rfl,hb⟩
   refine ⟨_,rfl,?_⟩
   replace BK394 := zb BK394 hb
   replace HB := zs_ HB hb
   try clear hb
   refine hK.out _ _ ⟨(blk_cell BK394.out 0).trans rfl,(blk_cell BK394.out 1).trans rfl,(blk_cell BK394.out 2).trans rfl,(blk_cell BK394.out 3).trans rfl,(blk_cell BK394.out 4).trans rfl,(blk_cell BK394.out 5).trans rfl,(zx_ HB hw402_0),(zx_ HB hw402_1),(zx_ HB hw402_2),(zx_ HB hw402_3)⟩ (fun hHeld => ?_)
   clear hK K
   refine nm_ ?_
   refine zon 5 (N := some 45) HT_ (fun K hK => ?_)
   refine zgo Tryd.func24 #[.agg #[.string a1_0,.int .i64 a1_1,.int .i64 a1_2,.int .i64 a1_3]] ?_
   with_reducible refine (ZO.calls a1_0 a1_1 a1_2 a1_3 t401 _ ?side1 A19.out).mono ?_
   (case side1 => exact HTD.out.on (zl_ HB))
   rintro e w26 ⟨rfl,hb⟩
   refine ⟨_,rfl,?_⟩
   replace BK394 := zb BK394 hb
   replace HB := zs_ HB hb
   try clear hb
   refine hK.out _ _ ⟨(blk_cell BK394.out 0).trans rfl,(blk_cell BK394.out 1).trans rfl,(blk_cell BK394.out 2).trans rfl,(blk_cell BK394.out 3).trans rfl,(blk_cell BK394.out 4).trans rfl,(blk_cell BK394.out 5).trans rfl,(zx_ HB hw402_0),(zx_ HB hw402_1),(zx_ HB hw402_2),(zx_ HB hw402_3)⟩ (fun hHeld => ?_)
   clear hK K
   refine nm_ ?_
   refine zon 11 (N := some 51) HT_ (fun K hK => ?_)
   refine zgo Tryd.func25 #[.string t400,.string t401,.agg #[.int .i64 ((rd_T37 l1_5 x35_1).f0),.slice A402_1 ((rd_T37 l1_5 x35_1).f1).length c402_1,.slice A402_2 ((rd_T37 l1_5 x35_1).f2).length c402_2,.slice A402_3 ((rd_T37 l1_5 x35_1).f3).length c402_3]] ?_
   with_reducible refine (Zi.calls k1 t400 t401 ((rd_T37 l1_5 x35_1).f0) _ _ ((rd_T37 l1_5 x35_1).f1) _ _ ((rd_T37 l1_5 x35_1).f2) _ _ ((rd_T37 l1_5 x35_1).f3) t403 _ ?side1 ?side2 ?side3 ?side4 ?side5 ?side6 ?side7 A21.out).mono ?_
   (case side1 => exact zc_ HR402_1 HB)
   (case side2 => exact HC402_1.out)
   (case side3 => exact zc_ HR402_2 HB)
   (case side4 => exact HC402_2.out)
   (case side5 => exact zc_ HR402_3 HB)
   (case side6 => exact HC402_3.out)
   (case side7 => exact HLD.out.on (zl_ HB))
   rintro e w27 ⟨rfl,hb⟩
   refine ⟨_,rfl,?_⟩
   replace BK394 := zb BK394 hb
   replace HB := zs_ HB hb
   try clear hb
   refine hK.out _ _ ⟨(blk_cell BK394.out 0).trans rfl,(blk_cell BK394.out 1).trans rfl,(blk_cell BK394.out 2).trans rfl,(blk_cell BK394.out 3).trans rfl,(blk_cell BK394.out 4).trans rfl,(blk_cell BK394.out 5).trans rfl,(zx_ HB hw402_0),(zx_ HB hw402_1),(zx_ HB hw402_2),(zx_ HB hw402_3)⟩ (fun hHeld => ?_)
   clear hK K
   refine nm_ ?_
   by_cases c22 : t403 = 0
   case neg =>
    rw [if_neg c22] at H
    have c22b0 := beq_eq_false_iff_ne.mpr c22
    have c22b1 := bne_iff_ne.mpr c22
    obtain rfl := Option.some.inj H
    refine pu_ 12 7 HT_ ?_
    refine done_ (done_of HT_.out (by kernel_rfl)) ?_
    try go_wp2
    go_ret
    exact ⟨zt_,zl_ HB⟩
   rw [if_pos c22] at H
   have c22b0 := beq_iff_eq.mpr c22
   have c22b1 := bne_eq_false_iff_eq.mpr c22
   clear c22
   have H' := am_ H
   clear H
   refine pu_ 12 7 HT_ ?_
   refine done_ (done_of HT_.out (by kernel_rfl)) ?_
   try go_wp2
   go_roundg k1
   case measure => have := HK1.out;omega
   case rel => exact ⟨(wrap64 (x35_1 + 1)),(by first | rfl | (simp;done) | (simp [*];done)),H',⟨by have := HK1.out;omega⟩,⟨by (with_reducible repeat (first | apply k1_ | apply k2_ | apply k3_));exact BK394.out⟩,⟨zl_ HB⟩⟩
theorem Yc.calls (A0 : Option Addr) (c0 : Nat) (l0 : List Int) (r : Bool) (w : World) (hr0 : Kd.C (Kd.int .i64) w A0 l0.length l0) (hc0 : l0.length ≤ c0) (h : Yc.f l0 = some r) :
  Calls Tryd.prog 16 #[.slice A0 l0.length c0] w fun e w' => e = .returned (.bool r) ∧ Drawn0 w w' := by
 have HR0 := am_ hr0
 have HC0 := am_ hc0
 clear hr0 hc0
 have H : (some (decide ((l0.length : Int) > 4096))) = some r := h
 clear h
 obtain rfl := Option.some.inj H
 go_enter Tryd.func16,Tryd.ntmps16
 go_wp2
 go_ret
 exact ⟨by first | rfl | (simp;done) | (simp [*];done),by repeat (first | exact Drawn0.refl _ | apply Drawn0.step)⟩
def Zj.T6 : Bool × List (List Nat × List Nat) := (true,[([],[]),([0],[0]),([],[]),([],[]),([],[]),([],[]),([2,3,4,5],[2,3,4,5]),([6],[6]),([1,7,6],[1,7]),([0,1,2,3,4,5,6,7,8],[]),([9,8,8,0,1,2,3,4,5,6,7,8],[8,9])])
def Zj.B6 : List Nat := [0,1,0,0,0,0,60,124,255,511,1023]
theorem Zj.tab6 : rtab .any (opsOf Tryd.f22 6) = Zj.T6 := by kernel_rfl
theorem Zj.bits6 : waitsOk Zj.T6.2 Zj.B6 = true := by kernel_rfl
def Zj.T7 : Bool × List (List Nat × List Nat) := (true,[([],[]),([0],[0]),([],[]),([],[]),([],[]),([],[]),([5],[5]),([2,3,4,6],[2,3,4,6]),([7,7],[7]),([8],[8]),([1,9,8],[1,9]),([0,1,2,3,4,5,6,7,8,9,10],[]),([11,10,10,0,1,2,3,4,5,6,7,8,9,10],[10,11])])
def Zj.B7 : List Nat := [0,1,0,0,0,0,32,124,252,508,1023,2047,4095]
theorem Zj.tab7 : rtab .any (opsOf Tryd.f22 7) = Zj.T7 := by kernel_rfl
theorem Zj.bits7 : waitsOk Zj.T7.2 Zj.B7 = true := by kernel_rfl
def Zj.T12 : Bool × List (List Nat × List Nat) := (true,[([],[]),([0],[0]),([],[]),([],[]),([3],[3]),([2,4],[2,4]),([5],[5]),([6],[6]),([1,7],[1,7]),([0,1,2,3,4,5,6,7,8],[]),([9,8,8,0,1,2,3,4,5,6,7,8],[8,9])])
def Zj.B12 : List Nat := [0,1,0,0,8,28,60,124,255,511,1023]
theorem Zj.tab12 : rtab .any (opsOf Tryd.f22 12) = Zj.T12 := by kernel_rfl
theorem Zj.bits12 : waitsOk Zj.T12.2 Zj.B12 = true := by kernel_rfl
theorem Zj.calls (k : Nat) (a0 : ByteArray) (a1 : Int) (a2 : ByteArray) (r1 : Int) (r2 : List ByteArray) (r3 : List ByteArray) (r4 : List ByteArray) (w : World) (hL : Laid w) (h : Zj.f k a0 a1 a2 = some (r1,r2,r3,r4)) :
  Calls Tryd.prog 22 #[.string a0,.int .i64 a1,.string a2] w fun e w' => ∃ v1_ v2_ v3_ : Value,e = .returned (.agg #[.int .i64 r1,v1_,v2_,v3_]) ∧ Kd.R Kd.string 9 w' w.heap.size (fun k_ => some k_ ≠ (v2_ : Value).ownBlock ∧ some k_ ≠ (v3_ : Value).ownBlock) v1_ r2 ∧ Kd.R Kd.string 9 w' w.heap.size (fun k_ => some k_ ≠ (v1_ : Value).ownBlock ∧ some k_ ≠ (v3_ : Value).ownBlock) v2_ r3 ∧ Kd.R Kd.string 9 w' w.heap.size (fun k_ => some k_ ≠ (v1_ : Value).ownBlock ∧ some k_ ≠ (v2_ : Value).ownBlock) v3_ r4 ∧ Below w.heap.size w w' := by
 have hu37 := Tryd.underlying37
 have HLD := am_ hL
 clear hL
 have HB := am_ (Below.refl w.heap.size w)
 have H : ((ZJ.f k a2).bind fun t300 => (if t300.size ≤ 140737488355328 then ((some (bytesOf t300 : List Int)).bind fun y301 => (Zj.l0 k a0 a1 y301 (y301.length : Int) 0 a1 ([] : List ByteArray) ([] : List ByteArray))) else (none))) = some (r1,r2,r3,r4) := h
 clear h
 replace H := Option.bind_eq_some_iff.mp H
 obtain ⟨t300,A40,H⟩ := H
 try dsimp only at H
 have A4 := am_ A40
 clear A40
 by_cases c5 : t300.size ≤ 140737488355328
 case neg =>
  rw [if_neg c5] at H
  exact absurd H (by simp)
 rw [if_pos c5] at H
 have c5b0 := eq_true c5
 have c5b1 := decide_eq_true c5
 clear c5
 obtain ⟨y301,hy301⟩ : ∃ y_ : List Int,y_ = (bytesOf t300) := ⟨_,rfl⟩
 replace H : (Zj.l0 k a0 a1 y301 (y301.length : Int) 0 a1 ([] : List ByteArray) ([] : List ByteArray)) = some (r1,r2,r3,r4) := by first | (rw [hy301];with_reducible exact H) | (have H2_ := (Option.bind_some _ _).symm.trans H;rw [hy301];with_reducible exact H2_) | (have H2_ := (Option.bind_some _ _).symm.trans H;with_reducible exact H2_) | with_reducible exact H | (rw [hy301];exact H) | exact H
 have Ny301 := am_ hy301
 clear hy301
 have H' := am_ H
 clear H
 go_enter Tryd.func22,Tryd.ntmps22
 go_wp2_with (first | ((with_reducible refine gate_dst (N := 6) rfl ?_);refine zbx (N := 6) (cs := #[.int .i64 0,.slice none 0 0,.slice none 0 0,.slice none 0 0]) (t := 37) ?_;intro gb298 hg w6 hbox hb;have BK298 := am_ (hbox);have GW298 := zw_ HB hg;have GE298 := zw_ HB hg;replace HB := zs_ HB hb;clear hb hbox hg) | ((with_reducible refine gate_dst (N := 7) rfl ?_);refine zbx (N := 7) (cs := #[.int .i64 0,.slice none 0 0,.slice none 0 0,.slice none 0 0]) (t := 37) ?_;intro gb299 hg w7 hbox hb;have BK299 := am_ (hbox);have GW299 := zw_ HB hg;have GE299 := zw_ HB hg;replace HB := zs_ HB hb;have NB298_299 := zl hg BK298;have NB299_298 := zg hg BK298;replace BK298 := zb BK298 hb;clear hb hbox hg;have hnb8 := NB299_298.out;have hnc8 := NB298_299.out;obtain ⟨hcz9_0,hcz9_1,hcz9_2,hcz9_3,hfz9_0,hfz9_1,hfz9_2,hfz9_3⟩ := zc4 BK299) | ((with_reducible refine gate_callee (f := 42) rfl ?_);refine zgl (some 15) Tryd.func42 #[.string a2] ?_;(with_reducible refine (ZJ.calls k a2 t300 _ ?side1 A4.out).mono ?_);(case side1 => exact HLD.out.on (zl_ HB));rintro e w10 ⟨rfl,hb⟩;refine ⟨_,rfl,?_⟩;replace BK298 := am_ (blk_below (g := gb298) (o := .cells #[.int .i64 0,.slice none 0 0,.slice none 0 0,.slice none 0 0] 37 (0,0)) (zq BK298) hb);replace BK299 := am_ (blk_below (g := gb299) (o := .cells #[.int .i64 a1,.slice none 0 0,.slice none 0 0,.slice none 0 0] 37 (0,0)) (zq BK299) hb);replace HB := zs_ HB hb;(try clear hb);(try clear hi)) | ((with_reducible refine gate_dst (N := 16) rfl ?_);refine Kd.V_conv (Kd.int .u8) rfl _ 5 rfl (N := 16) rfl 9 22 _ rfl t300 rfl Tryd.underlying9 Tryd.underlying22 Tryd.underlying5 (ok := fun k_ => w10.heap.size ≤ k_) (okp := fun _ => False) (fun _ hk => hk.elim) (Nat.le_refl _) (by have := o1_ (by first | (with_reducible assumption) | assumption : decide (t300.size ≤ 140737488355328) = true);omega) (Below.refl _ _) (Nat.le_refl _) ?_;intro v302 w11 ho12 hb hg_ hnew_;clear hg_ hnew_;(first | rw [← Ny301.out] at ho12 | (simp only [Int.reduceToNat] at ho12;rw [← Ny301.out] at ho12));have HO303 := am_ (Kd.V_lower (Kd.V_mono (ok' := fun k_ => k_ ≠ gb298 ∧ k_ ≠ gb299) ho12 (fun k_ hk_ => ⟨(Kd.freshB (g := gb298) (o := .cells #[.int .i64 0,.slice none 0 0,.slice none 0 0,.slice none 0 0] 37 (0,0)) (zk BK298) k_ hk_),(Kd.freshB (g := gb299) (o := .cells #[.int .i64 a1,.slice none 0 0,.slice none 0 0,.slice none 0 0] 37 (0,0)) (zk BK299) k_ hk_)⟩)) (below_size (zl_ HB)));replace BK298 := zb BK298 hb;replace BK299 := zb BK299 hb;replace HB := zs_ HB hb;clear hb ho12;obtain ⟨Ao13,co13,eo13⟩ := Kd.V_slice HO303.out;subst eo13))
 go_loopg [18] k (fun kq v18 w' => ∃ (x18_1 : Int) (x300001_1 : List ByteArray) (x300002_1 : List ByteArray) (u300001 : Value) (u300002 : Value),v18 = .int .i64 x18_1 ∧ Aside0 (Zj.l0 kq a0 a1 y301 (y301.length : Int) x18_1 a1 x300001_1 x300002_1 = some (r1,r2,r3,r4)) ∧ Aside0 (kq ≤ k) ∧ Aside0 (Kd.V (Kd.int .u8) 5 w' w.heap.size (fun k_ => some k_ ≠ (u300001 : Value).ownBlock ∧ some k_ ≠ (u300002 : Value).ownBlock ∧ k_ ≠ gb298 ∧ k_ ≠ gb299) (.slice Ao13 y301.length co13) y301) ∧ Aside0 (Kd.R Kd.string 9 w' w.heap.size (fun k_ => some k_ ≠ (u300002 : Value).ownBlock) u300001 x300001_1) ∧ Aside0 (Kd.R Kd.string 9 w' w.heap.size (fun k_ => some k_ ≠ (u300001 : Value).ownBlock) u300002 x300002_1) ∧ Aside0 (w'.heap[gb298]? = some (.cells #[.int .i64 0,(.slice none 0 0),(.slice none 0 0),(.slice none 0 0)] 37 (0,0))) ∧ Aside0 (w'.heap[gb299]? = some (.cells #[.int .i64 a1,u300001,u300002,(.slice none 0 0)] 37 (0,0))) ∧ Aside0 (Below w.heap.size w w'))
 case atStart => exact ⟨(0),(([] : List ByteArray)),(([] : List ByteArray)),(.slice none 0 0),(.slice none 0 0),(by first | rfl | (simp;done) | (simp [*];done)),H',⟨Nat.le_refl _⟩,⟨by (with_reducible repeat (first | apply Kd.V_alloc | apply Kd.V_drewN | apply Kd.V_drew));exact Kd.V_mono HO303.out (fun _ hk => ⟨(by simp [Value.ownBlock]),⟨(by simp [Value.ownBlock]),⟨hk.1,hk.2⟩⟩⟩)⟩,⟨by first | exact Kd.R_nil _ _ _ _ _ | exact Kd.N_nil _ _ _ _ _ | exact Kd.V_nil _ _ _ _ _ | exact Kd.Q_nil _ _ _ _ _ | exact Kd.S_nil _ _ _ _ _⟩,⟨by first | exact Kd.R_nil _ _ _ _ _ | exact Kd.N_nil _ _ _ _ _ | exact Kd.V_nil _ _ _ _ _ | exact Kd.Q_nil _ _ _ _ _ | exact Kd.S_nil _ _ _ _ _⟩,⟨by (with_reducible repeat (first | apply k1_ | apply k2_ | apply k3_));exact BK298.out⟩,⟨by (with_reducible repeat (first | apply k1_ | apply k2_ | apply k3_));exact BK299.out⟩,⟨zl_ HB⟩⟩
 case round =>
  clear H'
  try clear c2
  try clear p2
  try clear c4
  try clear c5
  try clear c5b0
  try clear c5b1
  try clear c8
  try clear hcz9_0
  try clear hcz9_1
  try clear hcz9_2
  try clear hcz9_3
  try clear hfz9_0
  try clear hfz9_1
  try clear hfz9_2
  try clear hfz9_3
  obtain ⟨x18_1,x300001_1,x300002_1,u300001,u300002,rfl,HA,HK1,HO_16,HO_300001,HO_300002,BK298,BK299,HB⟩ := hrel
  cases gk with
  | zero => exact absurd HA.out (by simp [Zj.l0])
  | succ k1 =>
   have H := HA.out
   clear HA
   simp only [Zj.l0] at H
   by_cases c14 : x18_1 < (y301.length : Int)
   case neg =>
    rw [if_neg c14] at H
    have c14b0 := decide_eq_false c14
    clear c14
    replace H := Option.bind_eq_some_iff.mp H
    obtain ⟨t314,A340,H⟩ := H
    try dsimp only at H
    have A34 := am_ A340
    clear A340
    have H' := am_ H
    clear H
    go_wp2_with (first | ((with_reducible refine gate_callee (f := 45) rfl ?_);refine zgl (some 50) Tryd.func45 #[.string a0] ?_;(with_reducible refine (ZF.calls k1 a0 t314 _ ?side1 A34.out).mono ?_);(case side1 => exact HLD.out.on (zl_ HB));rintro e w35 ⟨v315,rfl,ho0,hb⟩;refine ⟨_,rfl,?_⟩;have HO316 := am_ (Kd.R_lower (Kd.R_new' (Kd.R_new' ho0 (Kd.R_lt (zr HO_300001))) (Kd.R_lt (zr HO_300002))) (below_size (zl_ HB)));replace HO_300001 := am_ (Kd.R_elder' (zr HO_300001) (Kd.R_base ho0) hb);replace HO_300002 := am_ (Kd.R_elder' (zr HO_300002) (Kd.R_base ho0) hb);replace BK298 := zb BK298 hb;replace BK299 := zb BK299 hb;replace HB := zs_ HB hb;(try clear hb);(try clear ho0)))
    go_loopg [1,11] k1 (fun kq v1 v11 w' => ∃ (x1_2 : Int) (x11_2 : List ByteArray) (x300003_2 : List ByteArray) (u300003 : Value),v1 = .int .i64 x1_2 ∧ Aside0 (Zj.l1 kq x1_2 x11_2 a1 x300001_1 x300002_1 x300003_2 = some (r1,r2,r3,r4)) ∧ Aside0 (kq ≤ k1) ∧ Aside0 (Kd.R Kd.string 9 w' w.heap.size (fun k_ => some k_ ≠ (u300001 : Value).ownBlock ∧ some k_ ≠ (u300002 : Value).ownBlock ∧ some k_ ≠ (u300003 : Value).ownBlock) v11 x11_2) ∧ Aside0 (Kd.R Kd.string 9 w' w.heap.size (fun k_ => some k_ ≠ (v11 : Value).ownBlock ∧ some k_ ≠ (u300002 : Value).ownBlock ∧ some k_ ≠ (u300003 : Value).ownBlock) u300001 x300001_1) ∧ Aside0 (Kd.R Kd.string 9 w' w.heap.size (fun k_ => some k_ ≠ (v11 : Value).ownBlock ∧ some k_ ≠ (u300001 : Value).ownBlock ∧ some k_ ≠ (u300003 : Value).ownBlock) u300002 x300002_1) ∧ Aside0 (Kd.R Kd.string 9 w' w.heap.size (fun k_ => some k_ ≠ (v11 : Value).ownBlock ∧ some k_ ≠ (u300001 : Value).ownBlock ∧ some k_ ≠ (u300002 : Value).ownBlock) u300003 x300003_2) ∧ Aside0 (w'.heap[gb298]? = some (.cells #[.int .i64 0,(.slice none 0 0),(.slice none 0 0),(.slice none 0 0)] 37 (0,0))) ∧ Aside0 (w'.heap[gb299]? = some (.cells #[.int .i64 a1,u300001,u300002,u300003] 37 (0,0))) ∧ Aside0 (Below w.heap.size w w'))
    case atStart => exact ⟨(a1),(t314),(([] : List ByteArray)),(.slice none 0 0),(by first | rfl | (simp;done) | (simp [*];done)),H',⟨Nat.le_refl _⟩,⟨by (with_reducible repeat (first | apply r1_ | apply r2_ | apply r3_));exact Kd.R_mono HO316.out (fun _ hk => ⟨hk.1.2,⟨hk.2,(by simp [Value.ownBlock])⟩⟩)⟩,⟨by (with_reducible repeat (first | apply r1_ | apply r2_ | apply r3_));exact Kd.R_mono HO_300001.out (fun _ hk => ⟨hk.2,⟨hk.1,(by simp [Value.ownBlock])⟩⟩)⟩,⟨by (with_reducible repeat (first | apply r1_ | apply r2_ | apply r3_));exact Kd.R_mono HO_300002.out (fun _ hk => ⟨hk.2,⟨hk.1,(by simp [Value.ownBlock])⟩⟩)⟩,⟨by first | exact Kd.R_nil _ _ _ _ _ | exact Kd.N_nil _ _ _ _ _ | exact Kd.V_nil _ _ _ _ _ | exact Kd.Q_nil _ _ _ _ _ | exact Kd.S_nil _ _ _ _ _⟩,⟨by (with_reducible repeat (first | apply k1_ | apply k2_ | apply k3_));exact BK298.out⟩,⟨by (with_reducible repeat (first | apply k1_ | apply k2_ | apply k3_));exact BK299.out⟩,⟨zl_ HB⟩⟩
    case round =>
     clear H'
     try clear c1
     try clear c2
     try clear p2
     try clear p3
     try clear q3
     try clear hx3
     try clear c4
     try clear c5
     try clear c5b0
     try clear c5b1
     try clear p6
     try clear c8
     try clear c14
     try clear c14b0
     try clear c15
     try clear c15b0
     try clear c16
     try clear c16b0
     try clear c18
     try clear c21
     try clear c22
     try clear p30
     try clear q30
     try clear hx30
     try clear hcz9_0
     try clear hcz9_1
     try clear hcz9_2
     try clear hcz9_3
     try clear hfz9_0
     try clear hfz9_1
     try clear hfz9_2
     try clear hfz9_3
     try clear hx304_0
     try clear p2
     try clear p304
     try clear q304
     obtain ⟨x1_2,x11_2,x300003_2,u300003,rfl,HA,HK2,HO_11,HO_300001,HO_300002,HO_300003,BK298,BK299,HB⟩ := hrel
     cases gk with
     | zero => exact absurd HA.out (by simp [Zj.l1])
     | succ k2 =>
      have H := HA.out
      clear HA
      simp only [Zj.l1] at H
      by_cases c36 : (x11_2.length : Int) > 1
      case neg =>
       rw [if_neg c36] at H
       have c36b0 : decide (1 < (x11_2.length : Int)) = false := decide_eq_false c36
       have c36b1 : decide (1 < x11_2.length) = false := decide_eq_false (by omega)
       clear c36
       simp only [Option.some.injEq,Prod.mk.injEq] at H
       obtain ⟨rfl,rfl,rfl,rfl⟩ := H
       obtain ⟨Ao47,co47,eo47⟩ := Kd.R_slice HO_11.out
       subst eo47
       have hnb48 := NB299_298.out
       have hnc48 := NB298_299.out
       obtain ⟨hcz49_0,hcz49_1,hcz49_2,hcz49_3,hfz49_0,hfz49_1,hfz49_2,hfz49_3⟩ := zc4 BK299
       obtain ⟨hcz50_0,hcz50_1,hcz50_2,hcz50_3,hfz50_0,hfz50_1,hfz50_2,hfz50_3⟩ := zc4 BK298
       obtain ⟨Ao51,co51,eo51⟩ := Kd.R_slice HO_300001.out
       subst eo51
       obtain ⟨Ao52,co52,eo52⟩ := Kd.R_slice HO_300002.out
       subst eo52
       obtain ⟨Ao53,co53,eo53⟩ := Kd.R_slice HO_300003.out
       subst eo53
       go_wp2
       refine bodyPost_ret (results_cell_row rfl _ _ gb298 37 #[.int .i64 a1,.slice Ao51 x300001_1.length co51,.slice Ao52 x300002_1.length co52,.slice Ao53 x300003_2.length co53] (0,0) _ rfl (zq BK298) Tryd.underlying37 rfl (by kernel_rfl)) rfl ?_
       exact ⟨_,_,_,zt_,by (with_reducible repeat (first | apply r1_ | apply r2_ | apply r3_));exact Kd.R_mono (zrf (Kd.R_types HO_300001.out BK298.out (by decide))) (fun _ hk => ⟨hk.1.2.1,hk.1.2.2⟩),by (with_reducible repeat (first | apply r1_ | apply r2_ | apply r3_));exact Kd.R_mono (zrf (Kd.R_types HO_300002.out BK298.out (by decide))) (fun _ hk => ⟨hk.1.2.1,hk.1.2.2⟩),by (with_reducible repeat (first | apply r1_ | apply r2_ | apply r3_));exact Kd.R_mono (zrf (Kd.R_types HO_300003.out BK298.out (by decide))) (fun _ hk => ⟨hk.1.2.1,hk.1.2.2⟩),zl_ HB⟩
      rw [if_pos c36] at H
      have c36b0 : decide (1 < (x11_2.length : Int)) = true := decide_eq_true c36
      have c36b1 : decide (1 < x11_2.length) = true := decide_eq_true (by omega)
      clear c36
      by_cases c37 : 0 ≤ (Go.bits .xor .i64 x1_2 1)
      case neg =>
       rw [if_neg c37] at H
       exact absurd H (by simp)
      rw [if_pos c37] at H
      have c37b0 := decide_eq_true c37
      clear c37
      by_cases c38 : (Go.bits .xor .i64 x1_2 1) < (x11_2.length : Int)
      case neg =>
       rw [if_neg c38] at H
       exact absurd H (by simp)
      rw [if_pos c38] at H
      have c38b0 := decide_eq_true c38
      clear c38
      by_cases c39 : x300003_2.length < 8796093022208
      case neg =>
       rw [if_neg c39] at H
       exact absurd H (by simp)
      rw [if_pos c39] at H
      have LMc39 := am_ c39
      clear c39
      obtain ⟨y318,hy318⟩ : ∃ y_ : List ByteArray,y_ = (x300003_2 ++ [rdOf ByteArray.empty x11_2 (Go.bits .xor .i64 x1_2 1)]) := ⟨_,rfl⟩
      replace H : ((Zy.f k2 x11_2).bind fun t321 => (Zj.l1 k2 (wrap64 (Int.tdiv x1_2 2)) t321 a1 x300001_1 x300002_1 y318)) = some (r1,r2,r3,r4) := by first | (rw [hy318];with_reducible exact H) | (have H2_ := (Option.bind_some _ _).symm.trans H;rw [hy318];with_reducible exact H2_) | (have H2_ := (Option.bind_some _ _).symm.trans H;with_reducible exact H2_) | with_reducible exact H | (rw [hy318];exact H) | exact H
      have Ny318 := am_ hy318
      clear hy318
      replace H := Option.bind_eq_some_iff.mp H
      obtain ⟨t321,A400,H⟩ := H
      try dsimp only at H
      have A40 := am_ A400
      clear A400
      have H' := am_ H
      clear H
      obtain ⟨Ao41,co41,eo41⟩ := Kd.R_slice HO_11.out
      subst eo41
      try go_wp2
      replace HO_11 := am_ (Kd.R_drew HO_11.out)
      replace HO_300001 := am_ (Kd.R_drew HO_300001.out)
      replace HO_300002 := am_ (Kd.R_drew HO_300002.out)
      replace HO_300003 := am_ (Kd.R_drew HO_300003.out)
      replace BK298 := am_ (blk_drew BK298.out)
      replace BK299 := am_ (blk_drew BK299.out)
      replace HB := am_ (below_drew1 HB.out)
      have p317 : 0 ≤ ((Go.bits .xor .i64 x1_2 1) : Int) := zo_
      have q317 : (Go.bits .xor .i64 x1_2 1) < (x11_2.length : Int) := zo_
      obtain ⟨ad317,e317,hx317_0⟩ := Kd.at_string (Kd.R_reads' HO_11.out).2.2 (Go.bits .xor .i64 x1_2 1) p317 q317
      cases e317
      replace p317 := eq_true p317
      replace q317 := eq_true q317
      refine start_ (n := 11) (S := fun w' => w'.cell? ⟨gb299,0,none⟩ = some (.int .i64 a1) ∧ w'.cell? ⟨gb299,1,none⟩ = some (u300001) ∧ w'.cell? ⟨gb299,2,none⟩ = some (u300002) ∧ w'.cell? ⟨gb299,3,none⟩ = some (u300003) ∧ w'.cell? (ad317.add ((Go.bits .xor .i64 x1_2 1)).toNat) = some (.string (rdOf ByteArray.empty x11_2 (Go.bits .xor .i64 x1_2 1)))) (ds := [8,10]) #[false,false,false,false,false,false,false,false,false,false,false] (by kernel_rfl) rfl rfl ⟨(blk_cell BK299.out 0).trans rfl,(blk_cell BK299.out 1).trans rfl,(blk_cell BK299.out 2).trans rfl,(blk_cell BK299.out 3).trans rfl,hx317_0⟩ (fun hHeld => ?_);refine with_tabW Zj.tab12 Zj.bits12 (fun HT_ HW_ => ?_)
      generalize wr.drew = w42 at HO_11 HO_300001 HO_300002 HO_300003 BK298 BK299 HB hx317_0 hHeld ⊢
      refine pu_ 0 56 HT_ ?_
      refine pu_ 2 58 HT_ ?_
      refine pu_ 3 59 HT_ ?_
      refine pu_ 4 60 HT_ ?_
      refine pu_ 5 61 HT_ ?_
      refine tk_ 1 57 HT_ HW_ hHeld ?_
      refine tk_ 6 62 HT_ HW_ hHeld ?_
      refine zon 7 (N := some 63) HT_ (fun K hK => ?_)
      refine value_ (w1 := ?_) (v := ?_) (by rfl) rfl ?_ ?_
      rotate_left 2
      ·go_simp
       constructor
       ·rfl
       ·rfl
      refine hK.out _ _ ⟨(blk_cell (blk_alloc BK299.out _) 0).trans rfl,(blk_cell (blk_alloc BK299.out _) 1).trans rfl,(blk_cell (blk_alloc BK299.out _) 2).trans rfl,(blk_cell (blk_alloc BK299.out _) 3).trans rfl,(World.cell?_alloc_lt _ _ _ (World.block_lt_of_cell? _ _ (hHeld.2.2.2.2))).trans (hHeld.2.2.2.2)⟩ (fun hHeld => ?_)
      clear hK K
      refine nm_ ?_
      refine last_ (i := 8) (N := some 64) #[true,true,true,true,true,true,true,true,true,false,false] rfl rfl (one_of HT_.out (by kernel_rfl)) (by decide) (fun K hK => ?_)
      refine Kd.R_append_step Kd.string (w0 := w) w.heap.size (by rfl) (.tmp 57) (.tmp 63) 35 9 (.string ⟨#[]⟩) 16 rfl Tryd.underlying35 info9 rfl (by decide) (by omega) u300003 x300003_2 (rdOf ByteArray.empty x11_2 (Go.bits .xor .i64 x1_2 1)) [.string (rdOf ByteArray.empty x11_2 (Go.bits .xor .i64 x1_2 1))] (fun k_ => some k_ ≠ (.slice (some ad317) x11_2.length co41 : Value).ownBlock ∧ some k_ ≠ (u300001 : Value).ownBlock ∧ some k_ ≠ (u300002 : Value).ownBlock) (fun _ => False) rfl rfl ?aP (fun _ hk => hk.elim) ?aF ?aO ?aB ?aS ?aL ?_
      (case aP => exact rfl)
      (case aB => exact (zl_ HB))
      (case aF => exact (fun k_ hk => ⟨Kd.fresh' (Kd.R_lt (zr HO_11)) k_ hk,Kd.fresh' (Kd.R_lt (zr HO_300001)) k_ hk,Kd.fresh' (Kd.R_lt (zr HO_300002)) k_ hk⟩))
      (case aO => exact (zr HO_300003))
      (case aS => exact (below_size (zl_ HB)))
      (case aL => have := LMc39.out;omega)
      intro v319 w43 ho hb hg hat
      rw [← Ny318.out] at ho
      replace HO_11 := am_ (Kd.R_after (ok := (fun k_ => some k_ ≠ (u300001 : Value).ownBlock ∧ some k_ ≠ (u300002 : Value).ownBlock)) (by (with_reducible repeat (first | apply r1_ | apply r2_ | apply r3_));exact Kd.R_mono HO_11.out (fun _ hk => ⟨⟨hk.1,hk.2.1⟩,hk.2.2⟩)) hg hat)
      replace HO_300001 := am_ (Kd.R_after (ok := (fun k_ => some k_ ≠ (.slice (some ad317) x11_2.length co41 : Value).ownBlock ∧ some k_ ≠ (u300002 : Value).ownBlock)) (by (with_reducible repeat (first | apply r1_ | apply r2_ | apply r3_));exact Kd.R_mono HO_300001.out (fun _ hk => ⟨⟨hk.1,hk.2.1⟩,hk.2.2⟩)) hg hat)
      replace HO_300002 := am_ (Kd.R_after (ok := (fun k_ => some k_ ≠ (.slice (some ad317) x11_2.length co41 : Value).ownBlock ∧ some k_ ≠ (u300001 : Value).ownBlock)) (by (with_reducible repeat (first | apply r1_ | apply r2_ | apply r3_));exact Kd.R_mono HO_300002.out (fun _ hk => ⟨⟨hk.1,hk.2.1⟩,hk.2.2⟩)) hg hat)
      replace BK298 := am_ (blk_grown (g := gb298) (o := .cells #[.int .i64 0,.slice none 0 0,.slice none 0 0,.slice none 0 0] 37 (0,0)) (zk BK298) hg (Kd.R_ne HO_300003.out BK298.out (by decide)))
      replace BK299 := am_ (blk_grown (g := gb299) (o := .cells #[.int .i64 a1,u300001,u300002,u300003] 37 (0,0)) (zk BK299) hg (Kd.R_ne HO_300003.out BK299.out (by decide)))
      replace HB := am_ (hb)
      have HO320 := am_ (ho)
      clear HO_300003
      clear ho hb hg hat
      obtain ⟨Ao44,co44,eo44⟩ := Kd.R_slice HO320.out
      (first | subst eo44 | (injection eo44 with f1_ f2_ f3_;have f4_ := f1_.symm;have f5_ := f3_.symm;clear f1_ f2_ f3_;subst f4_;subst f5_))
      refine hK.out _ _ ?_
      clear hK K
      refine nm_ ?_
      refine pu_ 9 65 HT_ ?_
      refine last_ (i := 10) (N := none) #[true,true,true,true,true,true,true,true,true,true,true] rfl rfl (one_of HT_.out (by kernel_rfl)) (by decide) (fun K hK => ?_)
      have hs45 : w43.cell? ⟨gb299,3,none⟩ = some (u300003) := (blk_cell BK299.out 3).trans rfl
      have hfs45 := blk_frozen BK299.out 3
      have hns45_0 := NB298_299.out
      have hms45_0 := NB299_298.out
      refine skip_ (w1 := ?_) (by rfl) rfl ?_ ?_
      rotate_left
      ·go_simp
       rfl
      refine hK.out _ _ ?_
      clear hK K
      refine done_ (done_of HT_.out (by kernel_rfl)) ?_
      try go_wp2_with (first | ((with_reducible refine gate_callee (f := 46) rfl ?_);refine zgl (some 55) Tryd.func46 #[.slice (some ad317) x11_2.length co41] ?_;(with_reducible refine (Zy.calls k2 _ _ x11_2 t321 _ ?side1 ?side2 ?side3 A40.out).mono ?_);(case side1 => refine (Kd.R_reads' (e := 9) (base := w.heap.size) (ok := fun k_ => ((some k_ ≠ (u300001 : Value).ownBlock ∧ some k_ ≠ (u300002 : Value).ownBlock) ∧ some k_ ≠ (.slice Ao44 y318.length co44 : Value).ownBlock)) (n := x11_2.length) (c := co41) ?_).2.2;exact (by (with_reducible repeat (first | apply r1_ | apply r2_ | apply r3_));exact (Kd.R_mono (zrf (Kd.R_types HO_11.out BK299.out (by decide))) (fun _ h_ => h_.1))));(case side2 => exact (Kd.R_reads' HO_11.out).2.1);(case side3 => exact HLD.out.on (zl_ HB));rintro e w46 ⟨v322,rfl,ho0,hb⟩;refine ⟨_,rfl,?_⟩;have HO323 := am_ (Kd.R_lower (Kd.R_new' (Kd.R_new' (Kd.R_new' (Kd.R_new' ho0 (Kd.R_lt (by (with_reducible repeat (first | apply r1_ | apply r2_ | apply r3_));exact (Kd.R_mono (zrf (Kd.R_types HO_11.out BK299.out (by decide))) (fun _ h_ => h_.1))))) (Kd.R_lt (by (with_reducible repeat (first | apply r1_ | apply r2_ | apply r3_));exact (Kd.R_mono (zrf (Kd.R_types HO_300001.out BK299.out (by decide))) (fun _ h_ => h_.1))))) (Kd.R_lt (by (with_reducible repeat (first | apply r1_ | apply r2_ | apply r3_));exact (Kd.R_mono (zrf (Kd.R_types HO_300002.out BK299.out (by decide))) (fun _ h_ => h_.1))))) (Kd.R_lt (by (with_reducible repeat (first | apply r1_ | apply r2_ | apply r3_));exact (Kd.R_mono (zrf (Kd.R_types HO320.out BK299.out (by decide))) (fun _ h_ => h_.1))))) (below_size (zl_ HB)));replace HO_300001 := am_ (Kd.R_elder' (by (with_reducible repeat (first | apply r1_ | apply r2_ | apply r3_));exact (Kd.R_mono (zrf (Kd.R_types HO_300001.out BK299.out (by decide))) (fun _ h_ => h_.1))) (Kd.R_base ho0) hb);replace HO_300002 := am_ (Kd.R_elder' (by (with_reducible repeat (first | apply r1_ | apply r2_ | apply r3_));exact (Kd.R_mono (zrf (Kd.R_types HO_300002.out BK299.out (by decide))) (fun _ h_ => h_.1))) (Kd.R_base ho0) hb);replace HO320 := am_ (Kd.R_elder' (by (with_reducible repeat (first | apply r1_ | apply r2_ | apply r3_));exact (Kd.R_mono (zrf (Kd.R_types HO320.out BK299.out (by decide))) (fun _ h_ => h_.1))) (Kd.R_base ho0) hb);replace BK298 := am_ (blk_below (g := gb298) (o := .cells #[.int .i64 0,.slice none 0 0,.slice none 0 0,.slice none 0 0] 37 (0,0)) (zq BK298) hb);replace BK299 := am_ (blk_below (g := gb299) (o := .cells #[.int .i64 a1,u300001,u300002,.slice Ao44 y318.length co44] 37 (0,0)) (zq BK299) hb);replace HB := zs_ HB hb;(try clear hb);(try clear ho0)))
      go_roundg k2
      case measure => have := HK1.out;have := HK2.out;omega
      case rel => exact ⟨(wrap64 (Int.tdiv x1_2 2)),(t321),(y318),(.slice Ao44 y318.length co44),(by first | rfl | (simp;done) | (simp [*];done)),H',⟨by have := HK1.out;have := HK2.out;omega⟩,⟨by (with_reducible repeat (first | apply r1_ | apply r2_ | apply r3_));exact Kd.R_mono HO323.out (fun _ hk => ⟨hk.1.1.2,⟨hk.1.2,hk.2⟩⟩)⟩,⟨by (with_reducible repeat (first | apply r1_ | apply r2_ | apply r3_));exact Kd.R_mono HO_300001.out (fun _ hk => ⟨hk.2,⟨hk.1.1.2,hk.1.2⟩⟩)⟩,⟨by (with_reducible repeat (first | apply r1_ | apply r2_ | apply r3_));exact Kd.R_mono HO_300002.out (fun _ hk => ⟨hk.2,⟨hk.1.1.2,hk.1.2⟩⟩)⟩,⟨by (with_reducible repeat (first | apply r1_ | apply r2_ | apply r3_));exact Kd.R_mono HO320.out (fun _ hk => ⟨hk.2,⟨hk.1.2.1,hk.1.2.2⟩⟩)⟩,⟨by (with_reducible repeat (first | apply k1_ | apply k2_ | apply k3_));exact BK298.out⟩,⟨by (with_reducible repeat (first | apply k1_ | apply k2_ | apply k3_));exact BK299.out⟩,⟨zl_ HB⟩⟩
   rw [if_pos c14] at H
   have c14b0 := decide_eq_true c14
   clear c14
   by_cases c15 : 0 ≤ x18_1
   case neg =>
    rw [if_neg c15] at H
    exact absurd H (by simp)
   rw [if_pos c15] at H
   have c15b0 := decide_eq_true c15
   clear c15
   by_cases c16 : x18_1 < (y301.length : Int)
   case neg =>
    rw [if_neg c16] at H
    exact absurd H (by simp)
   rw [if_pos c16] at H
   have c16b0 := decide_eq_true c16
   clear c16
   replace H := Option.bind_eq_some_iff.mp H
   obtain ⟨t305,A170,H⟩ := H
   try dsimp only at H
   have A17 := am_ A170
   clear A170
   by_cases c18 : x300001_1.length < 8796093022208
   case neg =>
    rw [if_neg c18] at H
    exact absurd H (by simp)
   rw [if_pos c18] at H
   have LMc18 := am_ c18
   clear c18
   obtain ⟨y306,hy306⟩ : ∃ y_ : List ByteArray,y_ = (x300001_1 ++ [t305]) := ⟨_,rfl⟩
   replace H : ((ZP.f k1 a0 a1 x18_1 (1 - (((rd y301 x18_1) - 48) % 256))).bind fun t309 => ((ZD.f k1 t309).bind fun t310 => (if x300002_1.length < 8796093022208 then (Zj.l0 k1 a0 a1 y301 (y301.length : Int) (wrap64 (x18_1 + 1)) a1 y306 (x300002_1 ++ [t310])) else (none)))) = some (r1,r2,r3,r4) := by first | (rw [hy306];with_reducible exact H) | (have H2_ := (Option.bind_some _ _).symm.trans H;rw [hy306];with_reducible exact H2_) | (have H2_ := (Option.bind_some _ _).symm.trans H;with_reducible exact H2_) | with_reducible exact H | (rw [hy306];exact H) | exact H
   have Ny306 := am_ hy306
   clear hy306
   replace H := Option.bind_eq_some_iff.mp H
   obtain ⟨t309,A190,H⟩ := H
   try dsimp only at H
   have A19 := am_ A190
   clear A190
   replace H := Option.bind_eq_some_iff.mp H
   obtain ⟨t310,A200,H⟩ := H
   try dsimp only at H
   have A20 := am_ A200
   clear A200
   by_cases c21 : x300002_1.length < 8796093022208
   case neg =>
    rw [if_neg c21] at H
    exact absurd H (by simp)
   rw [if_pos c21] at H
   have LMc21 := am_ c21
   clear c21
   obtain ⟨y311,hy311⟩ : ∃ y_ : List ByteArray,y_ = (x300002_1 ++ [t310]) := ⟨_,rfl⟩
   replace H : (Zj.l0 k1 a0 a1 y301 (y301.length : Int) (wrap64 (x18_1 + 1)) a1 y306 y311) = some (r1,r2,r3,r4) := by first | (rw [hy311];with_reducible exact H) | (have H2_ := (Option.bind_some _ _).symm.trans H;rw [hy311];with_reducible exact H2_) | (have H2_ := (Option.bind_some _ _).symm.trans H;with_reducible exact H2_) | with_reducible exact H | (rw [hy311];exact H) | exact H
   have Ny311 := am_ hy311
   clear hy311
   have H' := am_ H
   clear H
   have p304 : 0 ≤ (x18_1 : Int) := zo_
   have q304 : x18_1 < (y301.length : Int) := zo_
   obtain ⟨ad304,e304,hx304_0⟩ := Kd.at_int (Kd.V_reads' HO_16.out).2.2 x18_1 p304 q304
   cases e304
   replace p304 := eq_true p304
   replace q304 := eq_true q304
   try go_wp2
   replace HO_16 := am_ (Kd.V_drew HO_16.out)
   replace HO_300001 := am_ (Kd.R_drew HO_300001.out)
   replace HO_300002 := am_ (Kd.R_drew HO_300002.out)
   replace BK298 := am_ (blk_drew BK298.out)
   replace BK299 := am_ (blk_drew BK299.out)
   replace HB := am_ (below_drew1 HB.out)
   refine start_ (n := 11) (S := fun w' => w'.cell? ⟨gb299,0,none⟩ = some (.int .i64 a1) ∧ w'.cell? ⟨gb299,1,none⟩ = some (u300001) ∧ w'.cell? ⟨gb299,2,none⟩ = some (u300002) ∧ w'.cell? ⟨gb299,3,none⟩ = some (.slice none 0 0)) (ds := [10]) #[false,false,false,false,false,false,false,false,false,false,false] (by kernel_rfl) rfl rfl ⟨(blk_cell BK299.out 0).trans rfl,(blk_cell BK299.out 1).trans rfl,(blk_cell BK299.out 2).trans rfl,(blk_cell BK299.out 3).trans rfl⟩ (fun hHeld => ?_);refine with_tabW Zj.tab6 Zj.bits6 (fun HT_ HW_ => ?_)
   generalize wr.drew = w22 at HO_16 HO_300001 HO_300002 BK298 BK299 HB hHeld ⊢
   refine pu_ 0 26 HT_ ?_
   refine pu_ 2 28 HT_ ?_
   refine pu_ 3 29 HT_ ?_
   refine pu_ 4 30 HT_ ?_
   refine pu_ 5 31 HT_ ?_
   refine tk_ 1 27 HT_ HW_ hHeld ?_
   refine zon 6 (N := some 32) HT_ (fun K hK => ?_)
   refine zgo Tryd.func43 #[.string a0,.int .i64 a1,.int .i64 x18_1,.int .i64 (((rd y301 x18_1) - 48) % 256)] ?_
   with_reducible refine (ZP.calls k1 a0 a1 x18_1 (((rd y301 x18_1) - 48) % 256) t305 _ ?side1 A17.out).mono ?_
   (case side1 => exact HLD.out.on (zl_ HB))
   rintro e w23 ⟨rfl,hb⟩
   refine ⟨_,rfl,?_⟩
   replace HO_16 := am_ (Kd.V_below (by (with_reducible repeat (first | apply Kd.V_alloc | apply Kd.V_drewN | apply Kd.V_drew));exact HO_16.out) hb)
   replace HO_300001 := zrb HO_300001 hb
   replace HO_300002 := zrb HO_300002 hb
   replace BK298 := zb BK298 hb
   replace BK299 := zb BK299 hb
   replace HB := zs_ HB hb
   try clear hb
   refine hK.out _ _ ⟨(blk_cell BK299.out 0).trans rfl,(blk_cell BK299.out 1).trans rfl,(blk_cell BK299.out 2).trans rfl,(blk_cell BK299.out 3).trans rfl⟩ (fun hHeld => ?_)
   clear hK K
   refine nm_ ?_
   refine zon 7 (N := some 33) HT_ (fun K hK => ?_)
   refine value_ (w1 := ?_) (v := ?_) (by rfl) rfl ?_ ?_
   rotate_left 2
   ·go_simp
    constructor
    ·rfl
    ·rfl
   refine hK.out _ _ ⟨(blk_cell (blk_alloc BK299.out _) 0).trans rfl,(blk_cell (blk_alloc BK299.out _) 1).trans rfl,(blk_cell (blk_alloc BK299.out _) 2).trans rfl,(blk_cell (blk_alloc BK299.out _) 3).trans rfl⟩ (fun hHeld => ?_)
   clear hK K
   refine nm_ ?_
   refine zon 8 (N := some 34) HT_ (fun K hK => ?_)
   refine Kd.R_append_step Kd.string (w0 := w) w.heap.size (by rfl) (.tmp 27) (.tmp 33) 35 9 (.string ⟨#[]⟩) 16 rfl Tryd.underlying35 info9 rfl (by decide) (by omega) u300001 x300001_1 t305 [.string t305] (fun k_ => some k_ ≠ (u300002 : Value).ownBlock) (fun _ => False) rfl rfl ?aP (fun _ hk => hk.elim) ?aF ?aO ?aB ?aS ?aL ?_
   (case aP => exact rfl)
   (case aB => exact (zl_ HB))
   (case aF => exact (fun k_ hk => Kd.fresh' (Kd.R_lt (zr HO_300002)) k_ hk))
   (case aO => exact (zr HO_300001))
   (case aS => exact (below_size (zl_ HB)))
   (case aL => have := LMc18.out;omega)
   intro v307 w24 ho hb hg hat
   rw [← Ny306.out] at ho
   replace HO_16 := am_ (Kd.V_afterv (ok := (fun k_ => some k_ ≠ (u300002 : Value).ownBlock ∧ k_ ≠ gb298 ∧ k_ ≠ gb299)) (by (with_reducible repeat (first | apply Kd.V_alloc | apply Kd.V_drewN | apply Kd.V_drew));exact Kd.V_mono HO_16.out (fun _ hk => ⟨⟨hk.2.1,⟨hk.2.2.1,hk.2.2.2⟩⟩,hk.1⟩)) hg hat)
   replace HO_300002 := am_ (Kd.R_after (ok := (fun _ => True)) (by (with_reducible repeat (first | apply r1_ | apply r2_ | apply r3_));exact Kd.R_mono HO_300002.out (fun _ hk => ⟨trivial,hk⟩)) hg hat)
   replace BK298 := am_ (blk_grown (g := gb298) (o := .cells #[.int .i64 0,.slice none 0 0,.slice none 0 0,.slice none 0 0] 37 (0,0)) (zk BK298) hg (Kd.R_ne HO_300001.out BK298.out (by decide)))
   replace BK299 := am_ (blk_grown (g := gb299) (o := .cells #[.int .i64 a1,u300001,u300002,.slice none 0 0] 37 (0,0)) (zk BK299) hg (Kd.R_ne HO_300001.out BK299.out (by decide)))
   replace HB := am_ (hb)
   have HO308 := am_ (ho)
   clear HO_300001
   clear ho hb hg hat
   obtain ⟨Ao25,co25,eo25⟩ := Kd.R_slice HO308.out
   (first | subst eo25 | (injection eo25 with f1_ f2_ f3_;have f4_ := f1_.symm;have f5_ := f3_.symm;clear f1_ f2_ f3_;subst f4_;subst f5_))
   refine hK.out _ _ ⟨(blk_cell BK299.out 0).trans rfl,(blk_cell BK299.out 1).trans rfl,(blk_cell BK299.out 2).trans rfl,(blk_cell BK299.out 3).trans rfl⟩ (fun hHeld => ?_)
   clear hK K
   refine nm_ ?_
   refine pu_ 9 35 HT_ ?_
   refine last_ (i := 10) (N := none) #[true,true,true,true,true,true,true,true,true,true,true] rfl rfl (one_of HT_.out (by kernel_rfl)) (by decide) (fun K hK => ?_)
   have hs26 : w24.cell? ⟨gb299,1,none⟩ = some (u300001) := (blk_cell BK299.out 1).trans rfl
   have hfs26 := blk_frozen BK299.out 1
   have hns26_0 := NB298_299.out
   have hms26_0 := NB299_298.out
   refine skip_ (w1 := ?_) (by rfl) rfl ?_ ?_
   rotate_left
   ·go_simp
    rfl
   refine hK.out _ _ ?_
   clear hK K
   refine done_ (done_of HT_.out (by kernel_rfl)) ?_
   try go_wp2
   have n0_ : Aside0 (Kd.V (Kd.int .u8) 5 (w24.setCell ⟨gb299,1,none⟩ (.slice Ao25 y306.length co25)) w.heap.size (fun k_ => some k_ ≠ (u300002 : Value).ownBlock ∧ some k_ ≠ (.slice Ao25 y306.length co25 : Value).ownBlock ∧ k_ ≠ gb298 ∧ k_ ≠ gb299) (.slice (some ad304) y301.length co13) y301) := ⟨by (with_reducible repeat (first | apply Kd.V_alloc | apply Kd.V_drewN | apply Kd.V_drew));exact Kd.V_mono (Kd.V_far (p := ⟨gb299,1,none⟩) (Kd.V_mono HO_16.out (fun k_ hk => (⟨hk,hk.1.2.2⟩ : _ ∧ k_ ≠ gb299))) (fun _ hk => hk.2) (.slice Ao25 y306.length co25)) (fun _ hk => ⟨hk.1.1.1,⟨hk.1.2,⟨hk.1.1.2.1,hk.1.1.2.2⟩⟩⟩)⟩
   have n1_ : Aside0 (Kd.R Kd.string 9 (w24.setCell ⟨gb299,1,none⟩ (.slice Ao25 y306.length co25)) w.heap.size (fun k_ => some k_ ≠ (.slice Ao25 y306.length co25 : Value).ownBlock) u300002 x300002_1) := ⟨by (with_reducible repeat (first | apply r1_ | apply r2_ | apply r3_));exact Kd.R_mono (zrf (Kd.R_types HO_300002.out BK299.out (by decide))) (fun _ hk => hk.1.2)⟩
   have n2_ : Aside0 (Kd.R Kd.string 9 (w24.setCell ⟨gb299,1,none⟩ (.slice Ao25 y306.length co25)) w.heap.size (fun k_ => some k_ ≠ (u300002 : Value).ownBlock) (.slice Ao25 y306.length co25) y306) := ⟨by (with_reducible repeat (first | apply r1_ | apply r2_ | apply r3_));exact Kd.R_mono (zrf (Kd.R_types HO308.out BK299.out (by decide))) (fun _ hk => hk.1)⟩
   have n3_ : Aside0 ((w24.setCell ⟨gb299,1,none⟩ (.slice Ao25 y306.length co25)).heap[gb298]? = some (.cells #[.int .i64 0,.slice none 0 0,.slice none 0 0,.slice none 0 0] 37 (0,0))) := ⟨zq BK298⟩
   have n4_ : Aside0 ((w24.setCell ⟨gb299,1,none⟩ (.slice Ao25 y306.length co25)).heap[gb299]? = some (.cells #[.int .i64 a1,.slice Ao25 y306.length co25,u300002,.slice none 0 0] 37 (0,0))) := ⟨zq BK299⟩
   have n5_ : Aside0 (Below w.heap.size w (w24.setCell ⟨gb299,1,none⟩ (.slice Ao25 y306.length co25))) := ⟨zl_ HB⟩
   (try clear HO_16)
   (try clear HO_300002)
   (try clear HO308)
   (try clear BK298)
   (try clear BK299)
   (try clear HB)
   generalize (w24.setCell ⟨gb299,1,none⟩ (.slice Ao25 y306.length co25)) = w27 at n0_ n1_ n2_ n3_ n4_ n5_ ⊢
   have HO_16 := n0_
   have HO_300002 := n1_
   have HO308 := n2_
   have BK298 := n3_
   have BK299 := n4_
   have HB := n5_
   clear n0_ n1_ n2_ n3_ n4_ n5_
   replace HO_16 := am_ (Kd.V_drew HO_16.out)
   replace HO_300002 := am_ (Kd.R_drew HO_300002.out)
   replace HO308 := am_ (Kd.R_drew HO308.out)
   replace BK298 := am_ (blk_drew BK298.out)
   replace BK299 := am_ (blk_drew BK299.out)
   replace HB := am_ (below_drew1 HB.out)
   refine start_ (n := 13) (S := fun w' => w'.cell? ⟨gb299,0,none⟩ = some (.int .i64 a1) ∧ w'.cell? ⟨gb299,1,none⟩ = some (.slice Ao25 y306.length co25) ∧ w'.cell? ⟨gb299,2,none⟩ = some (u300002) ∧ w'.cell? ⟨gb299,3,none⟩ = some (.slice none 0 0)) (ds := [12]) #[false,false,false,false,false,false,false,false,false,false,false,false,false] (by kernel_rfl) rfl rfl ⟨(blk_cell BK299.out 0).trans rfl,(blk_cell BK299.out 1).trans rfl,(blk_cell BK299.out 2).trans rfl,(blk_cell BK299.out 3).trans rfl⟩ (fun hHeld => ?_);refine with_tabW Zj.tab7 Zj.bits7 (fun HT_ HW_ => ?_)
   generalize w27.drew = w28 at HO_16 HO_300002 HO308 BK298 BK299 HB hHeld ⊢
   refine pu_ 0 36 HT_ ?_
   refine pu_ 2 38 HT_ ?_
   refine pu_ 3 39 HT_ ?_
   refine pu_ 4 40 HT_ ?_
   refine pu_ 5 41 HT_ ?_
   refine pu_ 6 42 HT_ ?_
   refine tk_ 1 37 HT_ HW_ hHeld ?_
   refine zon 7 (N := some 43) HT_ (fun K hK => ?_)
   refine goes_ Tryd.func43 (by kernel_rfl) rfl #[.string a0,.int .i64 a1,.int .i64 x18_1,.int .i64 (1 - (((rd y301 x18_1) - 48) % 256))] (by rfl) rfl rfl (Eq.trans (b := (#[.string a0,.int .i64 a1,.int .i64 x18_1,.int .i64 (wrap64 (1 - (((rd y301 x18_1) - 48) % 256)))] : Array Value)) (by (try simp only [m1_,m2_,m3_]);first | done | rfl) (by rw [mp_wrap_one])) ?_
   with_reducible refine (ZP.calls k1 a0 a1 x18_1 (1 - (((rd y301 x18_1) - 48) % 256)) t309 _ ?side1 A19.out).mono ?_
   (case side1 => exact HLD.out.on (zl_ HB))
   rintro e w29 ⟨rfl,hb⟩
   refine ⟨_,rfl,?_⟩
   replace HO_16 := am_ (Kd.V_below (by (with_reducible repeat (first | apply Kd.V_alloc | apply Kd.V_drewN | apply Kd.V_drew));exact HO_16.out) hb)
   replace HO_300002 := zrb HO_300002 hb
   replace HO308 := zrb HO308 hb
   replace BK298 := zb BK298 hb
   replace BK299 := zb BK299 hb
   replace HB := zs_ HB hb
   try clear hb
   refine hK.out _ _ ⟨(blk_cell BK299.out 0).trans rfl,(blk_cell BK299.out 1).trans rfl,(blk_cell BK299.out 2).trans rfl,(blk_cell BK299.out 3).trans rfl⟩ (fun hHeld => ?_)
   clear hK K
   refine nm_ ?_
   refine zon 8 (N := some 44) HT_ (fun K hK => ?_)
   refine zgo Tryd.func44 #[.string t309] ?_
   with_reducible refine (ZD.calls k1 t309 t310 _ ?side1 A20.out).mono ?_
   (case side1 => exact HLD.out.on (zl_ HB))
   rintro e w30 ⟨rfl,hb⟩
   refine ⟨_,rfl,?_⟩
   replace HO_16 := am_ (Kd.V_below (by (with_reducible repeat (first | apply Kd.V_alloc | apply Kd.V_drewN | apply Kd.V_drew));exact HO_16.out) hb)
   replace HO_300002 := zrb HO_300002 hb
   replace HO308 := zrb HO308 hb
   replace BK298 := zb BK298 hb
   replace BK299 := zb BK299 hb
   replace HB := zs_ HB hb
   try clear hb
   refine hK.out _ _ ⟨(blk_cell BK299.out 0).trans rfl,(blk_cell BK299.out 1).trans rfl,(blk_cell BK299.out 2).trans rfl,(blk_cell BK299.out 3).trans rfl⟩ (fun hHeld => ?_)
   clear hK K
   refine nm_ ?_
   refine zon 9 (N := some 45) HT_ (fun K hK => ?_)
   refine value_ (w1 := ?_) (v := ?_) (by rfl) rfl ?_ ?_
   rotate_left 2
   ·go_simp
    constructor
    ·rfl
    ·rfl
   refine hK.out _ _ ⟨(blk_cell (blk_alloc BK299.out _) 0).trans rfl,(blk_cell (blk_alloc BK299.out _) 1).trans rfl,(blk_cell (blk_alloc BK299.out _) 2).trans rfl,(blk_cell (blk_alloc BK299.out _) 3).trans rfl⟩ (fun hHeld => ?_)
   clear hK K
   refine nm_ ?_
   refine zon 10 (N := some 46) HT_ (fun K hK => ?_)
   refine Kd.R_append_step Kd.string (w0 := w) w.heap.size (by rfl) (.tmp 37) (.tmp 45) 35 9 (.string ⟨#[]⟩) 16 rfl Tryd.underlying35 info9 rfl (by decide) (by omega) u300002 x300002_1 t310 [.string t310] (fun k_ => some k_ ≠ (.slice Ao25 y306.length co25 : Value).ownBlock) (fun _ => False) rfl rfl ?aP (fun _ hk => hk.elim) ?aF ?aO ?aB ?aS ?aL ?_
   (case aP => exact rfl)
   (case aB => exact (zl_ HB))
   (case aF => exact (fun k_ hk => Kd.fresh' (Kd.R_lt (zr HO308)) k_ hk))
   (case aO => exact (zr HO_300002))
   (case aS => exact (below_size (zl_ HB)))
   (case aL => have := LMc21.out;omega)
   intro v312 w31 ho hb hg hat
   rw [← Ny311.out] at ho
   replace HO_16 := am_ (Kd.V_afterv (ok := (fun k_ => some k_ ≠ (.slice Ao25 y306.length co25 : Value).ownBlock ∧ k_ ≠ gb298 ∧ k_ ≠ gb299)) (by (with_reducible repeat (first | apply Kd.V_alloc | apply Kd.V_drewN | apply Kd.V_drew));exact Kd.V_mono HO_16.out (fun _ hk => ⟨⟨hk.2.1,⟨hk.2.2.1,hk.2.2.2⟩⟩,hk.1⟩)) hg hat)
   replace BK298 := am_ (blk_grown (g := gb298) (o := .cells #[.int .i64 0,.slice none 0 0,.slice none 0 0,.slice none 0 0] 37 (0,0)) (zk BK298) hg (Kd.R_ne HO_300002.out BK298.out (by decide)))
   replace BK299 := am_ (blk_grown (g := gb299) (o := .cells #[.int .i64 a1,.slice Ao25 y306.length co25,u300002,.slice none 0 0] 37 (0,0)) (zk BK299) hg (Kd.R_ne HO_300002.out BK299.out (by decide)))
   replace HO308 := am_ (Kd.R_after (ok := (fun _ => True)) (by (with_reducible repeat (first | apply r1_ | apply r2_ | apply r3_));exact Kd.R_mono HO308.out (fun _ hk => ⟨trivial,hk⟩)) hg hat)
   replace HB := am_ (hb)
   have HO313 := am_ (ho)
   clear HO_300002
   clear ho hb hg hat
   obtain ⟨Ao32,co32,eo32⟩ := Kd.R_slice HO313.out
   (first | subst eo32 | (injection eo32 with f1_ f2_ f3_;have f4_ := f1_.symm;have f5_ := f3_.symm;clear f1_ f2_ f3_;subst f4_;subst f5_))
   refine hK.out _ _ ⟨(blk_cell BK299.out 0).trans rfl,(blk_cell BK299.out 1).trans rfl,(blk_cell BK299.out 2).trans rfl,(blk_cell BK299.out 3).trans rfl⟩ (fun hHeld => ?_)
   clear hK K
   refine nm_ ?_
   refine pu_ 11 47 HT_ ?_
   refine last_ (i := 12) (N := none) #[true,true,true,true,true,true,true,true,true,true,true,true,true] rfl rfl (one_of HT_.out (by kernel_rfl)) (by decide) (fun K hK => ?_)
   have hs33 : w31.cell? ⟨gb299,2,none⟩ = some (u300002) := (blk_cell BK299.out 2).trans rfl
   have hfs33 := blk_frozen BK299.out 2
   have hns33_0 := NB298_299.out
   have hms33_0 := NB299_298.out
   refine skip_ (w1 := ?_) (by rfl) rfl ?_ ?_
   rotate_left
   ·go_simp
    rfl
   refine hK.out _ _ ?_
   clear hK K
   refine done_ (done_of HT_.out (by kernel_rfl)) ?_
   try go_wp2
   go_roundg k1
   case measure => have := HK1.out;omega
   case rel => exact ⟨(wrap64 (x18_1 + 1)),(y306),(y311),(.slice Ao25 y306.length co25),(.slice Ao32 y311.length co32),(by first | rfl | (simp;done) | (simp [*];done)),H',⟨by have := HK1.out;omega⟩,⟨by (with_reducible repeat (first | apply Kd.V_alloc | apply Kd.V_drewN | apply Kd.V_drew));exact Kd.V_mono (Kd.V_far (p := ⟨gb299,2,none⟩) (Kd.V_mono HO_16.out (fun k_ hk => (⟨hk,hk.1.2.2⟩ : _ ∧ k_ ≠ gb299))) (fun _ hk => hk.2) (.slice Ao32 y311.length co32)) (fun _ hk => ⟨hk.1.1.1,⟨hk.1.2,⟨hk.1.1.2.1,hk.1.1.2.2⟩⟩⟩)⟩,⟨by (with_reducible repeat (first | apply r1_ | apply r2_ | apply r3_));exact Kd.R_mono (zrf (Kd.R_types HO308.out BK299.out (by decide))) (fun _ hk => hk.1.2)⟩,⟨by (with_reducible repeat (first | apply r1_ | apply r2_ | apply r3_));exact Kd.R_mono (zrf (Kd.R_types HO313.out BK299.out (by decide))) (fun _ hk => hk.1)⟩,⟨zq BK298⟩,⟨zq BK299⟩,⟨zl_ HB⟩⟩
theorem Yd.calls (A0 : Option Addr) (c0 : Nat) (l0 : List Int) (r : List Int) (w : World) (hr0 : Kd.C (Kd.int .i64) w A0 l0.length l0) (hc0 : l0.length ≤ c0) (h : Yd.f l0 = some r) :
  Calls Tryd.prog 21 #[.slice A0 l0.length c0] w fun e w' => ∃ v0_ : Value,e = .returned (v0_) ∧ Kd.R (Kd.int .i64) 3 w' w.heap.size (fun _ => True) v0_ r ∧ Below w.heap.size w w' := by
 have HR0 := am_ hr0
 have HC0 := am_ hc0
 clear hr0 hc0
 have HB := am_ (Below.refl w.heap.size w)
 have H : ((some (([] : List Int) : List Int)).bind fun y164 => (if y164.length + l0.length < 17592186044416 then (some (y164 ++ l0)) else (none))) = some r := h
 clear h
 obtain ⟨y164,hy164⟩ : ∃ y_ : List Int,y_ = (([] : List Int)) := ⟨_,rfl⟩
 replace H : (if y164.length + l0.length < 17592186044416 then (some (y164 ++ l0)) else (none)) = some r := by first | (rw [hy164];with_reducible exact H) | (have H2_ := (Option.bind_some _ _).symm.trans H;rw [hy164];with_reducible exact H2_) | (have H2_ := (Option.bind_some _ _).symm.trans H;with_reducible exact H2_) | with_reducible exact H | (rw [hy164];exact H) | exact H
 have Ny164 := am_ hy164
 clear hy164
 by_cases c2 : y164.length + l0.length < 17592186044416
 case neg =>
  rw [if_neg c2] at H
  exact absurd H (by simp)
 rw [if_pos c2] at H
 have LMc2 := am_ c2
 clear c2
 obtain ⟨y167,hy167⟩ : ∃ y_ : List Int,y_ = (y164 ++ l0) := ⟨_,rfl⟩
 replace H : (some y167) = some r := by first | (rw [hy167];with_reducible exact H) | (have H2_ := (Option.bind_some _ _).symm.trans H;rw [hy167];with_reducible exact H2_) | (have H2_ := (Option.bind_some _ _).symm.trans H;with_reducible exact H2_) | with_reducible exact H | (rw [hy167];exact H) | exact H
 have Ny167 := am_ hy167
 clear hy167
 obtain rfl := Option.some.inj H
 cases A0 with
 | none =>
  have hl0 : l0 = [] := by
   cases l0 with
   | nil => rfl
   | cons z_ zs_ =>
    obtain ⟨ad_,e_,_⟩ := Kd.at_int HR0.out 0 (by omega) (by simp)
    cases e_
  subst hl0
  have he_ : ∀ w : World,(binOp .eql 26 (.slice none 0 c0) (.slice none 0 0)).run Tryd.prog w = .ok (.bool true) w := fun _ => rfl
  go_enter Tryd.func21,Tryd.ntmps21
  go_wp2
  go_ret
  exact ⟨_,rfl,by rw [Ny167.out,Ny164.out];exact Kd.R_nil _ _ _ _ _,zl_ HB⟩
 | some ad0_ =>
  have he_ : ∀ w : World,(binOp .eql 26 (.slice (some ad0_) l0.length c0) (.slice none 0 0)).run Tryd.prog w = .ok (.bool false) w := fun _ => rfl
  go_enter Tryd.func21,Tryd.ntmps21
  go_wp2_with (first | ((with_reducible refine gate_dst (N := 5) rfl ?_);refine Kd.R_lit (Kd.int .i64) _ 3 ?hg (N := 5) ?hd (xs := ([] : List Int)) (inner := []) (ok := fun _ => True) (okp := fun _ => True) ?hr ?hp (fun _ hk => hk) trivial (Below.refl _ _) (Nat.le_refl _) (by simp) ?_;(case hd => rfl);(case hg => rfl);(case hr => first | (go_simp;done) | (go_simp;rfl));(case hp => exact (Reps.none _ _));intro v165 w3 ho4 hb hg_ hnew_;clear hg_ hnew_;(first | rw [← Ny164.out] at ho4 | (simp only [Int.reduceToNat] at ho4;rw [← Ny164.out] at ho4));have HO166 := am_ (Kd.R_lower ho4 (below_size (zl_ HB)));replace HB := zs_ HB hb;clear hb ho4) | ((with_reducible refine gate_builtin (b := .append) (xs := #[.tmp 5,.tmp 6]) rfl ?_);at_builtin;refine Kd.R_append_rows (Kd.int .i64) (w0 := w) w.heap.size rfl (.tmp 5) (.tmp 6) 26 3 (.int .i64 0) 8 rfl Tryd.underlying26 info3 rfl (by decide) (by omega) v165 y164 l0 _ _ _ (fun _ => True) (fun _ => False) rfl rfl ?aO ?aR (fun _ _ h => h) (fun _ h => h.elim) ?aF ?aB ?aS ?aL ?_;(case aR => exact zc_ HR0 HB);(case aB => exact (zl_ HB));(case aF => exact (fun _ _ => trivial));(case aO => exact (zr HO166));(case aS => exact (below_size (zl_ HB)));(case aL => have := LMc2.out;omega);intro v168 w5 ho hb hg hat;rw [← Ny167.out] at ho;replace HB := am_ (hb);have HO169 := am_ (ho);clear HO166;clear ho hb hg hat))
  go_ret
  exact ⟨_,zt_,zr HO169,zl_ HB⟩
def Zg.T13 : Bool × List (List Nat × List Nat) := (true,[([],[]),([0],[0]),([],[]),([2],[2]),([],[]),([],[]),([5,3],[5]),([3,4,6,6],[3,4,6]),([7],[7]),([1,8,7],[1,8]),([0,1,2,3,4,5,6,7,8,9],[]),([10,9,9,0,1,2,3,4,5,6,7,8,9],[9,10])])
def Zg.B13 : List Nat := [0,1,0,4,0,0,44,124,252,511,1023,2047]
theorem Zg.tab13 : rtab .any (opsOf Tryd.f6 13) = Zg.T13 := by kernel_rfl
theorem Zg.bits13 : waitsOk Zg.T13.2 Zg.B13 = true := by kernel_rfl
theorem Zg.calls (k : Nat) (a0 : Int) (a1_0 : ByteArray) (a1_1 : Int) (a1_2 : Int) (a1_3 : Int) (A2 : Option Addr) (c2 : Nat) (l2 : List Int) (a3 : Int) (r1 : ByteArray) (r2 : Int) (r3 : Int) (r4 : Int) (r5 : List Int) (r6 : List (S37)) (r7 : Int) (w : World) (hr2 : Kd.C (Kd.int .i64) w A2 l2.length l2) (hc2 : l2.length ≤ c2) (hL : Laid w) (hT : LaidT w) (h : Zg.f k a0 a1_0 a1_1 a1_2 a1_3 l2 a3 = some (r1,r2,r3,r4,r5,r6,r7)) :
  Calls Tryd.prog 6 #[.int .i64 a0,.agg #[.string a1_0,.int .i64 a1_1,.int .i64 a1_2,.int .i64 a1_3],.slice A2 l2.length c2,.int .i64 a3] w fun e w' => ∃ v4_ v5_ : Value,e = .returned (.tuple #[.agg #[.string r1,.int .i64 r2,.int .i64 r3,.int .i64 r4,v4_,v5_],.int .i64 r7]) ∧ Kd.R (Kd.int .i64) 3 w' w.heap.size (fun _ => True) v4_ r5 ∧ Kd.S k37 37 w' w.heap.size (fun _ => True) v5_ r6 ∧ Below w.heap.size w w' := by
 have hu24 := Tryd.underlying24
 have hu31 := Tryd.underlying31
 have HR2 := am_ hr2
 have HC2 := am_ hc2
 clear hr2 hc2
 have HLD := am_ hL
 clear hL
 have HTD := am_ hT
 clear hT
 have HB := am_ (Below.refl w.heap.size w)
 have H : ((Yc.f l2).bind fun t332 => (if t332 = true then (some ((⟨#[]⟩ : ByteArray),0,0,0,([] : List Int),([] : List (S37)),2)) else ((ZI.f k a1_0 a1_1 a1_2 a1_3).bind fun t333 => (if t333 = true then ((ZX.f a0).bind fun t334 => (if t334 = true then ((ZW.f a3).bind fun t335 => (Zg.j0 k a0 l2 a3 (!t335) a1_0 a1_1 a1_2 a1_3)) else (Zg.j0 k a0 l2 a3 true a1_0 a1_1 a1_2 a1_3))) else (some ((⟨#[]⟩ : ByteArray),0,0,0,([] : List Int),([] : List (S37)),1)))))) = some (r1,r2,r3,r4,r5,r6,r7) := h
 clear h
 replace H := Option.bind_eq_some_iff.mp H
 obtain ⟨t332,A50,H⟩ := H
 try dsimp only at H
 have A5 := am_ A50
 clear A50
 by_cases c6 : t332 = true
 ·subst c6
  rw [if_pos rfl] at H
  simp only [Option.some.injEq,Prod.mk.injEq] at H
  obtain ⟨rfl,rfl,rfl,rfl,rfl,rfl,rfl⟩ := H
  go_enter Tryd.func6,Tryd.ntmps6
  go_wp2_with (first | ((with_reducible refine gate_dst (N := 5) rfl ?_);refine zbx (N := 5) (cs := #[.string a1_0,.int .i64 a1_1,.int .i64 a1_2,.int .i64 a1_3]) (t := 24) ?_;intro gb330 hg w7 hbox hb;have BK330 := am_ (hbox);have GW330 := zw_ HB hg;have GE330 := zw_ HB hg;replace HB := zs_ HB hb;clear hb hbox hg) | ((with_reducible refine gate_dst (N := 8) rfl ?_);refine zbx (N := 8) (cs := #[.string ⟨#[]⟩,.int .i64 0,.int .i64 0,.int .i64 0,.slice none 0 0,.slice none 0 0]) (t := 31) ?_;intro gb331 hg w8 hbox hb;have BK331 := am_ (hbox);have GW331 := zw_ HB hg;have GE331 := zw_ HB hg;replace HB := zs_ HB hb;have NB330_331 := zl hg BK330;have NB331_330 := zg hg BK330;replace BK330 := zb BK330 hb;clear hb hbox hg) | ((with_reducible refine gate_callee (f := 16) rfl ?_);refine zgl (some 15) Tryd.func16 #[.slice A2 l2.length c2] ?_;(with_reducible refine (Yc.calls _ _ l2 true _ ?side1 ?side2 A5.out).mono ?_);(case side1 => exact zc_ HR2 HB);(case side2 => exact HC2.out);rintro e w' ⟨rfl,⟨nd,rfl⟩⟩;refine ⟨_,rfl,?_⟩;(try (rw [drewN_self w8];generalize hq_ : World.drewN w8 _ = w8;have n0_ : Aside0 (w8.heap[gb330]? = some (.cells #[.string a1_0,.int .i64 a1_1,.int .i64 a1_2,.int .i64 a1_3] 24 (0,0))) := ⟨by rw [← hq_];exact (zk BK330)⟩;have n1_ : Aside0 (w8.heap[gb331]? = some (.cells #[.string ⟨#[]⟩,.int .i64 0,.int .i64 0,.int .i64 0,.slice none 0 0,.slice none 0 0] 31 (0,0))) := ⟨by rw [← hq_];exact (zk BK331)⟩;have n2_ : Aside0 (Below w.heap.size w w8) := ⟨by rw [← hq_];exact (zl_ HB)⟩;clear BK330 BK331 HB hq_;have BK330 := n0_;have BK331 := n1_;have HB := n2_;clear n0_ n1_ n2_));(try have hfu330_0 := blk_frozen BK330.out 0);(try have hcu330_0 : w8.cell? ⟨gb330,0,none⟩ = some (.string a1_0) := (blk_cell BK330.out 0).trans rfl);(try have hfu330_1 := blk_frozen BK330.out 1);(try have hcu330_1 : w8.cell? ⟨gb330,1,none⟩ = some (.int .i64 a1_1) := (blk_cell BK330.out 1).trans rfl);(try have hfu330_2 := blk_frozen BK330.out 2);(try have hcu330_2 : w8.cell? ⟨gb330,2,none⟩ = some (.int .i64 a1_2) := (blk_cell BK330.out 2).trans rfl);(try have hfu330_3 := blk_frozen BK330.out 3);(try have hcu330_3 : w8.cell? ⟨gb330,3,none⟩ = some (.int .i64 a1_3) := (blk_cell BK330.out 3).trans rfl);(try have hfu331_0 := blk_frozen BK331.out 0);(try have hcu331_0 : w8.cell? ⟨gb331,0,none⟩ = some (.string ⟨#[]⟩) := (blk_cell BK331.out 0).trans rfl);(try have hfu331_1 := blk_frozen BK331.out 1);(try have hcu331_1 : w8.cell? ⟨gb331,1,none⟩ = some (.int .i64 0) := (blk_cell BK331.out 1).trans rfl);(try have hfu331_2 := blk_frozen BK331.out 2);(try have hcu331_2 : w8.cell? ⟨gb331,2,none⟩ = some (.int .i64 0) := (blk_cell BK331.out 2).trans rfl);(try have hfu331_3 := blk_frozen BK331.out 3);(try have hcu331_3 : w8.cell? ⟨gb331,3,none⟩ = some (.int .i64 0) := (blk_cell BK331.out 3).trans rfl);(try have hfu331_4 := blk_frozen BK331.out 4);(try have hcu331_4 : w8.cell? ⟨gb331,4,none⟩ = some (.slice none 0 0) := (blk_cell BK331.out 4).trans rfl);(try have hfu331_5 := blk_frozen BK331.out 5);(try have hcu331_5 : w8.cell? ⟨gb331,5,none⟩ = some (.slice none 0 0) := (blk_cell BK331.out 5).trans rfl);have hnb9 := NB331_330.out;have hnc9 := NB330_331.out;obtain ⟨hcz10_0,hcz10_1,hcz10_2,hcz10_3,hcz10_4,hcz10_5,hfz10_0,hfz10_1,hfz10_2,hfz10_3,hfz10_4,hfz10_5⟩ := zc6 BK331))
  refine bodyPost_ret (results_ct rfl _ _ gb331 31 #[.string ⟨#[]⟩,.int .i64 0,.int .i64 0,.int .i64 0,.slice none 0 0,.slice none 0 0] (0,0) _ rfl (zq BK331) Tryd.underlying31 rfl (by kernel_rfl)) rfl ?_
  exact ⟨_,_,zt_,by first | exact Kd.R_nil _ _ _ _ _ | exact Kd.N_nil _ _ _ _ _ | exact Kd.V_nil _ _ _ _ _ | exact Kd.Q_nil _ _ _ _ _ | exact Kd.S_nil _ _ _ _ _,by first | exact Kd.S_nil _ _ _ _ _ | exact Kd.N_nil _ _ _ _ _ | exact Kd.V_nil _ _ _ _ _ | exact Kd.Q_nil _ _ _ _ _ | exact Kd.R_nil _ _ _ _ _,zl_ HB⟩
 replace c6 := Bool.eq_false_iff.mpr c6
 subst c6
 rw [if_neg (show ¬ (false = true) by decide)] at H
 replace H := Option.bind_eq_some_iff.mp H
 obtain ⟨t333,A110,H⟩ := H
 try dsimp only at H
 have A11 := am_ A110
 clear A110
 by_cases c12 : t333 = true
 case neg =>
  replace c12 := Bool.eq_false_iff.mpr c12
  subst c12
  rw [if_neg (show ¬ (false = true) by decide)] at H
  simp only [Option.some.injEq,Prod.mk.injEq] at H
  obtain ⟨rfl,rfl,rfl,rfl,rfl,rfl,rfl⟩ := H
  go_enter Tryd.func6,Tryd.ntmps6
  go_wp2_with (first | ((with_reducible refine gate_dst (N := 5) rfl ?_);refine zbx (N := 5) (cs := #[.string a1_0,.int .i64 a1_1,.int .i64 a1_2,.int .i64 a1_3]) (t := 24) ?_;intro gb330 hg w65 hbox hb;have BK330 := am_ (hbox);have GW330 := zw_ HB hg;have GE330 := zw_ HB hg;replace HB := zs_ HB hb;clear hb hbox hg) | ((with_reducible refine gate_dst (N := 8) rfl ?_);refine zbx (N := 8) (cs := #[.string ⟨#[]⟩,.int .i64 0,.int .i64 0,.int .i64 0,.slice none 0 0,.slice none 0 0]) (t := 31) ?_;intro gb331 hg w66 hbox hb;have BK331 := am_ (hbox);have GW331 := zw_ HB hg;have GE331 := zw_ HB hg;replace HB := zs_ HB hb;have NB330_331 := zl hg BK330;have NB331_330 := zg hg BK330;replace BK330 := zb BK330 hb;clear hb hbox hg) | ((with_reducible refine gate_callee (f := 16) rfl ?_);refine zgl (some 15) Tryd.func16 #[.slice A2 l2.length c2] ?_;(with_reducible refine (Yc.calls _ _ l2 false _ ?side1 ?side2 A5.out).mono ?_);(case side1 => exact zc_ HR2 HB);(case side2 => exact HC2.out);rintro e w' ⟨rfl,⟨nd,rfl⟩⟩;refine ⟨_,rfl,?_⟩;(try (rw [drewN_self w66];generalize hq_ : World.drewN w66 _ = w66;have n0_ : Aside0 (w66.heap[gb330]? = some (.cells #[.string a1_0,.int .i64 a1_1,.int .i64 a1_2,.int .i64 a1_3] 24 (0,0))) := ⟨by rw [← hq_];exact (zk BK330)⟩;have n1_ : Aside0 (w66.heap[gb331]? = some (.cells #[.string ⟨#[]⟩,.int .i64 0,.int .i64 0,.int .i64 0,.slice none 0 0,.slice none 0 0] 31 (0,0))) := ⟨by rw [← hq_];exact (zk BK331)⟩;have n2_ : Aside0 (Below w.heap.size w w66) := ⟨by rw [← hq_];exact (zl_ HB)⟩;clear BK330 BK331 HB hq_;have BK330 := n0_;have BK331 := n1_;have HB := n2_;clear n0_ n1_ n2_));(try have hfu330_0 := blk_frozen BK330.out 0);(try have hcu330_0 : w66.cell? ⟨gb330,0,none⟩ = some (.string a1_0) := (blk_cell BK330.out 0).trans rfl);(try have hfu330_1 := blk_frozen BK330.out 1);(try have hcu330_1 : w66.cell? ⟨gb330,1,none⟩ = some (.int .i64 a1_1) := (blk_cell BK330.out 1).trans rfl);(try have hfu330_2 := blk_frozen BK330.out 2);(try have hcu330_2 : w66.cell? ⟨gb330,2,none⟩ = some (.int .i64 a1_2) := (blk_cell BK330.out 2).trans rfl);(try have hfu330_3 := blk_frozen BK330.out 3);(try have hcu330_3 : w66.cell? ⟨gb330,3,none⟩ = some (.int .i64 a1_3) := (blk_cell BK330.out 3).trans rfl);(try have hfu331_0 := blk_frozen BK331.out 0);(try have hcu331_0 : w66.cell? ⟨gb331,0,none⟩ = some (.string ⟨#[]⟩) := (blk_cell BK331.out 0).trans rfl);(try have hfu331_1 := blk_frozen BK331.out 1);(try have hcu331_1 : w66.cell? ⟨gb331,1,none⟩ = some (.int .i64 0) := (blk_cell BK331.out 1).trans rfl);(try have hfu331_2 := blk_frozen BK331.out 2);(try have hcu331_2 : w66.cell? ⟨gb331,2,none⟩ = some (.int .i64 0) := (blk_cell BK331.out 2).trans rfl);(try have hfu331_3 := blk_frozen BK331.out 3);(try have hcu331_3 : w66.cell? ⟨gb331,3,none⟩ = some (.int .i64 0) := (blk_cell BK331.out 3).trans rfl);(try have hfu331_4 := blk_frozen BK331.out 4);(try have hcu331_4 : w66.cell? ⟨gb331,4,none⟩ = some (.slice none 0 0) := (blk_cell BK331.out 4).trans rfl);(try have hfu331_5 := blk_frozen BK331.out 5);(try have hcu331_5 : w66.cell? ⟨gb331,5,none⟩ = some (.slice none 0 0) := (blk_cell BK331.out 5).trans rfl);have hnb67 := NB330_331.out;have hnc67 := NB331_330.out;obtain ⟨hcz68_0,hcz68_1,hcz68_2,hcz68_3,hfz68_0,hfz68_1,hfz68_2,hfz68_3⟩ := zc4 BK330) | ((with_reducible refine gate_callee (f := 17) rfl ?_);refine zgl (some 19) Tryd.func17 #[.agg #[.string a1_0,.int .i64 a1_1,.int .i64 a1_2,.int .i64 a1_3]] ?_;(with_reducible refine (ZI.calls k a1_0 a1_1 a1_2 a1_3 false _ A11.out).mono ?_);rintro e w69 ⟨rfl,hb⟩;refine ⟨_,rfl,?_⟩;replace BK331 := zb BK331 hb;replace HB := zs_ HB hb;(try clear hb);obtain ⟨hcz70_0,hcz70_1,hcz70_2,hcz70_3,hcz70_4,hcz70_5,hfz70_0,hfz70_1,hfz70_2,hfz70_3,hfz70_4,hfz70_5⟩ := zc6 BK331))
  refine bodyPost_ret (results_ct rfl _ _ gb331 31 #[.string ⟨#[]⟩,.int .i64 0,.int .i64 0,.int .i64 0,.slice none 0 0,.slice none 0 0] (0,0) _ rfl (zq BK331) Tryd.underlying31 rfl (by kernel_rfl)) rfl ?_
  exact ⟨_,_,zt_,by first | exact Kd.R_nil _ _ _ _ _ | exact Kd.N_nil _ _ _ _ _ | exact Kd.V_nil _ _ _ _ _ | exact Kd.Q_nil _ _ _ _ _ | exact Kd.S_nil _ _ _ _ _,by first | exact Kd.S_nil _ _ _ _ _ | exact Kd.N_nil _ _ _ _ _ | exact Kd.V_nil _ _ _ _ _ | exact Kd.Q_nil _ _ _ _ _ | exact Kd.R_nil _ _ _ _ _,zl_ HB⟩
 subst c12
 rw [if_pos rfl] at H
 have HC13 := am_ H
 clear H
 go_enter Tryd.func6,Tryd.ntmps6
 go_upto_region 5 with (first | ((with_reducible refine gate_dst (N := 5) rfl ?_);refine zbx (N := 5) (cs := #[.string a1_0,.int .i64 a1_1,.int .i64 a1_2,.int .i64 a1_3]) (t := 24) ?_;intro gb330 hg w14 hbox hb;have BK330 := am_ (hbox);have GW330 := zw_ HB hg;have GE330 := zw_ HB hg;replace HB := zs_ HB hb;clear hb hbox hg) | ((with_reducible refine gate_dst (N := 8) rfl ?_);refine zbx (N := 8) (cs := #[.string ⟨#[]⟩,.int .i64 0,.int .i64 0,.int .i64 0,.slice none 0 0,.slice none 0 0]) (t := 31) ?_;intro gb331 hg w15 hbox hb;have BK331 := am_ (hbox);have GW331 := zw_ HB hg;have GE331 := zw_ HB hg;replace HB := zs_ HB hb;have NB330_331 := zl hg BK330;have NB331_330 := zg hg BK330;replace BK330 := zb BK330 hb;clear hb hbox hg) | ((with_reducible refine gate_callee (f := 16) rfl ?_);refine zgl (some 15) Tryd.func16 #[.slice A2 l2.length c2] ?_;(with_reducible refine (Yc.calls _ _ l2 false _ ?side1 ?side2 A5.out).mono ?_);(case side1 => exact zc_ HR2 HB);(case side2 => exact HC2.out);rintro e w' ⟨rfl,⟨nd,rfl⟩⟩;refine ⟨_,rfl,?_⟩;have hnb16 := NB330_331.out;have hnc16 := NB331_330.out;obtain ⟨hcz17_0,hcz17_1,hcz17_2,hcz17_3,hfz17_0,hfz17_1,hfz17_2,hfz17_3⟩ := zc4 BK330) | ((with_reducible refine gate_callee (f := 17) rfl ?_);refine zgl (some 19) Tryd.func17 #[.agg #[.string a1_0,.int .i64 a1_1,.int .i64 a1_2,.int .i64 a1_3]] ?_;(with_reducible refine (ZI.calls k a1_0 a1_1 a1_2 a1_3 true _ A11.out).mono ?_);rintro e w18 ⟨rfl,hb⟩;refine ⟨_,rfl,?_⟩;replace BK330 := zb BK330 hb;replace BK331 := zb BK331 hb;replace HB := zs_ HB hb;(try clear hb)))
 (try simp only [Act.put,p1_,p2_,p3_])
 go_cut [22] (fun v22 wc => ∃ (kq : Nat) (x22_12 : Bool),v22 = .bool x22_12 ∧ Aside0 (Zg.j0 kq a0 l2 a3 x22_12 a1_0 a1_1 a1_2 a1_3 = some (r1,r2,r3,r4,r5,r6,r7)) ∧ Aside0 (kq ≤ k) ∧ Aside0 (wc.heap[gb330]? = some (.cells #[.string a1_0,.int .i64 a1_1,.int .i64 a1_2,.int .i64 a1_3] 24 (0,0))) ∧ Aside0 (wc.heap[gb331]? = some (.cells #[.string ⟨#[]⟩,.int .i64 0,.int .i64 0,.int .i64 0,(.slice none 0 0),(.slice none 0 0)] 31 (0,0))) ∧ Aside0 (Below w.heap.size w wc))
 case first =>
  have H := HC13.out
  clear HC13
  replace H := Option.bind_eq_some_iff.mp H
  obtain ⟨t334,A190,H⟩ := H
  try dsimp only at H
  have A19 := am_ A190
  clear A190
  by_cases c20 : t334 = true
  case neg =>
   replace c20 := Bool.eq_false_iff.mpr c20
   subst c20
   rw [if_neg (show ¬ (false = true) by decide)] at H
   have H' := am_ H
   clear H
   go_wp2_with (first | ((with_reducible refine gate_callee (f := 18) rfl ?_);refine zgl (some 24) Tryd.func18 #[.int .i64 a0] ?_;(with_reducible refine (ZX.calls a0 false _ A19.out).mono ?_);rintro e w' ⟨rfl,⟨nd,rfl⟩⟩;refine ⟨_,rfl,?_⟩))
   go_meet
   case rel => exact ⟨_,(true),(by first | rfl | (simp;done) | (simp [*];done)),H',⟨by first | omega | exact Nat.le_refl _⟩,⟨by (with_reducible repeat (first | apply k1_ | apply k2_ | apply k3_));exact BK330.out⟩,⟨by (with_reducible repeat (first | apply k1_ | apply k2_ | apply k3_));exact BK331.out⟩,⟨zl_ HB⟩⟩
  subst c20
  rw [if_pos rfl] at H
  replace H := Option.bind_eq_some_iff.mp H
  obtain ⟨t335,A210,H⟩ := H
  try dsimp only at H
  have A21 := am_ A210
  clear A210
  have H' := am_ H
  clear H
  go_wp2_with (first | ((with_reducible refine gate_callee (f := 18) rfl ?_);refine zgl (some 24) Tryd.func18 #[.int .i64 a0] ?_;(with_reducible refine (ZX.calls a0 true _ A19.out).mono ?_);rintro e w' ⟨rfl,⟨nd,rfl⟩⟩;refine ⟨_,rfl,?_⟩) | (go_at_call 19;(with_reducible refine (ZW.calls a3 t335 _ A21.out).mono ?_);rintro e w' ⟨rfl,⟨nd,rfl⟩⟩))
  go_meet
  case rel => exact ⟨_,(!t335),(by first | rfl | (simp;done) | (simp [*];done)),H',⟨by first | omega | exact Nat.le_refl _⟩,⟨by (with_reducible repeat (first | apply k1_ | apply k2_ | apply k3_));exact BK330.out⟩,⟨by (with_reducible repeat (first | apply k1_ | apply k2_ | apply k3_));exact BK331.out⟩,⟨zl_ HB⟩⟩
 case rest =>
  clear HC13
  try clear c1
  try clear c2
  try clear p2
  try clear c6
  try clear c9
  try clear c12
  try clear c16
  try clear c17
  try clear c18
  try clear c20
  try clear hcz10_0
  try clear hcz10_1
  try clear hcz10_2
  try clear hcz10_3
  try clear hcz10_4
  try clear hcz10_5
  try clear hcz17_0
  try clear hcz17_1
  try clear hcz17_2
  try clear hcz17_3
  try clear hfz10_0
  try clear hfz10_1
  try clear hfz10_2
  try clear hfz10_3
  try clear hfz10_4
  try clear hfz10_5
  try clear hfz17_0
  try clear hfz17_1
  try clear hfz17_2
  try clear hfz17_3
  obtain ⟨kq,x22_12,rfl,HA,HJ12,BK330,BK331,HB⟩ := hcut
  cases kq with
  | zero => exact absurd HA.out (by simp [Zg.j0])
  | succ kj12 =>
   have H := HA.out
   clear HA
   simp only [Zg.j0] at H
   by_cases c22 : x22_12 = true
   ·subst c22
    rw [if_pos rfl] at H
    simp only [Option.some.injEq,Prod.mk.injEq] at H
    obtain ⟨rfl,rfl,rfl,rfl,rfl,rfl,rfl⟩ := H
    have hnb23 := NB331_330.out
    have hnc23 := NB330_331.out
    obtain ⟨hcz24_0,hcz24_1,hcz24_2,hcz24_3,hcz24_4,hcz24_5,hfz24_0,hfz24_1,hfz24_2,hfz24_3,hfz24_4,hfz24_5⟩ := zc6 BK331
    go_wp2
    refine bodyPost_ret (results_ct rfl _ _ gb331 31 #[.string ⟨#[]⟩,.int .i64 0,.int .i64 0,.int .i64 0,.slice none 0 0,.slice none 0 0] (0,0) _ rfl (zq BK331) Tryd.underlying31 rfl (by kernel_rfl)) rfl ?_
    exact ⟨_,_,zt_,by first | exact Kd.R_nil _ _ _ _ _ | exact Kd.N_nil _ _ _ _ _ | exact Kd.V_nil _ _ _ _ _ | exact Kd.Q_nil _ _ _ _ _ | exact Kd.S_nil _ _ _ _ _,by first | exact Kd.S_nil _ _ _ _ _ | exact Kd.N_nil _ _ _ _ _ | exact Kd.V_nil _ _ _ _ _ | exact Kd.Q_nil _ _ _ _ _ | exact Kd.R_nil _ _ _ _ _,zl_ HB⟩
   replace c22 := Bool.eq_false_iff.mpr c22
   subst c22
   rw [if_neg (show ¬ (false = true) by decide)] at H
   replace H := Option.bind_eq_some_iff.mp H
   obtain ⟨t336,A250,H⟩ := H
   try dsimp only at H
   have A25 := am_ A250
   clear A250
   by_cases c26 : t336 = true
   case neg =>
    replace c26 := Bool.eq_false_iff.mpr c26
    subst c26
    rw [if_neg (show ¬ (false = true) by decide)] at H
    simp only [Option.some.injEq,Prod.mk.injEq] at H
    obtain ⟨rfl,rfl,rfl,rfl,rfl,rfl,rfl⟩ := H
    go_wp2_with (first | ((with_reducible refine gate_callee (f := 20) rfl ?_);refine zgl (some 35) Tryd.func20 #[.int .i64 a0,.slice A2 l2.length c2] ?_;(with_reducible refine (ZL.calls kj12 a0 _ _ l2 false _ ?side1 ?side2 A25.out).mono ?_);(case side1 => exact zc_ HR2 HB);(case side2 => exact HC2.out);rintro e w' ⟨rfl,⟨nd,rfl⟩⟩;refine ⟨_,rfl,?_⟩;(try (rw [drewN_self wc];generalize hq_ : World.drewN wc _ = wc;have n0_ : Aside0 (wc.heap[gb330]? = some (.cells #[.string a1_0,.int .i64 a1_1,.int .i64 a1_2,.int .i64 a1_3] 24 (0,0))) := ⟨by rw [← hq_];exact (zk BK330)⟩;have n1_ : Aside0 (wc.heap[gb331]? = some (.cells #[.string ⟨#[]⟩,.int .i64 0,.int .i64 0,.int .i64 0,.slice none 0 0,.slice none 0 0] 31 (0,0))) := ⟨by rw [← hq_];exact (zk BK331)⟩;have n2_ : Aside0 (Below w.heap.size w wc) := ⟨by rw [← hq_];exact (zl_ HB)⟩;clear BK330 BK331 HB hq_;have BK330 := n0_;have BK331 := n1_;have HB := n2_;clear n0_ n1_ n2_));(try have hfu330_0 := blk_frozen BK330.out 0);(try have hcu330_0 : wc.cell? ⟨gb330,0,none⟩ = some (.string a1_0) := (blk_cell BK330.out 0).trans rfl);(try have hfu330_1 := blk_frozen BK330.out 1);(try have hcu330_1 : wc.cell? ⟨gb330,1,none⟩ = some (.int .i64 a1_1) := (blk_cell BK330.out 1).trans rfl);(try have hfu330_2 := blk_frozen BK330.out 2);(try have hcu330_2 : wc.cell? ⟨gb330,2,none⟩ = some (.int .i64 a1_2) := (blk_cell BK330.out 2).trans rfl);(try have hfu330_3 := blk_frozen BK330.out 3);(try have hcu330_3 : wc.cell? ⟨gb330,3,none⟩ = some (.int .i64 a1_3) := (blk_cell BK330.out 3).trans rfl);(try have hfu331_0 := blk_frozen BK331.out 0);(try have hcu331_0 : wc.cell? ⟨gb331,0,none⟩ = some (.string ⟨#[]⟩) := (blk_cell BK331.out 0).trans rfl);(try have hfu331_1 := blk_frozen BK331.out 1);(try have hcu331_1 : wc.cell? ⟨gb331,1,none⟩ = some (.int .i64 0) := (blk_cell BK331.out 1).trans rfl);(try have hfu331_2 := blk_frozen BK331.out 2);(try have hcu331_2 : wc.cell? ⟨gb331,2,none⟩ = some (.int .i64 0) := (blk_cell BK331.out 2).trans rfl);(try have hfu331_3 := blk_frozen BK331.out 3);(try have hcu331_3 : wc.cell? ⟨gb331,3,none⟩ = some (.int .i64 0) := (blk_cell BK331.out 3).trans rfl);(try have hfu331_4 := blk_frozen BK331.out 4);(try have hcu331_4 : wc.cell? ⟨gb331,4,none⟩ = some (.slice none 0 0) := (blk_cell BK331.out 4).trans rfl);(try have hfu331_5 := blk_frozen BK331.out 5);(try have hcu331_5 : wc.cell? ⟨gb331,5,none⟩ = some (.slice none 0 0) := (blk_cell BK331.out 5).trans rfl);have hnb63 := NB331_330.out;have hnc63 := NB330_331.out;obtain ⟨hcz64_0,hcz64_1,hcz64_2,hcz64_3,hcz64_4,hcz64_5,hfz64_0,hfz64_1,hfz64_2,hfz64_3,hfz64_4,hfz64_5⟩ := zc6 BK331))
    refine bodyPost_ret (results_ct rfl _ _ gb331 31 #[.string ⟨#[]⟩,.int .i64 0,.int .i64 0,.int .i64 0,.slice none 0 0,.slice none 0 0] (0,0) _ rfl (zq BK331) Tryd.underlying31 rfl (by kernel_rfl)) rfl ?_
    exact ⟨_,_,zt_,by first | exact Kd.R_nil _ _ _ _ _ | exact Kd.N_nil _ _ _ _ _ | exact Kd.V_nil _ _ _ _ _ | exact Kd.Q_nil _ _ _ _ _ | exact Kd.S_nil _ _ _ _ _,by first | exact Kd.S_nil _ _ _ _ _ | exact Kd.N_nil _ _ _ _ _ | exact Kd.V_nil _ _ _ _ _ | exact Kd.Q_nil _ _ _ _ _ | exact Kd.R_nil _ _ _ _ _,zl_ HB⟩
   subst c26
   rw [if_pos rfl] at H
   replace H := Option.bind_eq_some_iff.mp H
   obtain ⟨t337,A270,H⟩ := H
   try dsimp only at H
   have A27 := am_ A270
   clear A270
   have H' := am_ H
   clear H
   try go_wp2_with (first | ((with_reducible refine gate_callee (f := 20) rfl ?_);refine zgl (some 35) Tryd.func20 #[.int .i64 a0,.slice A2 l2.length c2] ?_;(with_reducible refine (ZL.calls kj12 a0 _ _ l2 true _ ?side1 ?side2 A25.out).mono ?_);(case side1 => exact zc_ HR2 HB);(case side2 => exact HC2.out);rintro e w' ⟨rfl,⟨nd,rfl⟩⟩;refine ⟨_,rfl,?_⟩;(try (rw [drewN_self wc];generalize hq_ : World.drewN wc _ = wc;have n0_ : Aside0 (wc.heap[gb330]? = some (.cells #[.string a1_0,.int .i64 a1_1,.int .i64 a1_2,.int .i64 a1_3] 24 (0,0))) := ⟨by rw [← hq_];exact (zk BK330)⟩;have n1_ : Aside0 (wc.heap[gb331]? = some (.cells #[.string ⟨#[]⟩,.int .i64 0,.int .i64 0,.int .i64 0,.slice none 0 0,.slice none 0 0] 31 (0,0))) := ⟨by rw [← hq_];exact (zk BK331)⟩;have n2_ : Aside0 (Below w.heap.size w wc) := ⟨by rw [← hq_];exact (zl_ HB)⟩;clear BK330 BK331 HB hq_;have BK330 := n0_;have BK331 := n1_;have HB := n2_;clear n0_ n1_ n2_));(try have hfu330_0 := blk_frozen BK330.out 0);(try have hcu330_0 : wc.cell? ⟨gb330,0,none⟩ = some (.string a1_0) := (blk_cell BK330.out 0).trans rfl);(try have hfu330_1 := blk_frozen BK330.out 1);(try have hcu330_1 : wc.cell? ⟨gb330,1,none⟩ = some (.int .i64 a1_1) := (blk_cell BK330.out 1).trans rfl);(try have hfu330_2 := blk_frozen BK330.out 2);(try have hcu330_2 : wc.cell? ⟨gb330,2,none⟩ = some (.int .i64 a1_2) := (blk_cell BK330.out 2).trans rfl);(try have hfu330_3 := blk_frozen BK330.out 3);(try have hcu330_3 : wc.cell? ⟨gb330,3,none⟩ = some (.int .i64 a1_3) := (blk_cell BK330.out 3).trans rfl);(try have hfu331_0 := blk_frozen BK331.out 0);(try have hcu331_0 : wc.cell? ⟨gb331,0,none⟩ = some (.string ⟨#[]⟩) := (blk_cell BK331.out 0).trans rfl);(try have hfu331_1 := blk_frozen BK331.out 1);(try have hcu331_1 : wc.cell? ⟨gb331,1,none⟩ = some (.int .i64 0) := (blk_cell BK331.out 1).trans rfl);(try have hfu331_2 := blk_frozen BK331.out 2);(try have hcu331_2 : wc.cell? ⟨gb331,2,none⟩ = some (.int .i64 0) := (blk_cell BK331.out 2).trans rfl);(try have hfu331_3 := blk_frozen BK331.out 3);(try have hcu331_3 : wc.cell? ⟨gb331,3,none⟩ = some (.int .i64 0) := (blk_cell BK331.out 3).trans rfl);(try have hfu331_4 := blk_frozen BK331.out 4);(try have hcu331_4 : wc.cell? ⟨gb331,4,none⟩ = some (.slice none 0 0) := (blk_cell BK331.out 4).trans rfl);(try have hfu331_5 := blk_frozen BK331.out 5);(try have hcu331_5 : wc.cell? ⟨gb331,5,none⟩ = some (.slice none 0 0) := (blk_cell BK331.out 5).trans rfl)))
   replace BK330 := am_ (blk_drew BK330.out)
   replace BK331 := am_ (blk_drew BK331.out)
   replace HB := am_ (below_drew1 HB.out)
   refine start_ (n := 6) (S := fun w' => w'.cell? ⟨gb330,0,none⟩ = some (.string a1_0) ∧ w'.cell? ⟨gb330,1,none⟩ = some (.int .i64 a1_1) ∧ w'.cell? ⟨gb330,2,none⟩ = some (.int .i64 a1_2) ∧ w'.cell? ⟨gb330,3,none⟩ = some (.int .i64 a1_3)) (ds := []) #[false,false,false,false,false,false] (by kernel_rfl) rfl rfl ⟨(blk_cell BK330.out 0).trans rfl,(blk_cell BK330.out 1).trans rfl,(blk_cell BK330.out 2).trans rfl,(blk_cell BK330.out 3).trans rfl⟩ (fun hHeld => ?_)
   generalize wc.drew = w28 at BK330 BK331 HB hHeld ⊢
   refine pure_ (i := 1) (N := some 39) (v := ?_) (a' := ?_) #[false,true,false,false,false,false] rfl rfl (by kernel_rfl) (fun _ _ _ h => h) (Or.inl ⟨by rfl,?_⟩) ?_ ?_
   rotate_left
   ·intro w'
    go_simp
    with_reducible rfl
   rotate_left
   ·simp only [Act.put,p1_,p2_,p3_,i64_w,i32_w]
    rfl
   refine take_ (i := 0) (N := some 38) (v := ?_) (a' := ?_) #[true,true,false,false,false,false] rfl rfl (by kernel_rfl) (fun _ _ _ h => h) (Or.inl ⟨by rfl,?_⟩) hHeld ?_ ?_
   rotate_left
   ·rintro w' ⟨s0,s1,s2,s3⟩
    go_simp
    with_reducible rfl
   rotate_left
   ·simp only [Act.put,p1_,p2_,p3_,i64_w,i32_w]
    rfl
   refine join_ (σ := Value × Nat) 1 #[true,true,true,true,true,false] (fun s_ => [(40,s_.1),(10,.pointer (some ⟨s_.2,0,none⟩)),(41,.agg #[.string a1_0,.int .i64 a1_1,.int .i64 a1_2,.int .i64 a1_3,s_.1,.slice none 0 0])]) (fun s_ w' => (w'.cell? ⟨gb330,0,none⟩ = some (.string a1_0) ∧ w'.cell? ⟨gb330,1,none⟩ = some (.int .i64 a1_1) ∧ w'.cell? ⟨gb330,2,none⟩ = some (.int .i64 a1_2) ∧ w'.cell? ⟨gb330,3,none⟩ = some (.int .i64 a1_3)) ∧ (Kd.R (Kd.int .i64) 3 w' w.heap.size (fun _ => True) s_.1 t337) ∧ (w'.heap[gb330]? = some (.cells #[.string a1_0,.int .i64 a1_1,.int .i64 a1_2,.int .i64 a1_3] 24 (0,0))) ∧ (w'.heap[gb331]? = some (.cells #[.string ⟨#[]⟩,.int .i64 0,.int .i64 0,.int .i64 0,.slice none 0 0,.slice none 0 0] 31 (0,0))) ∧ (w'.heap[s_.2]? = some (.cells #[.string ⟨#[]⟩,.int .i64 0,.int .i64 0,.int .i64 0,.slice none 0 0,.slice none 0 0] 31 (0,0))) ∧ (w.heap.size ≤ s_.2) ∧ (w.heap.size ≤ s_.2) ∧ (gb330 ≠ s_.2) ∧ (s_.2 ≠ gb330) ∧ (gb331 ≠ s_.2) ∧ (s_.2 ≠ gb331) ∧ (Below w.heap.size w w')) ?_ ?_
   rotate_left
   ·intro hCont
    refine two_ (i := 2) (j := 4) (Ni := some 40) (Nj := some 10) #[true,true,true,false,false,false] #[true,true,false,false,true,false] rfl rfl rfl rfl (by kernel_rfl) (by decide) (by decide) (fun K hK => ?_) (fun K hK => ?_)
    ·skip
     refine zgo Tryd.func21 #[.slice A2 l2.length c2] ?_
     with_reducible refine (Yd.calls _ _ l2 t337 _ ?side1 ?side2 A27.out).mono ?_
     (case side1 => exact zc_ HR2 HB)
     (case side2 => exact HC2.out)
     rintro e w29 ⟨v338,rfl,ho0,hb⟩
     refine ⟨_,rfl,?_⟩
     have HO339 := am_ (Kd.R_lower ho0 (below_size (zl_ HB)))
     replace BK330 := zb BK330 hb
     replace BK331 := zb BK331 hb
     replace HB := zs_ HB hb
     try clear hb
     (try clear ho0)
     obtain ⟨Ao30,co30,eo30⟩ := Kd.R_slice HO339.out
     (first | subst eo30 | (injection eo30 with f1_ f2_ f3_;have f4_ := f1_.symm;have f5_ := f3_.symm;clear f1_ f2_ f3_;subst f4_;subst f5_))
     refine hK.out _ _ ⟨(blk_cell BK330.out 0).trans rfl,(blk_cell BK330.out 1).trans rfl,(blk_cell BK330.out 2).trans rfl,(blk_cell BK330.out 3).trans rfl⟩ (fun hHeld => ?_)
     clear hK K
     refine nm_ ?_
     refine pure_ (i := 3) (N := some 41) (v := ?_) (a' := ?_) #[true,true,true,true,false,false] rfl rfl (by kernel_rfl) (fun _ _ _ h => h) (Or.inl ⟨by rfl,?_⟩) ?_ ?_
     rotate_left
     ·intro w'
      go_simp
      with_reducible rfl
     rotate_left
     ·simp only [Act.put,p1_,p2_,p3_,i64_w,i32_w]
      rfl
     refine one_ (i := 4) (N := some 10) #[true,true,true,true,true,false] rfl rfl (by kernel_rfl) (by decide) (fun K hK => ?_)
     refine box_step ?hg (N := 10) ?hd (cs := #[.string ⟨#[]⟩,.int .i64 0,.int .i64 0,.int .i64 0,.slice none 0 0,.slice none 0 0]) (t := 31) ?hr ?_;(case hd => rfl);(case hg => rfl);(case hr => first | (go_simp;done) | (go_simp;rfl))
     intro gb340 hg w31 hbox hb
     replace HO339 := zrb HO339 hb
     have BK340 := am_ (hbox)
     have GW340 := zw_ HB hg
     have GE340 := zw_ HB hg
     replace HB := zs_ HB hb
     have NB330_340 := zl hg BK330
     have NB340_330 := zg hg BK330
     replace BK330 := zb BK330 hb
     have NB331_340 := zl hg BK331
     have NB340_331 := zg hg BK331
     replace BK331 := zb BK331 hb
     clear hb hbox hg
     refine hK.out _ _ ⟨(blk_cell BK330.out 0).trans rfl,(blk_cell BK330.out 1).trans rfl,(blk_cell BK330.out 2).trans rfl,(blk_cell BK330.out 3).trans rfl⟩ (fun hHeld => ?_)
     clear hK K
     refine nm_ ?_
     exact norm_ (by simp only [putAll,Act.put,p1_,p2_,p3_]) (hCont (.slice Ao30 t337.length co30,gb340) _ ⟨hHeld,(zr HO339),(zk BK330),(zk BK331),(zk BK340),GW340.out,GE340.out,NB330_340.out,NB340_330.out,NB331_340.out,NB340_331.out,(zl_ HB)⟩)
    ·skip
     refine box_step ?hg (N := 10) ?hd (cs := #[.string ⟨#[]⟩,.int .i64 0,.int .i64 0,.int .i64 0,.slice none 0 0,.slice none 0 0]) (t := 31) ?hr ?_;(case hd => rfl);(case hg => rfl);(case hr => first | (go_simp;done) | (go_simp;rfl))
     intro gb340 hg w29 hbox hb
     have BK340 := am_ (hbox)
     have GW340 := zw_ HB hg
     have GE340 := zw_ HB hg
     replace HB := zs_ HB hb
     have NB330_340 := zl hg BK330
     have NB340_330 := zg hg BK330
     replace BK330 := zb BK330 hb
     have NB331_340 := zl hg BK331
     have NB340_331 := zg hg BK331
     replace BK331 := zb BK331 hb
     clear hb hbox hg
     refine hK.out _ _ ⟨(blk_cell BK330.out 0).trans rfl,(blk_cell BK330.out 1).trans rfl,(blk_cell BK330.out 2).trans rfl,(blk_cell BK330.out 3).trans rfl⟩ (fun hHeld => ?_)
     clear hK K
     refine nm_ ?_
     refine one_ (i := 2) (N := some 40) #[true,true,true,false,true,false] rfl rfl (by kernel_rfl) (by decide) (fun K hK => ?_)
     refine zgo Tryd.func21 #[.slice A2 l2.length c2] ?_
     with_reducible refine (Yd.calls _ _ l2 t337 _ ?side1 ?side2 A27.out).mono ?_
     (case side1 => exact zc_ HR2 HB)
     (case side2 => exact HC2.out)
     rintro e w30 ⟨v338,rfl,ho0,hb⟩
     refine ⟨_,rfl,?_⟩
     have HO339 := am_ (Kd.R_lower ho0 (below_size (zl_ HB)))
     replace BK330 := zb BK330 hb
     replace BK331 := zb BK331 hb
     replace BK340 := zb BK340 hb
     replace HB := zs_ HB hb
     try clear hb
     (try clear ho0)
     obtain ⟨Ao31,co31,eo31⟩ := Kd.R_slice HO339.out
     (first | subst eo31 | (injection eo31 with f1_ f2_ f3_;have f4_ := f1_.symm;have f5_ := f3_.symm;clear f1_ f2_ f3_;subst f4_;subst f5_))
     refine hK.out _ _ ⟨(blk_cell BK330.out 0).trans rfl,(blk_cell BK330.out 1).trans rfl,(blk_cell BK330.out 2).trans rfl,(blk_cell BK330.out 3).trans rfl⟩ (fun hHeld => ?_)
     clear hK K
     refine nm_ ?_
     refine pure_ (i := 3) (N := some 41) (v := ?_) (a' := ?_) #[true,true,true,true,true,false] rfl rfl (by kernel_rfl) (fun _ _ _ h => h) (Or.inl ⟨by rfl,?_⟩) ?_ ?_
     rotate_left
     ·intro w'
      go_simp
      with_reducible rfl
     rotate_left
     ·simp only [Act.put,p1_,p2_,p3_,i64_w,i32_w]
      rfl
     exact norm_ (by simp only [putAll,Act.put,p1_,p2_,p3_]) (hCont (.slice Ao31 t337.length co31,gb340) _ ⟨hHeld,(zr HO339),(zk BK330),(zk BK331),(zk BK340),GW340.out,GE340.out,NB330_340.out,NB340_330.out,NB331_340.out,NB340_331.out,(zl_ HB)⟩)
   rintro ⟨v338,gb340⟩ w32 ⟨hS_,h0_,h1_,h2_,h3_,h4_,h5_,h6_,h7_,h8_,h9_,h10_⟩
   have n0_ : Aside0 (Kd.R (Kd.int .i64) 3 w32 w.heap.size (fun _ => True) v338 t337) := ⟨h0_⟩
   have n1_ : Aside0 (w32.heap[gb330]? = some (.cells #[.string a1_0,.int .i64 a1_1,.int .i64 a1_2,.int .i64 a1_3] 24 (0,0))) := ⟨h1_⟩
   have n2_ : Aside0 (w32.heap[gb331]? = some (.cells #[.string ⟨#[]⟩,.int .i64 0,.int .i64 0,.int .i64 0,.slice none 0 0,.slice none 0 0] 31 (0,0))) := ⟨h2_⟩
   have n3_ : Aside0 (w32.heap[gb340]? = some (.cells #[.string ⟨#[]⟩,.int .i64 0,.int .i64 0,.int .i64 0,.slice none 0 0,.slice none 0 0] 31 (0,0))) := ⟨h3_⟩
   have n4_ : Aside0 (w.heap.size ≤ gb340) := ⟨h4_⟩
   have n5_ : Aside0 (w.heap.size ≤ gb340) := ⟨h5_⟩
   have n6_ : Aside0 (gb330 ≠ gb340) := ⟨h6_⟩
   have n7_ : Aside0 (gb340 ≠ gb330) := ⟨h7_⟩
   have n8_ : Aside0 (gb331 ≠ gb340) := ⟨h8_⟩
   have n9_ : Aside0 (gb340 ≠ gb331) := ⟨h9_⟩
   have n10_ : Aside0 (Below w.heap.size w w32) := ⟨h10_⟩
   clear BK330
   clear BK331
   clear HB
   clear h0_ h1_ h2_ h3_ h4_ h5_ h6_ h7_ h8_ h9_ h10_
   have HO339 := n0_
   have BK330 := n1_
   have BK331 := n2_
   have BK340 := n3_
   have GW340 := n4_
   have GE340 := n5_
   have NB330_340 := n6_
   have NB340_330 := n7_
   have NB331_340 := n8_
   have NB340_331 := n9_
   have HB := n10_
   clear n0_ n1_ n2_ n3_ n4_ n5_ n6_ n7_ n8_ n9_ n10_
   have hHeld : w32.cell? ⟨gb330,0,none⟩ = some (.string a1_0) ∧ w32.cell? ⟨gb330,1,none⟩ = some (.int .i64 a1_1) ∧ w32.cell? ⟨gb330,2,none⟩ = some (.int .i64 a1_2) ∧ w32.cell? ⟨gb330,3,none⟩ = some (.int .i64 a1_3) := hS_
   obtain ⟨Ao33,co33,eo33⟩ := Kd.R_slice HO339.out
   (first | subst eo33 | (injection eo33 with f1_ f2_ f3_;have f4_ := f1_.symm;have f5_ := f3_.symm;clear f1_ f2_ f3_;subst f4_;subst f5_))
   refine norm_ (a' := ?_) ?_ ?_
   rotate_left
   ·simp only [putAll,Act.put,p1_,p2_,p3_]
    rfl
   refine one_ (i := 5) (N := none) #[true,true,true,true,true,true] rfl rfl (by kernel_rfl) (by decide) (fun K hK => ?_)
   have hs34 : w32.cell? ⟨gb340,0,none⟩ = some (.string ⟨#[]⟩) := (blk_cell BK340.out 0).trans rfl
   have hfs34 := blk_frozen BK340.out 0
   have hns34_0 := NB330_340.out
   have hns34_1 := NB331_340.out
   have hms34_0 := NB340_330.out
   have hms34_1 := NB340_331.out
   have hs35 : w32.cell? ⟨gb340,1,none⟩ = some (.int .i64 0) := (blk_cell BK340.out 1).trans rfl
   have hfs35 := blk_frozen BK340.out 1
   have hns35_0 := NB330_340.out
   have hns35_1 := NB331_340.out
   have hms35_0 := NB340_330.out
   have hms35_1 := NB340_331.out
   have hs36 : w32.cell? ⟨gb340,2,none⟩ = some (.int .i64 0) := (blk_cell BK340.out 2).trans rfl
   have hfs36 := blk_frozen BK340.out 2
   have hns36_0 := NB330_340.out
   have hns36_1 := NB331_340.out
   have hms36_0 := NB340_330.out
   have hms36_1 := NB340_331.out
   have hs37 : w32.cell? ⟨gb340,3,none⟩ = some (.int .i64 0) := (blk_cell BK340.out 3).trans rfl
   have hfs37 := blk_frozen BK340.out 3
   have hns37_0 := NB330_340.out
   have hns37_1 := NB331_340.out
   have hms37_0 := NB340_330.out
   have hms37_1 := NB340_331.out
   have hs38 : w32.cell? ⟨gb340,4,none⟩ = some (.slice none 0 0) := (blk_cell BK340.out 4).trans rfl
   have hfs38 := blk_frozen BK340.out 4
   have hns38_0 := NB330_340.out
   have hns38_1 := NB331_340.out
   have hms38_0 := NB340_330.out
   have hms38_1 := NB340_331.out
   have hs39 : w32.cell? ⟨gb340,5,none⟩ = some (.slice none 0 0) := (blk_cell BK340.out 5).trans rfl
   have hfs39 := blk_frozen BK340.out 5
   have hns39_0 := NB330_340.out
   have hns39_1 := NB331_340.out
   have hms39_0 := NB340_330.out
   have hms39_1 := NB340_331.out
   refine skip_ (w1 := ?_) (by rfl) rfl ?_ ?_
   rotate_left
   ·go_simp
    rfl
   refine hK.out _ _ ⟨((cell_far (p := ⟨gb340,_,none⟩) NB330_340.out _).trans (((cell_far (p := ⟨gb340,_,none⟩) NB330_340.out _).trans (((cell_far (p := ⟨gb340,_,none⟩) NB330_340.out _).trans (((cell_far (p := ⟨gb340,_,none⟩) NB330_340.out _).trans (((cell_far (p := ⟨gb340,_,none⟩) NB330_340.out _).trans (((cell_far (p := ⟨gb340,_,none⟩) NB330_340.out _).trans (hHeld.1)))))))))))),((cell_far (p := ⟨gb340,_,none⟩) NB330_340.out _).trans (((cell_far (p := ⟨gb340,_,none⟩) NB330_340.out _).trans (((cell_far (p := ⟨gb340,_,none⟩) NB330_340.out _).trans (((cell_far (p := ⟨gb340,_,none⟩) NB330_340.out _).trans (((cell_far (p := ⟨gb340,_,none⟩) NB330_340.out _).trans (((cell_far (p := ⟨gb340,_,none⟩) NB330_340.out _).trans (hHeld.2.1)))))))))))),((cell_far (p := ⟨gb340,_,none⟩) NB330_340.out _).trans (((cell_far (p := ⟨gb340,_,none⟩) NB330_340.out _).trans (((cell_far (p := ⟨gb340,_,none⟩) NB330_340.out _).trans (((cell_far (p := ⟨gb340,_,none⟩) NB330_340.out _).trans (((cell_far (p := ⟨gb340,_,none⟩) NB330_340.out _).trans (((cell_far (p := ⟨gb340,_,none⟩) NB330_340.out _).trans (hHeld.2.2.1)))))))))))),((cell_far (p := ⟨gb340,_,none⟩) NB330_340.out _).trans (((cell_far (p := ⟨gb340,_,none⟩) NB330_340.out _).trans (((cell_far (p := ⟨gb340,_,none⟩) NB330_340.out _).trans (((cell_far (p := ⟨gb340,_,none⟩) NB330_340.out _).trans (((cell_far (p := ⟨gb340,_,none⟩) NB330_340.out _).trans (((cell_far (p := ⟨gb340,_,none⟩) NB330_340.out _).trans (hHeld.2.2.2))))))))))))⟩ (fun hHeld => ?_)
   clear hK K
   refine done_ (by kernel_rfl) ?_
   try go_wp2
   go_loopg [44] kj12 (fun kq v44 w' => ∃ (x44_2 : Int) (x341005_2 : List (S37)) (u341005 : Value),v44 = .int .i64 x44_2 ∧ Aside0 (Zg.l0 kq a3 l2 (l2.length : Int) x44_2 a1_0 a1_1 a1_2 a1_3 a1_0 a1_1 a1_2 a1_3 t337 x341005_2 = some (r1,r2,r3,r4,r5,r6,r7)) ∧ Aside0 (kq ≤ kj12) ∧ Aside0 (Kd.R (Kd.int .i64) 3 w' w.heap.size (fun _ => True) (.slice Ao33 t337.length co33) t337) ∧ Aside0 (Kd.S k37 37 w' w.heap.size (fun _ => True) u341005 x341005_2) ∧ Aside0 (w'.heap[gb330]? = some (.cells #[.string a1_0,.int .i64 a1_1,.int .i64 a1_2,.int .i64 a1_3] 24 (0,0))) ∧ Aside0 (w'.heap[gb331]? = some (.cells #[.string ⟨#[]⟩,.int .i64 0,.int .i64 0,.int .i64 0,(.slice none 0 0),(.slice none 0 0)] 31 (0,0))) ∧ Aside0 (w'.heap[gb340]? = some (.cells #[.string a1_0,.int .i64 a1_1,.int .i64 a1_2,.int .i64 a1_3,(.slice Ao33 t337.length co33),u341005] 31 (0,0))) ∧ Aside0 (Below w.heap.size w w'))
   case atStart => exact ⟨(0),(([] : List (S37))),(.slice none 0 0),(by first | rfl | (simp;done) | (simp [*];done)),H',⟨Nat.le_refl _⟩,⟨by (with_reducible repeat (first | apply r1_ | apply r2_ | apply r3_));exact Kd.R_mono (zrf (Kd.R_types HO339.out BK340.out (by decide))) (fun _ hk => trivial)⟩,⟨by first | exact Kd.S_nil _ _ _ _ _ | exact Kd.N_nil _ _ _ _ _ | exact Kd.V_nil _ _ _ _ _ | exact Kd.Q_nil _ _ _ _ _ | exact Kd.R_nil _ _ _ _ _⟩,⟨zq BK330⟩,⟨zq BK331⟩,⟨zq BK340⟩,⟨zl_ HB⟩⟩
   case round =>
    clear H'
    try clear c1
    try clear c2
    try clear p2
    try clear c6
    try clear c9
    try clear c12
    try clear c16
    try clear c17
    try clear c18
    try clear c20
    try clear c21
    try clear c22
    try clear c23
    try clear c26
    try clear hcz10_0
    try clear hcz10_1
    try clear hcz10_2
    try clear hcz10_3
    try clear hcz10_4
    try clear hcz10_5
    try clear hcz17_0
    try clear hcz17_1
    try clear hcz17_2
    try clear hcz17_3
    try clear hcz24_0
    try clear hcz24_1
    try clear hcz24_2
    try clear hcz24_3
    try clear hcz24_4
    try clear hcz24_5
    try clear hfz10_0
    try clear hfz10_1
    try clear hfz10_2
    try clear hfz10_3
    try clear hfz10_4
    try clear hfz10_5
    try clear hfz17_0
    try clear hfz17_1
    try clear hfz17_2
    try clear hfz17_3
    try clear hfz24_0
    try clear hfz24_1
    try clear hfz24_2
    try clear hfz24_3
    try clear hfz24_4
    try clear hfz24_5
    try clear p2
    obtain ⟨x44_2,x341005_2,u341005,rfl,HA,HK2,HO_341004,HO_341005,BK330,BK331,BK340,HB⟩ := hrel
    cases gk with
    | zero => exact absurd HA.out (by simp [Zg.l0])
    | succ k2 =>
     have H := HA.out
     clear HA
     simp only [Zg.l0] at H
     by_cases c40 : x44_2 < (l2.length : Int)
     case neg =>
      rw [if_neg c40] at H
      have c40b0 := decide_eq_false c40
      clear c40
      simp only [Option.some.injEq,Prod.mk.injEq] at H
      obtain ⟨rfl,rfl,rfl,rfl,rfl,rfl,rfl⟩ := H
      have hnb57 := NB340_330.out
      have hnc57 := NB330_340.out
      have hnb58 := NB340_331.out
      have hnc58 := NB331_340.out
      obtain ⟨hcz59_0,hcz59_1,hcz59_2,hcz59_3,hcz59_4,hcz59_5,hfz59_0,hfz59_1,hfz59_2,hfz59_3,hfz59_4,hfz59_5⟩ := zc6 BK340
      have hnb60 := NB331_330.out
      have hnc60 := NB330_331.out
      obtain ⟨hcz61_0,hcz61_1,hcz61_2,hcz61_3,hcz61_4,hcz61_5,hfz61_0,hfz61_1,hfz61_2,hfz61_3,hfz61_4,hfz61_5⟩ := zc6 BK331
      obtain ⟨Ao62,co62,eo62⟩ := Kd.S_slice HO_341005.out
      subst eo62
      go_wp2
      refine bodyPost_ret (results_ct rfl _ _ gb331 31 #[.string a1_0,.int .i64 a1_1,.int .i64 a1_2,.int .i64 a1_3,.slice Ao33 t337.length co33,.slice Ao62 x341005_2.length co62] (0,0) _ rfl (zq BK331) Tryd.underlying31 rfl (by kernel_rfl)) rfl ?_
      exact ⟨_,_,zt_,by (with_reducible repeat (first | apply r1_ | apply r2_ | apply r3_));exact Kd.R_mono (zrf (Kd.R_types HO_341004.out BK331.out (by decide))) (fun _ hk => trivial),by (with_reducible repeat (first | apply Kd.S_alloc | apply Kd.S_drewN | apply Kd.S_drew));exact Kd.S_mono (Kd.S_far (p := ⟨gb331,5,none⟩) (Kd.S_far (p := ⟨gb331,4,none⟩) (Kd.S_far (p := ⟨gb331,3,none⟩) (Kd.S_far (p := ⟨gb331,2,none⟩) (Kd.S_far (p := ⟨gb331,1,none⟩) (Kd.S_far (p := ⟨gb331,0,none⟩) (Kd.S_types HO_341005.out BK331.out (by decide)) (fun _ hk => hk.2) (.string a1_0)) (fun _ hk => hk.2) (.int .i64 a1_1)) (fun _ hk => hk.2) (.int .i64 a1_2)) (fun _ hk => hk.2) (.int .i64 a1_3)) (fun _ hk => hk.2) (.slice Ao33 t337.length co33)) (fun _ hk => hk.2) (.slice Ao62 x341005_2.length co62)) (fun _ hk => trivial),zl_ HB⟩
     rw [if_pos c40] at H
     have c40b0 := decide_eq_true c40
     clear c40
     by_cases c41 : 0 ≤ x44_2
     case neg =>
      rw [if_neg c41] at H
      exact absurd H (by simp)
     rw [if_pos c41] at H
     have c41b0 := decide_eq_true c41
     clear c41
     by_cases c42 : x44_2 < (l2.length : Int)
     case neg =>
      rw [if_neg c42] at H
      exact absurd H (by simp)
     rw [if_pos c42] at H
     have c42b0 := decide_eq_true c42
     clear c42
     replace H := Option.bind_eq_some_iff.mp H
     obtain ⟨t342,A430,H⟩ := H
     try dsimp only at H
     have A43 := am_ A430
     clear A430
     replace H := Option.bind_eq_some_iff.mp H
     obtain ⟨t343,A440,H⟩ := H
     try dsimp only at H
     have A44 := am_ A440
     clear A440
     replace H := Option.bind_eq_some_iff.mp H
     obtain ⟨⟨t344,t345,t348,t351⟩,A450,H⟩ := H
     try dsimp only at H
     have A45 := am_ A450
     clear A450
     by_cases c46 : x341005_2.length < 1759218604441
     case neg =>
      rw [if_neg c46] at H
      exact absurd H (by simp)
     rw [if_pos c46] at H
     have LMc46 := am_ c46
     clear c46
     obtain ⟨y354,hy354⟩ : ∃ y_ : List (S37),y_ = (x341005_2 ++ [(⟨t344,t345,t348,t351⟩ : S37)]) := ⟨_,rfl⟩
     replace H : (Zg.l0 k2 a3 l2 (l2.length : Int) (wrap64 (x44_2 + 1)) a1_0 a1_1 a1_2 a1_3 a1_0 a1_1 a1_2 a1_3 t337 y354) = some (r1,r2,r3,r4,r5,r6,r7) := by first | (rw [hy354];with_reducible exact H) | (have H2_ := (Option.bind_some _ _).symm.trans H;rw [hy354];with_reducible exact H2_) | (have H2_ := (Option.bind_some _ _).symm.trans H;with_reducible exact H2_) | with_reducible exact H | (rw [hy354];exact H) | exact H
     have Ny354 := am_ hy354
     clear hy354
     have H' := am_ H
     clear H
     have p341 : 0 ≤ (x44_2 : Int) := zo_
     have q341 : x44_2 < (l2.length : Int) := zo_
     obtain ⟨ad341,e341,hx341_0⟩ := Kd.at_int HR2.out x44_2 p341 q341
     cases e341
     replace hx341_0 := zx_ HB hx341_0
     replace p341 := eq_true p341
     replace q341 := eq_true q341
     try go_wp2
     replace HO_341004 := am_ (Kd.R_drew HO_341004.out)
     replace HO_341005 := am_ (Kd.S_drew HO_341005.out)
     replace BK330 := am_ (blk_drew BK330.out)
     replace BK331 := am_ (blk_drew BK331.out)
     replace BK340 := am_ (blk_drew BK340.out)
     replace HB := am_ (below_drew1 HB.out)
     refine start_ (n := 12) (S := fun w' => w'.cell? ⟨gb340,0,none⟩ = some (.string a1_0) ∧ w'.cell? ⟨gb340,1,none⟩ = some (.int .i64 a1_1) ∧ w'.cell? ⟨gb340,2,none⟩ = some (.int .i64 a1_2) ∧ w'.cell? ⟨gb340,3,none⟩ = some (.int .i64 a1_3) ∧ w'.cell? ⟨gb340,4,none⟩ = some (.slice Ao33 t337.length co33) ∧ w'.cell? ⟨gb340,5,none⟩ = some (u341005) ∧ w'.cell? ⟨gb330,0,none⟩ = some (.string a1_0) ∧ w'.cell? ⟨gb330,1,none⟩ = some (.int .i64 a1_1) ∧ w'.cell? ⟨gb330,2,none⟩ = some (.int .i64 a1_2) ∧ w'.cell? ⟨gb330,3,none⟩ = some (.int .i64 a1_3)) (ds := [11]) #[false,false,false,false,false,false,false,false,false,false,false,false] (by kernel_rfl) rfl rfl ⟨(blk_cell BK340.out 0).trans rfl,(blk_cell BK340.out 1).trans rfl,(blk_cell BK340.out 2).trans rfl,(blk_cell BK340.out 3).trans rfl,(blk_cell BK340.out 4).trans rfl,(blk_cell BK340.out 5).trans rfl,(blk_cell BK330.out 0).trans rfl,(blk_cell BK330.out 1).trans rfl,(blk_cell BK330.out 2).trans rfl,(blk_cell BK330.out 3).trans rfl⟩ (fun hHeld => ?_);refine with_tabW Zg.tab13 Zg.bits13 (fun HT_ HW_ => ?_)
     generalize wr.drew = w47 at HO_341004 HO_341005 BK330 BK331 BK340 HB hHeld ⊢
     refine pu_ 0 48 HT_ ?_
     refine pu_ 2 50 HT_ ?_
     refine pu_ 4 52 HT_ ?_
     refine tk_ 1 49 HT_ HW_ hHeld ?_
     refine tk_ 5 53 HT_ HW_ hHeld ?_
     refine zon 3 (N := some 51) HT_ (fun K hK => ?_)
     refine zgo Tryd.func23 #[.int .i64 (rd l2 x44_2)] ?_
     with_reducible refine (ZE.calls k2 (rd l2 x44_2) t342 _ ?side1 A43.out).mono ?_
     (case side1 => exact HLD.out.on (zl_ HB))
     rintro e w48 ⟨rfl,hb⟩
     refine ⟨_,rfl,?_⟩
     replace HO_341004 := zrb HO_341004 hb
     replace HO_341005 := am_ (Kd.S_below (by (with_reducible repeat (first | apply Kd.S_alloc | apply Kd.S_drewN | apply Kd.S_drew));exact HO_341005.out) hb)
     replace BK330 := zb BK330 hb
     replace BK331 := zb BK331 hb
     replace BK340 := zb BK340 hb
     replace HB := zs_ HB hb
     try clear hb
     refine hK.out _ _ ⟨(blk_cell BK340.out 0).trans rfl,(blk_cell BK340.out 1).trans rfl,(blk_cell BK340.out 2).trans rfl,(blk_cell BK340.out 3).trans rfl,(blk_cell BK340.out 4).trans rfl,(blk_cell BK340.out 5).trans rfl,(blk_cell BK330.out 0).trans rfl,(blk_cell BK330.out 1).trans rfl,(blk_cell BK330.out 2).trans rfl,(blk_cell BK330.out 3).trans rfl⟩ (fun hHeld => ?_)
     clear hK K
     refine nm_ ?_
     refine zon 6 (N := some 54) HT_ (fun K hK => ?_)
     refine zgo Tryd.func24 #[.agg #[.string a1_0,.int .i64 a1_1,.int .i64 a1_2,.int .i64 a1_3]] ?_
     with_reducible refine (ZO.calls a1_0 a1_1 a1_2 a1_3 t343 _ ?side1 A44.out).mono ?_
     (case side1 => exact HTD.out.on (zl_ HB))
     rintro e w49 ⟨rfl,hb⟩
     refine ⟨_,rfl,?_⟩
     replace HO_341004 := zrb HO_341004 hb
     replace HO_341005 := am_ (Kd.S_below (by (with_reducible repeat (first | apply Kd.S_alloc | apply Kd.S_drewN | apply Kd.S_drew));exact HO_341005.out) hb)
     replace BK330 := zb BK330 hb
     replace BK331 := zb BK331 hb
     replace BK340 := zb BK340 hb
     replace HB := zs_ HB hb
     try clear hb
     refine hK.out _ _ ⟨(blk_cell BK340.out 0).trans rfl,(blk_cell BK340.out 1).trans rfl,(blk_cell BK340.out 2).trans rfl,(blk_cell BK340.out 3).trans rfl,(blk_cell BK340.out 4).trans rfl,(blk_cell BK340.out 5).trans rfl,(blk_cell BK330.out 0).trans rfl,(blk_cell BK330.out 1).trans rfl,(blk_cell BK330.out 2).trans rfl,(blk_cell BK330.out 3).trans rfl⟩ (fun hHeld => ?_)
     clear hK K
     refine nm_ ?_
     refine zon 7 (N := some 55) HT_ (fun K hK => ?_)
     refine zgo Tryd.func22 #[.string t342,.int .i64 a3,.string t343] ?_
     with_reducible refine (Zj.calls k2 t342 a3 t343 t344 t345 t348 t351 _ ?side1 A45.out).mono ?_
     (case side1 => exact HLD.out.on (zl_ HB))
     rintro e w50 ⟨v346,v349,v352,rfl,ho0,ho1,ho2,hb⟩
     refine ⟨_,rfl,?_⟩
     replace HO_341004 := zrb HO_341004 hb
     replace HO_341005 := am_ (Kd.S_mono (Kd.S_told (Kd.S_told (Kd.S_told (Kd.S_old (by (with_reducible repeat (first | apply Kd.S_alloc | apply Kd.S_drewN | apply Kd.S_drew));exact HO_341005.out) hb) (Kd.R_base ho0)) (Kd.R_base ho1)) (Kd.R_base ho2)) (fun _ h_ => h_.1))
     have HO347 := am_ (Kd.R_lower ho0 (below_size (zl_ HB)))
     have HO350 := am_ (Kd.R_lower ho1 (below_size (zl_ HB)))
     have HO353 := am_ (Kd.R_lower ho2 (below_size (zl_ HB)))
     replace BK330 := zb BK330 hb
     replace BK331 := zb BK331 hb
     replace BK340 := zb BK340 hb
     replace HB := zs_ HB hb
     try clear hb
     (try clear ho0)
     (try clear ho1)
     (try clear ho2)
     obtain ⟨Ao52,co52,eo52⟩ := Kd.R_slice HO347.out
     (first | subst eo52 | (injection eo52 with f1_ f2_ f3_;have f4_ := f1_.symm;have f5_ := f3_.symm;clear f1_ f2_ f3_;subst f4_;subst f5_))
     obtain ⟨Ao53,co53,eo53⟩ := Kd.R_slice HO350.out
     (first | subst eo53 | (injection eo53 with f1_ f2_ f3_;have f4_ := f1_.symm;have f5_ := f3_.symm;clear f1_ f2_ f3_;subst f4_;subst f5_))
     obtain ⟨Ao54,co54,eo54⟩ := Kd.R_slice HO353.out
     (first | subst eo54 | (injection eo54 with f1_ f2_ f3_;have f4_ := f1_.symm;have f5_ := f3_.symm;clear f1_ f2_ f3_;subst f4_;subst f5_))
     refine hK.out _ _ ⟨(blk_cell BK340.out 0).trans rfl,(blk_cell BK340.out 1).trans rfl,(blk_cell BK340.out 2).trans rfl,(blk_cell BK340.out 3).trans rfl,(blk_cell BK340.out 4).trans rfl,(blk_cell BK340.out 5).trans rfl,(blk_cell BK330.out 0).trans rfl,(blk_cell BK330.out 1).trans rfl,(blk_cell BK330.out 2).trans rfl,(blk_cell BK330.out 3).trans rfl⟩ (fun hHeld => ?_)
     clear hK K
     refine nm_ ?_
     refine zon 8 (N := some 56) HT_ (fun K hK => ?_)
     refine value_ (w1 := ?_) (v := ?_) (by rfl) rfl ?_ ?_
     rotate_left 2
     ·go_simp
      constructor
      ·rfl
      ·rfl
     refine hK.out _ _ ⟨(blk_cell (blk_alloc BK340.out _) 0).trans rfl,(blk_cell (blk_alloc BK340.out _) 1).trans rfl,(blk_cell (blk_alloc BK340.out _) 2).trans rfl,(blk_cell (blk_alloc BK340.out _) 3).trans rfl,(blk_cell (blk_alloc BK340.out _) 4).trans rfl,(blk_cell (blk_alloc BK340.out _) 5).trans rfl,(blk_cell (blk_alloc BK330.out _) 0).trans rfl,(blk_cell (blk_alloc BK330.out _) 1).trans rfl,(blk_cell (blk_alloc BK330.out _) 2).trans rfl,(blk_cell (blk_alloc BK330.out _) 3).trans rfl⟩ (fun hHeld => ?_)
     clear hK K
     refine nm_ ?_
     refine zon 9 (N := some 57) HT_ (fun K hK => ?_)
     refine Kd.S_append_step k37 (w0 := w) w.heap.size (by rfl) (.tmp 49) (.tmp 56) 29 37 (.agg #[(.int .i64 0),(.slice none 0 0),(.slice none 0 0),(.slice none 0 0)]) 80 rfl Tryd.underlying29 info37 rfl (by decide) (by omega) u341005 x341005_2 (⟨t344,t345,t348,t351⟩ : S37) [.int .i64 t344,.slice Ao52 t345.length co52,.slice Ao53 t348.length co53,.slice Ao54 t351.length co54] (fun _ => True) (fun k_ => some k_ = (.slice Ao52 t345.length co52 : Value).ownBlock ∨ some k_ = (.slice Ao53 t348.length co53 : Value).ownBlock ∨ some k_ = (.slice Ao54 t351.length co54 : Value).ownBlock) rfl rfl ?aP (fun k_ hk_ => hk_.elim (fun h_ => ((Kd.R_mono (ok' := fun k_ => ((fun _ => True)) k_ ∧ some k_ ≠ (u341005 : Value).ownBlock) (Kd.R_apart' (HO347.out) (Kd.S_typed HO_341005.out) (by decide)) (fun k_ hk => ⟨trivial,hk.2⟩))).1 k_ h_.symm) (fun h_ => h_.elim (fun h_ => ((Kd.R_mono (ok' := fun k_ => ((fun _ => True)) k_ ∧ some k_ ≠ (u341005 : Value).ownBlock) (Kd.R_apart' (HO350.out) (Kd.S_typed HO_341005.out) (by decide)) (fun k_ hk => ⟨trivial,hk.2⟩))).1 k_ h_.symm) (fun h_ => ((Kd.R_mono (ok' := fun k_ => ((fun _ => True)) k_ ∧ some k_ ≠ (u341005 : Value).ownBlock) (Kd.R_apart' (HO353.out) (Kd.S_typed HO_341005.out) (by decide)) (fun k_ hk => ⟨trivial,hk.2⟩))).1 k_ h_.symm))) ?aF ?aO ?aB ?aS ?aL ?_
     (case aP => exact k37_mkM _ _ _ (⟨t344,t345,t348,t351⟩ : S37) (Kd.R_mono (Kd.R_tight rfl (Kd.R_mono (ok' := fun k_ => ((fun _ => True)) k_ ∧ some k_ ≠ (u341005 : Value).ownBlock) (Kd.R_apart' (HO347.out) (Kd.S_typed HO_341005.out) (by decide)) (fun k_ hk => ⟨trivial,hk.2⟩))) (fun _ h_ => Or.inl h_)) (Kd.R_mono (Kd.R_tight rfl (Kd.R_mono (ok' := fun k_ => ((fun _ => True)) k_ ∧ some k_ ≠ (u341005 : Value).ownBlock) (Kd.R_apart' (HO350.out) (Kd.S_typed HO_341005.out) (by decide)) (fun k_ hk => ⟨trivial,hk.2⟩))) (fun _ h_ => Or.inr (Or.inl h_))) (Kd.R_mono (Kd.R_tight rfl (Kd.R_mono (ok' := fun k_ => ((fun _ => True)) k_ ∧ some k_ ≠ (u341005 : Value).ownBlock) (Kd.R_apart' (HO353.out) (Kd.S_typed HO_341005.out) (by decide)) (fun k_ hk => ⟨trivial,hk.2⟩))) (fun _ h_ => Or.inr (Or.inr (h_)))))
     (case aB => exact (zl_ HB))
     (case aF => exact (fun _ _ => trivial))
     (case aO => exact (by (with_reducible repeat (first | apply Kd.S_alloc | apply Kd.S_drewN | apply Kd.S_drew));exact Kd.S_mono HO_341005.out (fun k_ hk => ⟨trivial,fun e_ => e_.elim (fun h_ => hk.1.1.2 h_) (fun h_ => h_.elim (fun h_ => hk.1.2 h_) (fun h_ => hk.2 h_))⟩)))
     (case aS => exact (below_size (zl_ HB)))
     (case aL => have := LMc46.out;omega)
     intro v355 w51 ho hb hg hat
     rw [← Ny354.out] at ho
     replace HO_341004 := am_ (Kd.R_over' (zr HO_341004) (Kd.S_typed (by (with_reducible repeat (first | apply Kd.S_alloc | apply Kd.S_drewN | apply Kd.S_drew));exact HO_341005.out)) (by decide) hg)
     replace BK330 := am_ (blk_grown (g := gb330) (o := .cells #[.string a1_0,.int .i64 a1_1,.int .i64 a1_2,.int .i64 a1_3] 24 (0,0)) (zk BK330) hg (Kd.S_ne HO_341005.out BK330.out (by decide)))
     replace BK331 := am_ (blk_grown (g := gb331) (o := .cells #[.string ⟨#[]⟩,.int .i64 0,.int .i64 0,.int .i64 0,.slice none 0 0,.slice none 0 0] 31 (0,0)) (zk BK331) hg (Kd.S_ne HO_341005.out BK331.out (by decide)))
     replace BK340 := am_ (blk_grown (g := gb340) (o := .cells #[.string a1_0,.int .i64 a1_1,.int .i64 a1_2,.int .i64 a1_3,.slice Ao33 t337.length co33,u341005] 31 (0,0)) (zk BK340) hg (Kd.S_ne HO_341005.out BK340.out (by decide)))
     replace HB := am_ (hb)
     have HO356 := am_ (ho)
     clear HO_341005
     clear HO347
     clear HO350
     clear HO353
     clear ho hb hg hat
     obtain ⟨Ao55,co55,eo55⟩ := Kd.S_slice HO356.out
     (first | subst eo55 | (injection eo55 with f1_ f2_ f3_;have f4_ := f1_.symm;have f5_ := f3_.symm;clear f1_ f2_ f3_;subst f4_;subst f5_))
     refine hK.out _ _ ⟨(blk_cell BK340.out 0).trans rfl,(blk_cell BK340.out 1).trans rfl,(blk_cell BK340.out 2).trans rfl,(blk_cell BK340.out 3).trans rfl,(blk_cell BK340.out 4).trans rfl,(blk_cell BK340.out 5).trans rfl,(blk_cell BK330.out 0).trans rfl,(blk_cell BK330.out 1).trans rfl,(blk_cell BK330.out 2).trans rfl,(blk_cell BK330.out 3).trans rfl⟩ (fun hHeld => ?_)
     clear hK K
     refine nm_ ?_
     refine pu_ 10 58 HT_ ?_
     refine last_ (i := 11) (N := none) #[true,true,true,true,true,true,true,true,true,true,true,true] rfl rfl (one_of HT_.out (by kernel_rfl)) (by decide) (fun K hK => ?_)
     have hs56 : w51.cell? ⟨gb340,5,none⟩ = some (u341005) := (blk_cell BK340.out 5).trans rfl
     have hfs56 := blk_frozen BK340.out 5
     have hns56_0 := NB330_340.out
     have hns56_1 := NB331_340.out
     have hms56_0 := NB340_330.out
     have hms56_1 := NB340_331.out
     refine skip_ (w1 := ?_) (by rfl) rfl ?_ ?_
     rotate_left
     ·go_simp
      rfl
     refine hK.out _ _ ?_
     clear hK K
     refine done_ (done_of HT_.out (by kernel_rfl)) ?_
     try go_wp2
     go_roundg k2
     case measure => have := HJ12.out;have := HK2.out;omega
     case rel => exact ⟨(wrap64 (x44_2 + 1)),(y354),(.slice Ao55 y354.length co55),(by first | rfl | (simp;done) | (simp [*];done)),H',⟨by have := HJ12.out;have := HK2.out;omega⟩,⟨by (with_reducible repeat (first | apply r1_ | apply r2_ | apply r3_));exact Kd.R_mono (zrf (Kd.R_types HO_341004.out BK340.out (by decide))) (fun _ hk => trivial)⟩,⟨by (with_reducible repeat (first | apply Kd.S_alloc | apply Kd.S_drewN | apply Kd.S_drew));exact Kd.S_mono (Kd.S_far (p := ⟨gb340,5,none⟩) (Kd.S_types HO356.out BK340.out (by decide)) (fun _ hk => hk.2) (.slice Ao55 y354.length co55)) (fun _ hk => trivial)⟩,⟨zq BK330⟩,⟨zq BK331⟩,⟨zq BK340⟩,⟨zl_ HB⟩⟩
theorem ZZ.calls (k : Nat) (a0 : Int) (r1 : ByteArray) (r2 : Int) (w : World) (hL : Laid w) (h : ZZ.f k a0 = some (r1,r2)) :
  Calls Tryd.prog 10 #[.int .i64 a0] w fun e w' => e = .returned (.tuple #[.string r1,.int .i64 r2]) ∧ Below w.heap.size w w' := by
 have HLD := am_ hL
 clear hL
 have HB := am_ (Below.refl w.heap.size w)
 have H : ((ZH.f a0 0 6).bind fun t423 => (if t423 = true then ((ZE.f k a0).bind fun t424 => ((Zp.f k t424).bind fun t425 => (some (t425,0)))) else (some ((⟨#[]⟩ : ByteArray),4)))) = some (r1,r2) := h
 clear h
 replace H := Option.bind_eq_some_iff.mp H
 obtain ⟨t423,A20,H⟩ := H
 try dsimp only at H
 have A2 := am_ A20
 clear A20
 by_cases c3 : t423 = true
 case neg =>
  replace c3 := Bool.eq_false_iff.mpr c3
  subst c3
  rw [if_neg (show ¬ (false = true) by decide)] at H
  simp only [Option.some.injEq,Prod.mk.injEq] at H
  obtain ⟨rfl,rfl⟩ := H
  go_enter Tryd.func10,Tryd.ntmps10
  go_wp2_with (first | ((with_reducible refine gate_callee (f := 27) rfl ?_);refine zgl (some 5) Tryd.func27 #[.int .i64 a0,.int .i64 0,.int .i64 6] ?_;(with_reducible refine (ZH.calls a0 0 6 false _ A2.out).mono ?_);rintro e w' ⟨rfl,⟨nd,rfl⟩⟩;refine ⟨_,rfl,?_⟩))
  go_ret2
  exact ⟨zt_,zl_ HB⟩
 subst c3
 rw [if_pos rfl] at H
 replace H := Option.bind_eq_some_iff.mp H
 obtain ⟨t424,A40,H⟩ := H
 try dsimp only at H
 have A4 := am_ A40
 clear A40
 replace H := Option.bind_eq_some_iff.mp H
 obtain ⟨t425,A50,H⟩ := H
 try dsimp only at H
 have A5 := am_ A50
 clear A50
 simp only [Option.some.injEq,Prod.mk.injEq] at H
 obtain ⟨rfl,rfl⟩ := H
 go_enter Tryd.func10,Tryd.ntmps10
 go_wp2_with (first | ((with_reducible refine gate_callee (f := 27) rfl ?_);refine zgl (some 5) Tryd.func27 #[.int .i64 a0,.int .i64 0,.int .i64 6] ?_;(with_reducible refine (ZH.calls a0 0 6 true _ A2.out).mono ?_);rintro e w' ⟨rfl,⟨nd,rfl⟩⟩;refine ⟨_,rfl,?_⟩) | ((with_reducible refine gate_callee (f := 23) rfl ?_);refine zgl (some 8) Tryd.func23 #[.int .i64 a0] ?_;(with_reducible refine (ZE.calls k a0 t424 _ ?side1 A4.out).mono ?_);(case side1 => exact HLD.out.on (zl_ HB));rintro e w6 ⟨rfl,hb⟩;refine ⟨_,rfl,?_⟩;replace HB := zs_ HB hb;(try clear hb);(try clear hi)) | ((with_reducible refine gate_callee (f := 26) rfl ?_);refine zgl (some 9) Tryd.func26 #[.string t424] ?_;(with_reducible refine (Zp.calls k t424 t425 _ ?side1 A5.out).mono ?_);(case side1 => exact HLD.out.on (zl_ HB));rintro e w7 ⟨rfl,hb⟩;refine ⟨_,rfl,?_⟩;replace HB := zs_ HB hb;(try clear hb)))
 go_ret2
 exact ⟨zt_,zl_ HB⟩
theorem ZY.calls (k : Nat) (a0 : Int) (r1 : ByteArray) (r2 : Int) (w : World) (hL : Laid w) (h : ZY.f k a0 = some (r1,r2)) :
  Calls Tryd.prog 9 #[.int .i64 a0] w fun e w' => e = .returned (.tuple #[.string r1,.int .i64 r2]) ∧ Below w.heap.size w w' := by
 have HLD := am_ hL
 clear hL
 have HB := am_ (Below.refl w.heap.size w)
 have H : ((ZH.f a0 0 6).bind fun t421 => (if t421 = true then ((ZE.f k a0).bind fun t422 => (some (t422,0))) else (some ((⟨#[]⟩ : ByteArray),4)))) = some (r1,r2) := h
 clear h
 replace H := Option.bind_eq_some_iff.mp H
 obtain ⟨t421,A20,H⟩ := H
 try dsimp only at H
 have A2 := am_ A20
 clear A20
 by_cases c3 : t421 = true
 case neg =>
  replace c3 := Bool.eq_false_iff.mpr c3
  subst c3
  rw [if_neg (show ¬ (false = true) by decide)] at H
  simp only [Option.some.injEq,Prod.mk.injEq] at H
  obtain ⟨rfl,rfl⟩ := H
  go_enter Tryd.func9,Tryd.ntmps9
  go_wp2_with (first | ((with_reducible refine gate_callee (f := 27) rfl ?_);refine zgl (some 5) Tryd.func27 #[.int .i64 a0,.int .i64 0,.int .i64 6] ?_;(with_reducible refine (ZH.calls a0 0 6 false _ A2.out).mono ?_);rintro e w' ⟨rfl,⟨nd,rfl⟩⟩;refine ⟨_,rfl,?_⟩))
  go_ret2
  exact ⟨zt_,zl_ HB⟩
 subst c3
 rw [if_pos rfl] at H
 replace H := Option.bind_eq_some_iff.mp H
 obtain ⟨t422,A40,H⟩ := H
 try dsimp only at H
 have A4 := am_ A40
 clear A40
 simp only [Option.some.injEq,Prod.mk.injEq] at H
 obtain ⟨rfl,rfl⟩ := H
 go_enter Tryd.func9,Tryd.ntmps9
 go_wp2_with (first | ((with_reducible refine gate_callee (f := 27) rfl ?_);refine zgl (some 5) Tryd.func27 #[.int .i64 a0,.int .i64 0,.int .i64 6] ?_;(with_reducible refine (ZH.calls a0 0 6 true _ A2.out).mono ?_);rintro e w' ⟨rfl,⟨nd,rfl⟩⟩;refine ⟨_,rfl,?_⟩) | ((with_reducible refine gate_callee (f := 23) rfl ?_);refine zgl (some 8) Tryd.func23 #[.int .i64 a0] ?_;(with_reducible refine (ZE.calls k a0 t422 _ ?side1 A4.out).mono ?_);(case side1 => exact HLD.out.on (zl_ HB));rintro e w5 ⟨rfl,hb⟩;refine ⟨_,rfl,?_⟩;replace HB := zs_ HB hb;(try clear hb)))
 go_ret2
 exact ⟨zt_,zl_ HB⟩
def Zt.T5 : Bool × List (List Nat × List Nat) := (true,[([],[]),([0],[0]),([],[]),([],[]),([3,1],[3]),([1,2,4,4],[1,2,4]),([5,5,0,1,2,3,4,5],[5]),([6,0,1,2,3,4,5,6],[])])
def Zt.B5 : List Nat := [0,1,0,0,11,31,63,127]
theorem Zt.tab5 : rtab .any (opsOf Tryd.f8 5) = Zt.T5 := by kernel_rfl
theorem Zt.bits5 : waitsOk Zt.T5.2 Zt.B5 = true := by kernel_rfl
theorem Zt.calls (k : Nat) (a0 : Int) (a1 : Int) (a2_0 : ByteArray) (a2_1 : Int) (a2_2 : Int) (a2_3 : Int) (r1 : Int) (r2 : List ByteArray) (r3 : List ByteArray) (r4 : List ByteArray) (r5 : Int) (w : World) (hL : Laid w) (hT : LaidT w) (h : Zt.f k a0 a1 a2_0 a2_1 a2_2 a2_3 = some (r1,r2,r3,r4,r5)) :
  Calls Tryd.prog 8 #[.int .i64 a0,.int .i64 a1,.agg #[.string a2_0,.int .i64 a2_1,.int .i64 a2_2,.int .i64 a2_3]] w fun e w' => ∃ v1_ v2_ v3_ : Value,e = .returned (.tuple #[.agg #[.int .i64 r1,v1_,v2_,v3_],.int .i64 r5]) ∧ Kd.R Kd.string 9 w' w.heap.size (fun k_ => some k_ ≠ (v2_ : Value).ownBlock ∧ some k_ ≠ (v3_ : Value).ownBlock) v1_ r2 ∧ Kd.R Kd.string 9 w' w.heap.size (fun k_ => some k_ ≠ (v1_ : Value).ownBlock ∧ some k_ ≠ (v3_ : Value).ownBlock) v2_ r3 ∧ Kd.R Kd.string 9 w' w.heap.size (fun k_ => some k_ ≠ (v1_ : Value).ownBlock ∧ some k_ ≠ (v2_ : Value).ownBlock) v3_ r4 ∧ Below w.heap.size w w' := by
 have hu24 := Tryd.underlying24
 have hu37 := Tryd.underlying37
 have HLD := am_ hL
 clear hL
 have HTD := am_ hT
 clear hT
 have HB := am_ (Below.refl w.heap.size w)
 have H : ((ZI.f k a2_0 a2_1 a2_2 a2_3).bind fun t406 => (if t406 = true then ((ZH.f a0 0 6).bind fun t407 => (if t407 = true then ((ZW.f a1).bind fun t408 => (Zt.j0 k a0 a1 (!t408) a2_0 a2_1 a2_2 a2_3)) else (Zt.j0 k a0 a1 true a2_0 a2_1 a2_2 a2_3))) else (some (0,([] : List ByteArray),([] : List ByteArray),([] : List ByteArray),1)))) = some (r1,r2,r3,r4,r5) := h
 clear h
 replace H := Option.bind_eq_some_iff.mp H
 obtain ⟨t406,A40,H⟩ := H
 try dsimp only at H
 have A4 := am_ A40
 clear A40
 by_cases c5 : t406 = true
 case neg =>
  replace c5 := Bool.eq_false_iff.mpr c5
  subst c5
  rw [if_neg (show ¬ (false = true) by decide)] at H
  simp only [Option.some.injEq,Prod.mk.injEq] at H
  obtain ⟨rfl,rfl,rfl,rfl,rfl⟩ := H
  go_enter Tryd.func8,Tryd.ntmps8
  go_wp2_with (first | ((with_reducible refine gate_dst (N := 5) rfl ?_);refine zbx (N := 5) (cs := #[.string a2_0,.int .i64 a2_1,.int .i64 a2_2,.int .i64 a2_3]) (t := 24) ?_;intro gb404 hg w32 hbox hb;have BK404 := am_ (hbox);have GW404 := zw_ HB hg;have GE404 := zw_ HB hg;replace HB := zs_ HB hb;clear hb hbox hg) | ((with_reducible refine gate_dst (N := 6) rfl ?_);refine zbx (N := 6) (cs := #[.int .i64 0,.slice none 0 0,.slice none 0 0,.slice none 0 0]) (t := 37) ?_;intro gb405 hg w33 hbox hb;have BK405 := am_ (hbox);have GW405 := zw_ HB hg;have GE405 := zw_ HB hg;replace HB := zs_ HB hb;have NB404_405 := zl hg BK404;have NB405_404 := zg hg BK404;replace BK404 := zb BK404 hb;clear hb hbox hg;have hnb34 := NB404_405.out;have hnc34 := NB405_404.out;obtain ⟨hcz35_0,hcz35_1,hcz35_2,hcz35_3,hfz35_0,hfz35_1,hfz35_2,hfz35_3⟩ := zc4 BK404) | ((with_reducible refine gate_callee (f := 17) rfl ?_);refine zgl (some 10) Tryd.func17 #[.agg #[.string a2_0,.int .i64 a2_1,.int .i64 a2_2,.int .i64 a2_3]] ?_;(with_reducible refine (ZI.calls k a2_0 a2_1 a2_2 a2_3 false _ A4.out).mono ?_);rintro e w36 ⟨rfl,hb⟩;refine ⟨_,rfl,?_⟩;replace BK405 := zb BK405 hb;replace HB := zs_ HB hb;(try clear hb);obtain ⟨hcz37_0,hcz37_1,hcz37_2,hcz37_3,hfz37_0,hfz37_1,hfz37_2,hfz37_3⟩ := zc4 BK405))
  refine bodyPost_ret (results_ct rfl _ _ gb405 37 #[.int .i64 0,.slice none 0 0,.slice none 0 0,.slice none 0 0] (0,0) _ rfl (zq BK405) Tryd.underlying37 rfl (by kernel_rfl)) rfl ?_
  exact ⟨_,_,_,zt_,by first | exact Kd.R_nil _ _ _ _ _ | exact Kd.N_nil _ _ _ _ _ | exact Kd.V_nil _ _ _ _ _ | exact Kd.Q_nil _ _ _ _ _ | exact Kd.S_nil _ _ _ _ _,by first | exact Kd.R_nil _ _ _ _ _ | exact Kd.N_nil _ _ _ _ _ | exact Kd.V_nil _ _ _ _ _ | exact Kd.Q_nil _ _ _ _ _ | exact Kd.S_nil _ _ _ _ _,by first | exact Kd.R_nil _ _ _ _ _ | exact Kd.N_nil _ _ _ _ _ | exact Kd.V_nil _ _ _ _ _ | exact Kd.Q_nil _ _ _ _ _ | exact Kd.S_nil _ _ _ _ _,zl_ HB⟩
 subst c5
 rw [if_pos rfl] at H
 have HC6 := am_ H
 clear H
 go_enter Tryd.func8,Tryd.ntmps8
 go_upto_region 3 with (first | ((with_reducible refine gate_dst (N := 5) rfl ?_);refine zbx (N := 5) (cs := #[.string a2_0,.int .i64 a2_1,.int .i64 a2_2,.int .i64 a2_3]) (t := 24) ?_;intro gb404 hg w7 hbox hb;have BK404 := am_ (hbox);have GW404 := zw_ HB hg;have GE404 := zw_ HB hg;replace HB := zs_ HB hb;clear hb hbox hg) | ((with_reducible refine gate_dst (N := 6) rfl ?_);refine zbx (N := 6) (cs := #[.int .i64 0,.slice none 0 0,.slice none 0 0,.slice none 0 0]) (t := 37) ?_;intro gb405 hg w8 hbox hb;have BK405 := am_ (hbox);have GW405 := zw_ HB hg;have GE405 := zw_ HB hg;replace HB := zs_ HB hb;have NB404_405 := zl hg BK404;have NB405_404 := zg hg BK404;replace BK404 := zb BK404 hb;clear hb hbox hg;have hnb9 := NB404_405.out;have hnc9 := NB405_404.out;obtain ⟨hcz10_0,hcz10_1,hcz10_2,hcz10_3,hfz10_0,hfz10_1,hfz10_2,hfz10_3⟩ := zc4 BK404) | ((with_reducible refine gate_callee (f := 17) rfl ?_);refine zgl (some 10) Tryd.func17 #[.agg #[.string a2_0,.int .i64 a2_1,.int .i64 a2_2,.int .i64 a2_3]] ?_;(with_reducible refine (ZI.calls k a2_0 a2_1 a2_2 a2_3 true _ A4.out).mono ?_);rintro e w11 ⟨rfl,hb⟩;refine ⟨_,rfl,?_⟩;replace BK404 := zb BK404 hb;replace BK405 := zb BK405 hb;replace HB := zs_ HB hb;(try clear hb)))
 (try simp only [Act.put,p1_,p2_,p3_])
 go_cut [13] (fun v13 wc => ∃ (kq : Nat) (x13_5 : Bool),v13 = .bool x13_5 ∧ Aside0 (Zt.j0 kq a0 a1 x13_5 a2_0 a2_1 a2_2 a2_3 = some (r1,r2,r3,r4,r5)) ∧ Aside0 (kq ≤ k) ∧ Aside0 (wc.heap[gb404]? = some (.cells #[.string a2_0,.int .i64 a2_1,.int .i64 a2_2,.int .i64 a2_3] 24 (0,0))) ∧ Aside0 (wc.heap[gb405]? = some (.cells #[.int .i64 0,(.slice none 0 0),(.slice none 0 0),(.slice none 0 0)] 37 (0,0))) ∧ Aside0 (Below w.heap.size w wc))
 case first =>
  have H := HC6.out
  clear HC6
  replace H := Option.bind_eq_some_iff.mp H
  obtain ⟨t407,A120,H⟩ := H
  try dsimp only at H
  have A12 := am_ A120
  clear A120
  by_cases c13 : t407 = true
  case neg =>
   replace c13 := Bool.eq_false_iff.mpr c13
   subst c13
   rw [if_neg (show ¬ (false = true) by decide)] at H
   have H' := am_ H
   clear H
   go_wp2_with (first | ((with_reducible refine gate_callee (f := 27) rfl ?_);refine zgl (some 15) Tryd.func27 #[.int .i64 a0,.int .i64 0,.int .i64 6] ?_;(with_reducible refine (ZH.calls a0 0 6 false _ A12.out).mono ?_);rintro e w' ⟨rfl,⟨nd,rfl⟩⟩;refine ⟨_,rfl,?_⟩))
   go_meet
   case rel => exact ⟨_,(true),(by first | rfl | (simp;done) | (simp [*];done)),H',⟨by first | omega | exact Nat.le_refl _⟩,⟨by (with_reducible repeat (first | apply k1_ | apply k2_ | apply k3_));exact BK404.out⟩,⟨by (with_reducible repeat (first | apply k1_ | apply k2_ | apply k3_));exact BK405.out⟩,⟨zl_ HB⟩⟩
  subst c13
  rw [if_pos rfl] at H
  replace H := Option.bind_eq_some_iff.mp H
  obtain ⟨t408,A140,H⟩ := H
  try dsimp only at H
  have A14 := am_ A140
  clear A140
  have H' := am_ H
  clear H
  go_wp2_with (first | ((with_reducible refine gate_callee (f := 27) rfl ?_);refine zgl (some 15) Tryd.func27 #[.int .i64 a0,.int .i64 0,.int .i64 6] ?_;(with_reducible refine (ZH.calls a0 0 6 true _ A12.out).mono ?_);rintro e w' ⟨rfl,⟨nd,rfl⟩⟩;refine ⟨_,rfl,?_⟩) | (go_at_call 19;(with_reducible refine (ZW.calls a1 t408 _ A14.out).mono ?_);rintro e w' ⟨rfl,⟨nd,rfl⟩⟩))
  go_meet
  case rel => exact ⟨_,(!t408),(by first | rfl | (simp;done) | (simp [*];done)),H',⟨by first | omega | exact Nat.le_refl _⟩,⟨by (with_reducible repeat (first | apply k1_ | apply k2_ | apply k3_));exact BK404.out⟩,⟨by (with_reducible repeat (first | apply k1_ | apply k2_ | apply k3_));exact BK405.out⟩,⟨zl_ HB⟩⟩
 case rest =>
  clear HC6
  try clear c1
  try clear c2
  try clear p2
  try clear c5
  try clear c8
  try clear c9
  try clear c13
  try clear hcz10_0
  try clear hcz10_1
  try clear hcz10_2
  try clear hcz10_3
  try clear hfz10_0
  try clear hfz10_1
  try clear hfz10_2
  try clear hfz10_3
  obtain ⟨kq,x13_5,rfl,HA,HJ5,BK404,BK405,HB⟩ := hcut
  cases kq with
  | zero => exact absurd HA.out (by simp [Zt.j0])
  | succ kj5 =>
   have H := HA.out
   clear HA
   simp only [Zt.j0] at H
   by_cases c15 : x13_5 = true
   ·subst c15
    rw [if_pos rfl] at H
    simp only [Option.some.injEq,Prod.mk.injEq] at H
    obtain ⟨rfl,rfl,rfl,rfl,rfl⟩ := H
    have hnb16 := NB405_404.out
    have hnc16 := NB404_405.out
    obtain ⟨hcz17_0,hcz17_1,hcz17_2,hcz17_3,hfz17_0,hfz17_1,hfz17_2,hfz17_3⟩ := zc4 BK405
    go_wp2
    refine bodyPost_ret (results_ct rfl _ _ gb405 37 #[.int .i64 0,.slice none 0 0,.slice none 0 0,.slice none 0 0] (0,0) _ rfl (zq BK405) Tryd.underlying37 rfl (by kernel_rfl)) rfl ?_
    exact ⟨_,_,_,zt_,by first | exact Kd.R_nil _ _ _ _ _ | exact Kd.N_nil _ _ _ _ _ | exact Kd.V_nil _ _ _ _ _ | exact Kd.Q_nil _ _ _ _ _ | exact Kd.S_nil _ _ _ _ _,by first | exact Kd.R_nil _ _ _ _ _ | exact Kd.N_nil _ _ _ _ _ | exact Kd.V_nil _ _ _ _ _ | exact Kd.Q_nil _ _ _ _ _ | exact Kd.S_nil _ _ _ _ _,by first | exact Kd.R_nil _ _ _ _ _ | exact Kd.N_nil _ _ _ _ _ | exact Kd.V_nil _ _ _ _ _ | exact Kd.Q_nil _ _ _ _ _ | exact Kd.S_nil _ _ _ _ _,zl_ HB⟩
   replace c15 := Bool.eq_false_iff.mpr c15
   subst c15
   rw [if_neg (show ¬ (false = true) by decide)] at H
   replace H := Option.bind_eq_some_iff.mp H
   obtain ⟨t409,A180,H⟩ := H
   try dsimp only at H
   have A18 := am_ A180
   clear A180
   replace H := Option.bind_eq_some_iff.mp H
   obtain ⟨t410,A190,H⟩ := H
   try dsimp only at H
   have A19 := am_ A190
   clear A190
   replace H := Option.bind_eq_some_iff.mp H
   obtain ⟨⟨t411,t412,t415,t418⟩,A200,H⟩ := H
   try dsimp only at H
   have A20 := am_ A200
   clear A200
   simp only [Option.some.injEq,Prod.mk.injEq] at H
   obtain ⟨rfl,rfl,rfl,rfl,rfl⟩ := H
   try go_wp2
   replace BK404 := am_ (blk_drew BK404.out)
   replace BK405 := am_ (blk_drew BK405.out)
   replace HB := am_ (below_drew1 HB.out)
   refine start_ (n := 8) (S := fun w' => w'.cell? ⟨gb404,0,none⟩ = some (.string a2_0) ∧ w'.cell? ⟨gb404,1,none⟩ = some (.int .i64 a2_1) ∧ w'.cell? ⟨gb404,2,none⟩ = some (.int .i64 a2_2) ∧ w'.cell? ⟨gb404,3,none⟩ = some (.int .i64 a2_3)) (ds := []) #[false,false,false,false,false,false,false,false] (by kernel_rfl) rfl rfl ⟨(blk_cell BK404.out 0).trans rfl,(blk_cell BK404.out 1).trans rfl,(blk_cell BK404.out 2).trans rfl,(blk_cell BK404.out 3).trans rfl⟩ (fun hHeld => ?_);refine with_tabW Zt.tab5 Zt.bits5 (fun HT_ HW_ => ?_)
   generalize wc.drew = w21 at BK404 BK405 HB hHeld ⊢
   refine pu_ 0 23 HT_ ?_
   refine pu_ 2 25 HT_ ?_
   refine tk_ 3 26 HT_ HW_ hHeld ?_
   refine zon 1 (N := some 24) HT_ (fun K hK => ?_)
   refine zgo Tryd.func23 #[.int .i64 a0] ?_
   with_reducible refine (ZE.calls kj5 a0 t409 _ ?side1 A18.out).mono ?_
   (case side1 => exact HLD.out.on (zl_ HB))
   rintro e w22 ⟨rfl,hb⟩
   refine ⟨_,rfl,?_⟩
   replace BK404 := zb BK404 hb
   replace BK405 := zb BK405 hb
   replace HB := zs_ HB hb
   try clear hb
   refine hK.out _ _ ⟨(blk_cell BK404.out 0).trans rfl,(blk_cell BK404.out 1).trans rfl,(blk_cell BK404.out 2).trans rfl,(blk_cell BK404.out 3).trans rfl⟩ (fun hHeld => ?_)
   clear hK K
   refine nm_ ?_
   refine zon 4 (N := some 27) HT_ (fun K hK => ?_)
   refine zgo Tryd.func24 #[.agg #[.string a2_0,.int .i64 a2_1,.int .i64 a2_2,.int .i64 a2_3]] ?_
   with_reducible refine (ZO.calls a2_0 a2_1 a2_2 a2_3 t410 _ ?side1 A19.out).mono ?_
   (case side1 => exact HTD.out.on (zl_ HB))
   rintro e w23 ⟨rfl,hb⟩
   refine ⟨_,rfl,?_⟩
   replace BK404 := zb BK404 hb
   replace BK405 := zb BK405 hb
   replace HB := zs_ HB hb
   try clear hb
   refine hK.out _ _ ⟨(blk_cell BK404.out 0).trans rfl,(blk_cell BK404.out 1).trans rfl,(blk_cell BK404.out 2).trans rfl,(blk_cell BK404.out 3).trans rfl⟩ (fun hHeld => ?_)
   clear hK K
   refine nm_ ?_
   refine zon 5 (N := some 28) HT_ (fun K hK => ?_)
   refine zgo Tryd.func22 #[.string t409,.int .i64 a1,.string t410] ?_
   with_reducible refine (Zj.calls kj5 t409 a1 t410 t411 t412 t415 t418 _ ?side1 A20.out).mono ?_
   (case side1 => exact HLD.out.on (zl_ HB))
   rintro e w24 ⟨v413,v416,v419,rfl,ho0,ho1,ho2,hb⟩
   refine ⟨_,rfl,?_⟩
   have HO414 := am_ (Kd.R_lower ho0 (below_size (zl_ HB)))
   have HO417 := am_ (Kd.R_lower ho1 (below_size (zl_ HB)))
   have HO420 := am_ (Kd.R_lower ho2 (below_size (zl_ HB)))
   replace BK404 := zb BK404 hb
   replace BK405 := zb BK405 hb
   replace HB := zs_ HB hb
   try clear hb
   (try clear ho0)
   (try clear ho1)
   (try clear ho2)
   obtain ⟨Ao26,co26,eo26⟩ := Kd.R_slice HO414.out
   (first | subst eo26 | (injection eo26 with f1_ f2_ f3_;have f4_ := f1_.symm;have f5_ := f3_.symm;clear f1_ f2_ f3_;subst f4_;subst f5_))
   obtain ⟨Ao28,co28,eo28⟩ := Kd.R_slice HO417.out
   (first | subst eo28 | (injection eo28 with f1_ f2_ f3_;have f4_ := f1_.symm;have f5_ := f3_.symm;clear f1_ f2_ f3_;subst f4_;subst f5_))
   obtain ⟨Ao30,co30,eo30⟩ := Kd.R_slice HO420.out
   (first | subst eo30 | (injection eo30 with f1_ f2_ f3_;have f4_ := f1_.symm;have f5_ := f3_.symm;clear f1_ f2_ f3_;subst f4_;subst f5_))
   refine hK.out _ _ ⟨(blk_cell BK404.out 0).trans rfl,(blk_cell BK404.out 1).trans rfl,(blk_cell BK404.out 2).trans rfl,(blk_cell BK404.out 3).trans rfl⟩ (fun hHeld => ?_)
   clear hK K
   refine nm_ ?_
   refine zon 6 (N := none) HT_ (fun K hK => ?_)
   have hs25 : w24.cell? ⟨gb405,0,none⟩ = some (.int .i64 0) := (blk_cell BK405.out 0).trans rfl
   have hfs25 := blk_frozen BK405.out 0
   have hns25_0 := NB404_405.out
   have hms25_0 := NB405_404.out
   have hs27 : w24.cell? ⟨gb405,1,none⟩ = some (.slice none 0 0) := (blk_cell BK405.out 1).trans rfl
   have hfs27 := blk_frozen BK405.out 1
   have hns27_0 := NB404_405.out
   have hms27_0 := NB405_404.out
   have hs29 : w24.cell? ⟨gb405,2,none⟩ = some (.slice none 0 0) := (blk_cell BK405.out 2).trans rfl
   have hfs29 := blk_frozen BK405.out 2
   have hns29_0 := NB404_405.out
   have hms29_0 := NB405_404.out
   have hs31 : w24.cell? ⟨gb405,3,none⟩ = some (.slice none 0 0) := (blk_cell BK405.out 3).trans rfl
   have hfs31 := blk_frozen BK405.out 3
   have hns31_0 := NB404_405.out
   have hms31_0 := NB405_404.out
   refine skip_ (w1 := ?_) (by rfl) rfl ?_ ?_
   rotate_left
   ·go_simp
    rfl
   refine hK.out _ _ ⟨((cell_far (p := ⟨gb405,_,none⟩) NB404_405.out _).trans (((cell_far (p := ⟨gb405,_,none⟩) NB404_405.out _).trans (((cell_far (p := ⟨gb405,_,none⟩) NB404_405.out _).trans (((cell_far (p := ⟨gb405,_,none⟩) NB404_405.out _).trans (hHeld.1)))))))),((cell_far (p := ⟨gb405,_,none⟩) NB404_405.out _).trans (((cell_far (p := ⟨gb405,_,none⟩) NB404_405.out _).trans (((cell_far (p := ⟨gb405,_,none⟩) NB404_405.out _).trans (((cell_far (p := ⟨gb405,_,none⟩) NB404_405.out _).trans (hHeld.2.1)))))))),((cell_far (p := ⟨gb405,_,none⟩) NB404_405.out _).trans (((cell_far (p := ⟨gb405,_,none⟩) NB404_405.out _).trans (((cell_far (p := ⟨gb405,_,none⟩) NB404_405.out _).trans (((cell_far (p := ⟨gb405,_,none⟩) NB404_405.out _).trans (hHeld.2.2.1)))))))),((cell_far (p := ⟨gb405,_,none⟩) NB404_405.out _).trans (((cell_far (p := ⟨gb405,_,none⟩) NB404_405.out _).trans (((cell_far (p := ⟨gb405,_,none⟩) NB404_405.out _).trans (((cell_far (p := ⟨gb405,_,none⟩) NB404_405.out _).trans (hHeld.2.2.2))))))))⟩ (fun hHeld => ?_)
   clear hK K
   refine pu_ 7 7 HT_ ?_
   refine done_ (done_of HT_.out (by kernel_rfl)) ?_
   try go_wp2
   refine bodyPost_ret (results_ct rfl _ _ gb405 37 #[.int .i64 t411,.slice Ao26 t412.length co26,.slice Ao28 t415.length co28,.slice Ao30 t418.length co30] (0,0) _ rfl (zq BK405) Tryd.underlying37 rfl (by kernel_rfl)) rfl ?_
   exact ⟨_,_,_,zt_,by (with_reducible repeat (first | apply r1_ | apply r2_ | apply r3_));exact Kd.R_mono (zrf (Kd.R_types HO414.out BK405.out (by decide))) (fun _ hk => ⟨hk.1.1,hk.1.2⟩),by (with_reducible repeat (first | apply r1_ | apply r2_ | apply r3_));exact Kd.R_mono (zrf (Kd.R_types HO417.out BK405.out (by decide))) (fun _ hk => ⟨hk.1.1,hk.1.2⟩),by (with_reducible repeat (first | apply r1_ | apply r2_ | apply r3_));exact Kd.R_mono (zrf (Kd.R_types HO420.out BK405.out (by decide))) (fun _ hk => ⟨hk.1.1,hk.1.2⟩),zl_ HB⟩
theorem Yy.calls (A0 : Option Addr) (c0 : Nat) (l0 : List Int) (a1 : Int) (a2 : Int) (r : Int) (w : World) (hr0 : Kd.C (Kd.int .u8) w A0 l0.length l0) (hc0 : l0.length ≤ c0) (h : Yy.f l0 a1 a2 = some r) :
  Calls Tryd.prog 5 #[.slice A0 l0.length c0,.int .i64 a1,.int .i64 a2] w fun e w' => e = .returned (.int .i64 r) ∧ Drawn0 w w' := by
 have HR0 := am_ hr0
 have HC0 := am_ hc0
 clear hr0 hc0
 have H : (if a2 ≤ 1 then (some 0) else (if (l0.length : Int) = 0 then (if a2 = 0 then (none) else (some (Int.tmod (wrap64 (a1 * 7)) a2))) else (if 0 ≤ (Int.tmod a1 (l0.length : Int)) then (if (Int.tmod a1 (l0.length : Int)) < (l0.length : Int) then (if 0 ≤ (Int.tmod (wrap64 (a1 + 1)) (l0.length : Int)) then (if (Int.tmod (wrap64 (a1 + 1)) (l0.length : Int)) < (l0.length : Int) then (if a2 = 0 then (none) else (some (Int.tmod (wrap64 ((wrap64 ((wrap64 ((wrap64 (rd l0 (Int.tmod a1 (l0.length : Int)))) * 31)) + (wrap64 (rd l0 (Int.tmod (wrap64 (a1 + 1)) (l0.length : Int)))))) + (wrap64 (Int.tdiv a1 (l0.length : Int))))) a2))) else (none)) else (none)) else (none)) else (none)))) = some r := h
 clear h
 by_cases c4 : a2 ≤ 1
 ·rw [if_pos c4] at H
  have c4b0 := decide_eq_true c4
  clear c4
  obtain rfl := Option.some.inj H
  go_enter Tryd.func5,Tryd.ntmps5
  go_wp2
  repeat (go_quiet (fail);try go_wp2)
  go_ret
  exact ⟨by first | rfl | (simp;done) | (simp [*];done),by repeat (first | exact Drawn0.refl _ | apply Drawn0.step)⟩
 rw [if_neg c4] at H
 have c4b0 := decide_eq_false c4
 clear c4
 by_cases c5 : (l0.length : Int) = 0
 ·rw [if_pos c5] at H
  have c5b0 := beq_iff_eq.mpr c5
  have c5b1 := bne_eq_false_iff_eq.mpr c5
  clear c5
  by_cases c6 : a2 = 0
  ·rw [if_pos c6] at H
   exact absurd H (by simp)
  rw [if_neg c6] at H
  have c6b0 := beq_eq_false_iff_ne.mpr c6
  have c6b1 := bne_iff_ne.mpr c6
  obtain rfl := Option.some.inj H
  go_enter Tryd.func5,Tryd.ntmps5
  go_wp2
  repeat (go_quiet (fail);try go_wp2)
  go_ret
  exact ⟨by first | rfl | (simp;done) | (simp [*];done),by repeat (first | exact Drawn0.refl _ | apply Drawn0.step)⟩
 rw [if_neg c5] at H
 have c5b0 := beq_eq_false_iff_ne.mpr c5
 have c5b1 := bne_iff_ne.mpr c5
 have c5b2 : ¬ (l0 = []) := fun h_ => c5 (by rw [h_];rfl)
 obtain ⟨ji7,hji7⟩ : ∃ j_ : Int,(Int.tmod a1 (l0.length : Int)) = j_ := ⟨_,rfl⟩
 replace H : (if 0 ≤ (ji7) then (if (ji7) < (l0.length : Int) then (if 0 ≤ (Int.tmod (wrap64 (a1 + 1)) (l0.length : Int)) then (if (Int.tmod (wrap64 (a1 + 1)) (l0.length : Int)) < (l0.length : Int) then (if a2 = 0 then (none) else (some (Int.tmod (wrap64 ((wrap64 ((wrap64 ((wrap64 (rd l0 (ji7))) * 31)) + (wrap64 (rd l0 (Int.tmod (wrap64 (a1 + 1)) (l0.length : Int)))))) + (wrap64 (Int.tdiv a1 (l0.length : Int))))) a2))) else (none)) else (none)) else (none)) else (none)) = some r := by first | (rw [hji7] at H;exact H) | (simp only [hji7] at H ⊢;exact H)
 by_cases c8 : 0 ≤ (ji7)
 case neg =>
  rw [if_neg c8] at H
  exact absurd H (by simp)
 rw [if_pos c8] at H
 have c8b0 := decide_eq_true c8
 clear c8
 by_cases c9 : (ji7) < (l0.length : Int)
 case neg =>
  rw [if_neg c9] at H
  exact absurd H (by simp)
 rw [if_pos c9] at H
 have c9b0 := decide_eq_true c9
 clear c9
 obtain ⟨ji10,hji10⟩ : ∃ j_ : Int,(Int.tmod (wrap64 (a1 + 1)) (l0.length : Int)) = j_ := ⟨_,rfl⟩
 replace H : (if 0 ≤ (ji10) then (if (ji10) < (l0.length : Int) then (if a2 = 0 then (none) else (some (Int.tmod (wrap64 ((wrap64 ((wrap64 ((wrap64 (rd l0 (ji7))) * 31)) + (wrap64 (rd l0 (ji10))))) + (wrap64 (Int.tdiv a1 (l0.length : Int))))) a2))) else (none)) else (none)) = some r := by first | (rw [hji10] at H;exact H) | (simp only [hji10] at H ⊢;exact H)
 by_cases c11 : 0 ≤ (ji10)
 case neg =>
  rw [if_neg c11] at H
  exact absurd H (by simp)
 rw [if_pos c11] at H
 have c11b0 := decide_eq_true c11
 clear c11
 by_cases c12 : (ji10) < (l0.length : Int)
 case neg =>
  rw [if_neg c12] at H
  exact absurd H (by simp)
 rw [if_pos c12] at H
 have c12b0 := decide_eq_true c12
 clear c12
 by_cases c13 : a2 = 0
 ·rw [if_pos c13] at H
  exact absurd H (by simp)
 rw [if_neg c13] at H
 have c13b0 := beq_eq_false_iff_ne.mpr c13
 have c13b1 := bne_iff_ne.mpr c13
 obtain rfl := Option.some.inj H
 have p147 : 0 ≤ ((ji7) : Int) := zo_
 have q147 : (ji7) < (l0.length : Int) := zo_
 obtain ⟨ad147,e147,hx147_0⟩ := Kd.at_int HR0.out (ji7) p147 q147
 cases e147
 replace p147 := eq_true p147
 replace q147 := eq_true q147
 have p148 : 0 ≤ ((ji10) : Int) := zo_
 have q148 : (ji10) < (l0.length : Int) := zo_
 obtain ⟨ad148,e148,hx148_0⟩ := Kd.at_int HR0.out (ji10) p148 q148
 obtain rfl : ad147 = ad148 := (by injection e148)
 replace p148 := eq_true p148
 replace q148 := eq_true q148
 go_enter Tryd.func5,Tryd.ntmps5
 go_wp2
 repeat (go_quiet (fail);try go_wp2)
 go_ret
 exact ⟨by first | rfl | (simp;done) | (simp only [← hji7,← hji10] <;> (first | rfl | simp)) | (simp [*];done),by repeat (first | exact Drawn0.refl _ | apply Drawn0.step)⟩
theorem Zn.calls (k : Nat) (A0 : Option Addr) (c0 : Nat) (l0 : List ByteArray) (A1 : Option Addr) (c1 : Nat) (l1 : List ByteArray) (r : Bool) (w : World) (hr0 : Kd.C Kd.string w A0 l0.length l0) (hc0 : l0.length ≤ c0) (hr1 : Kd.C Kd.string w A1 l1.length l1) (hc1 : l1.length ≤ c1) (h : Zn.f k l0 l1 = some r) :
  Calls Tryd.prog 30 #[.slice A0 l0.length c0,.slice A1 l1.length c1] w fun e w' => e = .returned (.bool r) ∧ Drawn0 w w' := by
 have HR0 := am_ hr0
 have HC0 := am_ hc0
 clear hr0 hc0
 have HR1 := am_ hr1
 have HC1 := am_ hc1
 clear hr1 hc1
 have H : (if (l0.length : Int) = (l1.length : Int) then (Zn.l0 k l0 l1 0) else (some false)) = some r := h
 clear h
 by_cases c3 : (l0.length : Int) = (l1.length : Int)
 case neg =>
  rw [if_neg c3] at H
  have c3b0 := beq_eq_false_iff_ne.mpr c3
  have c3b1 := bne_iff_ne.mpr c3
  have c3b2 : (l0.length == l1.length) = false := by first | simpa using c3 | (simp at c3 ⊢;omega)
  obtain rfl := Option.some.inj H
  go_enter Tryd.func30,Tryd.ntmps30
  go_wp2
  repeat (go_quiet (fail);try go_wp2)
  go_ret
  exact ⟨by first | rfl | (simp;done) | (simp [*];done),by repeat (first | exact Drawn0.refl _ | apply Drawn0.step)⟩
 rw [if_pos c3] at H
 have c3b0 := beq_iff_eq.mpr c3
 have c3b1 := bne_eq_false_iff_eq.mpr c3
 have c3b2 : (l0.length == l1.length) = true := by first | simpa using c3 | (simp at c3 ⊢;omega)
 clear c3
 have H' := am_ H
 clear H
 go_enter Tryd.func30,Tryd.ntmps30
 go_wp2
 repeat (go_quiet (fail);try go_wp2)
 go_loopg [5] k (fun kq v5 w' => ∃ (x5_1 : Int),v5 = .int .i64 x5_1 ∧ Aside0 (Zn.l0 kq l0 l1 x5_1 = some r) ∧ Aside0 (kq ≤ k) ∧ Drawn0 w w')
 case atStart => exact ⟨(0),(by first | rfl | (simp;done) | (simp [*];done)),H',⟨Nat.le_refl _⟩,by repeat (first | exact Drawn0.refl _ | apply Drawn0.step)⟩
 case round =>
  clear H'
  try clear c1
  try clear p2
  try clear c3
  try clear c3b0
  try clear c3b1
  try clear c3b2
  obtain ⟨x5_1,rfl,HA,HK1,⟨m1,rfl⟩⟩ := hrel
  cases gk with
  | zero => exact absurd HA.out (by simp [Zn.l0])
  | succ k1 =>
   have H := HA.out
   clear HA
   simp only [Zn.l0] at H
   by_cases c4 : x5_1 < (l0.length : Int)
   case neg =>
    rw [if_neg c4] at H
    have c4b0 := decide_eq_false c4
    clear c4
    obtain rfl := Option.some.inj H
    go_wp2
    repeat (go_quiet (fail);try go_wp2)
    go_ret
    exact ⟨by first | rfl | (simp;done) | (simp [*];done),by repeat (first | exact Drawn0.refl _ | apply Drawn0.step)⟩
   rw [if_pos c4] at H
   have c4b0 := decide_eq_true c4
   clear c4
   by_cases c5 : 0 ≤ x5_1
   case neg =>
    rw [if_neg c5] at H
    exact absurd H (by simp)
   rw [if_pos c5] at H
   have c5b0 := decide_eq_true c5
   clear c5
   by_cases c6 : x5_1 < (l1.length : Int)
   case neg =>
    rw [if_neg c6] at H
    exact absurd H (by simp)
   rw [if_pos c6] at H
   have c6b0 := decide_eq_true c6
   clear c6
   by_cases c7 : (rdOf ByteArray.empty l0 x5_1).toList = (rdOf ByteArray.empty l1 x5_1).toList
   case neg =>
    rw [if_neg c7] at H
    have c7b0 := beq_eq_false_iff_ne.mpr c7
    have c7b1 := bne_iff_ne.mpr c7
    obtain rfl := Option.some.inj H
    have p473 : 0 ≤ (x5_1 : Int) := zo_
    have q473 : x5_1 < (l0.length : Int) := zo_
    obtain ⟨ad473,e473,hx473_0⟩ := Kd.at_string HR0.out x5_1 p473 q473
    cases e473
    replace p473 := eq_true p473
    replace q473 := eq_true q473
    have p474 : 0 ≤ (x5_1 : Int) := zo_
    have q474 : x5_1 < (l1.length : Int) := zo_
    obtain ⟨ad474,e474,hx474_0⟩ := Kd.at_string HR1.out x5_1 p474 q474
    cases e474
    replace p474 := eq_true p474
    replace q474 := eq_true q474
    go_wp2
    repeat (go_quiet (fail);try go_wp2)
    go_ret
    exact ⟨by first | rfl | (simp;done) | (simp [*];done),by repeat (first | exact Drawn0.refl _ | apply Drawn0.step)⟩
   rw [if_pos c7] at H
   have c7b0 := beq_iff_eq.mpr c7
   have c7b1 := bne_eq_false_iff_eq.mpr c7
   clear c7
   have H' := am_ H
   clear H
   have p473 : 0 ≤ (x5_1 : Int) := zo_
   have q473 : x5_1 < (l0.length : Int) := zo_
   obtain ⟨ad473,e473,hx473_0⟩ := Kd.at_string HR0.out x5_1 p473 q473
   cases e473
   replace p473 := eq_true p473
   replace q473 := eq_true q473
   have p474 : 0 ≤ (x5_1 : Int) := zo_
   have q474 : x5_1 < (l1.length : Int) := zo_
   obtain ⟨ad474,e474,hx474_0⟩ := Kd.at_string HR1.out x5_1 p474 q474
   cases e474
   replace p474 := eq_true p474
   replace q474 := eq_true q474
   go_wp2
   repeat (go_quiet (fail);try go_wp2)
   go_roundg k1
   case measure => have := HK1.out;omega
   case rel => exact ⟨(wrap64 (x5_1 + 1)),(by first | rfl | (simp;done) | (simp [*];done)),H',⟨by have := HK1.out;omega⟩,by repeat (first | exact Drawn0.refl _ | apply Drawn0.step)⟩
theorem ZN.calls (k : Nat) (a0_0 : Int) (A0_1 : Option Addr) (c0_1 : Nat) (l0_1 : List ByteArray) (A0_2 : Option Addr) (c0_2 : Nat) (l0_2 : List ByteArray) (A0_3 : Option Addr) (c0_3 : Nat) (l0_3 : List ByteArray) (a1_0 : Int) (A1_1 : Option Addr) (c1_1 : Nat) (l1_1 : List ByteArray) (A1_2 : Option Addr) (c1_2 : Nat) (l1_2 : List ByteArray) (A1_3 : Option Addr) (c1_3 : Nat) (l1_3 : List ByteArray) (r : Bool) (w : World) (hr0_1 : Kd.C Kd.string w A0_1 l0_1.length l0_1) (hc0_1 : l0_1.length ≤ c0_1) (hr0_2 : Kd.C Kd.string w A0_2 l0_2.length l0_2) (hc0_2 : l0_2.length ≤ c0_2) (hr0_3 : Kd.C Kd.string w A0_3 l0_3.length l0_3) (hc0_3 : l0_3.length ≤ c0_3) (hr1_1 : Kd.C Kd.string w A1_1 l1_1.length l1_1) (hc1_1 : l1_1.length ≤ c1_1) (hr1_2 : Kd.C Kd.string w A1_2 l1_2.length l1_2) (hc1_2 : l1_2.length ≤ c1_2) (hr1_3 : Kd.C Kd.string w A1_3 l1_3.length l1_3) (hc1_3 : l1_3.length ≤ c1_3) (h : ZN.f k a0_0 l0_1 l0_2 l0_3 a1_0 l1_1 l1_2 l1_3 = some r) :
  Calls Tryd.prog 12 #[.agg #[.int .i64 a0_0,.slice A0_1 l0_1.length c0_1,.slice A0_2 l0_2.length c0_2,.slice A0_3 l0_3.length c0_3],.agg #[.int .i64 a1_0,.slice A1_1 l1_1.length c1_1,.slice A1_2 l1_2.length c1_2,.slice A1_3 l1_3.length c1_3]] w fun e w' => e = .returned (.bool r) ∧ Below w.heap.size w w' := by
 have hu37 := Tryd.underlying37
 have HR0_1 := am_ hr0_1
 have HC0_1 := am_ hc0_1
 clear hr0_1 hc0_1
 have HR0_2 := am_ hr0_2
 have HC0_2 := am_ hc0_2
 clear hr0_2 hc0_2
 have HR0_3 := am_ hr0_3
 have HC0_3 := am_ hc0_3
 clear hr0_3 hc0_3
 have HR1_1 := am_ hr1_1
 have HC1_1 := am_ hc1_1
 clear hr1_1 hc1_1
 have HR1_2 := am_ hr1_2
 have HC1_2 := am_ hc1_2
 clear hr1_2 hc1_2
 have HR1_3 := am_ hr1_3
 have HC1_3 := am_ hc1_3
 clear hr1_3 hc1_3
 have HB := am_ (Below.refl w.heap.size w)
 have H : (if a0_0 = a1_0 then ((Zn.f k l0_1 l1_1).bind fun t477 => (if t477 = true then ((Zn.f k l0_2 l1_2).bind fun t478 => (if t478 = true then ((Zn.f k l0_3 l1_3).bind fun t479 => (some t479)) else (some false))) else (some false))) else (some false)) = some r := h
 clear h
 by_cases c3 : a0_0 = a1_0
 case neg =>
  rw [if_neg c3] at H
  have c3b0 := beq_eq_false_iff_ne.mpr c3
  have c3b1 := bne_iff_ne.mpr c3
  obtain rfl := Option.some.inj H
  go_enter Tryd.func12,Tryd.ntmps12
  go_wp2_with (first | ((with_reducible refine gate_dst (N := 2) rfl ?_);refine zbx (N := 2) (cs := #[.int .i64 a0_0,.slice A0_1 l0_1.length c0_1,.slice A0_2 l0_2.length c0_2,.slice A0_3 l0_3.length c0_3]) (t := 37) ?_;intro gb475 hg w24 hbox hb;have BK475 := am_ (hbox);have GW475 := zw_ HB hg;have GE475 := zw_ HB hg;replace HB := zs_ HB hb;clear hb hbox hg) | ((with_reducible refine gate_dst (N := 3) rfl ?_);refine zbx (N := 3) (cs := #[.int .i64 a1_0,.slice A1_1 l1_1.length c1_1,.slice A1_2 l1_2.length c1_2,.slice A1_3 l1_3.length c1_3]) (t := 37) ?_;intro gb476 hg w25 hbox hb;have BK476 := am_ (hbox);have GW476 := zw_ HB hg;have GE476 := zw_ HB hg;replace HB := zs_ HB hb;have NB475_476 := zl hg BK475;have NB476_475 := zg hg BK475;replace BK475 := zb BK475 hb;clear hb hbox hg;have hnb26 := NB475_476.out;have hnc26 := NB476_475.out;obtain ⟨hcz27_0,hcz27_1,hcz27_2,hcz27_3,hfz27_0,hfz27_1,hfz27_2,hfz27_3⟩ := zc4 BK475;obtain ⟨hcz28_0,hcz28_1,hcz28_2,hcz28_3,hfz28_0,hfz28_1,hfz28_2,hfz28_3⟩ := zc4 BK476))
  go_ret
  exact ⟨zt_,zl_ HB⟩
 rw [if_pos c3] at H
 have c3b0 := beq_iff_eq.mpr c3
 have c3b1 := bne_eq_false_iff_eq.mpr c3
 clear c3
 replace H := Option.bind_eq_some_iff.mp H
 obtain ⟨t477,A40,H⟩ := H
 try dsimp only at H
 have A4 := am_ A40
 clear A40
 by_cases c5 : t477 = true
 case neg =>
  replace c5 := Bool.eq_false_iff.mpr c5
  subst c5
  rw [if_neg (show ¬ (false = true) by decide)] at H
  obtain rfl := Option.some.inj H
  go_enter Tryd.func12,Tryd.ntmps12
  go_wp2_with (first | ((with_reducible refine gate_dst (N := 2) rfl ?_);refine zbx (N := 2) (cs := #[.int .i64 a0_0,.slice A0_1 l0_1.length c0_1,.slice A0_2 l0_2.length c0_2,.slice A0_3 l0_3.length c0_3]) (t := 37) ?_;intro gb475 hg w19 hbox hb;have BK475 := am_ (hbox);have GW475 := zw_ HB hg;have GE475 := zw_ HB hg;replace HB := zs_ HB hb;clear hb hbox hg) | ((with_reducible refine gate_dst (N := 3) rfl ?_);refine zbx (N := 3) (cs := #[.int .i64 a1_0,.slice A1_1 l1_1.length c1_1,.slice A1_2 l1_2.length c1_2,.slice A1_3 l1_3.length c1_3]) (t := 37) ?_;intro gb476 hg w20 hbox hb;have BK476 := am_ (hbox);have GW476 := zw_ HB hg;have GE476 := zw_ HB hg;replace HB := zs_ HB hb;have NB475_476 := zl hg BK475;have NB476_475 := zg hg BK475;replace BK475 := zb BK475 hb;clear hb hbox hg;have hnb21 := NB475_476.out;have hnc21 := NB476_475.out;obtain ⟨hcz22_0,hcz22_1,hcz22_2,hcz22_3,hfz22_0,hfz22_1,hfz22_2,hfz22_3⟩ := zc4 BK475;obtain ⟨hcz23_0,hcz23_1,hcz23_2,hcz23_3,hfz23_0,hfz23_1,hfz23_2,hfz23_3⟩ := zc4 BK476) | (go_at_call 30;(with_reducible refine (Zn.calls k _ _ l0_1 _ _ l1_1 false _ ?side1 ?side2 ?side3 ?side4 A4.out).mono ?_);(case side1 => exact zc_ HR0_1 HB);(case side2 => exact HC0_1.out);(case side3 => exact zc_ HR1_1 HB);(case side4 => exact HC1_1.out);rintro e w' ⟨rfl,⟨nd,rfl⟩⟩))
  go_ret
  exact ⟨zt_,zl_ HB⟩
 subst c5
 rw [if_pos rfl] at H
 replace H := Option.bind_eq_some_iff.mp H
 obtain ⟨t478,A60,H⟩ := H
 try dsimp only at H
 have A6 := am_ A60
 clear A60
 by_cases c7 : t478 = true
 case neg =>
  replace c7 := Bool.eq_false_iff.mpr c7
  subst c7
  rw [if_neg (show ¬ (false = true) by decide)] at H
  obtain rfl := Option.some.inj H
  go_enter Tryd.func12,Tryd.ntmps12
  go_wp2_with (first | ((with_reducible refine gate_dst (N := 2) rfl ?_);refine zbx (N := 2) (cs := #[.int .i64 a0_0,.slice A0_1 l0_1.length c0_1,.slice A0_2 l0_2.length c0_2,.slice A0_3 l0_3.length c0_3]) (t := 37) ?_;intro gb475 hg w14 hbox hb;have BK475 := am_ (hbox);have GW475 := zw_ HB hg;have GE475 := zw_ HB hg;replace HB := zs_ HB hb;clear hb hbox hg) | ((with_reducible refine gate_dst (N := 3) rfl ?_);refine zbx (N := 3) (cs := #[.int .i64 a1_0,.slice A1_1 l1_1.length c1_1,.slice A1_2 l1_2.length c1_2,.slice A1_3 l1_3.length c1_3]) (t := 37) ?_;intro gb476 hg w15 hbox hb;have BK476 := am_ (hbox);have GW476 := zw_ HB hg;have GE476 := zw_ HB hg;replace HB := zs_ HB hb;have NB475_476 := zl hg BK475;have NB476_475 := zg hg BK475;replace BK475 := zb BK475 hb;clear hb hbox hg;have hnb16 := NB475_476.out;have hnc16 := NB476_475.out;obtain ⟨hcz17_0,hcz17_1,hcz17_2,hcz17_3,hfz17_0,hfz17_1,hfz17_2,hfz17_3⟩ := zc4 BK475;obtain ⟨hcz18_0,hcz18_1,hcz18_2,hcz18_3,hfz18_0,hfz18_1,hfz18_2,hfz18_3⟩ := zc4 BK476) | (go_at_call 30;(with_reducible refine (Zn.calls k _ _ l0_1 _ _ l1_1 true _ ?side1 ?side2 ?side3 ?side4 A4.out).mono ?_);(case side1 => exact zc_ HR0_1 HB);(case side2 => exact HC0_1.out);(case side3 => exact zc_ HR1_1 HB);(case side4 => exact HC1_1.out);rintro e w' ⟨rfl,⟨nd,rfl⟩⟩) | (go_at_call 30;(with_reducible refine (Zn.calls k _ _ l0_2 _ _ l1_2 false _ ?side1 ?side2 ?side3 ?side4 A6.out).mono ?_);(case side1 => repeat (first | exact (Kd.C_below HR0_2.out (zl_ HB)) | (with_reducible refine Kd.C_alloc ?_ _) | (with_reducible refine Kd.C_drewN ?_ _) | (with_reducible refine Kd.C_drew ?_)));(case side2 => exact HC0_2.out);(case side3 => repeat (first | exact (Kd.C_below HR1_2.out (zl_ HB)) | (with_reducible refine Kd.C_alloc ?_ _) | (with_reducible refine Kd.C_drewN ?_ _) | (with_reducible refine Kd.C_drew ?_)));(case side4 => exact HC1_2.out);rintro e w' ⟨rfl,⟨nd,rfl⟩⟩))
  go_ret
  exact ⟨zt_,zl_ HB⟩
 subst c7
 rw [if_pos rfl] at H
 replace H := Option.bind_eq_some_iff.mp H
 obtain ⟨t479,A80,H⟩ := H
 try dsimp only at H
 have A8 := am_ A80
 clear A80
 obtain rfl := Option.some.inj H
 go_enter Tryd.func12,Tryd.ntmps12
 go_wp2_with (first | ((with_reducible refine gate_dst (N := 2) rfl ?_);refine zbx (N := 2) (cs := #[.int .i64 a0_0,.slice A0_1 l0_1.length c0_1,.slice A0_2 l0_2.length c0_2,.slice A0_3 l0_3.length c0_3]) (t := 37) ?_;intro gb475 hg w9 hbox hb;have BK475 := am_ (hbox);have GW475 := zw_ HB hg;have GE475 := zw_ HB hg;replace HB := zs_ HB hb;clear hb hbox hg) | ((with_reducible refine gate_dst (N := 3) rfl ?_);refine zbx (N := 3) (cs := #[.int .i64 a1_0,.slice A1_1 l1_1.length c1_1,.slice A1_2 l1_2.length c1_2,.slice A1_3 l1_3.length c1_3]) (t := 37) ?_;intro gb476 hg w10 hbox hb;have BK476 := am_ (hbox);have GW476 := zw_ HB hg;have GE476 := zw_ HB hg;replace HB := zs_ HB hb;have NB475_476 := zl hg BK475;have NB476_475 := zg hg BK475;replace BK475 := zb BK475 hb;clear hb hbox hg;have hnb11 := NB475_476.out;have hnc11 := NB476_475.out;obtain ⟨hcz12_0,hcz12_1,hcz12_2,hcz12_3,hfz12_0,hfz12_1,hfz12_2,hfz12_3⟩ := zc4 BK475;obtain ⟨hcz13_0,hcz13_1,hcz13_2,hcz13_3,hfz13_0,hfz13_1,hfz13_2,hfz13_3⟩ := zc4 BK476) | (go_at_call 30;(with_reducible refine (Zn.calls k _ _ l0_1 _ _ l1_1 true _ ?side1 ?side2 ?side3 ?side4 A4.out).mono ?_);(case side1 => exact zc_ HR0_1 HB);(case side2 => exact HC0_1.out);(case side3 => exact zc_ HR1_1 HB);(case side4 => exact HC1_1.out);rintro e w' ⟨rfl,⟨nd,rfl⟩⟩) | (go_at_call 30;(with_reducible refine (Zn.calls k _ _ l0_2 _ _ l1_2 true _ ?side1 ?side2 ?side3 ?side4 A6.out).mono ?_);(case side1 => repeat (first | exact (Kd.C_below HR0_2.out (zl_ HB)) | (with_reducible refine Kd.C_alloc ?_ _) | (with_reducible refine Kd.C_drewN ?_ _) | (with_reducible refine Kd.C_drew ?_)));(case side2 => exact HC0_2.out);(case side3 => repeat (first | exact (Kd.C_below HR1_2.out (zl_ HB)) | (with_reducible refine Kd.C_alloc ?_ _) | (with_reducible refine Kd.C_drewN ?_ _) | (with_reducible refine Kd.C_drew ?_)));(case side4 => exact HC1_2.out);rintro e w' ⟨rfl,⟨nd,rfl⟩⟩) | (go_at_call 30;(with_reducible refine (Zn.calls k _ _ l0_3 _ _ l1_3 t479 _ ?side1 ?side2 ?side3 ?side4 A8.out).mono ?_);(case side1 => repeat (first | exact (Kd.C_below HR0_3.out (zl_ HB)) | (with_reducible refine Kd.C_alloc ?_ _) | (with_reducible refine Kd.C_drewN ?_ _) | (with_reducible refine Kd.C_drew ?_)));(case side2 => exact HC0_3.out);(case side3 => repeat (first | exact (Kd.C_below HR1_3.out (zl_ HB)) | (with_reducible refine Kd.C_alloc ?_ _) | (with_reducible refine Kd.C_drewN ?_ _) | (with_reducible refine Kd.C_drew ?_)));(case side4 => exact HC1_3.out);rintro e w' ⟨rfl,⟨nd,rfl⟩⟩))
 go_ret
 exact ⟨zt_,zl_ HB⟩
end Go.Proofs.YtkfhejklnmkfmaaDoor.A
end

section
namespace Go.Proofs.YtkfhejklnmkfmaaDoor.A
open Go.RowKit Go.Proofs.YtkfhejklnmkfmaaDoorW.PrintWords Go.Proofs.YtkfhejklnmkfmaaDoorW.PrintLast Go.Proofs.YtkfhejklnmkfmaaDoorW.PrintMore
theorem Au.of_R {W : World} {base g n cap e : Nat} {ok : Nat → Prop} {xs : List Int} (h : Kd.R (Kd.int .u32) e W base ok (.slice (some ⟨g,0,none⟩) n cap) xs) : Au W g xs := by
 have hn := (Kd.R_reads' h).1
 refine ⟨fun j hj => ?_,fun j hj => ?_⟩
 ·have := (Kd.R_celln 0 h (j : Int) (by omega) (by omega)).1
  simpa [rdOf] using this
 ·have := (Kd.R_celln 0 h (j : Int) (by omega) (by omega)).2
  simpa using this
theorem C_cells {k : IntKind} {W : World} {A : Option Addr} {n : Nat} {xs : List Int} (h : Kd.C (Kd.int k) W A n xs) (hn : 0 < n) : ∃ ad,A = some ad ∧ ∀ j,j < n → W.cell? (ad.add j) = some (.int k (xs.getD j 0)) := by
 obtain ⟨ad,e,c⟩ := Kd.at_int h 0 (by decide) (by omega)
 refine ⟨ad,e,fun j hj => ?_⟩
 obtain ⟨ad2,e2,c2⟩ := Kd.at_int h (j : Int) (by omega) (by omega)
 obtain rfl : ad = ad2 := Option.some.inj (e.symm.trans e2)
 simpa [rd] using c2
structure Sk (w W : World) (n gw : Nat) (lw : List Int) : Prop where
 hw : Au W gw lw
 mine : n ≤ gw
 lt : gw < W.heap.size
 below : Below n w W
theorem Sk.drew {w W : World} {n gw : Nat} {lw : List Int} (h : Sk w W n gw lw) : Sk w W.drew n gw lw := ⟨h.hw.drew,h.mine,h.lt,below_drew_h h.below⟩
theorem Sk.word {w W : World} {n gw : Nat} {lw : List Int} (h : Sk w W n gw lw) (j : Nat) (hj : j < lw.length) (x : Int) : Sk w (W.setCell ⟨gw,j,none⟩ (.int .u32 x)) n gw (lw.set j x) :=
 ⟨h.hw.set j hj x,h.mine,by simpa [World.setCell] using h.lt,below_set_h h.below h.mine⟩
structure Sv (w W : World) (n gw gv : Nat) (lw la : List Int) : Prop where
 hw : Au W gw lw
 ha : Au W gv la
 mw : n ≤ gw
 mv : n ≤ gv
 tw : gw < W.heap.size
 tv : gv < W.heap.size
 below : Below n w W
theorem Sv.drew {w W : World} {n gw gv : Nat} {lw la : List Int} (h : Sv w W n gw gv lw la) : Sv w W.drew n gw gv lw la := ⟨h.hw.drew,h.ha.drew,h.mw,h.mv,h.tw,h.tv,below_drew_h h.below⟩
theorem Sv.lit {w W : World} {n gw gv : Nat} {lw la : List Int} (h : Sv w W n gw gv lw la) (l : List Int) (t : Nat) : Sv w (W.alloc (.cells (l.map (Value.int .u32)).toArray t)) n gw W.heap.size lw l := by
 have h1 := h.tw
 have h2 := h.mw
 have hs := alloc_sz W (.cells (l.map (Value.int .u32)).toArray t)
 have e : ∀ k,k < W.heap.size → (W.alloc (.cells (l.map (Value.int .u32)).toArray t)).heap[k]? = W.heap[k]? := fun k hk => by rw [alloc_at,if_neg (by omega)]
 refine ⟨h.hw.at (e _ h.tw),Au.of_row (e := t) _ ?_,h.mw,by omega,by omega,by omega,⟨h.below.os,h.below.tape,h.below.output,by have := h.below.size;omega,fun k hk => (e k (by omega)).trans (h.below.block k hk)⟩⟩
 rw [alloc_at,if_pos rfl]
theorem append8 {P : Program} {ops : Array Oper} {rest : List Oper} {o : Oper} {a : Act} {Q : Exit → Act → World → Prop} {w W : World} {n gw g g0 c0 : Nat} {lw l0 : List Int} (t e : TypeId) (hgd : o.guard = none) (s x : Operand)
  (ho : o.op = .call { callee := .builtin .append,args := #[s,x],argTypes := #[t,t] }) (ht : P.underlying t = some (.slice e)) (hinfo : (P.info? e).map (fun i => (i.zero,i.size,i.bytes)) = some (some (.int .u32 0),1,4))
  (hs : a.eval s = .slice (some ⟨g,0,none⟩) 0 0) (hx : a.eval x = .slice (some ⟨g0,0,none⟩) 8 c0) (hl0 : l0.length = 8) (hc : Au W g0 l0) (F : Sk w W n gw lw)
  (h : ∀ gv cv w1,Sv w w1 n gw gv lw l0 → wpList P ops Q rest (a.put o.dst (.slice (some ⟨gv,0,none⟩) 8 cv)) w1) : wpList P ops Q (o :: rest) a W := by
 obtain ⟨i,hi,hzz⟩ := Option.map_eq_some_iff.1 hinfo
 simp only [Prod.mk.injEq] at hzz
 obtain ⟨hz,hs1,hb1⟩ := hzz
 have hnl : (l0.map (Value.int .u32)).length = 8 := by simp [hl0]
 have h48' : ¬ (281474976710656 < Builtin.nextslicecap 8 0 * i.bytes) := by rw [hb1];decide
 have hf0 := run_firstCells_some (P := P) W.drew 1 0 ⟨g,0,none⟩ 0 0 [] rfl (fun j v hj => by simp at hj)
 have hf8 := run_firstCells_some (P := P) W.drew 1 8 ⟨g0,0,none⟩ 8 c0 (l0.map (Value.int .u32)) (by simp [hl0]) (fun j v hj => by
  rw [add_plain]
  have hjl : j < l0.length := by
   have := (List.getElem?_eq_some_iff.1 hj).1
   omega
  have := hc.cell j hjl
  simp only [List.getElem?_map,List.getElem?_eq_getElem hjl,Option.map_some,Option.some.injEq] at hj
  subst hj
  simpa [List.getD,hjl] using this)
 have hzc : (Value.int .u32 0).cells = #[.int .u32 0] := rfl
 have hr : (Builtin.append_ #[t,t] o.type #[.slice (some ⟨g,0,none⟩) 0 0,.slice (some ⟨g0,0,none⟩) 8 c0]).run P W = .ok (.slice (some ⟨W.heap.size,0,none⟩) 8 (grownCap W 8 0 e))
   (W.drew.alloc (.cells ((l0.map (Value.int .u32)).toArray ++ Builtin.zeroCells #[.int .u32 0] (grownCap W 8 0 e - 8)) e)) := by
  rw [← hs1] at hf0 hf8
  simp [Builtin.append_,run_underlying ht,sizeOf,typeInfo,zeroValue,hi,hz,Builtin.lenOf,h48',Question.forced,hf0,hf8,newRow,grownCap,hzc]
 refine wpList_plain hgd fun K hK => ?_
 unfold Oper.wp execOp
 simp only [ho,resolve,invoke,builtin,Sem.run_bind,Sem.run_pure,Result.andThen_ok,List.map_toArray,List.map_cons,List.map_nil,hs,hx,hr]
 refine hK _ _ (h _ _ _ ?_)
 have h1 := F.lt
 have h2 := F.mine
 have hsz : (W.drew.alloc (.cells ((l0.map (Value.int .u32)).toArray ++ Builtin.zeroCells #[.int .u32 0] (grownCap W 8 0 e - 8)) e)).heap.size = W.heap.size + 1 := alloc_sz _ _
 have e2 : ∀ k,k < W.heap.size → (W.drew.alloc (.cells ((l0.map (Value.int .u32)).toArray ++ Builtin.zeroCells #[.int .u32 0] (grownCap W 8 0 e - 8)) e)).heap[k]? = W.heap[k]? := fun k hk => by
  rw [alloc_at,if_neg (by show ¬ k = W.heap.size;omega)]
  rfl
 have e3 : (W.drew.alloc (.cells ((l0.map (Value.int .u32)).toArray ++ Builtin.zeroCells #[.int .u32 0] (grownCap W 8 0 e - 8)) e)).heap[W.heap.size]? = some (.cells ((l0.map (Value.int .u32)).toArray ++ Builtin.zeroCells #[.int .u32 0] (grownCap W 8 0 e - 8)) e) := by
  rw [alloc_at,if_pos (by rfl)]
 refine ⟨F.hw.at (e2 _ F.lt),⟨fun j hj => ?_,fun j hj => ?_⟩,F.mine,by omega,by omega,by omega,⟨F.below.os,F.below.tape,F.below.output,by rw [hsz];have := F.below.size;omega,fun k hk => (e2 k (by omega)).trans (F.below.block k hk)⟩⟩
 ·unfold World.cell?
  rw [e3]
  have hj2 : j < (l0.map (Value.int .u32)).toArray.size := by simpa using hj
  simp only [Option.isSome_none,Bool.false_eq_true,if_false]
  rw [Array.getElem?_append_left hj2]
  simp [List.getD,hj]
 ·unfold World.frozen?
  rw [e3]
  simp
structure St (w0 w W : World) (S : Nat → Prop) (g0 c0 gv : Nat) (lh la : List Int) : Prop where
 hr : Kd.R (Kd.int .u32) 79 W w0.heap.size S (.slice (some ⟨g0,0,none⟩) 8 c0) lh
 ha : Au W gv la
 ne : gv ≠ g0
 below : Below w0.heap.size w0 W
 kept : Kept w W S
theorem St.drew {w0 w W : World} {S : Nat → Prop} {g0 c0 gv : Nat} {lh la : List Int} (h : St w0 w W S g0 c0 gv lh la) : St w0 w W.drew S g0 c0 gv lh la :=
 ⟨Kd.R_drew h.hr,h.ha.drew,h.ne,below_drew_h h.below,h.kept.drew⟩
theorem St.set {w0 w W : World} {S : Nat → Prop} {g0 c0 gv : Nat} {lh la : List Int} (h : St w0 w W S g0 c0 gv lh la) (j : Nat) (x : Int) : St w0 w (W.setCell ⟨g0,j,none⟩ (.int .u32 x)) S g0 c0 gv (lh.set j x) la := by
 have hp := Kd.R_putn h.hr (j : Int) x
 rw [Int.toNat_natCast] at hp
 exact ⟨hp,h.ha.far h.ne j _,h.ne,below_set_h h.below (Kd.R_base h.hr _ rfl),h.kept.setCell (p := ⟨g0,j,none⟩) (.inl (h.hr.1 _ rfl)) _⟩
set_option maxHeartbeats 4000000 in
set_option maxRecDepth 100000 in
theorem sblock_walk (S : Nat → Prop) (g0 c0 : Nat) (l0 l1 l2 r : List Int) (ad1 ad2 : Addr) (c1 c2 : Nat) (w0 w : World) (hB : Below w0.heap.size w0 w) (ho0 : Kd.R (Kd.int .u32) 79 w w0.heap.size S (.slice (some ⟨g0,0,none⟩) 8 c0) l0)
  (hr1 : ∀ W,Kept w W S → ∀ j,j < 64 → W.cell? (ad1.add j) = some (.int .u8 (l1.getD j 0))) (hr2 : ∀ W,Kept w W S → ∀ j,j < 64 → W.cell? (ad2.add j) = some (.int .u32 (l2.getD j 0)))
  (h0 : l0.length = 8) (h1 : l1.length = 64) (h2 : l2.length = 64) (hc1 : 64 ≤ c1) (hc2 : 64 ≤ c2) (H : Ze.v l0 l1 l2 = some r) :
  Calls Tryd.prog 75 #[.slice (some ⟨g0,0,none⟩) 8 c0,.slice (some ad1) 64 c1,.slice (some ad2) 64 c2] w fun e w' => e = .returned (.tuple #[]) ∧ Kd.R (Kd.int .u32) 79 w' w0.heap.size S (.slice (some ⟨g0,0,none⟩) 8 c0) r ∧ Below w0.heap.size w0 w' ∧ Kept w w' S := by
 have H0 := Aside0.mk (start0 _ _ _ _ H)
 have HR1 := Aside0.mk hr1
 have HR2 := Aside0.mk hr2
 have HO := Aside0.mk ho0
 have HB := Aside0.mk hB
 have HL := Aside0.mk (And.intro h0 (And.intro h1 h2))
 clear H hr1 hr2 ho0 hB h0 h1 h2
 go_enter Tryd.func75,Tryd.ntmps75
 go_wp2_with (first | ((with_reducible refine gate_dst (N := 18) rfl ?_);refine Kd.R_make (Kd.int .u32) _ 79 rfl (N := 18) rfl 84 _ _ rfl 64 rfl rfl Tryd.underlying84 (.int .u32 0) 4 info79 rfl (by decide) (by omega) 0 (ok := fun _ => True) (okp := fun _ => True) rfl (fun _ hk => hk) trivial (by omega) (by omega) (Below.refl _ _) (Nat.le_refl _) ?_;intro v1 w1 ho hb hg_ hnew_;clear hg_ hnew_;simp only [Int.reduceToNat] at ho;obtain ⟨gw,cw,rfl,hbase,hlt,-⟩ := Kd.R_form ho (by simp);rw [List.length_replicate] at ho ⊢;have hcw := (Kd.R_reads' ho).2.1;have F := Aside0.mk (Sk.mk (Au.of_R ho) hbase hlt hb);clear ho hb hbase hlt))
 obtain ⟨hl0,hl1,hl2⟩ := HL.out
 go_loopg [7] 16 (fun gg v7 wr => ∃ (i : Nat) (ws : List Int),i ≤ 16 ∧ gg + i = 16 ∧ v7 = .int .i64 (i : Int) ∧ ws.length = 64 ∧ Aside0 (Ze.lv0 l0 l1 l2 ws (i : Int) = some r) ∧ Aside0 (Sk w wr w.heap.size gw ws))
 case atStart => exact ⟨0,_,by omega,rfl,rfl,List.length_replicate,H0,F⟩
 case round =>
  clear F H0
  obtain ⟨i,ws,hi,hg,rfl,hws,H0,F⟩ := hrel
  by_cases hlt : i < 16
  ·have c1 : ((i : Int) < 16) := by omega
   have hk := Kept.of_below F.out.below S
   obtain ⟨q0,hq0⟩ : ∃ q,q = 4 * i := ⟨_,rfl⟩
   obtain ⟨q1,hq1⟩ : ∃ q,q = 4 * i + 1 := ⟨_,rfl⟩
   obtain ⟨q2,hq2⟩ : ∃ q,q = 4 * i + 2 := ⟨_,rfl⟩
   obtain ⟨q3,hq3⟩ : ∃ q,q = 4 * i + 3 := ⟨_,rfl⟩
   have w0 : IntKind.i64.wrap (4 * (i : Int)) = (q0 : Int) := (w64id _ (by omega) (by omega)).trans (by omega)
   have w1 : IntKind.i64.wrap ((q0 : Int) + 1) = (q1 : Int) := by clear w0;exact (w64id _ (by omega) (by omega)).trans (by omega)
   have w2 : IntKind.i64.wrap ((q0 : Int) + 2) = (q2 : Int) := by clear w0 w1;exact (w64id _ (by omega) (by omega)).trans (by omega)
   have w3 : IntKind.i64.wrap ((q0 : Int) + 3) = (q3 : Int) := by clear w0 w1 w2;exact (w64id _ (by omega) (by omega)).trans (by omega)
   have b0 := HR1.out wr hk q0 (by clear w0 w1 w2 w3;omega)
   have b1 := HR1.out wr hk q1 (by clear w0 w1 w2 w3;omega)
   have b2 := HR1.out wr hk q2 (by clear w0 w1 w2 w3;omega)
   have b3 := HR1.out wr hk q3 (by clear w0 w1 w2 w3;omega)
   have e0 : (q0 : Int) < 64 := by clear w0 w1 w2 w3;omega
   have e1 : (q1 : Int) < 64 := by clear w0 w1 w2 w3;omega
   have e2 : (q2 : Int) < 64 := by clear w0 w1 w2 w3;omega
   have e3 : (q3 : Int) < 64 := by clear w0 w1 w2 w3;omega
   have ei : (i : Int) < 64 := by clear w0 w1 w2 w3;omega
   have g4 : i < ws.length := by clear w0 w1 w2 w3;omega
   have z0 := F.out.hw.cell i g4
   have z1 := F.out.hw.free i g4
   have H1 := Aside0.mk (step0 _ _ _ _ _ _ hl1 hws hlt H0.out)
   rw [← hq1,← hq2,← hq3,← hq0] at H1
   generalize hx0 : l1.getD q0 0 = x0 at b0 H1
   generalize hx1 : l1.getD q1 0 = x1 at b1 H1
   generalize hx2 : l1.getD q2 0 = x2 at b2 H1
   generalize hx3 : l1.getD q3 0 = x3 at b3 H1
   generalize ws.getD i 0 = xi at z0
   clear hq0 hq1 hq2 hq3 hx0 hx1 hx2 hx3 hk H0
   go_wp2
   go_still_tail 36,(by kernel_rfl)
   change wpList _ _ _ _ _ wr.drew
   have z2 : wr.drew.cell? ⟨gw,i,none⟩ = some (.int .u32 xi) := z0
   have z3 : wr.drew.frozen? ⟨gw,i,none⟩ = false := z1
   have F2 := Aside0.mk (F.out.drew.word i g4 (word4 x0 x1 x2 x3))
   generalize wr.drew = w4 at z2 z3 F2 ⊢
   clear z0 z1 b0 b1 b2 b3 F
   go_wp2
   go_roundg (16 - (i + 1))
   case measure => omega
   case rel => exact ⟨i + 1,_,by omega,by omega,by go_num,by rw [List.length_set];exact hws,H1,F2⟩
  ·have hlt2 : ¬ ((i : Int) < 16) := by omega
   have H1 := Aside0.mk (exit0 _ _ _ _ _ _ hlt2 H0.out)
   clear H0
   go_wp2
   go_loopg [8] 48 (fun gg v8 wr => ∃ (i : Nat) (ws : List Int),i ≤ 64 ∧ 16 ≤ i ∧ gg + i = 64 ∧ v8 = .int .i64 (i : Int) ∧ ws.length = 64 ∧ Aside0 (Ze.lv1 l0 l2 ws (i : Int) = some r) ∧ Aside0 (Sk w wr w.heap.size gw ws))
   case atStart => exact ⟨16,ws,by omega,by omega,rfl,rfl,hws,H1,F⟩
   case round =>
    clear F H1 hlt2 hlt hi hws
    obtain ⟨i,ws,hi,h16,hg,rfl,hws,H0,F⟩ := hrel
    by_cases hlt : i < 64
    ·have c1 : ((i : Int) < 64) := by omega
     obtain ⟨q0,hq0⟩ : ∃ q,q = i - 16 := ⟨_,rfl⟩
     obtain ⟨q1,hq1⟩ : ∃ q,q = i - 15 := ⟨_,rfl⟩
     obtain ⟨q2,hq2⟩ : ∃ q,q = i - 7 := ⟨_,rfl⟩
     obtain ⟨q3,hq3⟩ : ∃ q,q = i - 2 := ⟨_,rfl⟩
     have w0 : IntKind.i64.wrap ((i : Int) - 16) = (q0 : Int) := (w64id _ (by omega) (by omega)).trans (by omega)
     have w1 : IntKind.i64.wrap ((i : Int) - 15) = (q1 : Int) := by clear w0;exact (w64id _ (by omega) (by omega)).trans (by omega)
     have w2 : IntKind.i64.wrap ((i : Int) - 7) = (q2 : Int) := by clear w0 w1;exact (w64id _ (by omega) (by omega)).trans (by omega)
     have w3 : IntKind.i64.wrap ((i : Int) - 2) = (q3 : Int) := by clear w0 w1 w2;exact (w64id _ (by omega) (by omega)).trans (by omega)
     have g0 : q0 < ws.length := by clear w0 w1 w2 w3;omega
     have g1 : q1 < ws.length := by clear w0 w1 w2 w3;omega
     have g2 : q2 < ws.length := by clear w0 w1 w2 w3;omega
     have g3 : q3 < ws.length := by clear w0 w1 w2 w3;omega
     have g4 : i < ws.length := by clear w0 w1 w2 w3;omega
     have b0 := F.out.hw.cell q0 g0
     have b1 := F.out.hw.cell q1 g1
     have b2 := F.out.hw.cell q2 g2
     have b3 := F.out.hw.cell q3 g3
     have e0 : (q0 : Int) < 64 := by clear w0 w1 w2 w3;omega
     have e1 : (q1 : Int) < 64 := by clear w0 w1 w2 w3;omega
     have e2 : (q2 : Int) < 64 := by clear w0 w1 w2 w3;omega
     have e3 : (q3 : Int) < 64 := by clear w0 w1 w2 w3;omega
     have z0 := F.out.hw.cell i g4
     have z1 := F.out.hw.free i g4
     have H1 := Aside0.mk (step1 _ _ _ _ _ hws h16 hlt H0.out)
     rw [← hq0,← hq1,← hq2,← hq3] at H1
     generalize hx0 : ws.getD q0 0 = x0 at b0 H1
     generalize hx1 : ws.getD q1 0 = x1 at b1 H1
     generalize hx2 : ws.getD q2 0 = x2 at b2 H1
     generalize hx3 : ws.getD q3 0 = x3 at b3 H1
     generalize ws.getD i 0 = xi at z0
     clear hq0 hq1 hq2 hq3 hx0 hx1 hx2 hx3 g0 g1 g2 g3 H0
     go_wp2
     refine wp_region_still_tail 32 (by kernel_rfl) (by kernel_rfl) ?_
     simp only [List.take_succ_cons,List.take_zero,List.drop_succ_cons,List.drop_zero]
     repeat still_step
     still_call (stn7 _ _)
     repeat still_step
     still_call (stn18 _ _)
     repeat still_step
     still_call (stn17 _ _)
     repeat still_step
     still_call (stn19 _ _)
     repeat still_step
     refine wpStill_nil ?_
     change wpList _ _ _ _ _ wr.drew
     have z2 : wr.drew.cell? ⟨gw,i,none⟩ = some (.int .u32 xi) := z0
     have z3 : wr.drew.frozen? ⟨gw,i,none⟩ = false := z1
     have F2 := Aside0.mk (F.out.drew.word i g4 (wordX x0 (sig x1 7 18 (x1 / 8)) x2 (sig x3 17 19 (x3 / 1024))))
     generalize wr.drew = w4 at z2 z3 F2 ⊢
     clear z0 z1 b0 b1 b2 b3 F w0 w1 w2 w3
     go_wp2
     go_roundg (64 - (i + 1))
     case measure => omega
     case rel => exact ⟨i + 1,_,by omega,by omega,by omega,by go_num,by rw [List.length_set];exact hws,H1,F2⟩
    ·have hlt2 : ¬ ((i : Int) < 64) := by omega
     have H1 := Aside0.mk (exit1 _ _ _ _ hl0 _ hlt2 H0.out)
     clear H0
     have hA0 : Aside0 (Au w g0 l0) := Aside0.mk (Au.of_R HO.out)
     have hg0 := Kd.R_lt HO.out g0 rfl
     have HG := Aside0.mk hg0
     clear hg0
     go_wp2_with (first | ((with_reducible refine gate_builtin (b := .append) (xs := #[.tmp 105,.tmp 106]) rfl ?_);at_builtin;refine append8 (l0 := l0) 84 79 rfl (.tmp 105) (.tmp 106) rfl Tryd.underlying84 info79 (by rfl) (by rfl) hl0 ((hA0.out.at (F.out.below.block g0 HG.out)).at (by first | rfl | (rw [alloc_at,if_neg (by have := HG.out;have := F.out.below.size;omega)]))) (w := w) (n := w.heap.size) (gw := gw) (lw := ws) (by first | exact F.out | exact ⟨F.out.hw.at (by rw [alloc_at,if_neg (by have := F.out.lt;omega)]),F.out.mine,by rw [alloc_sz];have := F.out.lt;omega,⟨F.out.below.os,F.out.below.tape,F.out.below.output,by rw [alloc_sz];have := F.out.below.size;omega,fun k hk => by rw [alloc_at,if_neg (by have := F.out.below.size;omega)];exact F.out.below.block k hk⟩⟩) ?_;clear F;intro gv cv w6 F0;have F := Aside0.mk F0;clear F0))
     obtain ⟨h0,h1,h2,h3,h4,h5,h6,h7,rfl⟩ := eight hl0
     go_loopg [11,12] 64 (fun gg v11 v12 wr => ∃ (i gv cv : Nat) (a0 a1 a2 a3 a4 a5 a6 a7 : Int),i ≤ 64 ∧ gg + i = 64 ∧ v11 = .slice (some ⟨gv,0,none⟩) 8 cv ∧ v12 = .int .i64 (i : Int) ∧ Aside0 (Ze.lv2 [h0,h1,h2,h3,h4,h5,h6,h7] l2 ws [a0,a1,a2,a3,a4,a5,a6,a7] (i : Int) = some r) ∧ Aside0 (Sv w wr w.heap.size gw gv ws [a0,a1,a2,a3,a4,a5,a6,a7]))
     case atStart => exact ⟨0,gv,cv,h0,h1,h2,h3,h4,h5,h6,h7,by omega,rfl,rfl,rfl,H1,F⟩
     case round =>
      clear F H1 hlt2 hlt hi h16
      obtain ⟨i,gv,cv,a0,a1,a2,a3,a4,a5,a6,a7,hi,hg,rfl,rfl,H0,F⟩ := hrel
      by_cases hlt : i < 64
      ·have c1 : ((i : Int) < 64) := by omega
       have hk := Kept.of_below F.out.below S
       obtain ⟨⟨c0_,d1,d2,d3,d4,d5,d6,d7⟩,-⟩ := F.out.ha.eight
       have bk := HR2.out wr hk i hlt
       have bw := F.out.hw.cell i (by omega)
       clear hk
       obtain ⟨xk,hxk⟩ : ∃ x,l2.getD i 0 = x := ⟨_,rfl⟩
       obtain ⟨xw,hxw⟩ : ∃ x,ws.getD i 0 = x := ⟨_,rfl⟩
       rw [hxk] at bk
       rw [hxw] at bw
       have HX := Aside0.mk (And.intro hxk hxw)
       clear hxk hxw
       go_wp2
       refine wp_region_still_lit (by kernel_rfl) (by kernel_rfl) ?_
       repeat still_step
       still_call (stn6 _ _)
       repeat still_step
       still_call (stn11 _ _)
       repeat still_step
       still_call (stn25 _ _)
       repeat still_step
       refine wpStill_nil ?_
       have F3 := Aside0.mk F.out.drew
       have c0d : wr.drew.cell? _ = _ := c0_
       have d1_ : wr.drew.cell? _ = _ := d1
       have d2_ : wr.drew.cell? _ = _ := d2
       have d3_ : wr.drew.cell? _ = _ := d3
       have d4_ : wr.drew.cell? _ = _ := d4
       have d5_ : wr.drew.cell? _ = _ := d5
       have d6_ : wr.drew.cell? _ = _ := d6
       have d7_ : wr.drew.cell? _ = _ := d7
       clear c0_ d1 d2 d3 d4 d5 d6 d7 bk bw F
       generalize hxp : IntKind.u32.wrap (IntKind.u32.wrap (_ + xk) + xw) = xp
       have hp : pX a7 a4 a5 a6 xk xw = xp := hxp
       have HP := Aside0.mk ((pX_eq _ _ _ _ _ _).symm.trans hp)
       clear hxp hp
       rw [show ({ heap := wr.heap,tape := wr.tape,drawn := wr.drawn + 1,os := wr.os,output := wr.output } : World) = wr.drew from rfl]
       generalize wr.drew = w6 at c0d d1_ d2_ d3_ d4_ d5_ d6_ d7_ F3 ⊢
       go_wp2
       refine wp_region_still_lit (by kernel_rfl) (by kernel_rfl) ?_
       repeat still_step
       still_call (stn2 _ _)
       repeat still_step
       still_call (stn13 _ _)
       repeat still_step
       still_call (stn22 _ _)
       repeat still_step
       refine wpStill_nil ?_
       obtain ⟨⟨c0_,d1,d2,d3,d4,d5,d6,d7⟩,-⟩ := F3.out.drew.ha.eight
       have F4 := Aside0.mk F3.out.drew
       clear c0d d1_ d2_ d3_ d4_ d5_ d6_ d7_ F3
       generalize hxq : IntKind.u32.wrap (_ + Go.bits .xor .u32 _ (Go.bits .and .u32 a1 a2)) = xq
       have hq : qW a0 a1 a2 = xq := hxq
       have HQ := Aside0.mk hq
       clear hxq hq
       rw [show ({ heap := w6.heap,tape := w6.tape,drawn := w6.drawn + 1,os := w6.os,output := w6.output } : World) = w6.drew from rfl]
       generalize w6.drew = w7 at c0_ d1 d2 d3 d4 d5 d6 d7 F4 ⊢
       have H1 := Aside0.mk (step2w _ _ _ _ _ _ _ _ _ _ _ _ _ hws hl2 hlt xk xw xp xq HX.out.1 HX.out.2 HP.out HQ.out H0.out)
       clear H0
       go_wp2
       refine wp_region_still_tail 26 (by kernel_rfl) (by kernel_rfl) ?_
       simp only [List.take_succ_cons,List.take_zero,List.drop_succ_cons,List.drop_zero]
       repeat still_step
       refine wpStill_nil ?_
       change wpList _ _ _ _ _ w7.drew
       have F5 := Aside0.mk F4.out.drew
       clear c0_ d1 d2 d3 d4 d5 d6 d7 F4
       generalize w7.drew = w8 at F5 ⊢
       go_wp2
       go_roundg (64 - (i + 1))
       case measure => omega
       case rel => exact ⟨i + 1,w8.heap.size,8,(xp + xq) % 4294967296,a0,a1,a2,(a3 + xp) % 4294967296,a4,a5,a6,by omega,by omega,rfl,by go_num,H1,⟨F5.out.lit [(xp + xq) % 4294967296,a0,a1,a2,(a3 + xp) % 4294967296,a4,a5,a6] 79⟩⟩
      ·have hlt2 : ¬ ((i : Int) < 64) := by omega
       have H1 := Aside0.mk (exit2 _ _ _ _ _ _ hlt2 H0.out)
       clear H0
       have F2 : Aside0 (St w0 w wr S g0 c0 gv [h0,h1,h2,h3,h4,h5,h6,h7] [a0,a1,a2,a3,a4,a5,a6,a7]) := Aside0.mk ⟨Kd.R_below HO.out F.out.below,F.out.ha,by have := F.out.mv;have := HG.out;omega,HB.out.trans (F.out.below.mono HB.out.size),Kept.of_below F.out.below S⟩
       clear F
       go_wp2
       go_loopg [17] 8 (fun gg v17 wr => ∃ (i : Nat) (lh : List Int),i ≤ 8 ∧ gg + i = 8 ∧ v17 = .int .i64 (i : Int) ∧ lh.length = 8 ∧ Aside0 (Ze.lv3 lh [a0,a1,a2,a3,a4,a5,a6,a7] (i : Int) = some r) ∧ Aside0 (St w0 w wr S g0 c0 gv lh [a0,a1,a2,a3,a4,a5,a6,a7]))
       case atStart => exact ⟨0,_,by omega,rfl,rfl,rfl,H1,F2⟩
       case round =>
        clear F2 H1 hlt2 hlt hi
        obtain ⟨i,lh,hi,hg,rfl,hlh,H0,F⟩ := hrel
        by_cases hlt : i < 8
        ·have c1 : ((i : Int) < 8) := by omega
         have H1 := Aside0.mk (step3 _ _ _ _ hlh rfl hlt H0.out)
         obtain ⟨b0,z1⟩ := Kd.R_celln 0 F.out.hr (i : Int) (by omega) (by omega)
         have b1 := F.out.ha.cell i (by simpa using hlt)
         rw [Int.toNat_natCast] at b0 z1
         have b0' : wr.cell? ⟨g0,i,none⟩ = some (.int .u32 (lh.getD i 0)) := by simpa [rdOf] using b0
         clear H0 b0
         obtain ⟨x0,hx0⟩ : ∃ x,lh.getD i 0 = x := ⟨_,rfl⟩
         obtain ⟨x1,hx1⟩ : ∃ x,([a0,a1,a2,a3,a4,a5,a6,a7] : List Int).getD i 0 = x := ⟨_,rfl⟩
         rw [hx0] at b0' H1
         rw [hx1] at b1 H1
         rw [u32w_h] at H1
         clear hx0 hx1
         go_wp2
         refine wp_region_still_tail 10 (by kernel_rfl) (by kernel_rfl) ?_
         simp only [List.take_succ_cons,List.take_zero,List.drop_succ_cons,List.drop_zero]
         repeat still_step
         refine wpStill_nil ?_
         change wpList _ _ _ _ _ wr.drew
         have z2 : wr.drew.cell? ⟨g0,i,none⟩ = some (.int .u32 x0) := b0'
         have z3 : wr.drew.frozen? ⟨g0,i,none⟩ = false := z1
         have F2 := Aside0.mk (F.out.drew.set i ((x0 + x1) % 4294967296))
         generalize wr.drew = w4 at z2 z3 F2 ⊢
         clear z1 b0' b1 F
         go_wp2
         go_roundg (8 - (i + 1))
         case measure => omega
         case rel => exact ⟨i + 1,_,by omega,by omega,by go_num,by rw [List.length_set];exact hlh,H1,F2⟩
        ·have hlt2 : ¬ ((i : Int) < 8) := by omega
         have e := exit3 _ _ _ _ hlt2 H0.out
         subst e
         clear H0
         go_wp2
         first | go_end0 | ((try simp only [Exit.inBlock,Exit.then]);refine bodyPost_ret (results_none rfl _ _ _) rfl ?_)
         exact ⟨rfl,F.out.hr,F.out.below,F.out.kept⟩
end Go.Proofs.YtkfhejklnmkfmaaDoor.A
end

section
namespace Go.Proofs.YtkfhejklnmkfmaaDoor.A
open Go.RowKit Go.Proofs.YtkfhejklnmkfmaaDoorW.PrintWords Go.Proofs.YtkfhejklnmkfmaaDoorW.PrintLast Go.Proofs.YtkfhejklnmkfmaaDoorW.PrintMore
attribute [local go_sem] max2_int min2_int max_two min_two max_three min_three max_four min_four
theorem Ze.calls (k : Nat) (P0_ : Nat → Prop) (u9000_ : Value) (l0 : List Int) (A1 : Option Addr) (c1 : Nat) (l1 : List Int) (A2 : Option Addr) (c2 : Nat) (l2 : List Int) (r : List Int) (w0 w : World) (hB : Below w0.heap.size w0 w) (ho0 : Kd.R (Kd.int .u32) 79 w w0.heap.size P0_ u9000_ l0) (hr1 : ∀ W_,Kept w W_ (fun k_ => P0_ k_) → Kd.C (Kd.int .u8) W_ A1 l1.length l1) (hc1 : l1.length ≤ c1) (hr2 : ∀ W_,Kept w W_ (fun k_ => P0_ k_) → Kd.C (Kd.int .u32) W_ A2 l2.length l2) (hc2 : l2.length ≤ c2) (h : Ze.f k l0 l1 l2 = some r) :
  Calls Tryd.prog 75 #[u9000_,.slice A1 l1.length c1,.slice A2 l2.length c2] w fun e w' => e = .returned (.tuple #[]) ∧ Kd.R (Kd.int .u32) 79 w' w0.heap.size (fun k_ => (P0_ k_ ∨ w.heap.size ≤ k_)) u9000_ r ∧ Below w0.heap.size w0 w' ∧ Kept w w' (fun k_ => P0_ k_) := by
 unfold Ze.f at h
 by_cases c : l0.length = 8 ∧ l1.length = 64 ∧ l2.length = 64
 case neg =>
  rw [if_neg c] at h
  cases h
 have hv : Ze.v l0 l1 l2 = some r := (Ze.v_lim l0 l1 l2).up k r h
 obtain ⟨h0,h1,h2⟩ := c
 obtain ⟨g0,c0,rfl,-,-,-⟩ := Kd.R_form ho0 (by omega)
 obtain ⟨ad1,rfl,-⟩ := C_cells (hr1 w (Kept.refl w _)) (by omega)
 obtain ⟨ad2,rfl,-⟩ := C_cells (hr2 w (Kept.refl w _)) (by omega)
 have k1 : ∀ W,Kept w W P0_ → ∀ j,j < 64 → W.cell? (ad1.add j) = some (.int .u8 (l1.getD j 0)) := fun W hk j hj => by
  obtain ⟨ad,e,hc⟩ := C_cells (hr1 W hk) (by omega)
  injection e with e
  subst e
  exact hc j (by omega)
 have k2 : ∀ W,Kept w W P0_ → ∀ j,j < 64 → W.cell? (ad2.add j) = some (.int .u32 (l2.getD j 0)) := fun W hk j hj => by
  obtain ⟨ad,e,hc⟩ := C_cells (hr2 W hk) (by omega)
  injection e with e
  subst e
  exact hc j (by omega)
 rw [h0] at ho0 ⊢
 rw [h1] at hc1 ⊢
 rw [h2] at hc2 ⊢
 exact (sblock_walk P0_ g0 c0 l0 l1 l2 r ad1 ad2 c1 c2 w0 w hB ho0 k1 k2 h0 h1 h2 hc1 hc2 hv).mono fun e w' ⟨he,hr,hb,hk⟩ => ⟨he,Kd.R_mono hr (fun k_ hk_ => .inl hk_),hb,hk⟩
theorem Ys.calls  (r : List Int) (w : World) (h : Ys.f  = some r) :
  Calls Tryd.prog 74 #[] w fun e w' => ∃ v0_ : Value,e = .returned (v0_) ∧ Kd.R (Kd.int .u32) 79 w' w.heap.size (fun _ => True) v0_ r ∧ Below w.heap.size w w' := by
 have HB := am_ (Below.refl w.heap.size w)
 have H : (some (([1116352408,1899447441,3049323471,3921009573,961987163,1508970993,2453635748,2870763221,3624381080,310598401,607225278,1426881987,1925078388,2162078206,2614888103,3248222580,3835390401,4022224774,264347078,604807628,770255983,1249150122,1555081692,1996064986,2554220882,2821834349,2952996808,3210313671,3336571891,3584528711,113926993,338241895,666307205,773529912,1294757372,1396182291,1695183700,1986661051,2177026350,2456956037,2730485921,2820302411,3259730800,3345764771,3516065817,3600352804,4094571909,275423344,430227734,506948616,659060556,883997877,958139571,1322822218,1537002063,1747873779,1955562222,2024104815,2227730452,2361852424,2428436474,2756734187,3204031479,3329325298] : List Int))) = some r := h
 clear h
 obtain ⟨y174,hy174⟩ : ∃ y_ : List Int,y_ = (([1116352408,1899447441,3049323471,3921009573,961987163,1508970993,2453635748,2870763221,3624381080,310598401,607225278,1426881987,1925078388,2162078206,2614888103,3248222580,3835390401,4022224774,264347078,604807628,770255983,1249150122,1555081692,1996064986,2554220882,2821834349,2952996808,3210313671,3336571891,3584528711,113926993,338241895,666307205,773529912,1294757372,1396182291,1695183700,1986661051,2177026350,2456956037,2730485921,2820302411,3259730800,3345764771,3516065817,3600352804,4094571909,275423344,430227734,506948616,659060556,883997877,958139571,1322822218,1537002063,1747873779,1955562222,2024104815,2227730452,2361852424,2428436474,2756734187,3204031479,3329325298] : List Int)) := ⟨_,rfl⟩
 replace H : (some y174) = some r := by first | (rw [hy174];with_reducible exact H) | (have H2_ := (Option.bind_some _ _).symm.trans H;rw [hy174];with_reducible exact H2_) | (have H2_ := (Option.bind_some _ _).symm.trans H;with_reducible exact H2_) | with_reducible exact H | (rw [hy174];exact H) | exact H
 have Ny174 := am_ hy174
 clear hy174
 obtain rfl := Option.some.inj H
 go_enter Tryd.func74,Tryd.ntmps74
 go_wp2_with (first | ((with_reducible refine gate_dst (N := 1) rfl ?_);refine Kd.R_lit (Kd.int .u32) _ 79 ?hg (N := 1) ?hd (xs := ([1116352408,1899447441,3049323471,3921009573,961987163,1508970993,2453635748,2870763221,3624381080,310598401,607225278,1426881987,1925078388,2162078206,2614888103,3248222580,3835390401,4022224774,264347078,604807628,770255983,1249150122,1555081692,1996064986,2554220882,2821834349,2952996808,3210313671,3336571891,3584528711,113926993,338241895,666307205,773529912,1294757372,1396182291,1695183700,1986661051,2177026350,2456956037,2730485921,2820302411,3259730800,3345764771,3516065817,3600352804,4094571909,275423344,430227734,506948616,659060556,883997877,958139571,1322822218,1537002063,1747873779,1955562222,2024104815,2227730452,2361852424,2428436474,2756734187,3204031479,3329325298] : List Int)) (inner := [.int .u32 1116352408,.int .u32 1899447441,.int .u32 3049323471,.int .u32 3921009573,.int .u32 961987163,.int .u32 1508970993,.int .u32 2453635748,.int .u32 2870763221,.int .u32 3624381080,.int .u32 310598401,.int .u32 607225278,.int .u32 1426881987,.int .u32 1925078388,.int .u32 2162078206,.int .u32 2614888103,.int .u32 3248222580,.int .u32 3835390401,.int .u32 4022224774,.int .u32 264347078,.int .u32 604807628,.int .u32 770255983,.int .u32 1249150122,.int .u32 1555081692,.int .u32 1996064986,.int .u32 2554220882,.int .u32 2821834349,.int .u32 2952996808,.int .u32 3210313671,.int .u32 3336571891,.int .u32 3584528711,.int .u32 113926993,.int .u32 338241895,.int .u32 666307205,.int .u32 773529912,.int .u32 1294757372,.int .u32 1396182291,.int .u32 1695183700,.int .u32 1986661051,.int .u32 2177026350,.int .u32 2456956037,.int .u32 2730485921,.int .u32 2820302411,.int .u32 3259730800,.int .u32 3345764771,.int .u32 3516065817,.int .u32 3600352804,.int .u32 4094571909,.int .u32 275423344,.int .u32 430227734,.int .u32 506948616,.int .u32 659060556,.int .u32 883997877,.int .u32 958139571,.int .u32 1322822218,.int .u32 1537002063,.int .u32 1747873779,.int .u32 1955562222,.int .u32 2024104815,.int .u32 2227730452,.int .u32 2361852424,.int .u32 2428436474,.int .u32 2756734187,.int .u32 3204031479,.int .u32 3329325298]) (ok := fun _ => True) (okp := fun _ => True) ?hr ?hp (fun _ hk => hk) trivial (Below.refl _ _) (Nat.le_refl _) (by simp) ?_;(case hd => rfl);(case hg => rfl);(case hr => first | (go_simp;done) | (go_simp;rfl));(case hp => exact (Reps.one (show Kd.M (Kd.int .u32) _ _ _ 1116352408 [.int .u32 1116352408] from rfl) (Reps.one (show Kd.M (Kd.int .u32) _ _ _ 1899447441 [.int .u32 1899447441] from rfl) (Reps.one (show Kd.M (Kd.int .u32) _ _ _ 3049323471 [.int .u32 3049323471] from rfl) (Reps.one (show Kd.M (Kd.int .u32) _ _ _ 3921009573 [.int .u32 3921009573] from rfl) (Reps.one (show Kd.M (Kd.int .u32) _ _ _ 961987163 [.int .u32 961987163] from rfl) (Reps.one (show Kd.M (Kd.int .u32) _ _ _ 1508970993 [.int .u32 1508970993] from rfl) (Reps.one (show Kd.M (Kd.int .u32) _ _ _ 2453635748 [.int .u32 2453635748] from rfl) (Reps.one (show Kd.M (Kd.int .u32) _ _ _ 2870763221 [.int .u32 2870763221] from rfl) (Reps.one (show Kd.M (Kd.int .u32) _ _ _ 3624381080 [.int .u32 3624381080] from rfl) (Reps.one (show Kd.M (Kd.int .u32) _ _ _ 310598401 [.int .u32 310598401] from rfl) (Reps.one (show Kd.M (Kd.int .u32) _ _ _ 607225278 [.int .u32 607225278] from rfl) (Reps.one (show Kd.M (Kd.int .u32) _ _ _ 1426881987 [.int .u32 1426881987] from rfl) (Reps.one (show Kd.M (Kd.int .u32) _ _ _ 1925078388 [.int .u32 1925078388] from rfl) (Reps.one (show Kd.M (Kd.int .u32) _ _ _ 2162078206 [.int .u32 2162078206] from rfl) (Reps.one (show Kd.M (Kd.int .u32) _ _ _ 2614888103 [.int .u32 2614888103] from rfl) (Reps.one (show Kd.M (Kd.int .u32) _ _ _ 3248222580 [.int .u32 3248222580] from rfl) (Reps.one (show Kd.M (Kd.int .u32) _ _ _ 3835390401 [.int .u32 3835390401] from rfl) (Reps.one (show Kd.M (Kd.int .u32) _ _ _ 4022224774 [.int .u32 4022224774] from rfl) (Reps.one (show Kd.M (Kd.int .u32) _ _ _ 264347078 [.int .u32 264347078] from rfl) (Reps.one (show Kd.M (Kd.int .u32) _ _ _ 604807628 [.int .u32 604807628] from rfl) (Reps.one (show Kd.M (Kd.int .u32) _ _ _ 770255983 [.int .u32 770255983] from rfl) (Reps.one (show Kd.M (Kd.int .u32) _ _ _ 1249150122 [.int .u32 1249150122] from rfl) (Reps.one (show Kd.M (Kd.int .u32) _ _ _ 1555081692 [.int .u32 1555081692] from rfl) (Reps.one (show Kd.M (Kd.int .u32) _ _ _ 1996064986 [.int .u32 1996064986] from rfl) (Reps.one (show Kd.M (Kd.int .u32) _ _ _ 2554220882 [.int .u32 2554220882] from rfl) (Reps.one (show Kd.M (Kd.int .u32) _ _ _ 2821834349 [.int .u32 2821834349] from rfl) (Reps.one (show Kd.M (Kd.int .u32) _ _ _ 2952996808 [.int .u32 2952996808] from rfl) (Reps.one (show Kd.M (Kd.int .u32) _ _ _ 3210313671 [.int .u32 3210313671] from rfl) (Reps.one (show Kd.M (Kd.int .u32) _ _ _ 3336571891 [.int .u32 3336571891] from rfl) (Reps.one (show Kd.M (Kd.int .u32) _ _ _ 3584528711 [.int .u32 3584528711] from rfl) (Reps.one (show Kd.M (Kd.int .u32) _ _ _ 113926993 [.int .u32 113926993] from rfl) (Reps.one (show Kd.M (Kd.int .u32) _ _ _ 338241895 [.int .u32 338241895] from rfl) (Reps.one (show Kd.M (Kd.int .u32) _ _ _ 666307205 [.int .u32 666307205] from rfl) (Reps.one (show Kd.M (Kd.int .u32) _ _ _ 773529912 [.int .u32 773529912] from rfl) (Reps.one (show Kd.M (Kd.int .u32) _ _ _ 1294757372 [.int .u32 1294757372] from rfl) (Reps.one (show Kd.M (Kd.int .u32) _ _ _ 1396182291 [.int .u32 1396182291] from rfl) (Reps.one (show Kd.M (Kd.int .u32) _ _ _ 1695183700 [.int .u32 1695183700] from rfl) (Reps.one (show Kd.M (Kd.int .u32) _ _ _ 1986661051 [.int .u32 1986661051] from rfl) (Reps.one (show Kd.M (Kd.int .u32) _ _ _ 2177026350 [.int .u32 2177026350] from rfl) (Reps.one (show Kd.M (Kd.int .u32) _ _ _ 2456956037 [.int .u32 2456956037] from rfl) (Reps.one (show Kd.M (Kd.int .u32) _ _ _ 2730485921 [.int .u32 2730485921] from rfl) (Reps.one (show Kd.M (Kd.int .u32) _ _ _ 2820302411 [.int .u32 2820302411] from rfl) (Reps.one (show Kd.M (Kd.int .u32) _ _ _ 3259730800 [.int .u32 3259730800] from rfl) (Reps.one (show Kd.M (Kd.int .u32) _ _ _ 3345764771 [.int .u32 3345764771] from rfl) (Reps.one (show Kd.M (Kd.int .u32) _ _ _ 3516065817 [.int .u32 3516065817] from rfl) (Reps.one (show Kd.M (Kd.int .u32) _ _ _ 3600352804 [.int .u32 3600352804] from rfl) (Reps.one (show Kd.M (Kd.int .u32) _ _ _ 4094571909 [.int .u32 4094571909] from rfl) (Reps.one (show Kd.M (Kd.int .u32) _ _ _ 275423344 [.int .u32 275423344] from rfl) (Reps.one (show Kd.M (Kd.int .u32) _ _ _ 430227734 [.int .u32 430227734] from rfl) (Reps.one (show Kd.M (Kd.int .u32) _ _ _ 506948616 [.int .u32 506948616] from rfl) (Reps.one (show Kd.M (Kd.int .u32) _ _ _ 659060556 [.int .u32 659060556] from rfl) (Reps.one (show Kd.M (Kd.int .u32) _ _ _ 883997877 [.int .u32 883997877] from rfl) (Reps.one (show Kd.M (Kd.int .u32) _ _ _ 958139571 [.int .u32 958139571] from rfl) (Reps.one (show Kd.M (Kd.int .u32) _ _ _ 1322822218 [.int .u32 1322822218] from rfl) (Reps.one (show Kd.M (Kd.int .u32) _ _ _ 1537002063 [.int .u32 1537002063] from rfl) (Reps.one (show Kd.M (Kd.int .u32) _ _ _ 1747873779 [.int .u32 1747873779] from rfl) (Reps.one (show Kd.M (Kd.int .u32) _ _ _ 1955562222 [.int .u32 1955562222] from rfl) (Reps.one (show Kd.M (Kd.int .u32) _ _ _ 2024104815 [.int .u32 2024104815] from rfl) (Reps.one (show Kd.M (Kd.int .u32) _ _ _ 2227730452 [.int .u32 2227730452] from rfl) (Reps.one (show Kd.M (Kd.int .u32) _ _ _ 2361852424 [.int .u32 2361852424] from rfl) (Reps.one (show Kd.M (Kd.int .u32) _ _ _ 2428436474 [.int .u32 2428436474] from rfl) (Reps.one (show Kd.M (Kd.int .u32) _ _ _ 2756734187 [.int .u32 2756734187] from rfl) (Reps.one (show Kd.M (Kd.int .u32) _ _ _ 3204031479 [.int .u32 3204031479] from rfl) (Reps.one (show Kd.M (Kd.int .u32) _ _ _ 3329325298 [.int .u32 3329325298] from rfl) (Reps.none _ _))))))))))))))))))))))))))))))))))))))))))))))))))))))))))))))))));intro v175 w1 ho2 hb hg_ hnew_;clear hg_ hnew_;(first | rw [← Ny174.out] at ho2 | (simp only [Int.reduceToNat] at ho2;rw [← Ny174.out] at ho2));have HO176 := am_ (Kd.R_lower ho2 (below_size (zl_ HB)));replace HB := zs_ HB hb;clear hb ho2))
 go_ret
 exact ⟨_,zt_,zr HO176,zl_ HB⟩
def Zb.T18 : Bool × List (List Nat × List Nat) := (true,[([],[]),([],[]),([],[]),([1,2],[1,2]),([3],[3]),([4],[4]),([5],[5]),([],[]),([],[]),([7,8],[7,8]),([9],[9]),([10],[10]),([11],[11]),([],[]),([],[]),([13,14],[13,14]),([15],[15]),([16],[16]),([17],[17]),([],[]),([],[]),([19,20],[19,20]),([21],[21]),([22],[22]),([6,12,18,23],[6,12,18,23]),([0,24],[0,24]),([25,25,0,1,2,3,4,5,6,7,8,9,10,11,12,13,14,15,16,17,18,19,20,21,22,23,24,25],[0,25])])
def Zb.B18 : List Nat := [0,0,0,6,14,30,62,0,0,384,896,1920,3968,0,0,24576,57344,122880,253952,0,0,1572864,3670016,7864320,16777214,33554431,67108863]
theorem Zb.tab18 : rtab .any (opsOf Tryd.f59 18) = Zb.T18 := by kernel_rfl
theorem Zb.bits18 : waitsOk Zb.T18.2 Zb.B18 = true := by kernel_rfl
theorem Zb.calls (k : Nat) (A0 : Option Addr) (c0 : Nat) (l0 : List Int) (r : ByteArray) (w : World) (hr0 : Kd.C (Kd.int .u8) w A0 l0.length l0) (hc0 : l0.length ≤ c0) (h : Zb.f k l0 = some r) :
  Calls Tryd.prog 59 #[.slice A0 l0.length c0] w fun e w' => e = .returned (.string r) ∧ Below w.heap.size w w' := by
 have HR0 := am_ hr0
 have HC0 := am_ hc0
 clear hr0 hc0
 have HB := am_ (Below.refl w.heap.size w)
 have H : ((some (([] : List Int) : List Int)).bind fun y233 => (if y233.length + l0.length < 140737488355328 then ((some (y233 ++ l0 : List Int)).bind fun y236 => (if y236.length < 140737488355328 then (Zb.l0 k l0 (([1779033703,3144134277,1013904242,2773480762,1359893119,2600822924,528734635,1541459225] : List Int)) (y236 ++ [128])) else (none))) else (none))) = some r := h
 clear h
 obtain ⟨y230,hy230⟩ : ∃ y_ : List Int,y_ = (([1779033703,3144134277,1013904242,2773480762,1359893119,2600822924,528734635,1541459225] : List Int)) := ⟨_,rfl⟩
 replace H : ((some (([] : List Int) : List Int)).bind fun y233 => (if y233.length + l0.length < 140737488355328 then ((some (y233 ++ l0 : List Int)).bind fun y236 => (if y236.length < 140737488355328 then (Zb.l0 k l0 y230 (y236 ++ [128])) else (none))) else (none))) = some r := by first | (rw [hy230];with_reducible exact H) | (have H2_ := (Option.bind_some _ _).symm.trans H;rw [hy230];with_reducible exact H2_) | (have H2_ := (Option.bind_some _ _).symm.trans H;with_reducible exact H2_) | with_reducible exact H | (rw [hy230];exact H) | exact H
 have Ny230 := am_ hy230
 clear hy230
 obtain ⟨y233,hy233⟩ : ∃ y_ : List Int,y_ = (([] : List Int)) := ⟨_,rfl⟩
 replace H : (if y233.length + l0.length < 140737488355328 then ((some (y233 ++ l0 : List Int)).bind fun y236 => (if y236.length < 140737488355328 then (Zb.l0 k l0 y230 (y236 ++ [128])) else (none))) else (none)) = some r := by first | (rw [hy233];with_reducible exact H) | (have H2_ := (Option.bind_some _ _).symm.trans H;rw [hy233];with_reducible exact H2_) | (have H2_ := (Option.bind_some _ _).symm.trans H;with_reducible exact H2_) | with_reducible exact H | (rw [hy233];exact H) | exact H
 have Ny233 := am_ hy233
 clear hy233
 by_cases c2 : y233.length + l0.length < 140737488355328
 case neg =>
  rw [if_neg c2] at H
  exact absurd H (by simp)
 rw [if_pos c2] at H
 have LMc2 := am_ c2
 clear c2
 obtain ⟨y236,hy236⟩ : ∃ y_ : List Int,y_ = (y233 ++ l0) := ⟨_,rfl⟩
 replace H : (if y236.length < 140737488355328 then (Zb.l0 k l0 y230 (y236 ++ [128])) else (none)) = some r := by first | (rw [hy236];with_reducible exact H) | (have H2_ := (Option.bind_some _ _).symm.trans H;rw [hy236];with_reducible exact H2_) | (have H2_ := (Option.bind_some _ _).symm.trans H;with_reducible exact H2_) | with_reducible exact H | (rw [hy236];exact H) | exact H
 have Ny236 := am_ hy236
 clear hy236
 by_cases c3 : y236.length < 140737488355328
 case neg =>
  rw [if_neg c3] at H
  exact absurd H (by simp)
 rw [if_pos c3] at H
 have LMc3 := am_ c3
 clear c3
 obtain ⟨y239,hy239⟩ : ∃ y_ : List Int,y_ = (y236 ++ [128]) := ⟨_,rfl⟩
 replace H : (Zb.l0 k l0 y230 y239) = some r := by first | (rw [hy239];with_reducible exact H) | (have H2_ := (Option.bind_some _ _).symm.trans H;rw [hy239];with_reducible exact H2_) | (have H2_ := (Option.bind_some _ _).symm.trans H;with_reducible exact H2_) | with_reducible exact H | (rw [hy239];exact H) | exact H
 have Ny239 := am_ hy239
 clear hy239
 have H' := am_ H
 clear H
 go_enter Tryd.func59,Tryd.ntmps59
 go_wp2_with (first | ((with_reducible refine gate_dst (N := 10) rfl ?_);refine Kd.R_lit (Kd.int .u32) _ 79 ?hg (N := 10) ?hd (xs := ([1779033703,3144134277,1013904242,2773480762,1359893119,2600822924,528734635,1541459225] : List Int)) (inner := [.int .u32 1779033703,.int .u32 3144134277,.int .u32 1013904242,.int .u32 2773480762,.int .u32 1359893119,.int .u32 2600822924,.int .u32 528734635,.int .u32 1541459225]) (ok := fun _ => True) (okp := fun _ => True) ?hr ?hp (fun _ hk => hk) trivial (Below.refl _ _) (Nat.le_refl _) (by simp) ?_;(case hd => rfl);(case hg => rfl);(case hr => first | (go_simp;done) | (go_simp;rfl));(case hp => exact (Reps.one (show Kd.M (Kd.int .u32) _ _ _ 1779033703 [.int .u32 1779033703] from rfl) (Reps.one (show Kd.M (Kd.int .u32) _ _ _ 3144134277 [.int .u32 3144134277] from rfl) (Reps.one (show Kd.M (Kd.int .u32) _ _ _ 1013904242 [.int .u32 1013904242] from rfl) (Reps.one (show Kd.M (Kd.int .u32) _ _ _ 2773480762 [.int .u32 2773480762] from rfl) (Reps.one (show Kd.M (Kd.int .u32) _ _ _ 1359893119 [.int .u32 1359893119] from rfl) (Reps.one (show Kd.M (Kd.int .u32) _ _ _ 2600822924 [.int .u32 2600822924] from rfl) (Reps.one (show Kd.M (Kd.int .u32) _ _ _ 528734635 [.int .u32 528734635] from rfl) (Reps.one (show Kd.M (Kd.int .u32) _ _ _ 1541459225 [.int .u32 1541459225] from rfl) (Reps.none _ _))))))))));intro v231 w4 ho5 hb hg_ hnew_;clear hg_ hnew_;(first | rw [← Ny230.out] at ho5 | (simp only [Int.reduceToNat] at ho5;rw [← Ny230.out] at ho5));have HO232 := am_ (Kd.R_lower ho5 (below_size (zl_ HB)));replace HB := zs_ HB hb;clear hb ho5) | ((with_reducible refine gate_dst (N := 11) rfl ?_);refine Kd.R_lit (Kd.int .u8) _ 5 ?hg (N := 11) ?hd (xs := ([] : List Int)) (inner := []) (ok := fun _ => True) (okp := fun _ => True) ?hr ?hp (fun _ hk => hk) trivial (Below.refl _ _) (Nat.le_refl _) (by simp) ?_;(case hd => rfl);(case hg => rfl);(case hr => first | (go_simp;done) | (go_simp;rfl));(case hp => exact (Reps.none _ _));intro v234 w6 ho7 hb hg_ hnew_;clear hg_ hnew_;(first | rw [← Ny233.out] at ho7 | (simp only [Int.reduceToNat] at ho7;rw [← Ny233.out] at ho7));replace HO232 := zrb HO232 hb;have HO235 := am_ (Kd.R_lower ho7 (below_size (zl_ HB)));replace HB := zs_ HB hb;clear hb ho7) | ((with_reducible refine gate_builtin (b := .append) (xs := #[.tmp 11,.tmp 12]) rfl ?_);at_builtin;refine Kd.R_append_rows (Kd.int .u8) (w0 := w) w.heap.size rfl (.tmp 11) (.tmp 12) 22 5 (.int .u8 0) 1 rfl Tryd.underlying22 info5 rfl (by decide) (by omega) v234 y233 l0 _ _ _ (fun _ => True) (fun _ => False) rfl rfl ?aO ?aR (fun _ _ h => h) (fun _ h => h.elim) ?aF ?aB ?aS ?aL ?_;(case aR => exact zc_ HR0 HB);(case aB => exact (zl_ HB));(case aF => exact (fun _ _ => trivial));(case aO => exact (zr HO235));(case aS => exact (below_size (zl_ HB)));(case aL => have := LMc2.out;omega);intro v237 w8 ho hb hg hat;rw [← Ny236.out] at ho;replace HO232 := am_ (Kd.R_over' (zr HO232) (Kd.R_typed (zr HO235)) (by decide) hg);replace HB := am_ (hb);have HO238 := am_ (ho);clear HO235;clear ho hb hg hat) | ((with_reducible refine gate_builtin (b := .append) (xs := #[.tmp 13,.tmp 14]) rfl ?_);at_builtin;refine Kd.R_append (Kd.int .u8) (w0 := w) w.heap.size rfl (.tmp 13) (.tmp 14) 22 5 (.int .u8 0) 1 rfl Tryd.underlying22 info5 rfl (by decide) (by omega) v237 y236 128 [.int .u8 128] (fun _ => True) (fun _ => False) rfl rfl ?aP (fun _ hk => hk.elim) ?aF ?aO ?aB ?aS ?aL ?_;(case aP => exact rfl);(case aB => exact (zl_ HB));(case aF => exact (fun _ _ => trivial));(case aO => exact (zr HO238));(case aS => exact (below_size (zl_ HB)));(case aL => have := LMc3.out;omega);intro v240 w9 ho hb hg hat;rw [← Ny239.out] at ho;replace HO232 := am_ (Kd.R_over' (zr HO232) (Kd.R_typed (zr HO238)) (by decide) hg);replace HB := am_ (hb);have HO241 := am_ (ho);clear HO238;clear ho hb hg hat))
 go_loopg [4] k (fun kq v4 w' => ∃ (x4_1 : List Int),Aside0 (Zb.l0 kq l0 y230 x4_1 = some r) ∧ Aside0 (kq ≤ k) ∧ Aside0 (Kd.R (Kd.int .u32) 79 w' w.heap.size (fun _ => True) v231 y230) ∧ Aside0 (Kd.R (Kd.int .u8) 5 w' w.heap.size (fun _ => True) v4 x4_1) ∧ Aside0 (Below w.heap.size w w'))
 case atStart => exact ⟨(y239),H',⟨Nat.le_refl _⟩,⟨zr HO232⟩,⟨zr HO241⟩,⟨zl_ HB⟩⟩
 case round =>
  clear H'
  try clear c2
  try clear p2
  try clear c3
  try clear c5
  obtain ⟨x4_1,HA,HK1,HO_3,HO_4,HB⟩ := hrel
  cases gk with
  | zero => exact absurd HA.out (by simp [Zb.l0])
  | succ k1 =>
   have H := HA.out
   clear HA
   simp only [Zb.l0] at H
   by_cases c10 : ((x4_1.length : Int) % 64) = 56
   case neg =>
    rw [if_neg c10] at H
    have c10b0 := beq_eq_false_iff_ne.mpr c10
    have c10b1 := bne_iff_ne.mpr c10
    by_cases c44 : x4_1.length < 140737488355328
    case neg =>
     rw [if_neg c44] at H
     exact absurd H (by simp)
    rw [if_pos c44] at H
    have LMc44 := am_ c44
    clear c44
    obtain ⟨y242,hy242⟩ : ∃ y_ : List Int,y_ = (x4_1 ++ [0]) := ⟨_,rfl⟩
    replace H : (Zb.l0 k1 l0 y230 y242) = some r := by first | (rw [hy242];with_reducible exact H) | (have H2_ := (Option.bind_some _ _).symm.trans H;rw [hy242];with_reducible exact H2_) | (have H2_ := (Option.bind_some _ _).symm.trans H;with_reducible exact H2_) | with_reducible exact H | (rw [hy242];exact H) | exact H
    have Ny242 := am_ hy242
    clear hy242
    have H' := am_ H
    clear H
    obtain ⟨Ao45,co45,eo45⟩ := Kd.R_slice HO_4.out
    subst eo45
    go_wp2_with (first | ((with_reducible refine gate_builtin (b := .append) (xs := #[.tmp 20,.tmp 21]) rfl ?_);at_builtin;refine Kd.R_append (Kd.int .u8) (w0 := w) w.heap.size rfl (.tmp 20) (.tmp 21) 22 5 (.int .u8 0) 1 rfl Tryd.underlying22 info5 rfl (by decide) (by omega) (.slice Ao45 x4_1.length co45) x4_1 0 [.int .u8 0] (fun _ => True) (fun _ => False) rfl rfl ?aP (fun _ hk => hk.elim) ?aF ?aO ?aB ?aS ?aL ?_;(case aP => exact rfl);(case aB => exact (zl_ HB));(case aF => exact (fun _ _ => trivial));(case aO => exact (zr HO_4));(case aS => exact (below_size (zl_ HB)));(case aL => have := LMc44.out;omega);intro v243 w46 ho hb hg hat;rw [← Ny242.out] at ho;replace HO_3 := am_ (Kd.R_over' (zr HO_3) (Kd.R_typed (zr HO_4)) (by decide) hg);replace HB := am_ (hb);have HO244 := am_ (ho);clear HO_4;clear ho hb hg hat))
    go_roundg k1
    case measure => have := HK1.out;omega
    case rel => exact ⟨(y242),H',⟨by have := HK1.out;omega⟩,⟨zr HO_3⟩,⟨zr HO244⟩,⟨zl_ HB⟩⟩
   rw [if_pos c10] at H
   have c10b0 := beq_iff_eq.mpr c10
   have c10b1 := bne_eq_false_iff_eq.mpr c10
   clear c10
   have H' := am_ H
   clear H
   obtain ⟨Ao11,co11,eo11⟩ := Kd.R_slice HO_4.out
   subst eo11
   go_wp2
   go_loopg [4,5] k1 (fun kq v4 v5 w' => ∃ (x4_2 : List Int) (x5_2 : Int),v5 = .int .i64 x5_2 ∧ Aside0 (Zb.l1 kq l0 y230 x4_2 x5_2 = some r) ∧ Aside0 (kq ≤ k1) ∧ Aside0 (Kd.R (Kd.int .u32) 79 w' w.heap.size (fun _ => True) v231 y230) ∧ Aside0 (Kd.R (Kd.int .u8) 5 w' w.heap.size (fun _ => True) v4 x4_2) ∧ Aside0 (Below w.heap.size w w'))
   case atStart => exact ⟨(x4_1),(7),(by first | rfl | (simp;done) | (simp [*];done)),H',⟨Nat.le_refl _⟩,⟨zr HO_3⟩,⟨zr HO_4⟩,⟨zl_ HB⟩⟩
   case round =>
    clear H'
    try clear c1
    try clear c2
    try clear p2
    try clear c3
    try clear c5
    try clear c10
    try clear c10b0
    try clear c10b1
    try clear p2
    obtain ⟨x4_2,x5_2,rfl,HA,HK2,HO_3,HO_4,HB⟩ := hrel
    cases gk with
    | zero => exact absurd HA.out (by simp [Zb.l1])
    | succ k2 =>
     have H := HA.out
     clear HA
     simp only [Zb.l1] at H
     by_cases c12 : x5_2 ≥ 0
     ·rw [if_pos c12] at H
      have c12b0 : decide (0 ≤ x5_2) = true := decide_eq_true c12
      clear c12
      obtain ⟨ji13,hji13⟩ : ∃ j_ : Int,(IntKind.u64.wrap (wrap64 (8 * x5_2))) = j_ := ⟨_,rfl⟩
      replace H : (if 0 ≤ (ji13) then (if x4_2.length < 140737488355328 then (Zb.l1 k2 l0 y230 (x4_2 ++ [(shr .i64 (wrap64 (8 * (l0.length : Int))) (ji13)) % 256]) (wrap64 (x5_2 - 1))) else (none)) else (none)) = some r := by first | (rw [hji13] at H;exact H) | (simp only [hji13] at H ⊢;exact H)
      by_cases c14 : 0 ≤ (ji13)
      case neg =>
       rw [if_neg c14] at H
       exact absurd H (by simp)
      rw [if_pos c14] at H
      have c14b0 := eq_true c14
      have c14b1 := decide_eq_true c14
      clear c14
      obtain ⟨ji15,hji15⟩ : ∃ j_ : Int,(shr .i64 (wrap64 (8 * (l0.length : Int))) (ji13)) = j_ := ⟨_,rfl⟩
      replace H : (if x4_2.length < 140737488355328 then (Zb.l1 k2 l0 y230 (x4_2 ++ [(ji15) % 256]) (wrap64 (x5_2 - 1))) else (none)) = some r := by first | (rw [hji15] at H;exact H) | (simp only [hji15] at H ⊢;exact H)
      have hji15_ : ((wrap64 (8 * (l0.length : Int))) / 2 ^ min (ji13).toNat 64) = ji15 := hji15
      have hji15z : (ji13) ≤ 64 → ((wrap64 (8 * (l0.length : Int))) / 2 ^ (ji13).toNat) = ji15 := shr_small hji15
      by_cases c16 : x4_2.length < 140737488355328
      case neg =>
       rw [if_neg c16] at H
       exact absurd H (by simp)
      rw [if_pos c16] at H
      have LMc16 := am_ c16
      clear c16
      obtain ⟨y245,hy245⟩ : ∃ y_ : List Int,y_ = (x4_2 ++ [(ji15) % 256]) := ⟨_,rfl⟩
      replace H : (Zb.l1 k2 l0 y230 y245 (wrap64 (x5_2 - 1))) = some r := by first | (rw [hy245];with_reducible exact H) | (have H2_ := (Option.bind_some _ _).symm.trans H;rw [hy245];with_reducible exact H2_) | (have H2_ := (Option.bind_some _ _).symm.trans H;with_reducible exact H2_) | with_reducible exact H | (rw [hy245];exact H) | exact H
      have Ny245 := am_ hy245
      clear hy245
      have H' := am_ H
      clear H
      go_wp2_with (first | ((with_reducible refine gate_builtin (b := .append) (xs := #[.tmp 27,.tmp 36]) rfl ?_);at_builtin;refine Kd.R_append (Kd.int .u8) (w0 := w) w.heap.size rfl (.tmp 27) (.tmp 36) 22 5 (.int .u8 0) 1 rfl Tryd.underlying22 info5 rfl (by decide) (by omega) u4 x4_2 ((ji15) % 256) [.int .u8 ((ji15) % 256)] (fun _ => True) (fun _ => False) rfl rfl ?aP (fun _ hk => hk.elim) ?aF ?aO ?aB ?aS ?aL ?_;(case aP => exact rfl);(case aB => exact (zl_ HB));(case aF => exact (fun _ _ => trivial));(case aO => exact (zr HO_4));(case aS => exact (below_size (zl_ HB)));(case aL => have := LMc16.out;omega);intro v246 w17 ho hb hg hat;rw [← Ny245.out] at ho;replace HO_3 := am_ (Kd.R_over' (zr HO_3) (Kd.R_typed (zr HO_4)) (by decide) hg);replace HB := am_ (hb);have HO247 := am_ (ho);clear HO_4;clear ho hb hg hat))
      go_roundg k2
      case measure => have := HK1.out;have := HK2.out;omega
      case rel => exact ⟨(y245),(wrap64 (x5_2 - 1)),(by first | rfl | (simp;done) | (simp [*];done)),H',⟨by have := HK1.out;have := HK2.out;omega⟩,⟨zr HO_3⟩,⟨zr HO247⟩,⟨zl_ HB⟩⟩
     rw [if_neg c12] at H
     have c12b0 : decide (0 ≤ x5_2) = false := decide_eq_false c12
     clear c12
     replace H := Option.bind_eq_some_iff.mp H
     obtain ⟨t248,A180,H⟩ := H
     try dsimp only at H
     have A18 := am_ A180
     clear A180
     have H' := am_ H
     clear H
     go_wp2_with (first | ((with_reducible refine gate_callee (f := 74) rfl ?_);refine zgl (some 38) Tryd.func74 #[] ?_;(with_reducible refine (Ys.calls  t248 _ A18.out).mono ?_);rintro e w19 ⟨v249,rfl,ho0,hb⟩;refine ⟨_,rfl,?_⟩;replace HO_4 := zrb HO_4 hb;have HO250 := am_ (Kd.R_lower (Kd.R_new' ho0 (Kd.R_lt (zr HO_3))) (below_size (zl_ HB)));replace HO_3 := am_ (Kd.R_elder' (zr HO_3) (Kd.R_base ho0) hb);replace HB := zs_ HB hb;(try clear hb);(try clear ho0)))
     go_loopg [7] k2 (fun kq v7 w' => ∃ (x3_3 : List Int) (x7_3 : Int),v7 = .int .i64 x7_3 ∧ Aside0 (Zb.l2 kq x3_3 x4_2 t248 x7_3 = some r) ∧ Aside0 (kq ≤ k2) ∧ Aside0 (Kd.R (Kd.int .u32) 79 w' w.heap.size (fun k_ => some k_ ≠ (v249 : Value).ownBlock) v231 x3_3) ∧ Aside0 (Kd.R (Kd.int .u8) 5 w' w.heap.size (fun _ => True) u4 x4_2) ∧ Aside0 (Kd.R (Kd.int .u32) 79 w' w.heap.size (fun k_ => some k_ ≠ (v231 : Value).ownBlock) v249 t248) ∧ Aside0 (Below w.heap.size w w'))
     case atStart => exact ⟨(y230),(0),(by first | rfl | (simp;done) | (simp [*];done)),H',⟨Nat.le_refl _⟩,⟨by (with_reducible repeat (first | apply r1_ | apply r2_ | apply r3_));exact Kd.R_mono HO_3.out (fun _ hk => hk.2)⟩,⟨zr HO_4⟩,⟨by (with_reducible repeat (first | apply r1_ | apply r2_ | apply r3_));exact Kd.R_mono HO250.out (fun _ hk => hk.2)⟩,⟨zl_ HB⟩⟩
     case round =>
      clear H'
      try clear c1
      try clear c2
      try clear p2
      try clear c3
      try clear c5
      try clear p6
      try clear c7
      try clear c10
      try clear c10b0
      try clear c10b1
      try clear c12
      try clear c12b0
      try clear c14
      try clear c14b0
      try clear c14b1
      try clear c16
      try clear p2
      obtain ⟨x3_3,x7_3,rfl,HA,HK3,HO_3,HO_4,HO_6,HB⟩ := hrel
      cases gk with
      | zero => exact absurd HA.out (by simp [Zb.l2])
      | succ k3 =>
       have H := HA.out
       clear HA
       simp only [Zb.l2] at H
       by_cases c20 : x7_3 < (x4_2.length : Int)
       ·rw [if_pos c20] at H
        obtain ⟨je_,hje_⟩ : ∃ j_ : Int,(wrap64 (x7_3 + 64)) = j_ := ⟨_,rfl⟩
        rw [hje_] at H
        have hje_w : (IntKind.i64.wrap (x7_3 + 64)) = je_ := (i64_w _).trans hje_
        clear hje_
        have c20b0 := decide_eq_true c20
        clear c20
        by_cases c21 : 0 ≤ x7_3
        case neg =>
         rw [if_neg c21] at H
         exact absurd H (by simp)
        rw [if_pos c21] at H
        have c21b0 := eq_true c21
        have c21b1 := decide_eq_true c21
        clear c21
        by_cases c22 : x7_3 ≤ (je_)
        case neg =>
         rw [if_neg c22] at H
         exact absurd H (by simp)
        rw [if_pos c22] at H
        have c22b0 := eq_true c22
        have c22b1 := decide_eq_true c22
        by_cases c23 : (je_) ≤ (x4_2.length : Int)
        case neg =>
         rw [if_neg c23] at H
         exact absurd H (by simp)
        rw [if_pos c23] at H
        have c23b0 := eq_true c23
        have c23b1 := decide_eq_true c23
        obtain ⟨y251,hy251⟩ : ∃ y_ : List Int,y_ = ((x4_2.take ((je_) : Int).toNat).drop (x7_3 : Int).toNat) := ⟨_,rfl⟩
        replace H : ((Ze.f k3 x3_3 y251 t248).bind fun t255 => (Zb.l2 k3 t255 x4_2 t248 (je_))) = some r := by first | (rw [hy251];with_reducible exact H) | (have H2_ := (Option.bind_some _ _).symm.trans H;rw [hy251];with_reducible exact H2_) | (have H2_ := (Option.bind_some _ _).symm.trans H;with_reducible exact H2_) | with_reducible exact H | (rw [hy251];exact H) | exact H
        have Ny251 := am_ hy251
        clear hy251
        replace H := Option.bind_eq_some_iff.mp H
        obtain ⟨t255,A240,H⟩ := H
        try dsimp only at H
        have A24 := am_ A240
        clear A240
        have H' := am_ H
        clear H
        obtain ⟨Ao25,co25,eo25⟩ := Kd.R_slice HO_4.out
        subst eo25
        have q26 : ((je_) : Int) ≤ ((x4_2.length : Int) : Int) := zo_
        obtain ⟨i026,hi026,_,hsz26,_⟩ := info_parts info5
        have hroom26 : x4_2.length ≤ co25 := (Kd.R_reads' HO_4.out).2.1
        have hC26 : Kd.C (Kd.int .u8) _ Ao25 x4_2.length x4_2 := (Kd.R_reads' HO_4.out).2.2
        have ql26 : (x7_3 : Int) ≤ ((je_) : Int) := zo_
        have q026 : (0 : Int) ≤ (x7_3 : Int) := zo_
        have hcut26 := cut_mid (P := Tryd.prog) 22 5 .i64 .i64 Tryd.underlying22 hi026 1 hsz26 Ao25 x4_2.length co25 x7_3 (je_) q026 ql26 q26 hroom26
        have hr26 := Kd.C_mid (lo := (x7_3 : Int).toNat) (hi := ((je_) : Int).toNat) (c := co25) hC26 (by omega) (by omega) hroom26
        obtain ⟨A26,hA26⟩ : ∃ A1,A1 = (if co25 = (x7_3 : Int).toNat then Ao25 else (Ao25 : Option Addr).map (·.add ((x7_3 : Int).toNat * 1))) := ⟨_,rfl⟩
        obtain ⟨c26,hc26⟩ : ∃ c1,c1 = co25 - (x7_3 : Int).toNat := ⟨_,rfl⟩
        have hy26 : y251.length = ((je_) : Int).toNat - (x7_3 : Int).toNat := (by rw [Ny251.out,d1_,d2_] <;> omega)
        rw [show ((x4_2).take ((je_) : Int).toNat).drop (x7_3 : Int).toNat = y251 from Ny251.out.symm] at hr26
        replace hr26 : Kd.C (Kd.int .u8) _ A26 y251.length y251 := (by rw [hA26];exact hr26)
        rw [← hy26,← hA26,← hc26] at hcut26
        have HR254 := am_ hr26
        have HC254 := am_ (show y251.length ≤ c26 from by rw [hy26,hc26];exact Nat.sub_le_sub_right (Nat.le_trans (by omega) hroom26) _)
        clear hr26 hC26 hroom26 hi026 hsz26 hc26
        have KY26 := am_ hy26
        have KA26 := am_ hA26
        clear hy26 hA26
        have KL26 := am_ (show ((je_) : Int).toNat ≤ x4_2.length from by omega)
        have KM26 := am_ (show (x7_3 : Int).toNat ≤ ((je_) : Int).toNat from by omega)
        replace q26 := eq_true q26
        obtain ⟨Ao27,co27,eo27⟩ := Kd.R_slice HO_3.out
        subst eo27
        obtain ⟨Ao28,co28,eo28⟩ := Kd.R_slice HO_6.out
        subst eo28
        go_wp2_with (first | ((with_reducible refine gate_callee (f := 75) rfl ?_);refine zgl (some 52) Tryd.func75 #[.slice Ao27 x3_3.length co27,.slice A26 y251.length c26,.slice Ao28 t248.length co28] ?_;(with_reducible refine (Ze.calls k3 (fun k_ => some k_ = (.slice Ao27 x3_3.length co27 : Value).ownBlock) (.slice Ao27 x3_3.length co27) x3_3 _ _ y251 _ _ t248 t255 w _ ?side1 ?side2 ?side3 ?side4 ?side5 ?side6 A24.out).mono ?_);(case side1 => exact zl_ HB);(case side2 => exact Kd.R_tight rfl HO_3.out);(case side3 => exact fun W1_ hk1_ => (show Kd.C (Kd.int .u8) W1_ A26 y251.length y251 from by rw [Ny251.out,KA26.out];exact Kd.C_mid (lo := (x7_3 : Int).toNat) (hi := ((je_) : Int).toNat) (c := co25) (Kd.C_kept_own ((Kd.R_apart' HO_4.out (Kd.R_typed HO_3.out) (by decide))) (fun k_ hk_ hs_ => (hk_.2) hs_) W1_ hk1_) KM26.out KL26.out ((Kd.R_reads' HO_4.out).2.1)));(case side4 => exact HC254.out);(case side5 => exact Kd.C_kept_own (HO_6.out) (fun k_ hk_ hs_ => (hk_) hs_));(case side6 => exact (Kd.R_reads' HO_6.out).2.1);rintro e w29 ⟨rfl,hy0,hb,hkp⟩;refine ⟨_,rfl,?_⟩;replace HO_4 := am_ (Kd.R_mono (ok' := fun k_ => True) (Kd.R_keptB ((Kd.R_apart' HO_4.out (Kd.R_typed HO_3.out) (by decide))) hkp (fun k_ hk_ hs_ => (hk_.2) hs_)) (fun k_ hk_ => trivial));replace HO_3 := am_ (Kd.R_reok rfl hy0 (fun k_ e_ => HO_3.out.1 k_ e_));replace HO_6 := am_ (Kd.R_mono (ok' := fun k_ => some k_ ≠ (.slice Ao27 x3_3.length co27 : Value).ownBlock) (Kd.R_keptB (HO_6.out) hkp (fun k_ hk_ hs_ => (hk_) hs_)) (fun k_ hk_ => hk_.1));replace HB := am_ (hb);(try clear hb);(try clear hkp);(try clear hy0)))
        go_roundg k3
        case measure => have := HK1.out;have := HK2.out;have := HK3.out;omega
        case rel => exact ⟨(t255),(je_),(by first | rfl | (simp;done) | (simp [*];done)),H',⟨by have := HK1.out;have := HK2.out;have := HK3.out;omega⟩,⟨zr HO_3⟩,⟨zr HO_4⟩,⟨zr HO_6⟩,⟨zl_ HB⟩⟩
       rw [if_neg c20] at H
       have c20b0 := decide_eq_false c20
       clear c20
       obtain ⟨y256,hy256⟩ : ∃ y_ : List Int,y_ = (([] : List Int)) := ⟨_,rfl⟩
       replace H : (Zb.l3 k3 x3_3 y256 0) = some r := by first | (rw [hy256];with_reducible exact H) | (have H2_ := (Option.bind_some _ _).symm.trans H;rw [hy256];with_reducible exact H2_) | (have H2_ := (Option.bind_some _ _).symm.trans H;with_reducible exact H2_) | with_reducible exact H | (rw [hy256];exact H) | exact H
       have Ny256 := am_ hy256
       clear hy256
       have H' := am_ H
       clear H
       obtain ⟨Ao30,co30,eo30⟩ := Kd.R_slice HO_4.out
       subst eo30
       go_wp2_with (first | ((with_reducible refine gate_dst (N := 53) rfl ?_);refine Kd.R_lit (Kd.int .u8) _ 5 ?hg (N := 53) ?hd (xs := ([] : List Int)) (inner := []) (ok := fun _ => True) (okp := fun _ => True) ?hr ?hp (fun _ hk => hk) trivial (Below.refl _ _) (Nat.le_refl _) (by simp) ?_;(case hd => rfl);(case hg => rfl);(case hr => first | (go_simp;done) | (go_simp;rfl));(case hp => exact (Reps.none _ _));intro v257 w31 ho32 hb hg_ hnew_;clear hg_ hnew_;(first | rw [← Ny256.out] at ho32 | (simp only [Int.reduceToNat] at ho32;rw [← Ny256.out] at ho32));replace HO_3 := zrb HO_3 hb;have HO258 := am_ (Kd.R_lower (Kd.R_new' ho32 (Kd.R_lt (zr HO_4))) (below_size (zl_ HB)));replace HB := zs_ HB hb;clear hb ho32))
       go_loopg [8,9] k3 (fun kq v8 v9 w' => ∃ (x8_4 : List Int) (x9_4 : Int),v9 = .int .i64 x9_4 ∧ Aside0 (Zb.l3 kq x3_3 x8_4 x9_4 = some r) ∧ Aside0 (kq ≤ k3) ∧ Aside0 (Kd.R (Kd.int .u32) 79 w' w.heap.size (fun _ => True) v231 x3_3) ∧ Aside0 (Kd.R (Kd.int .u8) 5 w' w.heap.size (fun _ => True) v8 x8_4) ∧ Aside0 (Below w.heap.size w w'))
       case atStart => exact ⟨(y256),(0),(by first | rfl | (simp;done) | (simp [*];done)),H',⟨Nat.le_refl _⟩,⟨by (with_reducible repeat (first | apply r1_ | apply r2_ | apply r3_));exact Kd.R_mono HO_3.out (fun _ hk => trivial)⟩,⟨by (with_reducible repeat (first | apply r1_ | apply r2_ | apply r3_));exact Kd.R_mono HO258.out (fun _ hk => trivial)⟩,⟨zl_ HB⟩⟩
       case round =>
        clear H'
        try clear c1
        try clear c2
        try clear p2
        try clear q2
        try clear c3
        try clear c5
        try clear p6
        try clear c7
        try clear c10
        try clear c10b0
        try clear c10b1
        try clear c12
        try clear c12b0
        try clear c14
        try clear c14b0
        try clear c14b1
        try clear c16
        try clear c20
        try clear c20b0
        try clear c21
        try clear c21b0
        try clear c21b1
        try clear c22
        try clear c22b0
        try clear c22b1
        try clear c23
        try clear c23b0
        try clear c23b1
        try clear c26
        try clear q26
        try clear p2
        try clear p6
        try clear q026
        try clear q26
        obtain ⟨x8_4,x9_4,rfl,HA,HK4,HO_3,HO_8,HB⟩ := hrel
        cases gk with
        | zero => exact absurd HA.out (by simp [Zb.l3])
        | succ k4 =>
         have H := HA.out
         clear HA
         simp only [Zb.l3] at H
         by_cases c33 : x9_4 < 8
         case neg =>
          rw [if_neg c33] at H
          have c33b0 := decide_eq_false c33
          clear c33
          obtain rfl := Option.some.inj H
          have hcv43 := own_string (P := Tryd.prog) Tryd.underlying22 Tryd.underlying5 Tryd.underlying9 (Kd.own_of_R HO_8.out)
          go_wp2
          go_ret
          exact ⟨zt_,zl_ HB⟩
         rw [if_pos c33] at H
         have c33b0 := decide_eq_true c33
         clear c33
         by_cases c34 : 0 ≤ x9_4
         case neg =>
          rw [if_neg c34] at H
          exact absurd H (by simp)
         rw [if_pos c34] at H
         have c34b0 := decide_eq_true c34
         clear c34
         by_cases c35 : x9_4 < (x3_3.length : Int)
         case neg =>
          rw [if_neg c35] at H
          exact absurd H (by simp)
         rw [if_pos c35] at H
         have c35b0 := decide_eq_true c35
         clear c35
         obtain ⟨y263,hy263⟩ : ∃ y_ : List Int,y_ = (([((rd x3_3 x9_4) / 16777216) % 256,((rd x3_3 x9_4) / 65536) % 256,((rd x3_3 x9_4) / 256) % 256,(rd x3_3 x9_4) % 256] : List Int)) := ⟨_,rfl⟩
         replace H : (if x8_4.length + y263.length < 140737488355328 then (Zb.l3 k4 x3_3 (x8_4 ++ y263) (wrap64 (x9_4 + 1))) else (none)) = some r := by first | (rw [hy263];with_reducible exact H) | (have H2_ := (Option.bind_some _ _).symm.trans H;rw [hy263];with_reducible exact H2_) | (have H2_ := (Option.bind_some _ _).symm.trans H;with_reducible exact H2_) | with_reducible exact H | (rw [hy263];exact H) | exact H
         have Ny263 := am_ hy263
         clear hy263
         by_cases c36 : x8_4.length + y263.length < 140737488355328
         case neg =>
          rw [if_neg c36] at H
          exact absurd H (by simp)
         rw [if_pos c36] at H
         have LMc36 := am_ c36
         clear c36
         obtain ⟨y266,hy266⟩ : ∃ y_ : List Int,y_ = (x8_4 ++ y263) := ⟨_,rfl⟩
         replace H : (Zb.l3 k4 x3_3 y266 (wrap64 (x9_4 + 1))) = some r := by first | (rw [hy266];with_reducible exact H) | (have H2_ := (Option.bind_some _ _).symm.trans H;rw [hy266];with_reducible exact H2_) | (have H2_ := (Option.bind_some _ _).symm.trans H;with_reducible exact H2_) | with_reducible exact H | (rw [hy266];exact H) | exact H
         have Ny266 := am_ hy266
         clear hy266
         have H' := am_ H
         clear H
         try go_wp2
         replace HO_3 := am_ (Kd.R_drew HO_3.out)
         replace HO_8 := am_ (Kd.R_drew HO_8.out)
         replace HB := am_ (below_drew1 HB.out)
         obtain ⟨Ao38,co38,eo38⟩ := Kd.R_slice HO_3.out
         (first | subst eo38 | (injection eo38 with f1_ f2_ f3_;have f4_ := f1_.symm;have f5_ := f3_.symm;clear f1_ f2_ f3_;subst f4_;subst f5_))
         have p259 : 0 ≤ (x9_4 : Int) := zo_
         have q259 : x9_4 < (x3_3.length : Int) := zo_
         obtain ⟨ad259,e259,hx259_0⟩ := Kd.at_int (Kd.R_reads' HO_3.out).2.2 x9_4 p259 q259
         cases e259
         replace p259 := eq_true p259
         replace q259 := eq_true q259
         have p260 : 0 ≤ (x9_4 : Int) := zo_
         have q260 : x9_4 < (x3_3.length : Int) := zo_
         obtain ⟨ad260,e260,hx260_0⟩ := Kd.at_int (Kd.R_reads' HO_3.out).2.2 x9_4 p260 q260
         obtain rfl : ad259 = ad260 := (by injection e260)
         replace p260 := eq_true p260
         replace q260 := eq_true q260
         have p261 : 0 ≤ (x9_4 : Int) := zo_
         have q261 : x9_4 < (x3_3.length : Int) := zo_
         obtain ⟨ad261,e261,hx261_0⟩ := Kd.at_int (Kd.R_reads' HO_3.out).2.2 x9_4 p261 q261
         obtain rfl : ad259 = ad261 := (by injection e261)
         replace p261 := eq_true p261
         replace q261 := eq_true q261
         have p262 : 0 ≤ (x9_4 : Int) := zo_
         have q262 : x9_4 < (x3_3.length : Int) := zo_
         obtain ⟨ad262,e262,hx262_0⟩ := Kd.at_int (Kd.R_reads' HO_3.out).2.2 x9_4 p262 q262
         obtain rfl : ad259 = ad262 := (by injection e262)
         replace p262 := eq_true p262
         replace q262 := eq_true q262
         refine start_ (n := 27) (S := fun w' => w'.cell? (ad259.add (x9_4).toNat) = some (.int .u32 (rd x3_3 x9_4)) ∧ w'.cell? (ad259.add (x9_4).toNat) = some (.int .u32 (rd x3_3 x9_4)) ∧ w'.cell? (ad259.add (x9_4).toNat) = some (.int .u32 (rd x3_3 x9_4)) ∧ w'.cell? (ad259.add (x9_4).toNat) = some (.int .u32 (rd x3_3 x9_4))) (ds := [25]) #[false,false,false,false,false,false,false,false,false,false,false,false,false,false,false,false,false,false,false,false,false,false,false,false,false,false,false] (by kernel_rfl) rfl rfl ⟨hx259_0,hx260_0,hx261_0,hx262_0⟩ (fun hHeld => ?_);refine with_tabW Zb.tab18 Zb.bits18 (fun HT_ HW_ => ?_)
         generalize wr.drew = w37 at HO_3 HO_8 HB hx259_0 hx260_0 hx261_0 hx262_0 hHeld ⊢
         refine pu_ 0 58 HT_ ?_
         refine pu_ 1 59 HT_ ?_
         refine pu_ 2 60 HT_ ?_
         refine pu_ 3 61 HT_ ?_
         refine pu_ 7 65 HT_ ?_
         refine pu_ 8 66 HT_ ?_
         refine pu_ 9 67 HT_ ?_
         refine pu_ 13 71 HT_ ?_
         refine pu_ 14 72 HT_ ?_
         refine pu_ 15 73 HT_ ?_
         refine pu_ 19 77 HT_ ?_
         refine pu_ 20 78 HT_ ?_
         refine pu_ 21 79 HT_ ?_
         refine tk_ 4 62 HT_ HW_ hHeld ?_
         refine pu_ 5 63 HT_ ?_
         refine pu_ 6 64 HT_ ?_
         refine tk_ 10 68 HT_ HW_ hHeld ?_
         refine pu_ 11 69 HT_ ?_
         refine pu_ 12 70 HT_ ?_
         refine tk_ 16 74 HT_ HW_ hHeld ?_
         refine pu_ 17 75 HT_ ?_
         refine pu_ 18 76 HT_ ?_
         refine tk_ 22 80 HT_ HW_ hHeld ?_
         refine pu_ 23 81 HT_ ?_
         refine zon 24 (N := some 82) HT_ (fun K hK => ?_)
         refine Kd.R_lit_step (Kd.int .u8) _ 5 ?hg (N := 82) ?hd (xs := ([((rd x3_3 x9_4) / 16777216) % 256,((rd x3_3 x9_4) / 65536) % 256,((rd x3_3 x9_4) / 256) % 256,(rd x3_3 x9_4) % 256] : List Int)) (inner := [.int .u8 (((rd x3_3 x9_4) / 16777216) % 256),.int .u8 (((rd x3_3 x9_4) / 65536) % 256),.int .u8 (((rd x3_3 x9_4) / 256) % 256),.int .u8 ((rd x3_3 x9_4) % 256)]) (ok := fun _ => True) (okp := fun _ => True) ?hr ?hp (fun _ hk => hk) trivial (Below.refl _ _) (Nat.le_refl _) (by simp) ?_;(case hd => rfl);(case hg => rfl);(case hr => first | (go_simp;done) | (go_simp;rfl));(case hp => exact (Reps.one (show Kd.M (Kd.int .u8) _ _ _ (((rd x3_3 x9_4) / 16777216) % 256) [.int .u8 (((rd x3_3 x9_4) / 16777216) % 256)] from rfl) (Reps.one (show Kd.M (Kd.int .u8) _ _ _ (((rd x3_3 x9_4) / 65536) % 256) [.int .u8 (((rd x3_3 x9_4) / 65536) % 256)] from rfl) (Reps.one (show Kd.M (Kd.int .u8) _ _ _ (((rd x3_3 x9_4) / 256) % 256) [.int .u8 (((rd x3_3 x9_4) / 256) % 256)] from rfl) (Reps.one (show Kd.M (Kd.int .u8) _ _ _ ((rd x3_3 x9_4) % 256) [.int .u8 ((rd x3_3 x9_4) % 256)] from rfl) (Reps.none _ _))))))
         intro v264 w39 ho40 hb hg_ hnew_
         have HS0_ := (hb.cell (World.block_lt_of_cell? _ _ (hHeld.1))).trans (hHeld.1)
         have HS1_ := (hb.cell (World.block_lt_of_cell? _ _ (hHeld.2.1))).trans (hHeld.2.1)
         have HS2_ := (hb.cell (World.block_lt_of_cell? _ _ (hHeld.2.2.1))).trans (hHeld.2.2.1)
         have HS3_ := (hb.cell (World.block_lt_of_cell? _ _ (hHeld.2.2.2))).trans (hHeld.2.2.2)
         clear hg_ hnew_
         (first | rw [← Ny263.out] at ho40 | (simp only [Int.reduceToNat] at ho40;rw [← Ny263.out] at ho40))
         replace HO_3 := zrb HO_3 hb
         have HO265 := am_ (Kd.R_lower (Kd.R_new' ho40 (Kd.R_lt (zr HO_8))) (below_size (zl_ HB)))
         replace HO_8 := am_ (Kd.R_elder' (zr HO_8) (Kd.R_base ho40) hb)
         replace HB := zs_ HB hb
         clear hb ho40
         obtain ⟨Ao42,co42,eo42⟩ := Kd.R_slice HO265.out
         (first | subst eo42 | (injection eo42 with f1_ f2_ f3_;have f4_ := f1_.symm;have f5_ := f3_.symm;clear f1_ f2_ f3_;subst f4_;subst f5_))
         refine hK.out _ _ ⟨HS0_,HS1_,HS2_,HS3_⟩ (fun hHeld => ?_)
         clear hK K
         refine nm_ ?_
         refine last_ (i := 25) (N := some 83) #[true,true,true,true,true,true,true,true,true,true,true,true,true,true,true,true,true,true,true,true,true,true,true,true,true,true,false] rfl rfl (one_of HT_.out (by kernel_rfl)) (by decide) (fun K hK => ?_)
         refine Kd.R_append_rows_step (Kd.int .u8) (w0 := w) w.heap.size (by rfl) (.tmp 58) (.tmp 82) 22 5 (.int .u8 0) 1 rfl Tryd.underlying22 info5 rfl (by decide) (by omega) u8 x8_4 y263 _ _ _ (fun k_ => some k_ ≠ (.slice Ao42 y263.length co42 : Value).ownBlock) (fun _ => False) rfl rfl ?aO ?aR (fun _ _ h => h) (fun _ h => h.elim) ?aF ?aB ?aS ?aL ?_
         (case aR => repeat (first | exact (Kd.R_reads' HO265.out).2.2 | (with_reducible refine Kd.C_alloc ?_ _) | (with_reducible refine Kd.C_drewN ?_ _) | (with_reducible refine Kd.C_drew ?_)))
         (case aB => exact (zl_ HB))
         (case aF => exact (fun k_ hk => Kd.fresh' (Kd.R_lt (zr HO265)) k_ hk))
         (case aO => exact (by (with_reducible repeat (first | apply r1_ | apply r2_ | apply r3_));exact Kd.R_mono HO_8.out (fun _ hk => hk.2)))
         (case aS => exact (below_size (zl_ HB)))
         (case aL => have := LMc36.out;omega)
         intro v267 w41 ho hb hg hat
         rw [← Ny266.out] at ho
         replace HO_3 := am_ (Kd.R_over' (zr HO_3) (Kd.R_typed (zr HO_8)) (by decide) hg)
         replace HB := am_ (hb)
         have HO268 := am_ (ho)
         clear HO_8
         clear ho hb hg hat
         refine hK.out _ _ ?_
         clear hK K
         refine nm_ ?_
         refine pu_ 26 8 HT_ ?_
         refine done_ (done_of HT_.out (by kernel_rfl)) ?_
         try go_wp2
         go_roundg k4
         case measure => have := HK1.out;have := HK2.out;have := HK3.out;have := HK4.out;omega
         case rel => exact ⟨(y266),(wrap64 (x9_4 + 1)),(by first | rfl | (simp;done) | (simp [*];done)),H',⟨by have := HK1.out;have := HK2.out;have := HK3.out;have := HK4.out;omega⟩,⟨zr HO_3⟩,⟨by (with_reducible repeat (first | apply r1_ | apply r2_ | apply r3_));exact Kd.R_mono HO268.out (fun _ hk => trivial)⟩,⟨zl_ HB⟩⟩
theorem ZV.calls (k : Nat) (a0 : ByteArray) (a1 : Int) (a2 : Int) (a3 : Int) (r : ByteArray) (w : World) (h : ZV.f k a0 a1 a2 a3 = some r) :
  Calls Tryd.prog 72 #[.string a0,.int .i64 a1,.int .i64 a2,.int .i64 a3] w fun e w' => e = .returned (.string r) ∧ Below w.heap.size w w' := by
 have HB := am_ (Below.refl w.heap.size w)
 have H : (if 6 + a0.size ≤ 9223372036854775807 then ((some (([(a1) % 256,(a2) % 256,(a3) % 256] : List Int) : List Int)).bind fun y443 => (if ((⟨#[115,101,99,114,101,116]⟩ : ByteArray) ++ a0).size + (strOfNums y443).size ≤ 9223372036854775807 then (if (((⟨#[115,101,99,114,101,116]⟩ : ByteArray) ++ a0) ++ (strOfNums y443)).size ≤ 140737488355328 then ((Zb.f k (bytesOf (((⟨#[115,101,99,114,101,116]⟩ : ByteArray) ++ a0) ++ (strOfNums y443)))).bind fun t449 => (some t449)) else (none)) else (none))) else (none)) = some r := h
 clear h
 by_cases c5 : 6 + a0.size ≤ 9223372036854775807
 case neg =>
  rw [if_neg c5] at H
  exact absurd H (by simp)
 rw [if_pos c5] at H
 have c5b0 := eq_true c5
 have c5b1 := decide_eq_true c5
 try have c5b2 : (9223372036854775807 < 6 + a0.size) = False := eq_false (Nat.not_lt.2 c5)
 obtain ⟨y443,hy443⟩ : ∃ y_ : List Int,y_ = (([(a1) % 256,(a2) % 256,(a3) % 256] : List Int)) := ⟨_,rfl⟩
 replace H : (if ((⟨#[115,101,99,114,101,116]⟩ : ByteArray) ++ a0).size + (strOfNums y443).size ≤ 9223372036854775807 then (if (((⟨#[115,101,99,114,101,116]⟩ : ByteArray) ++ a0) ++ (strOfNums y443)).size ≤ 140737488355328 then ((Zb.f k (bytesOf (((⟨#[115,101,99,114,101,116]⟩ : ByteArray) ++ a0) ++ (strOfNums y443)))).bind fun t449 => (some t449)) else (none)) else (none)) = some r := by first | (rw [hy443];with_reducible exact H) | (have H2_ := (Option.bind_some _ _).symm.trans H;rw [hy443];with_reducible exact H2_) | (have H2_ := (Option.bind_some _ _).symm.trans H;with_reducible exact H2_) | with_reducible exact H | (rw [hy443];exact H) | exact H
 have Ny443 := am_ hy443
 clear hy443
 by_cases c6 : ((⟨#[115,101,99,114,101,116]⟩ : ByteArray) ++ a0).size + (strOfNums y443).size ≤ 9223372036854775807
 case neg =>
  rw [if_neg c6] at H
  exact absurd H (by simp)
 rw [if_pos c6] at H
 have c6b0 := eq_true c6
 have c6b1 := decide_eq_true c6
 try have c6b2 : (9223372036854775807 < ((⟨#[115,101,99,114,101,116]⟩ : ByteArray) ++ a0).size + (strOfNums y443).size) = False := eq_false (Nat.not_lt.2 c6)
 (try have c6b3 := c6b2;simp only [ByteArray.size_append,show (⟨#[115,101,99,114,101,116]⟩ : ByteArray).size = 6 from rfl] at c6b3)
 by_cases c7 : (((⟨#[115,101,99,114,101,116]⟩ : ByteArray) ++ a0) ++ (strOfNums y443)).size ≤ 140737488355328
 case neg =>
  rw [if_neg c7] at H
  exact absurd H (by simp)
 rw [if_pos c7] at H
 have c7b0 := eq_true c7
 have c7b1 := decide_eq_true c7
 obtain ⟨y446,hy446⟩ : ∃ y_ : List Int,y_ = (bytesOf (((⟨#[115,101,99,114,101,116]⟩ : ByteArray) ++ a0) ++ (strOfNums y443))) := ⟨_,rfl⟩
 replace H : ((Zb.f k y446).bind fun t449 => (some t449)) = some r := by first | (rw [hy446];with_reducible exact H) | (have H2_ := (Option.bind_some _ _).symm.trans H;rw [hy446];with_reducible exact H2_) | (have H2_ := (Option.bind_some _ _).symm.trans H;with_reducible exact H2_) | with_reducible exact H | (rw [hy446];exact H) | exact H
 have Ny446 := am_ hy446
 clear hy446
 replace H := Option.bind_eq_some_iff.mp H
 obtain ⟨t449,A80,H⟩ := H
 try dsimp only at H
 have A8 := am_ A80
 clear A80
 obtain rfl := Option.some.inj H
 go_enter Tryd.func72,Tryd.ntmps72
 go_wp2_with (first | ((with_reducible refine gate_dst (N := 17) rfl ?_);refine Kd.R_lit (Kd.int .u8) _ 5 ?hg (N := 17) ?hd (xs := ([(a1) % 256,(a2) % 256,(a3) % 256] : List Int)) (inner := [.int .u8 ((a1) % 256),.int .u8 ((a2) % 256),.int .u8 ((a3) % 256)]) (ok := fun _ => True) (okp := fun _ => True) ?hr ?hp (fun _ hk => hk) trivial (Below.refl _ _) (Nat.le_refl _) (by simp) ?_;(case hd => rfl);(case hg => rfl);(case hr => first | (go_simp;done) | (go_simp;rfl));(case hp => exact (Reps.one (show Kd.M (Kd.int .u8) _ _ _ ((a1) % 256) [.int .u8 ((a1) % 256)] from rfl) (Reps.one (show Kd.M (Kd.int .u8) _ _ _ ((a2) % 256) [.int .u8 ((a2) % 256)] from rfl) (Reps.one (show Kd.M (Kd.int .u8) _ _ _ ((a3) % 256) [.int .u8 ((a3) % 256)] from rfl) (Reps.none _ _)))));intro v444 w9 ho10 hb hg_ hnew_;clear hg_ hnew_;(first | rw [← Ny443.out] at ho10 | (simp only [Int.reduceToNat] at ho10;rw [← Ny443.out] at ho10));have HO445 := am_ (Kd.R_lower ho10 (below_size (zl_ HB)));replace HB := zs_ HB hb;clear hb ho10;have hcv11 := own_string (P := Tryd.prog) Tryd.underlying22 Tryd.underlying5 Tryd.underlying9 (Kd.own_of_R HO445.out)) | ((with_reducible refine gate_dst (N := 20) rfl ?_);refine Kd.V_conv (Kd.int .u8) rfl _ 5 rfl (N := 20) rfl 9 22 _ rfl (((⟨#[115,101,99,114,101,116]⟩ : ByteArray) ++ a0) ++ (strOfNums y443)) rfl Tryd.underlying9 Tryd.underlying22 Tryd.underlying5 (ok := fun k_ => w9.heap.size ≤ k_) (okp := fun _ => False) (fun _ hk => hk.elim) (Nat.le_refl _) (by have := o1_ (by first | (with_reducible assumption) | assumption : decide ((((⟨#[115,101,99,114,101,116]⟩ : ByteArray) ++ a0) ++ (strOfNums y443)).size ≤ 140737488355328) = true);omega) (Below.refl _ _) (Nat.le_refl _) ?_;intro v447 w12 ho13 hb hg_ hnew_;clear hg_ hnew_;(first | rw [← Ny446.out] at ho13 | (simp only [Int.reduceToNat] at ho13;rw [← Ny446.out] at ho13));have HO448 := am_ (Kd.V_lower (Kd.V_mono (ok' := fun k_ => some k_ ≠ (v444 : Value).ownBlock) ho13 (fun k_ hk_ => (Kd.fresh' (Kd.R_lt (zr HO445)) k_ hk_))) (below_size (zl_ HB)));replace HB := zs_ HB hb;clear hb ho13;obtain ⟨Ao14,co14,eo14⟩ := Kd.V_slice HO448.out;subst eo14) | ((with_reducible refine gate_callee (f := 59) rfl ?_);refine zgl (some 21) Tryd.func59 #[.slice Ao14 y446.length co14] ?_;(with_reducible refine (Zb.calls k _ _ y446 t449 _ ?side1 ?side2 A8.out).mono ?_);(case side1 => repeat (first | exact (Kd.V_reads' HO448.out).2.2 | (with_reducible refine Kd.C_alloc ?_ _) | (with_reducible refine Kd.C_drewN ?_ _) | (with_reducible refine Kd.C_drew ?_)));(case side2 => exact (Kd.V_reads' HO448.out).2.1);rintro e w15 ⟨rfl,hb⟩;refine ⟨_,rfl,?_⟩;replace HB := zs_ HB hb;(try clear hb)))
 go_ret
 exact ⟨zt_,zl_ HB⟩
end Go.Proofs.YtkfhejklnmkfmaaDoor.A
end

section
namespace Go.Proofs.YtkfhejklnmkfmaaDoor.A
open Go.RowKit Go.Proofs.YtkfhejklnmkfmaaDoorW.PrintWords Go.Proofs.YtkfhejklnmkfmaaDoorW.PrintLast Go.Proofs.YtkfhejklnmkfmaaDoorW.PrintMore
set_option maxHeartbeats 2000000 in
set_option maxRecDepth 100000 in
theorem key_walk (k : Nat) (a0 : ByteArray) (a1 : Int) (r : ByteArray) (w : World) (h : Zr.f k a0 a1 = some r) :
  Calls Tryd.prog 54 #[.string a0,.int .i64 a1] w fun e w' => e = .returned (.string r) ∧ Below w.heap.size w w' := by
 have H' : Aside0 (Zr.l0 k a0 a1 [107,101,121] 0 = some r) := Aside0.mk h
 clear h
 go_enter Tryd.func54,Tryd.ntmps54
 go_wp2_with (first | ((with_reducible refine gate_dst (N := 9) rfl ?_);refine convlit_hs 22 5 [107,101,121] rfl (.tmp 8) rfl Tryd.underlying22 Tryd.underlying5 rfl rfl (by decide) rfl ?_;intro g cap w1 F0;have F := Aside0.mk F0;clear F0))
 go_loopg [5,6] k (fun kq v5 v6 w' => ∃ (x5 : List Int) (x6 : Int) (g cap : Nat),v5 = .slice (some ⟨g,0,none⟩) x5.length cap ∧ v6 = .int .i64 x6 ∧ Aside0 (Zr.l0 kq a0 a1 x5 x6 = some r) ∧ Aside0 (kq ≤ k) ∧ Aside0 (0 < x5.length ∧ x5.length ≤ 140737488355328) ∧ Aside0 (Hs w w' w.heap.size g cap x5))
 case atStart => exact ⟨_,0,_,_,rfl,rfl,H',⟨Nat.le_refl _⟩,⟨by decide,by decide⟩,F⟩
 case round =>
  clear H' F
  obtain ⟨x5,x6,g1,cap1,rfl,rfl,HA,HK1,HP,F⟩ := hrel
  cases gk with
  | zero => exact absurd HA.out (by simp [Zr.l0])
  | succ k1 =>
   have H := HA.out
   clear HA
   simp only [Zr.l0] at H
   by_cases c5 : x6 < 32
   ·rw [if_pos c5] at H
    have c5b0 : decide (x6 < 32) = true := decide_eq_true c5
    clear c5
    have H' := Aside0.mk H
    clear H
    go_wp2
    go_loopg [5,7] k1 (fun kq v5 v7 w' => ∃ (x5 : List Int) (x7 : Int) (g cap : Nat),v5 = .slice (some ⟨g,0,none⟩) x5.length cap ∧ v7 = .int .i64 x7 ∧ Aside0 (Zr.l1 kq a0 a1 x5 x6 x7 = some r) ∧ Aside0 (kq ≤ k1) ∧ Aside0 (0 < x5.length ∧ x5.length ≤ 140737488355328) ∧ Aside0 (Hs w w' w.heap.size g cap x5))
    case atStart => exact ⟨_,0,_,_,rfl,rfl,H',⟨Nat.le_refl _⟩,HP,F⟩
    case round =>
     clear H' F HP c5b0
     obtain ⟨x5,x7,g2,cap2,rfl,rfl,HA,HK2,HP,F⟩ := hrel
     cases gk with
     | zero => exact absurd HA.out (by simp [Zr.l1])
     | succ k2 =>
      have H := HA.out
      clear HA
      simp only [Zr.l1] at H
      by_cases c6 : x7 < 2
      ·rw [if_pos c6] at H
       have c6b0 : decide (x7 < 2) = true := decide_eq_true c6
       clear c6
       replace H := Option.bind_eq_some_iff.mp H
       obtain ⟨t,A70,H⟩ := H
       have A7 := Aside0.mk A70
       clear A70
       by_cases c8 : t.size ≤ 140737488355328
       ·rw [if_pos c8] at H
        have L8 := Aside0.mk c8
        clear c8
        replace H := Option.bind_eq_some_iff.mp H
        obtain ⟨t2,A90,H⟩ := H
        have A9 := Aside0.mk A90
        clear A90
        by_cases c10 : x5.length + t2.size < 140737488355328
        ·rw [if_pos c10] at H
         have L10 := Aside0.mk c10
         clear c10
         have H' := Aside0.mk H
         clear H
         go_wp2_with (first | (go_at_call 72;with_reducible refine (ZV.calls k2 a0 a1 x6 x7 t _ A7.out).mono ?_;rintro e w4 ⟨rfl,hb4⟩;have F' := Aside0.mk (F.out.on hb4);clear F hb4) | ((with_reducible refine gate_dst (N := 24) rfl ?_);refine conv_hs 5 rfl 9 22 _ rfl t rfl Tryd.underlying9 Tryd.underlying22 Tryd.underlying5 ?_;intro g3 cap3 w5 G0;have G := Aside0.mk G0;clear G0;have F := Aside0.mk (F'.out.on G.out.below);clear F') | (go_at_call 59;refine calls_of_args (args' := #[.slice (some ⟨g3,0,none⟩) (bytesOf t).length cap3]) (by rw [bytesOf_length]) ?_;with_reducible refine (Zb.calls k2 (some ⟨g3,0,none⟩) cap3 (bytesOf t) t2 _ (bmC G.out.row (by have := L8.out;rw [bytesOf_length];omega)) G.out.row.room A9.out).mono ?_;rintro e w6 ⟨rfl,hb6⟩;have F' := Aside0.mk (F.out.on hb6);clear hb6 F G) | ((with_reducible refine gate_builtin (b := .append) (xs := #[.tmp 18,.tmp 25]) rfl ?_);at_builtin;refine appendT_hs (l := x5) 22 9 5 rfl (.tmp 18) (.tmp 25) rfl Tryd.underlying22 Tryd.underlying9 info5 t2 rfl rfl HP.out.1 F'.out (by have := L10.out;omega) ?_;clear F';intro g' cap' w7 F0;have F := Aside0.mk F0;clear F0))
         go_roundg k2
         case measure => have := HK1.out;have := HK2.out;omega
         case rel => exact ⟨x5 ++ bytesOf t2,_,_,_,by rw [List.length_append],rfl,H',⟨by have := HK1.out;have := HK2.out;omega⟩,⟨by have := HP.out.1;rw [List.length_append];omega,by have := L10.out;rw [List.length_append,bytesOf_length];omega⟩,F⟩
        ·rw [if_neg c10] at H
         exact absurd H (by simp)
       ·rw [if_neg c8] at H
        exact absurd H (by simp)
      ·rw [if_neg c6] at H
       have c6b0 : decide (x7 < 2) = false := decide_eq_false c6
       clear c6
       have H' := Aside0.mk H
       clear H
       go_wp2
       go_roundg k2
       case measure => have := HK1.out;have := HK2.out;omega
       case rel => exact ⟨_,_,_,_,rfl,rfl,H',⟨by have := HK1.out;have := HK2.out;omega⟩,HP,F⟩
   ·rw [if_neg c5] at H
    have c5b0 : decide (x6 < 32) = false := decide_eq_false c5
    clear c5
    replace H := Option.bind_eq_some_iff.mp H
    obtain ⟨t,A170,H⟩ := H
    have A17 := Aside0.mk A170
    clear A170
    obtain rfl := Option.some.inj H
    go_wp2_with (first | (go_at_call 59;with_reducible refine (Zb.calls k1 (some ⟨g1,0,none⟩) cap1 x5 t _ (bmC F.out.row HP.out.2) F.out.row.room A17.out).mono ?_;rintro e w6 ⟨rfl,hb6⟩;have B := Aside0.mk (Below.trans F.out.below (hb6.mono (by have := F.out.below.size;exact this)));clear hb6 F))
    go_ret
    exact ⟨by first | rfl | (simp;done),B.out⟩
end Go.Proofs.YtkfhejklnmkfmaaDoor.A
end

section
namespace Go.Proofs.YtkfhejklnmkfmaaDoor.A
open Go.RowKit Go.Proofs.YtkfhejklnmkfmaaDoorW.PrintWords Go.Proofs.YtkfhejklnmkfmaaDoorW.PrintLast Go.Proofs.YtkfhejklnmkfmaaDoorW.PrintMore
attribute [local go_sem] max2_int min2_int max_two min_two max_three min_three max_four min_four
theorem Zr.calls (k : Nat) (a0 : ByteArray) (a1 : Int) (r : ByteArray) (w : World) (h : Zr.f k a0 a1 = some r) :
  Calls Tryd.prog 54 #[.string a0,.int .i64 a1] w fun e w' => e = .returned (.string r) ∧ Below w.heap.size w w' := key_walk k a0 a1 r w h
theorem Zz.calls (k : Nat) (a0 : ByteArray) (r : List ByteArray) (w : World) (h : Zz.f k a0 = some r) :
  Calls Tryd.prog 29 #[.string a0] w fun e w' => ∃ v0_ : Value,e = .returned (v0_) ∧ Kd.R Kd.string 9 w' w.heap.size (fun _ => True) v0_ r ∧ Below w.heap.size w w' := by
 have HB := am_ (Below.refl w.heap.size w)
 have H : (Zz.l0 k a0 (([] : List ByteArray)) 0) = some r := h
 clear h
 obtain ⟨y462,hy462⟩ : ∃ y_ : List ByteArray,y_ = (([] : List ByteArray)) := ⟨_,rfl⟩
 replace H : (Zz.l0 k a0 y462 0) = some r := by first | (rw [hy462];with_reducible exact H) | (have H2_ := (Option.bind_some _ _).symm.trans H;rw [hy462];with_reducible exact H2_) | (have H2_ := (Option.bind_some _ _).symm.trans H;with_reducible exact H2_) | with_reducible exact H | (rw [hy462];exact H) | exact H
 have Ny462 := am_ hy462
 clear hy462
 have H' := am_ H
 clear H
 go_enter Tryd.func29,Tryd.ntmps29
 go_wp2_with (first | ((with_reducible refine gate_dst (N := 5) rfl ?_);refine Kd.R_lit Kd.string _ 9 ?hg (N := 5) ?hd (xs := ([] : List ByteArray)) (inner := []) (ok := fun _ => True) (okp := fun _ => True) ?hr ?hp (fun _ hk => hk) trivial (Below.refl _ _) (Nat.le_refl _) (by simp) ?_;(case hd => rfl);(case hg => rfl);(case hr => first | (go_simp;done) | (go_simp;rfl));(case hp => exact (Reps.none _ _));intro v463 w2 ho3 hb hg_ hnew_;clear hg_ hnew_;(first | rw [← Ny462.out] at ho3 | (simp only [Int.reduceToNat] at ho3;rw [← Ny462.out] at ho3));have HO464 := am_ (Kd.R_lower ho3 (below_size (zl_ HB)));replace HB := zs_ HB hb;clear hb ho3))
 go_loopg [3,4] k (fun kq v3 v4 w' => ∃ (x3_1 : List ByteArray) (x4_1 : Int),v4 = .int .i64 x4_1 ∧ Aside0 (Zz.l0 kq a0 x3_1 x4_1 = some r) ∧ Aside0 (kq ≤ k) ∧ Aside0 (Kd.R Kd.string 9 w' w.heap.size (fun _ => True) v3 x3_1) ∧ Aside0 (Below w.heap.size w w'))
 case atStart => exact ⟨(y462),(0),(by first | rfl | (simp;done) | (simp [*];done)),H',⟨Nat.le_refl _⟩,⟨zr HO464⟩,⟨zl_ HB⟩⟩
 case round =>
  clear H'
  try clear c2
  try clear p2
  obtain ⟨x3_1,x4_1,rfl,HA,HK1,HO_3,HB⟩ := hrel
  cases gk with
  | zero => exact absurd HA.out (by simp [Zz.l0])
  | succ k1 =>
   have H := HA.out
   clear HA
   simp only [Zz.l0] at H
   by_cases c4 : x4_1 < 8
   case neg =>
    rw [if_neg c4] at H
    have c4b0 := decide_eq_false c4
    clear c4
    obtain rfl := Option.some.inj H
    go_wp2
    go_ret
    exact ⟨_,zt_,zr HO_3,zl_ HB⟩
   rw [if_pos c4] at H
   have c4b0 := decide_eq_true c4
   clear c4
   replace H := Option.bind_eq_some_iff.mp H
   obtain ⟨t465,A50,H⟩ := H
   try dsimp only at H
   have A5 := am_ A50
   clear A50
   by_cases c6 : x3_1.length < 8796093022208
   case neg =>
    rw [if_neg c6] at H
    exact absurd H (by simp)
   rw [if_pos c6] at H
   have LMc6 := am_ c6
   clear c6
   obtain ⟨y466,hy466⟩ : ∃ y_ : List ByteArray,y_ = (x3_1 ++ [t465]) := ⟨_,rfl⟩
   replace H : (Zz.l0 k1 a0 y466 (wrap64 (x4_1 + 1))) = some r := by first | (rw [hy466];with_reducible exact H) | (have H2_ := (Option.bind_some _ _).symm.trans H;rw [hy466];with_reducible exact H2_) | (have H2_ := (Option.bind_some _ _).symm.trans H;with_reducible exact H2_) | with_reducible exact H | (rw [hy466];exact H) | exact H
   have Ny466 := am_ hy466
   clear hy466
   have H' := am_ H
   clear H
   go_wp2_with (first | ((with_reducible refine gate_callee (f := 54) rfl ?_);refine zgl (some 13) Tryd.func54 #[.string a0,.int .i64 x4_1] ?_;(with_reducible refine (Zr.calls k1 a0 x4_1 t465 _ A5.out).mono ?_);rintro e w7 ⟨rfl,hb⟩;refine ⟨_,rfl,?_⟩;replace HO_3 := zrb HO_3 hb;replace HB := zs_ HB hb;(try clear hb);(try clear hi)) | ((with_reducible refine gate_builtin (b := .append) (xs := #[.tmp 10,.tmp 14]) rfl ?_);at_builtin;refine Kd.R_append Kd.string (w0 := w) w.heap.size rfl (.tmp 10) (.tmp 14) 35 9 (.string ⟨#[]⟩) 16 rfl Tryd.underlying35 info9 rfl (by decide) (by omega) u3 x3_1 t465 [.string t465] (fun _ => True) (fun _ => False) rfl rfl ?aP (fun _ hk => hk.elim) ?aF ?aO ?aB ?aS ?aL ?_;(case aP => exact rfl);(case aB => exact (zl_ HB));(case aF => exact (fun _ _ => trivial));(case aO => exact (zr HO_3));(case aS => exact (below_size (zl_ HB)));(case aL => have := LMc6.out;omega);intro v467 w8 ho hb hg hat;rw [← Ny466.out] at ho;replace HB := am_ (hb);have HO468 := am_ (ho);clear HO_3;clear ho hb hg hat))
   go_roundg k1
   case measure => have := HK1.out;omega
   case rel => exact ⟨(y466),(wrap64 (x4_1 + 1)),(by first | rfl | (simp;done) | (simp [*];done)),H',⟨by have := HK1.out;omega⟩,⟨zr HO468⟩,⟨zl_ HB⟩⟩
theorem ZM.calls (k : Nat) (a0 : ByteArray) (a1 : ByteArray) (r : ByteArray) (w : World) (h : ZM.f k a0 a1 = some r) :
  Calls Tryd.prog 60 #[.string a0,.string a1] w fun e w' => e = .returned (.string r) ∧ Below w.heap.size w w' := by
 have HB := am_ (Below.refl w.heap.size w)
 have H : (if 4 + a0.size ≤ 9223372036854775807 then (if ((⟨#[110,111,100,101]⟩ : ByteArray) ++ a0).size + a1.size ≤ 9223372036854775807 then (if (((⟨#[110,111,100,101]⟩ : ByteArray) ++ a0) ++ a1).size ≤ 140737488355328 then ((Zb.f k (bytesOf (((⟨#[110,111,100,101]⟩ : ByteArray) ++ a0) ++ a1))).bind fun t429 => (some t429)) else (none)) else (none)) else (none)) = some r := h
 clear h
 by_cases c3 : 4 + a0.size ≤ 9223372036854775807
 case neg =>
  rw [if_neg c3] at H
  exact absurd H (by simp)
 rw [if_pos c3] at H
 have c3b0 := eq_true c3
 have c3b1 := decide_eq_true c3
 try have c3b2 : (9223372036854775807 < 4 + a0.size) = False := eq_false (Nat.not_lt.2 c3)
 by_cases c4 : ((⟨#[110,111,100,101]⟩ : ByteArray) ++ a0).size + a1.size ≤ 9223372036854775807
 case neg =>
  rw [if_neg c4] at H
  exact absurd H (by simp)
 rw [if_pos c4] at H
 have c4b0 := eq_true c4
 have c4b1 := decide_eq_true c4
 try have c4b2 : (9223372036854775807 < ((⟨#[110,111,100,101]⟩ : ByteArray) ++ a0).size + a1.size) = False := eq_false (Nat.not_lt.2 c4)
 (try have c4b3 := c4b2;simp only [ByteArray.size_append,show (⟨#[110,111,100,101]⟩ : ByteArray).size = 4 from rfl] at c4b3)
 by_cases c5 : (((⟨#[110,111,100,101]⟩ : ByteArray) ++ a0) ++ a1).size ≤ 140737488355328
 case neg =>
  rw [if_neg c5] at H
  exact absurd H (by simp)
 rw [if_pos c5] at H
 have c5b0 := eq_true c5
 have c5b1 := decide_eq_true c5
 obtain ⟨y426,hy426⟩ : ∃ y_ : List Int,y_ = (bytesOf (((⟨#[110,111,100,101]⟩ : ByteArray) ++ a0) ++ a1)) := ⟨_,rfl⟩
 replace H : ((Zb.f k y426).bind fun t429 => (some t429)) = some r := by first | (rw [hy426];with_reducible exact H) | (have H2_ := (Option.bind_some _ _).symm.trans H;rw [hy426];with_reducible exact H2_) | (have H2_ := (Option.bind_some _ _).symm.trans H;with_reducible exact H2_) | with_reducible exact H | (rw [hy426];exact H) | exact H
 have Ny426 := am_ hy426
 clear hy426
 replace H := Option.bind_eq_some_iff.mp H
 obtain ⟨t429,A60,H⟩ := H
 try dsimp only at H
 have A6 := am_ A60
 clear A60
 obtain rfl := Option.some.inj H
 go_enter Tryd.func60,Tryd.ntmps60
 go_wp2_with (first | ((with_reducible refine gate_dst (N := 9) rfl ?_);refine Kd.V_conv (Kd.int .u8) rfl _ 5 rfl (N := 9) rfl 9 22 _ rfl (((⟨#[110,111,100,101]⟩ : ByteArray) ++ a0) ++ a1) rfl Tryd.underlying9 Tryd.underlying22 Tryd.underlying5 (ok := fun k_ => w.heap.size ≤ k_) (okp := fun _ => False) (fun _ hk => hk.elim) (Nat.le_refl _) (by have := o1_ (by first | (with_reducible assumption) | assumption : decide ((((⟨#[110,111,100,101]⟩ : ByteArray) ++ a0) ++ a1).size ≤ 140737488355328) = true);omega) (Below.refl _ _) (Nat.le_refl _) ?_;intro v427 w7 ho8 hb hg_ hnew_;clear hg_ hnew_;(first | rw [← Ny426.out] at ho8 | (simp only [Int.reduceToNat] at ho8;rw [← Ny426.out] at ho8));have HO428 := am_ (Kd.V_lower (Kd.V_mono (ok' := fun k_ => True) ho8 (fun k_ hk_ => trivial)) (below_size (zl_ HB)));replace HB := zs_ HB hb;clear hb ho8;obtain ⟨Ao9,co9,eo9⟩ := Kd.V_slice HO428.out;subst eo9) | ((with_reducible refine gate_callee (f := 59) rfl ?_);refine zgl (some 10) Tryd.func59 #[.slice Ao9 y426.length co9] ?_;(with_reducible refine (Zb.calls k _ _ y426 t429 _ ?side1 ?side2 A6.out).mono ?_);(case side1 => repeat (first | exact (Kd.V_reads' HO428.out).2.2 | (with_reducible refine Kd.C_alloc ?_ _) | (with_reducible refine Kd.C_drewN ?_ _) | (with_reducible refine Kd.C_drew ?_)));(case side2 => exact (Kd.V_reads' HO428.out).2.1);rintro e w10 ⟨rfl,hb⟩;refine ⟨_,rfl,?_⟩;replace HB := zs_ HB hb;(try clear hb)))
 go_ret
 exact ⟨zt_,zl_ HB⟩
def Zw.T5 : Bool × List (List Nat × List Nat) := (true,[([],[]),([],[]),([],[]),([1,2],[1,2]),([3],[3]),([],[]),([],[]),([6],[6]),([5,7],[5,7]),([8],[8]),([4,9],[4,9]),([10],[10]),([0,11,10],[0,11]),([12,12,0,1,2,3,4,5,6,7,8,9,10,11,12],[0,12])])
def Zw.B5 : List Nat := [0,0,0,6,14,0,0,64,224,480,1022,2046,4095,8191]
theorem Zw.tab5 : rtab .any (opsOf Tryd.f53 5) = Zw.T5 := by kernel_rfl
theorem Zw.bits5 : waitsOk Zw.T5.2 Zw.B5 = true := by kernel_rfl
theorem Zw.calls (k : Nat) (A0 : Option Addr) (c0 : Nat) (l0 : List ByteArray) (r : List ByteArray) (w : World) (hr0 : Kd.C Kd.string w A0 l0.length l0) (hc0 : l0.length ≤ c0) (h : Zw.f k l0 = some r) :
  Calls Tryd.prog 53 #[.slice A0 l0.length c0] w fun e w' => ∃ v0_ : Value,e = .returned (v0_) ∧ Kd.R Kd.string 9 w' w.heap.size (fun _ => True) v0_ r ∧ Below w.heap.size w w' := by
 have HR0 := am_ hr0
 have HC0 := am_ hc0
 clear hr0 hc0
 have HB := am_ (Below.refl w.heap.size w)
 have H : (Zw.l0 k l0 (([] : List ByteArray)) 0) = some r := h
 clear h
 obtain ⟨y430,hy430⟩ : ∃ y_ : List ByteArray,y_ = (([] : List ByteArray)) := ⟨_,rfl⟩
 replace H : (Zw.l0 k l0 y430 0) = some r := by first | (rw [hy430];with_reducible exact H) | (have H2_ := (Option.bind_some _ _).symm.trans H;rw [hy430];with_reducible exact H2_) | (have H2_ := (Option.bind_some _ _).symm.trans H;with_reducible exact H2_) | with_reducible exact H | (rw [hy430];exact H) | exact H
 have Ny430 := am_ hy430
 clear hy430
 have H' := am_ H
 clear H
 go_enter Tryd.func53,Tryd.ntmps53
 go_wp2_with (first | ((with_reducible refine gate_dst (N := 5) rfl ?_);refine Kd.R_lit Kd.string _ 9 ?hg (N := 5) ?hd (xs := ([] : List ByteArray)) (inner := []) (ok := fun _ => True) (okp := fun _ => True) ?hr ?hp (fun _ hk => hk) trivial (Below.refl _ _) (Nat.le_refl _) (by simp) ?_;(case hd => rfl);(case hg => rfl);(case hr => first | (go_simp;done) | (go_simp;rfl));(case hp => exact (Reps.none _ _));intro v431 w2 ho3 hb hg_ hnew_;clear hg_ hnew_;(first | rw [← Ny430.out] at ho3 | (simp only [Int.reduceToNat] at ho3;rw [← Ny430.out] at ho3));have HO432 := am_ (Kd.R_lower ho3 (below_size (zl_ HB)));replace HB := zs_ HB hb;clear hb ho3))
 go_loopg [3,4] k (fun kq v3 v4 w' => ∃ (x3_1 : List ByteArray) (x4_1 : Int),v4 = .int .i64 x4_1 ∧ Aside0 (Zw.l0 kq l0 x3_1 x4_1 = some r) ∧ Aside0 (kq ≤ k) ∧ Aside0 (Kd.R Kd.string 9 w' w.heap.size (fun _ => True) v3 x3_1) ∧ Aside0 (Below w.heap.size w w'))
 case atStart => exact ⟨(y430),(0),(by first | rfl | (simp;done) | (simp [*];done)),H',⟨Nat.le_refl _⟩,⟨zr HO432⟩,⟨zl_ HB⟩⟩
 case round =>
  clear H'
  try clear p2
  obtain ⟨x3_1,x4_1,rfl,HA,HK1,HO_3,HB⟩ := hrel
  cases gk with
  | zero => exact absurd HA.out (by simp [Zw.l0])
  | succ k1 =>
   have H := HA.out
   clear HA
   simp only [Zw.l0] at H
   by_cases c4 : x4_1 < (l0.length : Int)
   case neg =>
    rw [if_neg c4] at H
    have c4b0 := decide_eq_false c4
    clear c4
    obtain rfl := Option.some.inj H
    go_wp2
    go_ret
    exact ⟨_,zt_,zr HO_3,zl_ HB⟩
   rw [if_pos c4] at H
   have c4b0 := decide_eq_true c4
   clear c4
   by_cases c5 : 0 ≤ x4_1
   case neg =>
    rw [if_neg c5] at H
    exact absurd H (by simp)
   rw [if_pos c5] at H
   have c5b0 := decide_eq_true c5
   clear c5
   obtain ⟨ji6,hji6⟩ : ∃ j_ : Int,(wrap64 (x4_1 + 1)) = j_ := ⟨_,rfl⟩
   replace H : (if 0 ≤ (ji6) then (if (ji6) < (l0.length : Int) then ((ZM.f k1 (rdOf ByteArray.empty l0 x4_1) (rdOf ByteArray.empty l0 (ji6))).bind fun t435 => (if x3_1.length < 8796093022208 then (Zw.l0 k1 l0 (x3_1 ++ [t435]) (wrap64 (x4_1 + 2))) else (none))) else (none)) else (none)) = some r := by first | (rw [hji6] at H;exact H) | (simp only [hji6] at H ⊢;exact H)
   have hji6w : (IntKind.i64.wrap (x4_1 + 1)) = ji6 := (i64_w _).trans hji6
   by_cases c7 : 0 ≤ (ji6)
   case neg =>
    rw [if_neg c7] at H
    exact absurd H (by simp)
   rw [if_pos c7] at H
   have c7b0 := decide_eq_true c7
   clear c7
   by_cases c8 : (ji6) < (l0.length : Int)
   case neg =>
    rw [if_neg c8] at H
    exact absurd H (by simp)
   rw [if_pos c8] at H
   have c8b0 := decide_eq_true c8
   clear c8
   replace H := Option.bind_eq_some_iff.mp H
   obtain ⟨t435,A90,H⟩ := H
   try dsimp only at H
   have A9 := am_ A90
   clear A90
   by_cases c10 : x3_1.length < 8796093022208
   case neg =>
    rw [if_neg c10] at H
    exact absurd H (by simp)
   rw [if_pos c10] at H
   have LMc10 := am_ c10
   clear c10
   obtain ⟨y436,hy436⟩ : ∃ y_ : List ByteArray,y_ = (x3_1 ++ [t435]) := ⟨_,rfl⟩
   replace H : (Zw.l0 k1 l0 y436 (wrap64 (x4_1 + 2))) = some r := by first | (rw [hy436];with_reducible exact H) | (have H2_ := (Option.bind_some _ _).symm.trans H;rw [hy436];with_reducible exact H2_) | (have H2_ := (Option.bind_some _ _).symm.trans H;with_reducible exact H2_) | with_reducible exact H | (rw [hy436];exact H) | exact H
   have Ny436 := am_ hy436
   clear hy436
   have H' := am_ H
   clear H
   try go_wp2
   replace HO_3 := am_ (Kd.R_drew HO_3.out)
   replace HB := am_ (below_drew1 HB.out)
   have p433 : 0 ≤ (x4_1 : Int) := zo_
   have q433 : x4_1 < (l0.length : Int) := zo_
   obtain ⟨ad433,e433,hx433_0⟩ := Kd.at_string HR0.out x4_1 p433 q433
   have hw433_0 := hx433_0
   cases e433
   replace hx433_0 := zx_ HB hx433_0
   replace p433 := eq_true p433
   replace q433 := eq_true q433
   have p434 : 0 ≤ ((ji6) : Int) := zo_
   have q434 : (ji6) < (l0.length : Int) := zo_
   obtain ⟨ad434,e434,hx434_0⟩ := Kd.at_string HR0.out (ji6) p434 q434
   have hw434_0 := hx434_0
   obtain rfl : ad433 = ad434 := (by injection e434)
   replace hx434_0 := zx_ HB hx434_0
   replace p434 := eq_true p434
   replace q434 := eq_true q434
   refine start_ (n := 14) (S := fun w' => w'.cell? (ad433.add (x4_1).toNat) = some (.string (rdOf ByteArray.empty l0 x4_1)) ∧ w'.cell? (ad433.add ((ji6)).toNat) = some (.string (rdOf ByteArray.empty l0 (ji6)))) (ds := []) #[false,false,false,false,false,false,false,false,false,false,false,false,false,false] (by kernel_rfl) rfl rfl ⟨(zx_ HB hw433_0),(zx_ HB hw434_0)⟩ (fun hHeld => ?_);refine with_tabW Zw.tab5 Zw.bits5 (fun HT_ HW_ => ?_)
   generalize wr.drew = w11 at HO_3 HB hx433_0 hx434_0 hHeld ⊢
   refine pu_ 0 12 HT_ ?_
   refine pu_ 1 13 HT_ ?_
   refine pu_ 2 14 HT_ ?_
   refine pu_ 3 15 HT_ ?_
   refine pu_ 5 17 HT_ ?_
   refine pu_ 6 18 HT_ ?_
   refine pu_ 7 19 HT_ ?_
   refine pu_ 8 20 HT_ ?_
   refine tk_ 4 16 HT_ HW_ hHeld ?_
   refine tk_ 9 21 HT_ HW_ hHeld ?_
   refine zon 10 (N := some 22) HT_ (fun K hK => ?_)
   refine goes_ Tryd.func60 (by kernel_rfl) rfl #[.string (rdOf ByteArray.empty l0 x4_1),.string (rdOf ByteArray.empty l0 (ji6))] (by rfl) rfl rfl (by (try simp only [m1_,m2_,m3_]);first | done | (simp only [hji6];rfl) | rfl | (simp only [d1_,d2_];rfl)) ?_
   with_reducible refine (ZM.calls k1 (rdOf ByteArray.empty l0 x4_1) (rdOf ByteArray.empty l0 (ji6)) t435 _ A9.out).mono ?_
   rintro e w12 ⟨rfl,hb⟩
   refine ⟨_,rfl,?_⟩
   replace HO_3 := zrb HO_3 hb
   replace HB := zs_ HB hb
   try clear hb
   refine hK.out _ _ ⟨(zx_ HB hw433_0),(zx_ HB hw434_0)⟩ (fun hHeld => ?_)
   clear hK K
   refine nm_ ?_
   refine zon 11 (N := some 23) HT_ (fun K hK => ?_)
   refine value_ (w1 := ?_) (v := ?_) (by rfl) rfl ?_ ?_
   rotate_left 2
   ·go_simp
    constructor
    ·rfl
    ·rfl
   refine hK.out _ _ ⟨(World.cell?_alloc_lt _ _ _ (World.block_lt_of_cell? _ _ ((zx_ HB hw433_0)))).trans ((zx_ HB hw433_0)),(World.cell?_alloc_lt _ _ _ (World.block_lt_of_cell? _ _ ((zx_ HB hw434_0)))).trans ((zx_ HB hw434_0))⟩ (fun hHeld => ?_)
   clear hK K
   refine nm_ ?_
   refine zon 12 (N := some 24) HT_ (fun K hK => ?_)
   refine Kd.R_append_step Kd.string (w0 := w) w.heap.size (by rfl) (.tmp 12) (.tmp 23) 35 9 (.string ⟨#[]⟩) 16 rfl Tryd.underlying35 info9 rfl (by decide) (by omega) u3 x3_1 t435 [.string t435] (fun _ => True) (fun _ => False) rfl rfl ?aP (fun _ hk => hk.elim) ?aF ?aO ?aB ?aS ?aL ?_
   (case aP => exact rfl)
   (case aB => exact (zl_ HB))
   (case aF => exact (fun _ _ => trivial))
   (case aO => exact (zr HO_3))
   (case aS => exact (below_size (zl_ HB)))
   (case aL => have := LMc10.out;omega)
   intro v437 w13 ho hb hg hat
   rw [← Ny436.out] at ho
   replace HB := am_ (hb)
   have HO438 := am_ (ho)
   clear HO_3
   clear ho hb hg hat
   refine hK.out _ _ ⟨(zx_ HB hw433_0),(zx_ HB hw434_0)⟩ (fun hHeld => ?_)
   clear hK K
   refine nm_ ?_
   refine pu_ 13 3 HT_ ?_
   refine done_ (done_of HT_.out (by kernel_rfl)) ?_
   try go_wp2
   go_roundg k1
   case measure => have := HK1.out;omega
   case rel => exact ⟨(y436),(wrap64 (x4_1 + 2)),(by first | rfl | (simp;done) | (simp [*];done)),H',⟨by have := HK1.out;omega⟩,⟨zr HO438⟩,⟨zl_ HB⟩⟩
theorem ZB.calls (k : Nat) (P0_ : Nat → Prop) (A0 : Option Addr) (c0 : Nat) (l0 : List ByteArray) (r : ByteArray) (w : World) (hs0 : Kd.V Kd.string 9 w w.heap.size (fun k_ => P0_ k_) (.slice A0 l0.length c0) l0) (h : ZB.f k l0 = some r) :
  Calls Tryd.prog 28 #[.slice A0 l0.length c0] w fun e w' => e = .returned (.string r) ∧ Below w.heap.size w w' := by
 have HO0 := am_ (show Kd.V Kd.string 9 w w.heap.size (fun k_ => (P0_ k_ ∨ w.heap.size ≤ k_)) (.slice A0 l0.length c0) l0 from Kd.V_mono hs0 (fun k_ hk => .inl hk))
 have HB := am_ (Below.refl w.heap.size w)
 have H : (ZB.l0 k l0) = some r := h
 clear h
 have H' := am_ H
 clear H
 go_enter Tryd.func28,Tryd.ntmps28
 go_wp2
 go_loopg [0] k (fun kq v0 w' => ∃ (x0_1 : List ByteArray),Aside0 (ZB.l0 kq x0_1 = some r) ∧ Aside0 (kq ≤ k) ∧ Aside0 (Kd.V Kd.string 9 w' w.heap.size (fun k_ => (P0_ k_ ∨ w.heap.size ≤ k_)) v0 x0_1) ∧ Aside0 (Below w.heap.size w w'))
 case atStart => exact ⟨(l0),H',⟨Nat.le_refl _⟩,⟨by (with_reducible repeat (first | apply Kd.V_alloc | apply Kd.V_drewN | apply Kd.V_drew));exact HO0.out⟩,⟨zl_ HB⟩⟩
 case round =>
  clear H'
  obtain ⟨x0_1,HA,HK1,HO_0,HB⟩ := hrel
  cases gk with
  | zero => exact absurd HA.out (by simp [ZB.l0])
  | succ k1 =>
   have H := HA.out
   clear HA
   simp only [ZB.l0] at H
   by_cases c2 : (x0_1.length : Int) > 1
   case neg =>
    rw [if_neg c2] at H
    have c2b0 : decide (1 < (x0_1.length : Int)) = false := decide_eq_false c2
    have c2b1 : decide (1 < x0_1.length) = false := decide_eq_false (by omega)
    clear c2
    by_cases c6 : 0 < (x0_1.length : Int)
    case neg =>
     rw [if_neg c6] at H
     exact absurd H (by simp)
    rw [if_pos c6] at H
    have c6b0 := decide_eq_true c6
    have c6b1 : decide (0 < x0_1.length) = true := decide_eq_true (by omega)
    clear c6
    obtain rfl := Option.some.inj H
    obtain ⟨Ao7,co7,eo7⟩ := Kd.V_slice HO_0.out
    subst eo7
    have p442 : 0 ≤ (0 : Int) := (by omega)
    have q442 : 0 < (x0_1.length : Int) := zo_
    obtain ⟨ad442,e442,hx442_0⟩ := Kd.at_string (Kd.V_reads' HO_0.out).2.2 0 p442 q442
    cases e442
    have qi442 : (0 < x0_1.length) = True := eq_true (by omega)
    (try rw [show ((0 : Int)).toNat = 0 from rfl] at hx442_0)
    (try rw [Addr.add_zero'] at hx442_0)
    replace p442 := eq_true p442
    replace q442 := eq_true q442
    go_wp2
    go_ret
    exact ⟨zt_,zl_ HB⟩
   rw [if_pos c2] at H
   have c2b0 : decide (1 < (x0_1.length : Int)) = true := decide_eq_true c2
   have c2b1 : decide (1 < x0_1.length) = true := decide_eq_true (by omega)
   clear c2
   replace H := Option.bind_eq_some_iff.mp H
   obtain ⟨t439,A30,H⟩ := H
   try dsimp only at H
   have A3 := am_ A30
   clear A30
   have H' := am_ H
   clear H
   obtain ⟨Ao4,co4,eo4⟩ := Kd.V_slice HO_0.out
   subst eo4
   go_wp2_with (first | ((with_reducible refine gate_callee (f := 53) rfl ?_);refine zgl (some 7) Tryd.func53 #[.slice Ao4 x0_1.length co4] ?_;(with_reducible refine (Zw.calls k1 _ _ x0_1 t439 _ ?side1 ?side2 A3.out).mono ?_);(case side1 => repeat (first | exact (Kd.V_reads' HO_0.out).2.2 | (with_reducible refine Kd.C_alloc ?_ _) | (with_reducible refine Kd.C_drewN ?_ _) | (with_reducible refine Kd.C_drew ?_)));(case side2 => exact (Kd.V_reads' HO_0.out).2.1);rintro e w5 ⟨v440,rfl,ho0,hb⟩;refine ⟨_,rfl,?_⟩;replace HO_0 := am_ (Kd.V_elder' (by (with_reducible repeat (first | apply Kd.V_alloc | apply Kd.V_drewN | apply Kd.V_drew));exact HO_0.out) (Kd.R_base ho0) hb);have HO441 := am_ (Kd.R_lower (Kd.R_newM (M := fun k_ => (w.heap.size ≤ k_)) ho0 (below_size (zl_ HB)) (fun k_ h_ => h_)) (below_size (zl_ HB)));replace HB := zs_ HB hb;(try clear hb);(try clear ho0)))
   go_roundg k1
   case measure => have := HK1.out;omega
   case rel => exact ⟨(t439),H',⟨by have := HK1.out;omega⟩,⟨Kd.V_mono (Kd.R_V (by (with_reducible repeat (first | apply r1_ | apply r2_ | apply r3_));exact Kd.R_mono HO441.out (fun _ hk => hk.1))) (fun k_ hk => by first | exact ⟨(.inr (hk.1)),hk.2⟩ | exact (.inr (hk)))⟩,⟨zl_ HB⟩⟩
end Go.Proofs.YtkfhejklnmkfmaaDoor.A
end
