/- A part of the proof that FnExactReadTable returns true at every input: plain functions, contracts and lemmas. No conditions. -/
import Derived.Test.YtioocldcdonlpaaQReadTablec
set_option linter.unusedVariables false
set_option linter.unusedSimpArgs false
set_option linter.unusedSectionVars false
section
namespace Go.Proofs.Ytioocldcdonlpaa.B
open Go.RowKit Go.Proofs.YtioocldcdonlpaaW.PrintWords Go.Proofs.YtioocldcdonlpaaW.PrintLast Go.Proofs.YtioocldcdonlpaaW.PrintMore
attribute [local go_sem] max2_int min2_int max_two min_two max_three min_three max_four min_four
theorem sgeq_52 (t : TypeId) (a b : ByteArray) : Go.binOp .geq t (.string a) (.string b) = pure (.bool !(Op.bytesLess a.toList b.toList)) := by simp [Go.binOp,Op.stringOp]
attribute [local go_sem] sgeq_52
def impl_TableOK.T6 : Bool × List (List Nat × List Nat) := (true,[([],[]),([],[]),([1],[1]),([0,2],[0,2]),([3],[3]),([4,3],[4]),([5],[5]),([6,5],[5,6]),([7,5,5],[5,7]),([8],[8]),([9,8],[8,9]),([8],[8]),([11,8],[8,11]),([10,12,8],[8,10,12]),([13,8],[8,13]),([14,8],[8,14]),([8],[8]),([16,8],[8,16]),([15,17,8],[8,15,17]),([8,18,5],[5,8,18]),([5,19],[5,19])])
def impl_TableOK.B6 : List Nat := [0,0,2,7,15,31,63,127,255,511,1023,511,2559,8191,16383,32767,511,66047,262143,524287,1048575]
theorem impl_TableOK.tab6 : rtab .any (opsOf Try.f52 6) = impl_TableOK.T6 := by kernel_rfl
theorem impl_TableOK.bits6 : waitsOk impl_TableOK.T6.2 impl_TableOK.B6 = true := by kernel_rfl
def impl_TableOK.T12 : Bool × List (List Nat × List Nat) := (true,[([],[]),([0],[0]),([1],[1]),([2],[2]),([3,2],[3]),([4],[4]),([5,4],[4,5]),([6,4,4],[4,6]),([7,4],[4,7]),([4,8],[4,8]),([9,7],[9]),([10],[10]),([11,10],[10,11]),([12,10,10],[10,12]),([13,10],[10,13]),([10,14],[10,14]),([15,13],[15]),([16],[16]),([17,16],[16,17]),([18,16,16],[16,18]),([19],[19]),([20,19],[19,20]),([19],[19]),([22,19],[19,22]),([21,23,19],[19,21,23]),([24,19],[19,24]),([25,19],[19,25]),([19],[19]),([27,19],[19,27]),([26,28,19],[19,26,28]),([19,29,16],[16,19,29]),([16,30],[16,30])])
def impl_TableOK.B12 : List Nat := [0,1,3,7,15,31,63,127,255,511,1023,2047,4095,8191,16383,32767,65535,131071,262143,524287,1048575,2097151,1048575,5242879,16777215,33554431,67108863,1048575,135266303,536870911,1073741823,2147483647]
theorem impl_TableOK.tab12 : rtab .any (opsOf Try.f52 12) = impl_TableOK.T12 := by kernel_rfl
theorem impl_TableOK.bits12 : waitsOk impl_TableOK.T12.2 impl_TableOK.B12 = true := by kernel_rfl
set_option maxHeartbeats 8000000 in
set_option maxRecDepth 100000 in
theorem impl_TableOK.calls (k : Nat) (a0_0 : Int) (a0_1 : Int) (A0_2 : Option Addr) (c0_2 : Nat) (l0_2 : List (S78)) (A0_3 : Option Addr) (c0_3 : Nat) (l0_3 : List (S84)) (r : Bool) (w : World) (hr0_2 : Kd.C k78 w A0_2 l0_2.length l0_2) (hc0_2 : l0_2.length ≤ c0_2) (hr0_3 : Kd.C k84 w A0_3 l0_3.length l0_3) (hc0_3 : l0_3.length ≤ c0_3) (h : impl_TableOK.f k a0_0 a0_1 l0_2 l0_3 = some r) :
  Calls Try.prog 52 #[.agg #[.int .i64 a0_0,.int .i64 a0_1,.slice A0_2 l0_2.length c0_2,.slice A0_3 l0_3.length c0_3]] w fun e w' => e = .returned (.bool r) ∧ Below w.heap.size w w' := by
 have hu26 := Try.underlying26
 have hu78 := Try.underlying78
 have hu84 := Try.underlying84
 have hu82 := Try.underlying82
 have HR0_2 := am_ hr0_2
 have HC0_2 := am_ hc0_2
 clear hr0_2 hc0_2
 have HR0_3 := am_ hr0_3
 have HC0_3 := am_ hc0_3
 clear hr0_3 hc0_3
 have HB := am_ (Below.refl w.heap.size w)
 have H : ((impl_within.f a0_0 0 1000000000).bind fun t266 => (if t266 = true then ((impl_within.f a0_1 1 1000000).bind fun t267 => (if t267 = true then (if (l0_2.length : Int) > 4 then (impl_TableOK.j0 k true a0_0 a0_1 l0_2 l0_3) else (impl_TableOK.j0 k (decide ((l0_3.length : Int) > 6)) a0_0 a0_1 l0_2 l0_3)) else (impl_TableOK.j0 k true a0_0 a0_1 l0_2 l0_3))) else (impl_TableOK.j0 k true a0_0 a0_1 l0_2 l0_3))) = some r := h
 clear h
 have HC2 := am_ H
 clear H
 go_enter Try.func52,Try.ntmps52
 go_upto_region 1 with (first | ((with_reducible refine gate_dst (N := 1) rfl ?_);(try (refine gate_guard (by rfl) ?_;dsimp only));refine zbx (N := 1) (cs := #[.int .i64 a0_0,.int .i64 a0_1,.slice A0_2 l0_2.length c0_2,.slice A0_3 l0_3.length c0_3]) (t := 26) ?_;intro gb265 hg w3 hbox hb;have BK265 := am_ (hbox);have GW265 := zw_ HB hg;have GE265 := zw_ HB hg;replace HB := zs_ HB hb;clear hb hbox hg))
 (try simp only [Act.put,p1_,p2_,p3_])
 go_cut [28] (fun v28 wc => ∃ (kq : Nat) (x28_1 : Bool),v28 = .bool x28_1 ∧ Aside0 (impl_TableOK.j0 kq x28_1 a0_0 a0_1 l0_2 l0_3 = some r) ∧ Aside0 (kq ≤ k) ∧ Aside0 (wc.heap[gb265]? = some (.cells #[.int .i64 a0_0,.int .i64 a0_1,(.slice A0_2 l0_2.length c0_2),(.slice A0_3 l0_3.length c0_3)] 26 (0,0))) ∧ Aside0 (Below w.heap.size w wc))
 case first =>
  have H := HC2.out
  clear HC2
  replace H := Option.bind_eq_some_iff.mp H
  obtain ⟨t266,A40,H⟩ := H
  try dsimp only at H
  have A4 := am_ A40
  clear A40
  by_cases c5 : t266 = true
  ·subst c5
   have H1 : ((impl_within.f a0_1 1 1000000).bind fun t267 => (if t267 = true then (if (l0_2.length : Int) > 4 then (impl_TableOK.j0 k true a0_0 a0_1 l0_2 l0_3) else (impl_TableOK.j0 k (decide ((l0_3.length : Int) > 6)) a0_0 a0_1 l0_2 l0_3)) else (impl_TableOK.j0 k true a0_0 a0_1 l0_2 l0_3))) = some r := by rw [if_pos rfl] at H;exact H
   clear H
   have H := H1
   clear H1
   replace H := Option.bind_eq_some_iff.mp H
   obtain ⟨t267,A60,H⟩ := H
   try dsimp only at H
   have A6 := am_ A60
   clear A60
   by_cases c7 : t267 = true
   ·subst c7
    have H1 : (if (l0_2.length : Int) > 4 then (impl_TableOK.j0 k true a0_0 a0_1 l0_2 l0_3) else (impl_TableOK.j0 k (decide ((l0_3.length : Int) > 6)) a0_0 a0_1 l0_2 l0_3)) = some r := by rw [if_pos rfl] at H;exact H
    clear H
    have H := H1
    clear H1
    by_cases c8 : (l0_2.length : Int) > 4
    ·rw [if_pos c8] at H
     have c8b0 : decide (4 < (l0_2.length : Int)) = true := decide_eq_true c8
     have c8b1 : decide (4 < l0_2.length) = true := decide_eq_true (by omega)
     clear c8
     (first | rw [c8b0] | (simp only [i64_w,i32_w];rw [c8b0]) | skip)
     have H' := am_ H
     clear H
     obtain ⟨hcz9_0,hcz9_1,hcz9_2,hcz9_3,hfz9_0,hfz9_1,hfz9_2,hfz9_3⟩ := zc4 BK265
     go_wp2_with (first | ((with_reducible refine gate_callee (f := 63) rfl ?_);refine zgl (some 9) Try.func63 #[.int .i64 a0_0,.int .i64 0,.int .i64 1000000000] ?_;(with_reducible refine (impl_within.calls a0_0 0 1000000000 true _ A4.out).mono ?_);rintro e w' ⟨rfl,⟨nd,rfl⟩⟩;refine ⟨_,rfl,?_⟩) | (go_at_call 63;(with_reducible refine (impl_within.calls a0_1 1 1000000 true _ A6.out).mono ?_);rintro e w' ⟨rfl,⟨nd,rfl⟩⟩))
     go_meet
     case rel => exact ⟨_,(true),(by first | rfl | (simp;done) | (simp [*];done)),H',⟨by first | omega | exact Nat.le_refl _⟩,⟨by (with_reducible repeat (first | apply k1_ | apply k2_ | apply k3_));exact BK265.out⟩,⟨zl_ HB⟩⟩
    ·rw [if_neg c8] at H
     have c8b0 : decide (4 < (l0_2.length : Int)) = false := decide_eq_false c8
     have c8b1 : decide (4 < l0_2.length) = false := decide_eq_false (by omega)
     clear c8
     (first | rw [c8b0] | (simp only [i64_w,i32_w];rw [c8b0]) | skip)
     have H' := am_ H
     clear H
     obtain ⟨hcz10_0,hcz10_1,hcz10_2,hcz10_3,hfz10_0,hfz10_1,hfz10_2,hfz10_3⟩ := zc4 BK265
     go_wp2_with (first | ((with_reducible refine gate_callee (f := 63) rfl ?_);refine zgl (some 9) Try.func63 #[.int .i64 a0_0,.int .i64 0,.int .i64 1000000000] ?_;(with_reducible refine (impl_within.calls a0_0 0 1000000000 true _ A4.out).mono ?_);rintro e w' ⟨rfl,⟨nd,rfl⟩⟩;refine ⟨_,rfl,?_⟩) | (go_at_call 63;(with_reducible refine (impl_within.calls a0_1 1 1000000 true _ A6.out).mono ?_);rintro e w' ⟨rfl,⟨nd,rfl⟩⟩))
     go_meet
     case rel => exact ⟨_,(decide ((l0_3.length : Int) > 6)),(by first | rfl | (simp;done) | (simp [*];done)),H',⟨by first | omega | exact Nat.le_refl _⟩,⟨by (with_reducible repeat (first | apply k1_ | apply k2_ | apply k3_));exact BK265.out⟩,⟨zl_ HB⟩⟩
   ·replace c7 := Bool.eq_false_iff.mpr c7
    subst c7
    have H1 : (impl_TableOK.j0 k true a0_0 a0_1 l0_2 l0_3) = some r := by rw [if_neg (show ¬ (false = true) by decide)] at H;exact H
    clear H
    have H := H1
    clear H1
    have H' := am_ H
    clear H
    obtain ⟨hcz11_0,hcz11_1,hcz11_2,hcz11_3,hfz11_0,hfz11_1,hfz11_2,hfz11_3⟩ := zc4 BK265
    go_wp2_with (first | ((with_reducible refine gate_callee (f := 63) rfl ?_);refine zgl (some 9) Try.func63 #[.int .i64 a0_0,.int .i64 0,.int .i64 1000000000] ?_;(with_reducible refine (impl_within.calls a0_0 0 1000000000 true _ A4.out).mono ?_);rintro e w' ⟨rfl,⟨nd,rfl⟩⟩;refine ⟨_,rfl,?_⟩) | (go_at_call 63;(with_reducible refine (impl_within.calls a0_1 1 1000000 false _ A6.out).mono ?_);rintro e w' ⟨rfl,⟨nd,rfl⟩⟩))
    go_meet
    case rel => exact ⟨_,(true),(by first | rfl | (simp;done) | (simp [*];done)),H',⟨by first | omega | exact Nat.le_refl _⟩,⟨by (with_reducible repeat (first | apply k1_ | apply k2_ | apply k3_));exact BK265.out⟩,⟨zl_ HB⟩⟩
  ·replace c5 := Bool.eq_false_iff.mpr c5
   subst c5
   have H1 : (impl_TableOK.j0 k true a0_0 a0_1 l0_2 l0_3) = some r := by rw [if_neg (show ¬ (false = true) by decide)] at H;exact H
   clear H
   have H := H1
   clear H1
   have H' := am_ H
   clear H
   obtain ⟨hcz12_0,hcz12_1,hcz12_2,hcz12_3,hfz12_0,hfz12_1,hfz12_2,hfz12_3⟩ := zc4 BK265
   go_wp2_with (first | ((with_reducible refine gate_callee (f := 63) rfl ?_);refine zgl (some 9) Try.func63 #[.int .i64 a0_0,.int .i64 0,.int .i64 1000000000] ?_;(with_reducible refine (impl_within.calls a0_0 0 1000000000 false _ A4.out).mono ?_);rintro e w' ⟨rfl,⟨nd,rfl⟩⟩;refine ⟨_,rfl,?_⟩))
   go_meet
   case rel => exact ⟨_,(true),(by first | rfl | (simp;done) | (simp [*];done)),H',⟨by first | omega | exact Nat.le_refl _⟩,⟨by (with_reducible repeat (first | apply k1_ | apply k2_ | apply k3_));exact BK265.out⟩,⟨zl_ HB⟩⟩
 case rest =>
  clear HC2
  try clear p2
  try clear c5
  try clear c6
  try clear c7
  try clear c8
  try clear c8b0
  try clear c8b1
  try clear hcz10_0
  try clear hcz10_1
  try clear hcz10_2
  try clear hcz10_3
  try clear hcz11_0
  try clear hcz11_1
  try clear hcz11_2
  try clear hcz11_3
  try clear hcz12_0
  try clear hcz12_1
  try clear hcz12_2
  try clear hcz12_3
  try clear hcz9_0
  try clear hcz9_1
  try clear hcz9_2
  try clear hcz9_3
  try clear hfz10_0
  try clear hfz10_1
  try clear hfz10_2
  try clear hfz10_3
  try clear hfz11_0
  try clear hfz11_1
  try clear hfz11_2
  try clear hfz11_3
  try clear hfz12_0
  try clear hfz12_1
  try clear hfz12_2
  try clear hfz12_3
  try clear hfz9_0
  try clear hfz9_1
  try clear hfz9_2
  try clear hfz9_3
  obtain ⟨kq,x28_1,rfl,HA,HJ1,BK265,HB⟩ := hcut
  cases kq with
  | zero => exact absurd HA.out (by simp [impl_TableOK.j0])
  | succ kj1 =>
   have H := HA.out
   clear HA
   simp only [impl_TableOK.j0] at H
   by_cases c13 : x28_1 = true
   ·subst c13
    have H1 : (some false) = some r := by rw [if_pos rfl] at H;exact H
    clear H
    have H := H1
    clear H1
    obtain rfl := Option.some.inj H
    go_wp2
    go_ret
    exact ⟨zt_,zl_ HB⟩
   ·replace c13 := Bool.eq_false_iff.mpr c13
    subst c13
    have H1 : (impl_TableOK.l0 kj1 l0_2 (l0_2.length : Int) 0 a0_0 a0_1 l0_2 l0_3) = some r := by rw [if_neg (show ¬ (false = true) by decide)] at H;exact H
    clear H
    have H := H1
    clear H1
    have H' := am_ H
    clear H
    obtain ⟨hcz14_0,hcz14_1,hcz14_2,hcz14_3,hfz14_0,hfz14_1,hfz14_2,hfz14_3⟩ := zc4 BK265
    go_wp2
    go_loopg [32] kj1 (fun kq v32 w' => ∃ (x32_2 : Int),v32 = .int .i64 x32_2 ∧ Aside0 (impl_TableOK.l0 kq l0_2 (l0_2.length : Int) x32_2 a0_0 a0_1 l0_2 l0_3 = some r) ∧ Aside0 (kq ≤ kj1) ∧ Aside0 (w'.heap[gb265]? = some (.cells #[.int .i64 a0_0,.int .i64 a0_1,(.slice A0_2 l0_2.length c0_2),(.slice A0_3 l0_3.length c0_3)] 26 (0,0))) ∧ Aside0 (Below w.heap.size w w'))
    case atStart => exact ⟨(0),(by first | rfl | (simp;done) | (simp [*];done)),H',⟨Nat.le_refl _⟩,⟨by (with_reducible repeat (first | apply k1_ | apply k2_ | apply k3_));exact BK265.out⟩,⟨zl_ HB⟩⟩
    case round =>
     clear H'
     try clear c1
     try clear p2
     try clear c5
     try clear c6
     try clear c7
     try clear c8
     try clear c8b0
     try clear c8b1
     try clear c13
     try clear hcz10_0
     try clear hcz10_1
     try clear hcz10_2
     try clear hcz10_3
     try clear hcz11_0
     try clear hcz11_1
     try clear hcz11_2
     try clear hcz11_3
     try clear hcz12_0
     try clear hcz12_1
     try clear hcz12_2
     try clear hcz12_3
     try clear hcz14_0
     try clear hcz14_1
     try clear hcz14_2
     try clear hcz14_3
     try clear hcz9_0
     try clear hcz9_1
     try clear hcz9_2
     try clear hcz9_3
     try clear hfz10_0
     try clear hfz10_1
     try clear hfz10_2
     try clear hfz10_3
     try clear hfz11_0
     try clear hfz11_1
     try clear hfz11_2
     try clear hfz11_3
     try clear hfz12_0
     try clear hfz12_1
     try clear hfz12_2
     try clear hfz12_3
     try clear hfz14_0
     try clear hfz14_1
     try clear hfz14_2
     try clear hfz14_3
     try clear hfz9_0
     try clear hfz9_1
     try clear hfz9_2
     try clear hfz9_3
     try clear p2
     obtain ⟨x32_2,rfl,HA,HK2,BK265,HB⟩ := hrel
     cases gk with
     | zero => exact absurd HA.out (by simp [impl_TableOK.l0])
     | succ k2 =>
      have H := HA.out
      clear HA
      simp only [impl_TableOK.l0] at H
      by_cases c15 : x32_2 < (l0_2.length : Int)
      ·rw [if_pos c15] at H
       have c15b0 : decide (x32_2 < (l0_2.length : Int)) = true := decide_eq_true c15
       clear c15
       by_cases c16 : 0 ≤ x32_2
       ·rw [if_pos c16] at H
        have c16b0 : decide (0 ≤ x32_2) = true := decide_eq_true c16
        clear c16
        by_cases c17 : x32_2 < (l0_2.length : Int)
        ·rw [if_pos c17] at H
         have c17b0 : decide (x32_2 < (l0_2.length : Int)) = true := decide_eq_true c17
         clear c17
         replace H := Option.bind_eq_some_iff.mp H
         obtain ⟨t270,A180,H⟩ := H
         try dsimp only at H
         have A18 := am_ A180
         clear A180
         have p268 : 0 ≤ (x32_2 : Int) := zo_
         have q268 : x32_2 < (l0_2.length : Int) := zo_
         obtain ⟨ad268,A268_4,c268_4,e268,hx268_0,hx268_1,hx268_2,hx268_3,hx268_4,hl268_4,hi268_4⟩ := at_T78 HR0_2.out x32_2 p268 q268
         have hv268_4 := hx268_4
         cases e268
         replace hx268_0 := zx_ HB hx268_0
         replace hx268_1 := zx_ HB hx268_1
         replace hx268_2 := zx_ HB hx268_2
         replace hx268_3 := zx_ HB hx268_3
         replace hx268_4 := zx_ HB hx268_4
         have HR268_4 := am_ hi268_4
         have HC268_4 := am_ hl268_4
         clear hi268_4 hl268_4
         replace p268 := eq_true p268
         replace q268 := eq_true q268
         try go_wp2_with (first | ((with_reducible refine gate_dst (N := 4) rfl ?_);(try (refine gate_guard (by rfl) ?_;dsimp only));refine zbx (N := 4) (cs := #[.string ⟨#[]⟩,.int .i64 0,.int .i64 0,.int .i64 0,.slice none 0 0]) (t := 78) ?_;intro gb269 hg w25 hbox hb;have BK269 := am_ (hbox);have GW269 := zw_ HB hg;have GE269 := zw_ HB hg;replace HB := zs_ HB hb;have NB265_269 := zl hg BK265;have NB269_265 := zg hg BK265;replace BK265 := zb BK265 hb;clear hb hbox hg;have hnb26 := NB269_265.out;have hnc26 := NB265_269.out;obtain ⟨hcz27_0,hcz27_1,hcz27_2,hcz27_3,hcz27_4,hfz27_0,hfz27_1,hfz27_2,hfz27_3,hfz27_4⟩ := zc5 BK269))
         have n0_ : Aside0 ((((((w25.setCell ⟨gb269,0,none⟩ (.string ((rd_T78 l0_2 x32_2).f0))).setCell ⟨gb269,1,none⟩ (.int .i64 ((rd_T78 l0_2 x32_2).f1))).setCell ⟨gb269,2,none⟩ (.int .i64 ((rd_T78 l0_2 x32_2).f2))).setCell ⟨gb269,3,none⟩ (.int .i64 ((rd_T78 l0_2 x32_2).f3))).setCell ⟨gb269,4,none⟩ (.slice A268_4 ((rd_T78 l0_2 x32_2).f4).length c268_4)).heap[gb265]? = some (.cells #[.int .i64 a0_0,.int .i64 a0_1,.slice (some ad268) l0_2.length c0_2,.slice A0_3 l0_3.length c0_3] 26 (0,0))) := ⟨zq BK265⟩
         have n1_ : Aside0 ((((((w25.setCell ⟨gb269,0,none⟩ (.string ((rd_T78 l0_2 x32_2).f0))).setCell ⟨gb269,1,none⟩ (.int .i64 ((rd_T78 l0_2 x32_2).f1))).setCell ⟨gb269,2,none⟩ (.int .i64 ((rd_T78 l0_2 x32_2).f2))).setCell ⟨gb269,3,none⟩ (.int .i64 ((rd_T78 l0_2 x32_2).f3))).setCell ⟨gb269,4,none⟩ (.slice A268_4 ((rd_T78 l0_2 x32_2).f4).length c268_4)).heap[gb269]? = some (.cells #[.string ((rd_T78 l0_2 x32_2).f0),.int .i64 ((rd_T78 l0_2 x32_2).f1),.int .i64 ((rd_T78 l0_2 x32_2).f2),.int .i64 ((rd_T78 l0_2 x32_2).f3),.slice A268_4 ((rd_T78 l0_2 x32_2).f4).length c268_4] 78 (0,0))) := ⟨zq BK269⟩
         have n2_ : Aside0 (Below w.heap.size w (((((w25.setCell ⟨gb269,0,none⟩ (.string ((rd_T78 l0_2 x32_2).f0))).setCell ⟨gb269,1,none⟩ (.int .i64 ((rd_T78 l0_2 x32_2).f1))).setCell ⟨gb269,2,none⟩ (.int .i64 ((rd_T78 l0_2 x32_2).f2))).setCell ⟨gb269,3,none⟩ (.int .i64 ((rd_T78 l0_2 x32_2).f3))).setCell ⟨gb269,4,none⟩ (.slice A268_4 ((rd_T78 l0_2 x32_2).f4).length c268_4))) := ⟨zl_ HB⟩
         (try clear BK265)
         (try clear BK269)
         (try clear HB)
         generalize (((((w25.setCell ⟨gb269,0,none⟩ (.string ((rd_T78 l0_2 x32_2).f0))).setCell ⟨gb269,1,none⟩ (.int .i64 ((rd_T78 l0_2 x32_2).f1))).setCell ⟨gb269,2,none⟩ (.int .i64 ((rd_T78 l0_2 x32_2).f2))).setCell ⟨gb269,3,none⟩ (.int .i64 ((rd_T78 l0_2 x32_2).f3))).setCell ⟨gb269,4,none⟩ (.slice A268_4 ((rd_T78 l0_2 x32_2).f4).length c268_4)) = w28 at n0_ n1_ n2_ ⊢
         have BK265 := n0_
         have BK269 := n1_
         have HB := n2_
         clear n0_ n1_ n2_
         replace BK265 := am_ (blk_drew BK265.out)
         replace BK269 := am_ (blk_drew BK269.out)
         replace HB := am_ (below_drew1 HB.out)
         by_cases c19 : t270 = true
         ·subst c19
          have H1 : (if x32_2 > 0 then (if 0 ≤ (wrap64 (x32_2 - 1)) then (if (wrap64 (x32_2 - 1)) < (l0_2.length : Int) then (if ((Op.bytesLess (((rd_T78 l0_2 (wrap64 (x32_2 - 1))).f0).toList) (((rd_T78 l0_2 x32_2).f0).toList)) = true) then (impl_TableOK.l0 k2 l0_2 (l0_2.length : Int) (wrap64 (x32_2 + 1)) a0_0 a0_1 l0_2 l0_3) else (some false)) else (none)) else (none)) else (impl_TableOK.l0 k2 l0_2 (l0_2.length : Int) (wrap64 (x32_2 + 1)) a0_0 a0_1 l0_2 l0_3)) = some r := by rw [if_pos rfl] at H;exact H
          clear H
          have H := H1
          clear H1
          by_cases c20 : x32_2 > 0
          ·rw [if_pos c20] at H
           have c20b0 : decide (0 < x32_2) = true := decide_eq_true c20
           clear c20
           obtain ⟨ji21,hji21⟩ : ∃ j_ : Int,(wrap64 (x32_2 - 1)) = j_ := ⟨_,rfl⟩
           replace H : (if 0 ≤ (ji21) then (if (ji21) < (l0_2.length : Int) then (if ((Op.bytesLess (((rd_T78 l0_2 (ji21)).f0).toList) (((rd_T78 l0_2 x32_2).f0).toList)) = true) then (impl_TableOK.l0 k2 l0_2 (l0_2.length : Int) (wrap64 (x32_2 + 1)) a0_0 a0_1 l0_2 l0_3) else (some false)) else (none)) else (none)) = some r := by first | (rw [hji21] at H;exact H) | (simp only [hji21] at H ⊢;exact H)
           (try rw [hji21] at A18)
           have hji21w : (IntKind.i64.wrap (x32_2 - 1)) = ji21 := (i64_w _).trans hji21
           by_cases c22 : 0 ≤ (ji21)
           ·rw [if_pos c22] at H
            have c22b0 : decide (0 ≤ (ji21)) = true := decide_eq_true c22
            clear c22
            by_cases c23 : (ji21) < (l0_2.length : Int)
            ·rw [if_pos c23] at H
             have c23b0 : decide ((ji21) < (l0_2.length : Int)) = true := decide_eq_true c23
             clear c23
             have p271 : 0 ≤ ((ji21) : Int) := zo_
             have q271 : (ji21) < (l0_2.length : Int) := zo_
             obtain ⟨ad271,A271_4,c271_4,e271,hx271_0,hx271_1,hx271_2,hx271_3,hx271_4,hl271_4,hi271_4⟩ := at_T78 HR0_2.out (ji21) p271 q271
             have hw271_4 := hx271_4
             have hw271_3 := hx271_3
             have hw271_2 := hx271_2
             have hw271_1 := hx271_1
             have hw271_0 := hx271_0
             have hv271_4 := hx271_4
             obtain rfl : ad268 = ad271 := (by injection e271)
             replace hx271_0 := zx_ HB hx271_0
             replace hx271_1 := zx_ HB hx271_1
             replace hx271_2 := zx_ HB hx271_2
             replace hx271_3 := zx_ HB hx271_3
             replace hx271_4 := zx_ HB hx271_4
             have HR271_4 := am_ hi271_4
             have HC271_4 := am_ hl271_4
             clear hi271_4 hl271_4
             replace p271 := eq_true p271
             replace q271 := eq_true q271
             refine start_ (n := 21) (S := fun w' => w'.cell? ⟨gb269,0,none⟩ = some (.string ((rd_T78 l0_2 x32_2).f0)) ∧ w'.cell? ⟨gb269,1,none⟩ = some (.int .i64 ((rd_T78 l0_2 x32_2).f1)) ∧ w'.cell? ⟨gb269,2,none⟩ = some (.int .i64 ((rd_T78 l0_2 x32_2).f2)) ∧ w'.cell? ⟨gb269,3,none⟩ = some (.int .i64 ((rd_T78 l0_2 x32_2).f3)) ∧ w'.cell? ⟨gb269,4,none⟩ = some (.slice A268_4 ((rd_T78 l0_2 x32_2).f4).length c268_4) ∧ w'.cell? ⟨gb265,0,none⟩ = some (.int .i64 a0_0) ∧ w'.cell? ⟨gb265,1,none⟩ = some (.int .i64 a0_1) ∧ w'.cell? ⟨gb265,2,none⟩ = some (.slice (some ad268) l0_2.length c0_2) ∧ w'.cell? ⟨gb265,3,none⟩ = some (.slice A0_3 l0_3.length c0_3) ∧ w'.cell? (ad268.add (((ji21)).toNat * 5)) = some (.string ((rd_T78 l0_2 (ji21)).f0)) ∧ w'.cell? ⟨(ad268.add (((ji21)).toNat * 5)).block,(ad268.add (((ji21)).toNat * 5)).off + 1,none⟩ = some (.int .i64 ((rd_T78 l0_2 (ji21)).f1)) ∧ w'.cell? ⟨(ad268.add (((ji21)).toNat * 5)).block,(ad268.add (((ji21)).toNat * 5)).off + 2,none⟩ = some (.int .i64 ((rd_T78 l0_2 (ji21)).f2)) ∧ w'.cell? ⟨(ad268.add (((ji21)).toNat * 5)).block,(ad268.add (((ji21)).toNat * 5)).off + 3,none⟩ = some (.int .i64 ((rd_T78 l0_2 (ji21)).f3)) ∧ w'.cell? ⟨(ad268.add (((ji21)).toNat * 5)).block,(ad268.add (((ji21)).toNat * 5)).off + 4,none⟩ = some (.slice A271_4 ((rd_T78 l0_2 (ji21)).f4).length c271_4)) (ds := []) #[false,false,false,false,false,false,false,false,false,false,false,false,false,false,false,false,false,false,false,false,false] (by kernel_rfl) rfl rfl ⟨(blk_cell BK269.out 0).trans rfl,(blk_cell BK269.out 1).trans rfl,(blk_cell BK269.out 2).trans rfl,(blk_cell BK269.out 3).trans rfl,(blk_cell BK269.out 4).trans rfl,(blk_cell BK265.out 0).trans rfl,(blk_cell BK265.out 1).trans rfl,(blk_cell BK265.out 2).trans rfl,(blk_cell BK265.out 3).trans rfl,(zx_ HB hw271_0),(zx_ HB hw271_1),(zx_ HB hw271_2),(zx_ HB hw271_3),(zx_ HB hw271_4)⟩ (fun hHeld => ?_);refine with_tabW impl_TableOK.tab6 impl_TableOK.bits6 (fun HT_ HW_ => ?_)
             generalize w28.drew = w29 at BK265 BK269 HB HR271_4 hx271_0 hx271_1 hx271_2 hx271_3 hx271_4 hHeld ⊢
             refine zpu 1 (N := some 38) HT_ ?_
             refine ztk 0 (N := some 37) HT_ HW_ hHeld ?_
             refine ztk 2 (N := some 39) HT_ HW_ hHeld ?_
             refine zon 3 (N := some 40) HT_ (fun K hK => ?_)
             refine zgo Try.func77 #[.agg #[.string ((rd_T78 l0_2 x32_2).f0),.int .i64 ((rd_T78 l0_2 x32_2).f1),.int .i64 ((rd_T78 l0_2 x32_2).f2),.int .i64 ((rd_T78 l0_2 x32_2).f3),.slice A268_4 ((rd_T78 l0_2 x32_2).f4).length c268_4],.int .i64 a0_1] ?_
             with_reducible refine (impl_isLock.calls k2 ((rd_T78 l0_2 x32_2).f0) ((rd_T78 l0_2 x32_2).f1) ((rd_T78 l0_2 x32_2).f2) ((rd_T78 l0_2 x32_2).f3) _ _ ((rd_T78 l0_2 x32_2).f4) a0_1 true _ ?side1 ?side2 A18.out).mono ?_
             (case side1 => exact zc_ HR268_4 HB)
             (case side2 => exact HC268_4.out)
             rintro e w30 ⟨rfl,hb⟩
             refine ⟨_,rfl,?_⟩
             replace BK265 := zb BK265 hb
             replace BK269 := zb BK269 hb
             replace HB := zs_ HB hb
             (try clear hb)
             (try clear hb2)
             (try clear hk)
             (try clear hi)
             refine hK.out _ _ ⟨(blk_cell BK269.out 0).trans rfl,(blk_cell BK269.out 1).trans rfl,(blk_cell BK269.out 2).trans rfl,(blk_cell BK269.out 3).trans rfl,(blk_cell BK269.out 4).trans rfl,(blk_cell BK265.out 0).trans rfl,(blk_cell BK265.out 1).trans rfl,(blk_cell BK265.out 2).trans rfl,(blk_cell BK265.out 3).trans rfl,(zx_ HB hw271_0),(zx_ HB hw271_1),(zx_ HB hw271_2),(zx_ HB hw271_3),(zx_ HB hw271_4)⟩ (fun hHeld => ?_)
             clear hK K
             refine norm_ (a' := ?_) ?_ ?_
             rotate_left
             ·show Act.put _ (some 40) _ = _
              simp only [Act.put,p1_,p2_,p3_,i64_w,i32_w]
              rfl
             by_cases c24 : ((Op.bytesLess (((rd_T78 l0_2 (ji21)).f0).toList) (((rd_T78 l0_2 x32_2).f0).toList)) = true)
             ·rw [if_pos c24] at H
              have c24b0 : (Op.bytesLess (((rd_T78 l0_2 (ji21)).f0).toList) (((rd_T78 l0_2 x32_2).f0).toList)) = true := c24
              clear c24
              have H' := am_ H
              clear H
              refine zpu 4 (N := some 41) HT_ ?_
              refine zpu 5 (N := some 42) HT_ ?_
              refine zpu 6 (N := some 43) HT_ ?_
              refine zpu 7 (N := some 44) HT_ ?_
              refine zpu 8 (N := some 45) HT_ ?_
              refine zpu 9 (N := some 46) HT_ ?_
              refine zpu 11 (N := some 48) HT_ ?_
              refine zpu 12 (N := some 49) HT_ ?_
              refine zpu 16 (N := some 53) HT_ ?_
              refine ztk 10 (N := some 47) HT_ HW_ hHeld ?_
              refine zpu 13 (N := some 50) HT_ ?_
              refine zpu 14 (N := some 51) HT_ ?_
              refine ztk 15 (N := some 52) HT_ HW_ hHeld ?_
              refine ztk 17 (N := some 54) HT_ HW_ hHeld ?_
              refine zpu 18 (N := some 55) HT_ ?_
              refine zpu 19 (N := some 56) HT_ ?_
              refine zpu 20 (N := some 57) HT_ ?_
              refine done_ (done_of HT_.out (by kernel_rfl)) ?_
              try go_wp2
              go_roundg k2
              case measure => have := HJ1.out;have := HK2.out;omega
              case rel => exact ⟨(wrap64 (x32_2 + 1)),(by first | rfl | (simp;done) | (simp [*];done)),H',⟨by have := HJ1.out;have := HK2.out;omega⟩,⟨by (with_reducible repeat (first | apply k1_ | apply k2_ | apply k3_));exact BK265.out⟩,⟨zl_ HB⟩⟩
             ·rw [if_neg c24] at H
              have c24b0 : (Op.bytesLess (((rd_T78 l0_2 (ji21)).f0).toList) (((rd_T78 l0_2 x32_2).f0).toList)) = false := by simpa using c24
              clear c24
              obtain rfl := Option.some.inj H
              refine zpu 4 (N := some 41) HT_ ?_
              refine zpu 5 (N := some 42) HT_ ?_
              refine zpu 6 (N := some 43) HT_ ?_
              refine zpu 7 (N := some 44) HT_ ?_
              refine zpu 8 (N := some 45) HT_ ?_
              refine zpu 9 (N := some 46) HT_ ?_
              refine zpu 11 (N := some 48) HT_ ?_
              refine zpu 12 (N := some 49) HT_ ?_
              refine zpu 16 (N := some 53) HT_ ?_
              refine ztk 10 (N := some 47) HT_ HW_ hHeld ?_
              refine zpu 13 (N := some 50) HT_ ?_
              refine zpu 14 (N := some 51) HT_ ?_
              refine ztk 15 (N := some 52) HT_ HW_ hHeld ?_
              refine ztk 17 (N := some 54) HT_ HW_ hHeld ?_
              refine zpu 18 (N := some 55) HT_ ?_
              refine zpu 19 (N := some 56) HT_ ?_
              refine zpu 20 (N := some 57) HT_ ?_
              refine done_ (done_of HT_.out (by kernel_rfl)) ?_
              try go_wp2
              go_ret
              exact ⟨by first | rfl | (simp [e1_,e2_] <;> rfl) | (simp only [← hji21];first | rfl | (simp [e1_,e2_] <;> rfl)) | (simp [*,e1_,e2_] <;> rfl) | (simp [e3_,e4_];done) | (simp [*,e3_,e4_];done),zl_ HB⟩
            ·rw [if_neg c23] at H
             exact absurd H (by simp)
           ·rw [if_neg c22] at H
            exact absurd H (by simp)
          ·rw [if_neg c20] at H
           have c20b0 : decide (0 < x32_2) = false := decide_eq_false c20
           clear c20
           have H' := am_ H
           clear H
           refine start_ (n := 21) (S := fun w' => w'.cell? ⟨gb269,0,none⟩ = some (.string ((rd_T78 l0_2 x32_2).f0)) ∧ w'.cell? ⟨gb269,1,none⟩ = some (.int .i64 ((rd_T78 l0_2 x32_2).f1)) ∧ w'.cell? ⟨gb269,2,none⟩ = some (.int .i64 ((rd_T78 l0_2 x32_2).f2)) ∧ w'.cell? ⟨gb269,3,none⟩ = some (.int .i64 ((rd_T78 l0_2 x32_2).f3)) ∧ w'.cell? ⟨gb269,4,none⟩ = some (.slice A268_4 ((rd_T78 l0_2 x32_2).f4).length c268_4) ∧ w'.cell? ⟨gb265,0,none⟩ = some (.int .i64 a0_0) ∧ w'.cell? ⟨gb265,1,none⟩ = some (.int .i64 a0_1) ∧ w'.cell? ⟨gb265,2,none⟩ = some (.slice (some ad268) l0_2.length c0_2) ∧ w'.cell? ⟨gb265,3,none⟩ = some (.slice A0_3 l0_3.length c0_3)) (ds := []) #[false,false,false,false,false,false,false,false,false,false,false,false,false,false,false,false,false,false,false,false,false] (by kernel_rfl) rfl rfl ⟨(blk_cell BK269.out 0).trans rfl,(blk_cell BK269.out 1).trans rfl,(blk_cell BK269.out 2).trans rfl,(blk_cell BK269.out 3).trans rfl,(blk_cell BK269.out 4).trans rfl,(blk_cell BK265.out 0).trans rfl,(blk_cell BK265.out 1).trans rfl,(blk_cell BK265.out 2).trans rfl,(blk_cell BK265.out 3).trans rfl⟩ (fun hHeld => ?_);refine with_tabW impl_TableOK.tab6 impl_TableOK.bits6 (fun HT_ HW_ => ?_)
           generalize w28.drew = w41 at BK265 BK269 HB hHeld ⊢
           refine zpu 1 (N := some 38) HT_ ?_
           refine ztk 0 (N := some 37) HT_ HW_ hHeld ?_
           refine ztk 2 (N := some 39) HT_ HW_ hHeld ?_
           refine zon 3 (N := some 40) HT_ (fun K hK => ?_)
           refine zgo Try.func77 #[.agg #[.string ((rd_T78 l0_2 x32_2).f0),.int .i64 ((rd_T78 l0_2 x32_2).f1),.int .i64 ((rd_T78 l0_2 x32_2).f2),.int .i64 ((rd_T78 l0_2 x32_2).f3),.slice A268_4 ((rd_T78 l0_2 x32_2).f4).length c268_4],.int .i64 a0_1] ?_
           with_reducible refine (impl_isLock.calls k2 ((rd_T78 l0_2 x32_2).f0) ((rd_T78 l0_2 x32_2).f1) ((rd_T78 l0_2 x32_2).f2) ((rd_T78 l0_2 x32_2).f3) _ _ ((rd_T78 l0_2 x32_2).f4) a0_1 true _ ?side1 ?side2 A18.out).mono ?_
           (case side1 => exact zc_ HR268_4 HB)
           (case side2 => exact HC268_4.out)
           rintro e w42 ⟨rfl,hb⟩
           refine ⟨_,rfl,?_⟩
           replace BK265 := zb BK265 hb
           replace BK269 := zb BK269 hb
           replace HB := zs_ HB hb
           (try clear hb)
           (try clear hb2)
           (try clear hk)
           (try clear hi)
           refine hK.out _ _ ⟨(blk_cell BK269.out 0).trans rfl,(blk_cell BK269.out 1).trans rfl,(blk_cell BK269.out 2).trans rfl,(blk_cell BK269.out 3).trans rfl,(blk_cell BK269.out 4).trans rfl,(blk_cell BK265.out 0).trans rfl,(blk_cell BK265.out 1).trans rfl,(blk_cell BK265.out 2).trans rfl,(blk_cell BK265.out 3).trans rfl⟩ (fun hHeld => ?_)
           clear hK K
           refine norm_ (a' := ?_) ?_ ?_
           rotate_left
           ·show Act.put _ (some 40) _ = _
            simp only [Act.put,p1_,p2_,p3_,i64_w,i32_w]
            rfl
           refine zpu 4 (N := some 41) HT_ ?_
           refine zpu 5 (N := some 42) HT_ ?_
           refine zpu 6 (N := some 43) HT_ ?_
           refine zpu 7 (N := some 44) HT_ ?_
           refine zpu 8 (N := some 45) HT_ ?_
           refine zpx 9 (N := some 46) HT_ ?_
           refine zpx 10 (N := some 47) HT_ ?_
           refine zpx 11 (N := some 48) HT_ ?_
           refine zpx 12 (N := some 49) HT_ ?_
           refine zpx 13 (N := some 50) HT_ ?_
           refine zpx 14 (N := some 51) HT_ ?_
           refine zpx 15 (N := some 52) HT_ ?_
           refine zpx 16 (N := some 53) HT_ ?_
           refine zpx 17 (N := some 54) HT_ ?_
           refine zpx 18 (N := some 55) HT_ ?_
           refine zpu 19 (N := some 56) HT_ ?_
           refine zpu 20 (N := some 57) HT_ ?_
           refine done_ (done_of HT_.out (by kernel_rfl)) ?_
           try go_wp2
           go_roundg k2
           case measure => have := HJ1.out;have := HK2.out;omega
           case rel => exact ⟨(wrap64 (x32_2 + 1)),(by first | rfl | (simp;done) | (simp [*];done)),H',⟨by have := HJ1.out;have := HK2.out;omega⟩,⟨by (with_reducible repeat (first | apply k1_ | apply k2_ | apply k3_));exact BK265.out⟩,⟨zl_ HB⟩⟩
         ·replace c19 := Bool.eq_false_iff.mpr c19
          subst c19
          have H1 : (some false) = some r := by rw [if_neg (show ¬ (false = true) by decide)] at H;exact H
          clear H
          have H := H1
          clear H1
          obtain rfl := Option.some.inj H
          refine start_ (n := 21) (S := fun w' => w'.cell? ⟨gb269,0,none⟩ = some (.string ((rd_T78 l0_2 x32_2).f0)) ∧ w'.cell? ⟨gb269,1,none⟩ = some (.int .i64 ((rd_T78 l0_2 x32_2).f1)) ∧ w'.cell? ⟨gb269,2,none⟩ = some (.int .i64 ((rd_T78 l0_2 x32_2).f2)) ∧ w'.cell? ⟨gb269,3,none⟩ = some (.int .i64 ((rd_T78 l0_2 x32_2).f3)) ∧ w'.cell? ⟨gb269,4,none⟩ = some (.slice A268_4 ((rd_T78 l0_2 x32_2).f4).length c268_4) ∧ w'.cell? ⟨gb265,0,none⟩ = some (.int .i64 a0_0) ∧ w'.cell? ⟨gb265,1,none⟩ = some (.int .i64 a0_1) ∧ w'.cell? ⟨gb265,2,none⟩ = some (.slice (some ad268) l0_2.length c0_2) ∧ w'.cell? ⟨gb265,3,none⟩ = some (.slice A0_3 l0_3.length c0_3)) (ds := []) #[false,false,false,false,false,false,false,false,false,false,false,false,false,false,false,false,false,false,false,false,false] (by kernel_rfl) rfl rfl ⟨(blk_cell BK269.out 0).trans rfl,(blk_cell BK269.out 1).trans rfl,(blk_cell BK269.out 2).trans rfl,(blk_cell BK269.out 3).trans rfl,(blk_cell BK269.out 4).trans rfl,(blk_cell BK265.out 0).trans rfl,(blk_cell BK265.out 1).trans rfl,(blk_cell BK265.out 2).trans rfl,(blk_cell BK265.out 3).trans rfl⟩ (fun hHeld => ?_);refine with_tabW impl_TableOK.tab6 impl_TableOK.bits6 (fun HT_ HW_ => ?_)
          generalize w28.drew = w47 at BK265 BK269 HB hHeld ⊢
          refine zpu 1 (N := some 38) HT_ ?_
          refine ztk 0 (N := some 37) HT_ HW_ hHeld ?_
          refine ztk 2 (N := some 39) HT_ HW_ hHeld ?_
          refine zon 3 (N := some 40) HT_ (fun K hK => ?_)
          refine zgo Try.func77 #[.agg #[.string ((rd_T78 l0_2 x32_2).f0),.int .i64 ((rd_T78 l0_2 x32_2).f1),.int .i64 ((rd_T78 l0_2 x32_2).f2),.int .i64 ((rd_T78 l0_2 x32_2).f3),.slice A268_4 ((rd_T78 l0_2 x32_2).f4).length c268_4],.int .i64 a0_1] ?_
          with_reducible refine (impl_isLock.calls k2 ((rd_T78 l0_2 x32_2).f0) ((rd_T78 l0_2 x32_2).f1) ((rd_T78 l0_2 x32_2).f2) ((rd_T78 l0_2 x32_2).f3) _ _ ((rd_T78 l0_2 x32_2).f4) a0_1 false _ ?side1 ?side2 A18.out).mono ?_
          (case side1 => exact zc_ HR268_4 HB)
          (case side2 => exact HC268_4.out)
          rintro e w48 ⟨rfl,hb⟩
          refine ⟨_,rfl,?_⟩
          replace BK265 := zb BK265 hb
          replace BK269 := zb BK269 hb
          replace HB := zs_ HB hb
          (try clear hb)
          (try clear hb2)
          (try clear hk)
          (try clear hi)
          refine hK.out _ _ ⟨(blk_cell BK269.out 0).trans rfl,(blk_cell BK269.out 1).trans rfl,(blk_cell BK269.out 2).trans rfl,(blk_cell BK269.out 3).trans rfl,(blk_cell BK269.out 4).trans rfl,(blk_cell BK265.out 0).trans rfl,(blk_cell BK265.out 1).trans rfl,(blk_cell BK265.out 2).trans rfl,(blk_cell BK265.out 3).trans rfl⟩ (fun hHeld => ?_)
          clear hK K
          refine norm_ (a' := ?_) ?_ ?_
          rotate_left
          ·show Act.put _ (some 40) _ = _
           simp only [Act.put,p1_,p2_,p3_,i64_w,i32_w]
           rfl
          refine zpu 4 (N := some 41) HT_ ?_
          refine zpu 5 (N := some 42) HT_ ?_
          refine zpx 6 (N := some 43) HT_ ?_
          refine zpx 7 (N := some 44) HT_ ?_
          refine zpx 8 (N := some 45) HT_ ?_
          refine zpx 9 (N := some 46) HT_ ?_
          refine zpx 10 (N := some 47) HT_ ?_
          refine zpx 11 (N := some 48) HT_ ?_
          refine zpx 12 (N := some 49) HT_ ?_
          refine zpx 13 (N := some 50) HT_ ?_
          refine zpx 14 (N := some 51) HT_ ?_
          refine zpx 15 (N := some 52) HT_ ?_
          refine zpx 16 (N := some 53) HT_ ?_
          refine zpx 17 (N := some 54) HT_ ?_
          refine zpx 18 (N := some 55) HT_ ?_
          refine zpx 19 (N := some 56) HT_ ?_
          refine zpu 20 (N := some 57) HT_ ?_
          refine done_ (done_of HT_.out (by kernel_rfl)) ?_
          try go_wp2
          go_ret
          exact ⟨zt_,zl_ HB⟩
        ·rw [if_neg c17] at H
         exact absurd H (by simp)
       ·rw [if_neg c16] at H
        exact absurd H (by simp)
      ·rw [if_neg c15] at H
       have c15b0 : decide (x32_2 < (l0_2.length : Int)) = false := decide_eq_false c15
       clear c15
       have H' := am_ H
       clear H
       obtain ⟨hcz49_0,hcz49_1,hcz49_2,hcz49_3,hfz49_0,hfz49_1,hfz49_2,hfz49_3⟩ := zc4 BK265
       go_wp2
       go_loopg [62] k2 (fun kq v62 w' => ∃ (x62_3 : Int),v62 = .int .i64 x62_3 ∧ Aside0 (impl_TableOK.l1 kq l0_3 (l0_3.length : Int) x62_3 a0_0 a0_1 l0_2 l0_3 = some r) ∧ Aside0 (kq ≤ k2) ∧ Aside0 (w'.heap[gb265]? = some (.cells #[.int .i64 a0_0,.int .i64 a0_1,(.slice A0_2 l0_2.length c0_2),(.slice A0_3 l0_3.length c0_3)] 26 (0,0))) ∧ Aside0 (Below w.heap.size w w'))
       case atStart => exact ⟨(0),(by first | rfl | (simp;done) | (simp [*];done)),H',⟨Nat.le_refl _⟩,⟨by (with_reducible repeat (first | apply k1_ | apply k2_ | apply k3_));exact BK265.out⟩,⟨zl_ HB⟩⟩
       case round =>
        clear H'
        try clear c1
        try clear c2
        try clear p2
        try clear q2
        try clear hx2
        try clear c3
        try clear c4
        try clear p6
        try clear c7
        try clear c15
        try clear c15b0
        try clear c16
        try clear c17
        try clear c19
        try clear c20
        try clear c20b0
        try clear c22
        try clear c23
        try clear c26
        try clear p26
        try clear q26
        try clear hx26
        try clear c27
        try clear q27
        try clear hx27
        try clear c38
        try clear c44
        try clear hcz39_0
        try clear hcz39_1
        try clear hcz39_2
        try clear hcz39_3
        try clear hcz39_4
        try clear hcz45_0
        try clear hcz45_1
        try clear hcz45_2
        try clear hcz45_3
        try clear hcz45_4
        try clear hcz49_0
        try clear hcz49_1
        try clear hcz49_2
        try clear hcz49_3
        try clear hfz39_0
        try clear hfz39_1
        try clear hfz39_2
        try clear hfz39_3
        try clear hfz39_4
        try clear hfz45_0
        try clear hfz45_1
        try clear hfz45_2
        try clear hfz45_3
        try clear hfz45_4
        try clear hfz49_0
        try clear hfz49_1
        try clear hfz49_2
        try clear hfz49_3
        try clear hx268_0
        try clear hx268_1
        try clear hx268_2
        try clear hx268_3
        try clear hx268_4
        try clear hx271_0
        try clear hx271_1
        try clear hx271_2
        try clear hx271_3
        try clear hx271_4
        try clear p268
        try clear q268
        try clear q271
        obtain ⟨x62_3,rfl,HA,HK3,BK265,HB⟩ := hrel
        cases gk with
        | zero => exact absurd HA.out (by simp [impl_TableOK.l1])
        | succ k3 =>
         have H := HA.out
         clear HA
         simp only [impl_TableOK.l1] at H
         by_cases c50 : x62_3 < (l0_3.length : Int)
         ·rw [if_pos c50] at H
          have c50b0 : decide (x62_3 < (l0_3.length : Int)) = true := decide_eq_true c50
          clear c50
          by_cases c51 : 0 ≤ x62_3
          ·rw [if_pos c51] at H
           have c51b0 : decide (0 ≤ x62_3) = true := decide_eq_true c51
           clear c51
           by_cases c52 : x62_3 < (l0_3.length : Int)
           ·rw [if_pos c52] at H
            have c52b0 : decide (x62_3 < (l0_3.length : Int)) = true := decide_eq_true c52
            clear c52
            replace H := Option.bind_eq_some_iff.mp H
            obtain ⟨t274,A530,H⟩ := H
            try dsimp only at H
            have A53 := am_ A530
            clear A530
            have p272 : 0 ≤ (x62_3 : Int) := zo_
            have q272 : x62_3 < (l0_3.length : Int) := zo_
            obtain ⟨ad272,e272,hx272_0,hx272_1,hx272_2,hx272_3,hx272_4,hx272_5⟩ := at_T84 HR0_3.out x62_3 p272 q272
            cases e272
            replace hx272_0 := zx_ HB hx272_0
            replace hx272_1 := zx_ HB hx272_1
            replace hx272_2 := zx_ HB hx272_2
            replace hx272_3 := zx_ HB hx272_3
            replace hx272_4 := zx_ HB hx272_4
            replace hx272_5 := zx_ HB hx272_5
            replace p272 := eq_true p272
            replace q272 := eq_true q272
            try go_wp2_with (first | ((with_reducible refine gate_dst (N := 6) rfl ?_);(try (refine gate_guard (by rfl) ?_;dsimp only));refine zbx (N := 6) (cs := #[.int .i64 0,.int .i64 0,.int .i64 0,.int .i64 0,.int .i64 0,.int .i64 0]) (t := 84) ?_;intro gb273 hg w64 hbox hb;have BK273 := am_ (hbox);have GW273 := zw_ HB hg;have GE273 := zw_ HB hg;replace HB := zs_ HB hb;have NB265_273 := zl hg BK265;have NB273_265 := zg hg BK265;replace BK265 := zb BK265 hb;clear hb hbox hg;have hnb65 := NB273_265.out;have hnc65 := NB265_273.out;obtain ⟨hcz66_0,hcz66_1,hcz66_2,hcz66_3,hcz66_4,hcz66_5,hfz66_0,hfz66_1,hfz66_2,hfz66_3,hfz66_4,hfz66_5⟩ := zc6 BK273))
            have n0_ : Aside0 (((((((w64.setCell ⟨gb273,0,none⟩ (.int .i64 ((rd_T84 l0_3 x62_3).f0))).setCell ⟨gb273,1,none⟩ (.int .i64 ((rd_T84 l0_3 x62_3).f1))).setCell ⟨gb273,2,none⟩ (.int .i64 ((rd_T84 l0_3 x62_3).f2.f0))).setCell ⟨gb273,3,none⟩ (.int .i64 ((rd_T84 l0_3 x62_3).f2.f1))).setCell ⟨gb273,4,none⟩ (.int .i64 ((rd_T84 l0_3 x62_3).f2.f2))).setCell ⟨gb273,5,none⟩ (.int .i64 ((rd_T84 l0_3 x62_3).f2.f3))).heap[gb265]? = some (.cells #[.int .i64 a0_0,.int .i64 a0_1,.slice A0_2 l0_2.length c0_2,.slice (some ad272) l0_3.length c0_3] 26 (0,0))) := ⟨zq BK265⟩
            have n1_ : Aside0 (((((((w64.setCell ⟨gb273,0,none⟩ (.int .i64 ((rd_T84 l0_3 x62_3).f0))).setCell ⟨gb273,1,none⟩ (.int .i64 ((rd_T84 l0_3 x62_3).f1))).setCell ⟨gb273,2,none⟩ (.int .i64 ((rd_T84 l0_3 x62_3).f2.f0))).setCell ⟨gb273,3,none⟩ (.int .i64 ((rd_T84 l0_3 x62_3).f2.f1))).setCell ⟨gb273,4,none⟩ (.int .i64 ((rd_T84 l0_3 x62_3).f2.f2))).setCell ⟨gb273,5,none⟩ (.int .i64 ((rd_T84 l0_3 x62_3).f2.f3))).heap[gb273]? = some (.cells #[.int .i64 ((rd_T84 l0_3 x62_3).f0),.int .i64 ((rd_T84 l0_3 x62_3).f1),.int .i64 ((rd_T84 l0_3 x62_3).f2.f0),.int .i64 ((rd_T84 l0_3 x62_3).f2.f1),.int .i64 ((rd_T84 l0_3 x62_3).f2.f2),.int .i64 ((rd_T84 l0_3 x62_3).f2.f3)] 84 (0,0))) := ⟨zq BK273⟩
            have n2_ : Aside0 (Below w.heap.size w ((((((w64.setCell ⟨gb273,0,none⟩ (.int .i64 ((rd_T84 l0_3 x62_3).f0))).setCell ⟨gb273,1,none⟩ (.int .i64 ((rd_T84 l0_3 x62_3).f1))).setCell ⟨gb273,2,none⟩ (.int .i64 ((rd_T84 l0_3 x62_3).f2.f0))).setCell ⟨gb273,3,none⟩ (.int .i64 ((rd_T84 l0_3 x62_3).f2.f1))).setCell ⟨gb273,4,none⟩ (.int .i64 ((rd_T84 l0_3 x62_3).f2.f2))).setCell ⟨gb273,5,none⟩ (.int .i64 ((rd_T84 l0_3 x62_3).f2.f3)))) := ⟨zl_ HB⟩
            (try clear BK265)
            (try clear BK273)
            (try clear HB)
            generalize ((((((w64.setCell ⟨gb273,0,none⟩ (.int .i64 ((rd_T84 l0_3 x62_3).f0))).setCell ⟨gb273,1,none⟩ (.int .i64 ((rd_T84 l0_3 x62_3).f1))).setCell ⟨gb273,2,none⟩ (.int .i64 ((rd_T84 l0_3 x62_3).f2.f0))).setCell ⟨gb273,3,none⟩ (.int .i64 ((rd_T84 l0_3 x62_3).f2.f1))).setCell ⟨gb273,4,none⟩ (.int .i64 ((rd_T84 l0_3 x62_3).f2.f2))).setCell ⟨gb273,5,none⟩ (.int .i64 ((rd_T84 l0_3 x62_3).f2.f3))) = w67 at n0_ n1_ n2_ ⊢
            have BK265 := n0_
            have BK273 := n1_
            have HB := n2_
            clear n0_ n1_ n2_
            replace BK265 := am_ (blk_drew BK265.out)
            replace BK273 := am_ (blk_drew BK273.out)
            replace HB := am_ (below_drew1 HB.out)
            by_cases c54 : t274 = true
            ·subst c54
             have H1 : ((impl_within.f ((rd_T84 l0_3 x62_3).f1) 1 65535).bind fun t275 => (if t275 = true then ((impl_isAnswer.f ((rd_T84 l0_3 x62_3).f2.f0) ((rd_T84 l0_3 x62_3).f2.f1) ((rd_T84 l0_3 x62_3).f2.f2) ((rd_T84 l0_3 x62_3).f2.f3)).bind fun t276 => (if t276 = true then (if x62_3 > 0 then (if 0 ≤ (wrap64 (x62_3 - 1)) then (if (wrap64 (x62_3 - 1)) < (l0_3.length : Int) then (if ((rd_T84 l0_3 (wrap64 (x62_3 - 1))).f0) ≥ ((rd_T84 l0_3 x62_3).f0) then (some false) else (impl_TableOK.l1 k3 l0_3 (l0_3.length : Int) (wrap64 (x62_3 + 1)) a0_0 a0_1 l0_2 l0_3)) else (none)) else (none)) else (impl_TableOK.l1 k3 l0_3 (l0_3.length : Int) (wrap64 (x62_3 + 1)) a0_0 a0_1 l0_2 l0_3)) else (some false))) else (some false))) = some r := by rw [if_pos rfl] at H;exact H
             clear H
             have H := H1
             clear H1
             replace H := Option.bind_eq_some_iff.mp H
             obtain ⟨t275,A550,H⟩ := H
             try dsimp only at H
             have A55 := am_ A550
             clear A550
             by_cases c56 : t275 = true
             ·subst c56
              have H1 : ((impl_isAnswer.f ((rd_T84 l0_3 x62_3).f2.f0) ((rd_T84 l0_3 x62_3).f2.f1) ((rd_T84 l0_3 x62_3).f2.f2) ((rd_T84 l0_3 x62_3).f2.f3)).bind fun t276 => (if t276 = true then (if x62_3 > 0 then (if 0 ≤ (wrap64 (x62_3 - 1)) then (if (wrap64 (x62_3 - 1)) < (l0_3.length : Int) then (if ((rd_T84 l0_3 (wrap64 (x62_3 - 1))).f0) ≥ ((rd_T84 l0_3 x62_3).f0) then (some false) else (impl_TableOK.l1 k3 l0_3 (l0_3.length : Int) (wrap64 (x62_3 + 1)) a0_0 a0_1 l0_2 l0_3)) else (none)) else (none)) else (impl_TableOK.l1 k3 l0_3 (l0_3.length : Int) (wrap64 (x62_3 + 1)) a0_0 a0_1 l0_2 l0_3)) else (some false))) = some r := by rw [if_pos rfl] at H;exact H
              clear H
              have H := H1
              clear H1
              replace H := Option.bind_eq_some_iff.mp H
              obtain ⟨t276,A570,H⟩ := H
              try dsimp only at H
              have A57 := am_ A570
              clear A570
              by_cases c58 : t276 = true
              ·subst c58
               have H1 : (if x62_3 > 0 then (if 0 ≤ (wrap64 (x62_3 - 1)) then (if (wrap64 (x62_3 - 1)) < (l0_3.length : Int) then (if ((rd_T84 l0_3 (wrap64 (x62_3 - 1))).f0) ≥ ((rd_T84 l0_3 x62_3).f0) then (some false) else (impl_TableOK.l1 k3 l0_3 (l0_3.length : Int) (wrap64 (x62_3 + 1)) a0_0 a0_1 l0_2 l0_3)) else (none)) else (none)) else (impl_TableOK.l1 k3 l0_3 (l0_3.length : Int) (wrap64 (x62_3 + 1)) a0_0 a0_1 l0_2 l0_3)) = some r := by rw [if_pos rfl] at H;exact H
               clear H
               have H := H1
               clear H1
               by_cases c59 : x62_3 > 0
               ·rw [if_pos c59] at H
                have c59b0 : decide (0 < x62_3) = true := decide_eq_true c59
                clear c59
                obtain ⟨ji60,hji60⟩ : ∃ j_ : Int,(wrap64 (x62_3 - 1)) = j_ := ⟨_,rfl⟩
                replace H : (if 0 ≤ (ji60) then (if (ji60) < (l0_3.length : Int) then (if ((rd_T84 l0_3 (ji60)).f0) ≥ ((rd_T84 l0_3 x62_3).f0) then (some false) else (impl_TableOK.l1 k3 l0_3 (l0_3.length : Int) (wrap64 (x62_3 + 1)) a0_0 a0_1 l0_2 l0_3)) else (none)) else (none)) = some r := by first | (rw [hji60] at H;exact H) | (simp only [hji60] at H ⊢;exact H)
                (try rw [hji60] at A53)
                (try rw [hji60] at A55)
                (try rw [hji60] at A57)
                have hji60w : (IntKind.i64.wrap (x62_3 - 1)) = ji60 := (i64_w _).trans hji60
                by_cases c61 : 0 ≤ (ji60)
                ·rw [if_pos c61] at H
                 have c61b0 : decide (0 ≤ (ji60)) = true := decide_eq_true c61
                 clear c61
                 by_cases c62 : (ji60) < (l0_3.length : Int)
                 ·rw [if_pos c62] at H
                  have c62b0 : decide ((ji60) < (l0_3.length : Int)) = true := decide_eq_true c62
                  clear c62
                  have p277 : 0 ≤ ((ji60) : Int) := zo_
                  have q277 : (ji60) < (l0_3.length : Int) := zo_
                  obtain ⟨ad277,e277,hx277_0,hx277_1,hx277_2,hx277_3,hx277_4,hx277_5⟩ := at_T84 HR0_3.out (ji60) p277 q277
                  have hw277_5 := hx277_5
                  have hw277_4 := hx277_4
                  have hw277_3 := hx277_3
                  have hw277_2 := hx277_2
                  have hw277_1 := hx277_1
                  have hw277_0 := hx277_0
                  obtain rfl : ad272 = ad277 := (by injection e277)
                  replace hx277_0 := zx_ HB hx277_0
                  replace hx277_1 := zx_ HB hx277_1
                  replace hx277_2 := zx_ HB hx277_2
                  replace hx277_3 := zx_ HB hx277_3
                  replace hx277_4 := zx_ HB hx277_4
                  replace hx277_5 := zx_ HB hx277_5
                  replace p277 := eq_true p277
                  replace q277 := eq_true q277
                  refine start_ (n := 32) (S := fun w' => w'.cell? ⟨gb273,0,none⟩ = some (.int .i64 ((rd_T84 l0_3 x62_3).f0)) ∧ w'.cell? ⟨gb273,1,none⟩ = some (.int .i64 ((rd_T84 l0_3 x62_3).f1)) ∧ w'.cell? ⟨gb273,2,none⟩ = some (.int .i64 ((rd_T84 l0_3 x62_3).f2.f0)) ∧ w'.cell? ⟨gb273,3,none⟩ = some (.int .i64 ((rd_T84 l0_3 x62_3).f2.f1)) ∧ w'.cell? ⟨gb273,4,none⟩ = some (.int .i64 ((rd_T84 l0_3 x62_3).f2.f2)) ∧ w'.cell? ⟨gb273,5,none⟩ = some (.int .i64 ((rd_T84 l0_3 x62_3).f2.f3)) ∧ w'.cell? ⟨gb265,0,none⟩ = some (.int .i64 a0_0) ∧ w'.cell? ⟨gb265,1,none⟩ = some (.int .i64 a0_1) ∧ w'.cell? ⟨gb265,2,none⟩ = some (.slice A0_2 l0_2.length c0_2) ∧ w'.cell? ⟨gb265,3,none⟩ = some (.slice (some ad272) l0_3.length c0_3) ∧ w'.cell? (ad272.add (((ji60)).toNat * 6)) = some (.int .i64 ((rd_T84 l0_3 (ji60)).f0)) ∧ w'.cell? ⟨(ad272.add (((ji60)).toNat * 6)).block,(ad272.add (((ji60)).toNat * 6)).off + 1,none⟩ = some (.int .i64 ((rd_T84 l0_3 (ji60)).f1)) ∧ w'.cell? ⟨(ad272.add (((ji60)).toNat * 6)).block,(ad272.add (((ji60)).toNat * 6)).off + 2,none⟩ = some (.int .i64 ((rd_T84 l0_3 (ji60)).f2.f0)) ∧ w'.cell? ⟨(ad272.add (((ji60)).toNat * 6)).block,(ad272.add (((ji60)).toNat * 6)).off + 3,none⟩ = some (.int .i64 ((rd_T84 l0_3 (ji60)).f2.f1)) ∧ w'.cell? ⟨(ad272.add (((ji60)).toNat * 6)).block,(ad272.add (((ji60)).toNat * 6)).off + 4,none⟩ = some (.int .i64 ((rd_T84 l0_3 (ji60)).f2.f2)) ∧ w'.cell? ⟨(ad272.add (((ji60)).toNat * 6)).block,(ad272.add (((ji60)).toNat * 6)).off + 5,none⟩ = some (.int .i64 ((rd_T84 l0_3 (ji60)).f2.f3))) (ds := []) #[false,false,false,false,false,false,false,false,false,false,false,false,false,false,false,false,false,false,false,false,false,false,false,false,false,false,false,false,false,false,false,false] (by kernel_rfl) rfl rfl ⟨(blk_cell BK273.out 0).trans rfl,(blk_cell BK273.out 1).trans rfl,(blk_cell BK273.out 2).trans rfl,(blk_cell BK273.out 3).trans rfl,(blk_cell BK273.out 4).trans rfl,(blk_cell BK273.out 5).trans rfl,(blk_cell BK265.out 0).trans rfl,(blk_cell BK265.out 1).trans rfl,(blk_cell BK265.out 2).trans rfl,(blk_cell BK265.out 3).trans rfl,(zx_ HB hw277_0),(zx_ HB hw277_1),(zx_ HB hw277_2),(zx_ HB hw277_3),(zx_ HB hw277_4),(zx_ HB hw277_5)⟩ (fun hHeld => ?_);refine with_tabW impl_TableOK.tab12 impl_TableOK.bits12 (fun HT_ HW_ => ?_)
                  generalize w67.drew = w68 at BK265 BK273 HB hx277_0 hx277_1 hx277_2 hx277_3 hx277_4 hx277_5 hHeld ⊢
                  refine zpu 0 (N := some 67) HT_ ?_
                  refine ztk 1 (N := some 68) HT_ HW_ hHeld ?_
                  refine zon 2 (N := some 69) HT_ (fun K hK => ?_)
                  refine zgo Try.func63 #[.int .i64 ((rd_T84 l0_3 x62_3).f0),.int .i64 0,.int .i64 255] ?_
                  with_reducible refine (impl_within.calls ((rd_T84 l0_3 x62_3).f0) 0 255 true _ A53.out).mono ?_
                  rintro e w' ⟨rfl,⟨nd,rfl⟩⟩
                  refine ⟨_,rfl,?_⟩
                  refine hK.out _ _ ⟨(blk_cell BK273.out 0).trans rfl,(blk_cell BK273.out 1).trans rfl,(blk_cell BK273.out 2).trans rfl,(blk_cell BK273.out 3).trans rfl,(blk_cell BK273.out 4).trans rfl,(blk_cell BK273.out 5).trans rfl,(blk_cell BK265.out 0).trans rfl,(blk_cell BK265.out 1).trans rfl,(blk_cell BK265.out 2).trans rfl,(blk_cell BK265.out 3).trans rfl,(zx_ ⟨pw_below_drewN HB.out nd⟩ hw277_0),(zx_ ⟨pw_below_drewN HB.out nd⟩ hw277_1),(zx_ ⟨pw_below_drewN HB.out nd⟩ hw277_2),(zx_ ⟨pw_below_drewN HB.out nd⟩ hw277_3),(zx_ ⟨pw_below_drewN HB.out nd⟩ hw277_4),(zx_ ⟨pw_below_drewN HB.out nd⟩ hw277_5)⟩ (fun hHeld => ?_)
                  clear hK K
                  refine norm_ (a' := ?_) ?_ ?_
                  rotate_left
                  ·show Act.put _ (some 69) _ = _
                   simp only [Act.put,p1_,p2_,p3_,i64_w,i32_w]
                   rfl
                  refine zpu 3 (N := some 70) HT_ ?_
                  refine zpu 4 (N := some 71) HT_ ?_
                  refine zpu 5 (N := some 72) HT_ ?_
                  refine ztk 6 (N := some 73) HT_ HW_ hHeld ?_
                  refine zon 7 (N := some 74) HT_ (fun K hK => ?_)
                  refine zgo Try.func63 #[.int .i64 ((rd_T84 l0_3 x62_3).f1),.int .i64 1,.int .i64 65535] ?_
                  with_reducible refine (impl_within.calls ((rd_T84 l0_3 x62_3).f1) 1 65535 true _ A55.out).mono ?_
                  rintro e w' ⟨rfl,⟨nd,rfl⟩⟩
                  refine ⟨_,rfl,?_⟩
                  refine hK.out _ _ ⟨(blk_cell BK273.out 0).trans rfl,(blk_cell BK273.out 1).trans rfl,(blk_cell BK273.out 2).trans rfl,(blk_cell BK273.out 3).trans rfl,(blk_cell BK273.out 4).trans rfl,(blk_cell BK273.out 5).trans rfl,(blk_cell BK265.out 0).trans rfl,(blk_cell BK265.out 1).trans rfl,(blk_cell BK265.out 2).trans rfl,(blk_cell BK265.out 3).trans rfl,(zx_ ⟨pw_below_drewN (pw_below_drewN HB.out _) nd⟩ hw277_0),(zx_ ⟨pw_below_drewN (pw_below_drewN HB.out _) nd⟩ hw277_1),(zx_ ⟨pw_below_drewN (pw_below_drewN HB.out _) nd⟩ hw277_2),(zx_ ⟨pw_below_drewN (pw_below_drewN HB.out _) nd⟩ hw277_3),(zx_ ⟨pw_below_drewN (pw_below_drewN HB.out _) nd⟩ hw277_4),(zx_ ⟨pw_below_drewN (pw_below_drewN HB.out _) nd⟩ hw277_5)⟩ (fun hHeld => ?_)
                  clear hK K
                  refine norm_ (a' := ?_) ?_ ?_
                  rotate_left
                  ·show Act.put _ (some 74) _ = _
                   simp only [Act.put,p1_,p2_,p3_,i64_w,i32_w]
                   rfl
                  refine zpu 8 (N := some 75) HT_ ?_
                  refine zpu 9 (N := some 76) HT_ ?_
                  refine zpu 10 (N := some 77) HT_ ?_
                  refine zpu 11 (N := some 78) HT_ ?_
                  refine ztk 12 (N := some 79) HT_ HW_ hHeld ?_
                  refine zon 13 (N := some 80) HT_ (fun K hK => ?_)
                  refine zgo Try.func78 #[.agg #[.int .i64 ((rd_T84 l0_3 x62_3).f2.f0),.int .i64 ((rd_T84 l0_3 x62_3).f2.f1),.int .i64 ((rd_T84 l0_3 x62_3).f2.f2),.int .i64 ((rd_T84 l0_3 x62_3).f2.f3)]] ?_
                  with_reducible refine (impl_isAnswer.calls ((rd_T84 l0_3 x62_3).f2.f0) ((rd_T84 l0_3 x62_3).f2.f1) ((rd_T84 l0_3 x62_3).f2.f2) ((rd_T84 l0_3 x62_3).f2.f3) true _ A57.out).mono ?_
                  rintro e w69 ⟨rfl,hb⟩
                  refine ⟨_,rfl,?_⟩
                  replace BK265 := zb BK265 hb
                  replace BK273 := zb BK273 hb
                  replace HB := zs_ HB hb
                  (try clear hb)
                  (try clear hb2)
                  (try clear hk)
                  (try clear hi)
                  refine hK.out _ _ ⟨(blk_cell BK273.out 0).trans rfl,(blk_cell BK273.out 1).trans rfl,(blk_cell BK273.out 2).trans rfl,(blk_cell BK273.out 3).trans rfl,(blk_cell BK273.out 4).trans rfl,(blk_cell BK273.out 5).trans rfl,(blk_cell BK265.out 0).trans rfl,(blk_cell BK265.out 1).trans rfl,(blk_cell BK265.out 2).trans rfl,(blk_cell BK265.out 3).trans rfl,(zx_ HB hw277_0),(zx_ HB hw277_1),(zx_ HB hw277_2),(zx_ HB hw277_3),(zx_ HB hw277_4),(zx_ HB hw277_5)⟩ (fun hHeld => ?_)
                  clear hK K
                  refine norm_ (a' := ?_) ?_ ?_
                  rotate_left
                  ·show Act.put _ (some 80) _ = _
                   simp only [Act.put,p1_,p2_,p3_,i64_w,i32_w]
                   rfl
                  by_cases c63 : ((rd_T84 l0_3 (ji60)).f0) ≥ ((rd_T84 l0_3 x62_3).f0)
                  ·rw [if_pos c63] at H
                   have c63b0 : decide (((rd_T84 l0_3 x62_3).f0) ≤ ((rd_T84 l0_3 (ji60)).f0)) = true := decide_eq_true c63
                   clear c63
                   obtain rfl := Option.some.inj H
                   refine zpu 14 (N := some 81) HT_ ?_
                   refine zpu 15 (N := some 82) HT_ ?_
                   refine zpu 16 (N := some 83) HT_ ?_
                   refine zpu 17 (N := some 84) HT_ ?_
                   refine zpu 18 (N := some 85) HT_ ?_
                   refine zpu 19 (N := some 86) HT_ ?_
                   refine zpu 20 (N := some 87) HT_ ?_
                   refine zpu 22 (N := some 89) HT_ ?_
                   refine zpu 23 (N := some 90) HT_ ?_
                   refine zpu 27 (N := some 94) HT_ ?_
                   refine ztk 21 (N := some 88) HT_ HW_ hHeld ?_
                   refine zpu 24 (N := some 91) HT_ ?_
                   refine zpu 25 (N := some 92) HT_ ?_
                   refine ztk 26 (N := some 93) HT_ HW_ hHeld ?_
                   refine ztk 28 (N := some 95) HT_ HW_ hHeld ?_
                   refine zpu 29 (N := some 96) HT_ ?_
                   refine zpu 30 (N := some 97) HT_ ?_
                   refine zpu 31 (N := some 98) HT_ ?_
                   refine done_ (done_of HT_.out (by kernel_rfl)) ?_
                   try go_wp2
                   go_ret
                   exact ⟨by first | rfl | (simp [e1_,e2_] <;> rfl) | (simp only [← hji60];first | rfl | (simp [e1_,e2_] <;> rfl)) | (simp [*,e1_,e2_] <;> rfl) | (simp [e3_,e4_];done) | (simp [*,e3_,e4_];done),zl_ HB⟩
                  ·rw [if_neg c63] at H
                   have c63b0 : decide (((rd_T84 l0_3 x62_3).f0) ≤ ((rd_T84 l0_3 (ji60)).f0)) = false := decide_eq_false c63
                   clear c63
                   have H' := am_ H
                   clear H
                   refine zpu 14 (N := some 81) HT_ ?_
                   refine zpu 15 (N := some 82) HT_ ?_
                   refine zpu 16 (N := some 83) HT_ ?_
                   refine zpu 17 (N := some 84) HT_ ?_
                   refine zpu 18 (N := some 85) HT_ ?_
                   refine zpu 19 (N := some 86) HT_ ?_
                   refine zpu 20 (N := some 87) HT_ ?_
                   refine zpu 22 (N := some 89) HT_ ?_
                   refine zpu 23 (N := some 90) HT_ ?_
                   refine zpu 27 (N := some 94) HT_ ?_
                   refine ztk 21 (N := some 88) HT_ HW_ hHeld ?_
                   refine zpu 24 (N := some 91) HT_ ?_
                   refine zpu 25 (N := some 92) HT_ ?_
                   refine ztk 26 (N := some 93) HT_ HW_ hHeld ?_
                   refine ztk 28 (N := some 95) HT_ HW_ hHeld ?_
                   refine zpu 29 (N := some 96) HT_ ?_
                   refine zpu 30 (N := some 97) HT_ ?_
                   refine zpu 31 (N := some 98) HT_ ?_
                   refine done_ (done_of HT_.out (by kernel_rfl)) ?_
                   try go_wp2
                   go_roundg k3
                   case measure => have := HJ1.out;have := HK2.out;have := HK3.out;omega
                   case rel => exact ⟨(wrap64 (x62_3 + 1)),(by first | rfl | (simp;done) | (simp [*];done)),H',⟨by have := HJ1.out;have := HK2.out;have := HK3.out;omega⟩,⟨by (with_reducible repeat (first | apply k1_ | apply k2_ | apply k3_));exact BK265.out⟩,⟨zl_ HB⟩⟩
                 ·rw [if_neg c62] at H
                  exact absurd H (by simp)
                ·rw [if_neg c61] at H
                 exact absurd H (by simp)
               ·rw [if_neg c59] at H
                have c59b0 : decide (0 < x62_3) = false := decide_eq_false c59
                clear c59
                have H' := am_ H
                clear H
                refine start_ (n := 32) (S := fun w' => w'.cell? ⟨gb273,0,none⟩ = some (.int .i64 ((rd_T84 l0_3 x62_3).f0)) ∧ w'.cell? ⟨gb273,1,none⟩ = some (.int .i64 ((rd_T84 l0_3 x62_3).f1)) ∧ w'.cell? ⟨gb273,2,none⟩ = some (.int .i64 ((rd_T84 l0_3 x62_3).f2.f0)) ∧ w'.cell? ⟨gb273,3,none⟩ = some (.int .i64 ((rd_T84 l0_3 x62_3).f2.f1)) ∧ w'.cell? ⟨gb273,4,none⟩ = some (.int .i64 ((rd_T84 l0_3 x62_3).f2.f2)) ∧ w'.cell? ⟨gb273,5,none⟩ = some (.int .i64 ((rd_T84 l0_3 x62_3).f2.f3))) (ds := []) #[false,false,false,false,false,false,false,false,false,false,false,false,false,false,false,false,false,false,false,false,false,false,false,false,false,false,false,false,false,false,false,false] (by kernel_rfl) rfl rfl ⟨(blk_cell BK273.out 0).trans rfl,(blk_cell BK273.out 1).trans rfl,(blk_cell BK273.out 2).trans rfl,(blk_cell BK273.out 3).trans rfl,(blk_cell BK273.out 4).trans rfl,(blk_cell BK273.out 5).trans rfl⟩ (fun hHeld => ?_);refine with_tabW impl_TableOK.tab12 impl_TableOK.bits12 (fun HT_ HW_ => ?_)
                generalize w67.drew = w80 at BK265 BK273 HB hHeld ⊢
                refine zpu 0 (N := some 67) HT_ ?_
                refine ztk 1 (N := some 68) HT_ HW_ hHeld ?_
                refine zon 2 (N := some 69) HT_ (fun K hK => ?_)
                refine zgo Try.func63 #[.int .i64 ((rd_T84 l0_3 x62_3).f0),.int .i64 0,.int .i64 255] ?_
                with_reducible refine (impl_within.calls ((rd_T84 l0_3 x62_3).f0) 0 255 true _ A53.out).mono ?_
                rintro e w' ⟨rfl,⟨nd,rfl⟩⟩
                refine ⟨_,rfl,?_⟩
                refine hK.out _ _ ⟨(blk_cell BK273.out 0).trans rfl,(blk_cell BK273.out 1).trans rfl,(blk_cell BK273.out 2).trans rfl,(blk_cell BK273.out 3).trans rfl,(blk_cell BK273.out 4).trans rfl,(blk_cell BK273.out 5).trans rfl⟩ (fun hHeld => ?_)
                clear hK K
                refine norm_ (a' := ?_) ?_ ?_
                rotate_left
                ·show Act.put _ (some 69) _ = _
                 simp only [Act.put,p1_,p2_,p3_,i64_w,i32_w]
                 rfl
                refine zpu 3 (N := some 70) HT_ ?_
                refine zpu 4 (N := some 71) HT_ ?_
                refine zpu 5 (N := some 72) HT_ ?_
                refine ztk 6 (N := some 73) HT_ HW_ hHeld ?_
                refine zon 7 (N := some 74) HT_ (fun K hK => ?_)
                refine zgo Try.func63 #[.int .i64 ((rd_T84 l0_3 x62_3).f1),.int .i64 1,.int .i64 65535] ?_
                with_reducible refine (impl_within.calls ((rd_T84 l0_3 x62_3).f1) 1 65535 true _ A55.out).mono ?_
                rintro e w' ⟨rfl,⟨nd,rfl⟩⟩
                refine ⟨_,rfl,?_⟩
                refine hK.out _ _ ⟨(blk_cell BK273.out 0).trans rfl,(blk_cell BK273.out 1).trans rfl,(blk_cell BK273.out 2).trans rfl,(blk_cell BK273.out 3).trans rfl,(blk_cell BK273.out 4).trans rfl,(blk_cell BK273.out 5).trans rfl⟩ (fun hHeld => ?_)
                clear hK K
                refine norm_ (a' := ?_) ?_ ?_
                rotate_left
                ·show Act.put _ (some 74) _ = _
                 simp only [Act.put,p1_,p2_,p3_,i64_w,i32_w]
                 rfl
                refine zpu 8 (N := some 75) HT_ ?_
                refine zpu 9 (N := some 76) HT_ ?_
                refine zpu 10 (N := some 77) HT_ ?_
                refine zpu 11 (N := some 78) HT_ ?_
                refine ztk 12 (N := some 79) HT_ HW_ hHeld ?_
                refine zon 13 (N := some 80) HT_ (fun K hK => ?_)
                refine zgo Try.func78 #[.agg #[.int .i64 ((rd_T84 l0_3 x62_3).f2.f0),.int .i64 ((rd_T84 l0_3 x62_3).f2.f1),.int .i64 ((rd_T84 l0_3 x62_3).f2.f2),.int .i64 ((rd_T84 l0_3 x62_3).f2.f3)]] ?_
                with_reducible refine (impl_isAnswer.calls ((rd_T84 l0_3 x62_3).f2.f0) ((rd_T84 l0_3 x62_3).f2.f1) ((rd_T84 l0_3 x62_3).f2.f2) ((rd_T84 l0_3 x62_3).f2.f3) true _ A57.out).mono ?_
                rintro e w81 ⟨rfl,hb⟩
                refine ⟨_,rfl,?_⟩
                replace BK265 := zb BK265 hb
                replace BK273 := zb BK273 hb
                replace HB := zs_ HB hb
                (try clear hb)
                (try clear hb2)
                (try clear hk)
                (try clear hi)
                refine hK.out _ _ ⟨(blk_cell BK273.out 0).trans rfl,(blk_cell BK273.out 1).trans rfl,(blk_cell BK273.out 2).trans rfl,(blk_cell BK273.out 3).trans rfl,(blk_cell BK273.out 4).trans rfl,(blk_cell BK273.out 5).trans rfl⟩ (fun hHeld => ?_)
                clear hK K
                refine norm_ (a' := ?_) ?_ ?_
                rotate_left
                ·show Act.put _ (some 80) _ = _
                 simp only [Act.put,p1_,p2_,p3_,i64_w,i32_w]
                 rfl
                refine zpu 14 (N := some 81) HT_ ?_
                refine zpu 15 (N := some 82) HT_ ?_
                refine zpu 16 (N := some 83) HT_ ?_
                refine zpu 17 (N := some 84) HT_ ?_
                refine zpu 18 (N := some 85) HT_ ?_
                refine zpu 19 (N := some 86) HT_ ?_
                refine zpx 20 (N := some 87) HT_ ?_
                refine zpx 21 (N := some 88) HT_ ?_
                refine zpx 22 (N := some 89) HT_ ?_
                refine zpx 23 (N := some 90) HT_ ?_
                refine zpx 24 (N := some 91) HT_ ?_
                refine zpx 25 (N := some 92) HT_ ?_
                refine zpx 26 (N := some 93) HT_ ?_
                refine zpx 27 (N := some 94) HT_ ?_
                refine zpx 28 (N := some 95) HT_ ?_
                refine zpx 29 (N := some 96) HT_ ?_
                refine zpu 30 (N := some 97) HT_ ?_
                refine zpu 31 (N := some 98) HT_ ?_
                refine done_ (done_of HT_.out (by kernel_rfl)) ?_
                try go_wp2
                go_roundg k3
                case measure => have := HJ1.out;have := HK2.out;have := HK3.out;omega
                case rel => exact ⟨(wrap64 (x62_3 + 1)),(by first | rfl | (simp;done) | (simp [*];done)),H',⟨by have := HJ1.out;have := HK2.out;have := HK3.out;omega⟩,⟨by (with_reducible repeat (first | apply k1_ | apply k2_ | apply k3_));exact BK265.out⟩,⟨zl_ HB⟩⟩
              ·replace c58 := Bool.eq_false_iff.mpr c58
               subst c58
               have H1 : (some false) = some r := by rw [if_neg (show ¬ (false = true) by decide)] at H;exact H
               clear H
               have H := H1
               clear H1
               obtain rfl := Option.some.inj H
               refine start_ (n := 32) (S := fun w' => w'.cell? ⟨gb273,0,none⟩ = some (.int .i64 ((rd_T84 l0_3 x62_3).f0)) ∧ w'.cell? ⟨gb273,1,none⟩ = some (.int .i64 ((rd_T84 l0_3 x62_3).f1)) ∧ w'.cell? ⟨gb273,2,none⟩ = some (.int .i64 ((rd_T84 l0_3 x62_3).f2.f0)) ∧ w'.cell? ⟨gb273,3,none⟩ = some (.int .i64 ((rd_T84 l0_3 x62_3).f2.f1)) ∧ w'.cell? ⟨gb273,4,none⟩ = some (.int .i64 ((rd_T84 l0_3 x62_3).f2.f2)) ∧ w'.cell? ⟨gb273,5,none⟩ = some (.int .i64 ((rd_T84 l0_3 x62_3).f2.f3))) (ds := []) #[false,false,false,false,false,false,false,false,false,false,false,false,false,false,false,false,false,false,false,false,false,false,false,false,false,false,false,false,false,false,false,false] (by kernel_rfl) rfl rfl ⟨(blk_cell BK273.out 0).trans rfl,(blk_cell BK273.out 1).trans rfl,(blk_cell BK273.out 2).trans rfl,(blk_cell BK273.out 3).trans rfl,(blk_cell BK273.out 4).trans rfl,(blk_cell BK273.out 5).trans rfl⟩ (fun hHeld => ?_);refine with_tabW impl_TableOK.tab12 impl_TableOK.bits12 (fun HT_ HW_ => ?_)
               generalize w67.drew = w86 at BK265 BK273 HB hHeld ⊢
               refine zpu 0 (N := some 67) HT_ ?_
               refine ztk 1 (N := some 68) HT_ HW_ hHeld ?_
               refine zon 2 (N := some 69) HT_ (fun K hK => ?_)
               refine zgo Try.func63 #[.int .i64 ((rd_T84 l0_3 x62_3).f0),.int .i64 0,.int .i64 255] ?_
               with_reducible refine (impl_within.calls ((rd_T84 l0_3 x62_3).f0) 0 255 true _ A53.out).mono ?_
               rintro e w' ⟨rfl,⟨nd,rfl⟩⟩
               refine ⟨_,rfl,?_⟩
               refine hK.out _ _ ⟨(blk_cell BK273.out 0).trans rfl,(blk_cell BK273.out 1).trans rfl,(blk_cell BK273.out 2).trans rfl,(blk_cell BK273.out 3).trans rfl,(blk_cell BK273.out 4).trans rfl,(blk_cell BK273.out 5).trans rfl⟩ (fun hHeld => ?_)
               clear hK K
               refine norm_ (a' := ?_) ?_ ?_
               rotate_left
               ·show Act.put _ (some 69) _ = _
                simp only [Act.put,p1_,p2_,p3_,i64_w,i32_w]
                rfl
               refine zpu 3 (N := some 70) HT_ ?_
               refine zpu 4 (N := some 71) HT_ ?_
               refine zpu 5 (N := some 72) HT_ ?_
               refine ztk 6 (N := some 73) HT_ HW_ hHeld ?_
               refine zon 7 (N := some 74) HT_ (fun K hK => ?_)
               refine zgo Try.func63 #[.int .i64 ((rd_T84 l0_3 x62_3).f1),.int .i64 1,.int .i64 65535] ?_
               with_reducible refine (impl_within.calls ((rd_T84 l0_3 x62_3).f1) 1 65535 true _ A55.out).mono ?_
               rintro e w' ⟨rfl,⟨nd,rfl⟩⟩
               refine ⟨_,rfl,?_⟩
               refine hK.out _ _ ⟨(blk_cell BK273.out 0).trans rfl,(blk_cell BK273.out 1).trans rfl,(blk_cell BK273.out 2).trans rfl,(blk_cell BK273.out 3).trans rfl,(blk_cell BK273.out 4).trans rfl,(blk_cell BK273.out 5).trans rfl⟩ (fun hHeld => ?_)
               clear hK K
               refine norm_ (a' := ?_) ?_ ?_
               rotate_left
               ·show Act.put _ (some 74) _ = _
                simp only [Act.put,p1_,p2_,p3_,i64_w,i32_w]
                rfl
               refine zpu 8 (N := some 75) HT_ ?_
               refine zpu 9 (N := some 76) HT_ ?_
               refine zpu 10 (N := some 77) HT_ ?_
               refine zpu 11 (N := some 78) HT_ ?_
               refine ztk 12 (N := some 79) HT_ HW_ hHeld ?_
               refine zon 13 (N := some 80) HT_ (fun K hK => ?_)
               refine zgo Try.func78 #[.agg #[.int .i64 ((rd_T84 l0_3 x62_3).f2.f0),.int .i64 ((rd_T84 l0_3 x62_3).f2.f1),.int .i64 ((rd_T84 l0_3 x62_3).f2.f2),.int .i64 ((rd_T84 l0_3 x62_3).f2.f3)]] ?_
               with_reducible refine (impl_isAnswer.calls ((rd_T84 l0_3 x62_3).f2.f0) ((rd_T84 l0_3 x62_3).f2.f1) ((rd_T84 l0_3 x62_3).f2.f2) ((rd_T84 l0_3 x62_3).f2.f3) false _ A57.out).mono ?_
               rintro e w87 ⟨rfl,hb⟩
               refine ⟨_,rfl,?_⟩
               replace BK273 := zb BK273 hb
               replace HB := zs_ HB hb
               (try clear hb)
               (try clear hb2)
               (try clear hk)
               (try clear hi)
               refine hK.out _ _ ⟨(blk_cell BK273.out 0).trans rfl,(blk_cell BK273.out 1).trans rfl,(blk_cell BK273.out 2).trans rfl,(blk_cell BK273.out 3).trans rfl,(blk_cell BK273.out 4).trans rfl,(blk_cell BK273.out 5).trans rfl⟩ (fun hHeld => ?_)
               clear hK K
               refine norm_ (a' := ?_) ?_ ?_
               rotate_left
               ·show Act.put _ (some 80) _ = _
                simp only [Act.put,p1_,p2_,p3_,i64_w,i32_w]
                rfl
               refine zpu 14 (N := some 81) HT_ ?_
               refine zpu 15 (N := some 82) HT_ ?_
               refine zpu 16 (N := some 83) HT_ ?_
               refine zpx 17 (N := some 84) HT_ ?_
               refine zpx 18 (N := some 85) HT_ ?_
               refine zpx 19 (N := some 86) HT_ ?_
               refine zpx 20 (N := some 87) HT_ ?_
               refine zpx 21 (N := some 88) HT_ ?_
               refine zpx 22 (N := some 89) HT_ ?_
               refine zpx 23 (N := some 90) HT_ ?_
               refine zpx 24 (N := some 91) HT_ ?_
               refine zpx 25 (N := some 92) HT_ ?_
               refine zpx 26 (N := some 93) HT_ ?_
               refine zpx 27 (N := some 94) HT_ ?_
               refine zpx 28 (N := some 95) HT_ ?_
               refine zpx 29 (N := some 96) HT_ ?_
               refine zpx 30 (N := some 97) HT_ ?_
               refine zpu 31 (N := some 98) HT_ ?_
               refine done_ (done_of HT_.out (by kernel_rfl)) ?_
               try go_wp2
               go_ret
               exact ⟨zt_,zl_ HB⟩
             ·replace c56 := Bool.eq_false_iff.mpr c56
              subst c56
              have H1 : (some false) = some r := by rw [if_neg (show ¬ (false = true) by decide)] at H;exact H
              clear H
              have H := H1
              clear H1
              obtain rfl := Option.some.inj H
              refine start_ (n := 32) (S := fun w' => w'.cell? ⟨gb273,0,none⟩ = some (.int .i64 ((rd_T84 l0_3 x62_3).f0)) ∧ w'.cell? ⟨gb273,1,none⟩ = some (.int .i64 ((rd_T84 l0_3 x62_3).f1)) ∧ w'.cell? ⟨gb273,2,none⟩ = some (.int .i64 ((rd_T84 l0_3 x62_3).f2.f0)) ∧ w'.cell? ⟨gb273,3,none⟩ = some (.int .i64 ((rd_T84 l0_3 x62_3).f2.f1)) ∧ w'.cell? ⟨gb273,4,none⟩ = some (.int .i64 ((rd_T84 l0_3 x62_3).f2.f2)) ∧ w'.cell? ⟨gb273,5,none⟩ = some (.int .i64 ((rd_T84 l0_3 x62_3).f2.f3))) (ds := []) #[false,false,false,false,false,false,false,false,false,false,false,false,false,false,false,false,false,false,false,false,false,false,false,false,false,false,false,false,false,false,false,false] (by kernel_rfl) rfl rfl ⟨(blk_cell BK273.out 0).trans rfl,(blk_cell BK273.out 1).trans rfl,(blk_cell BK273.out 2).trans rfl,(blk_cell BK273.out 3).trans rfl,(blk_cell BK273.out 4).trans rfl,(blk_cell BK273.out 5).trans rfl⟩ (fun hHeld => ?_);refine with_tabW impl_TableOK.tab12 impl_TableOK.bits12 (fun HT_ HW_ => ?_)
              generalize w67.drew = w92 at BK265 BK273 HB hHeld ⊢
              refine zpu 0 (N := some 67) HT_ ?_
              refine ztk 1 (N := some 68) HT_ HW_ hHeld ?_
              refine zon 2 (N := some 69) HT_ (fun K hK => ?_)
              refine zgo Try.func63 #[.int .i64 ((rd_T84 l0_3 x62_3).f0),.int .i64 0,.int .i64 255] ?_
              with_reducible refine (impl_within.calls ((rd_T84 l0_3 x62_3).f0) 0 255 true _ A53.out).mono ?_
              rintro e w' ⟨rfl,⟨nd,rfl⟩⟩
              refine ⟨_,rfl,?_⟩
              refine hK.out _ _ ⟨(blk_cell BK273.out 0).trans rfl,(blk_cell BK273.out 1).trans rfl,(blk_cell BK273.out 2).trans rfl,(blk_cell BK273.out 3).trans rfl,(blk_cell BK273.out 4).trans rfl,(blk_cell BK273.out 5).trans rfl⟩ (fun hHeld => ?_)
              clear hK K
              refine norm_ (a' := ?_) ?_ ?_
              rotate_left
              ·show Act.put _ (some 69) _ = _
               simp only [Act.put,p1_,p2_,p3_,i64_w,i32_w]
               rfl
              refine zpu 3 (N := some 70) HT_ ?_
              refine zpu 4 (N := some 71) HT_ ?_
              refine zpu 5 (N := some 72) HT_ ?_
              refine ztk 6 (N := some 73) HT_ HW_ hHeld ?_
              refine zon 7 (N := some 74) HT_ (fun K hK => ?_)
              refine zgo Try.func63 #[.int .i64 ((rd_T84 l0_3 x62_3).f1),.int .i64 1,.int .i64 65535] ?_
              with_reducible refine (impl_within.calls ((rd_T84 l0_3 x62_3).f1) 1 65535 false _ A55.out).mono ?_
              rintro e w' ⟨rfl,⟨nd,rfl⟩⟩
              refine ⟨_,rfl,?_⟩
              refine hK.out _ _ ⟨(blk_cell BK273.out 0).trans rfl,(blk_cell BK273.out 1).trans rfl,(blk_cell BK273.out 2).trans rfl,(blk_cell BK273.out 3).trans rfl,(blk_cell BK273.out 4).trans rfl,(blk_cell BK273.out 5).trans rfl⟩ (fun hHeld => ?_)
              clear hK K
              refine norm_ (a' := ?_) ?_ ?_
              rotate_left
              ·show Act.put _ (some 74) _ = _
               simp only [Act.put,p1_,p2_,p3_,i64_w,i32_w]
               rfl
              refine zpu 8 (N := some 75) HT_ ?_
              refine zpu 9 (N := some 76) HT_ ?_
              refine zpu 10 (N := some 77) HT_ ?_
              refine zpx 11 (N := some 78) HT_ ?_
              refine zpx 12 (N := some 79) HT_ ?_
              refine zpx 13 (N := some 80) HT_ ?_
              refine zpx 14 (N := some 81) HT_ ?_
              refine zpu 15 (N := some 82) HT_ ?_
              refine zpu 16 (N := some 83) HT_ ?_
              refine zpx 17 (N := some 84) HT_ ?_
              refine zpx 18 (N := some 85) HT_ ?_
              refine zpx 19 (N := some 86) HT_ ?_
              refine zpx 20 (N := some 87) HT_ ?_
              refine zpx 21 (N := some 88) HT_ ?_
              refine zpx 22 (N := some 89) HT_ ?_
              refine zpx 23 (N := some 90) HT_ ?_
              refine zpx 24 (N := some 91) HT_ ?_
              refine zpx 25 (N := some 92) HT_ ?_
              refine zpx 26 (N := some 93) HT_ ?_
              refine zpx 27 (N := some 94) HT_ ?_
              refine zpx 28 (N := some 95) HT_ ?_
              refine zpx 29 (N := some 96) HT_ ?_
              refine zpx 30 (N := some 97) HT_ ?_
              refine zpu 31 (N := some 98) HT_ ?_
              refine done_ (done_of HT_.out (by kernel_rfl)) ?_
              try go_wp2
              go_ret
              exact ⟨zt_,zl_ HB⟩
            ·replace c54 := Bool.eq_false_iff.mpr c54
             subst c54
             have H1 : (some false) = some r := by rw [if_neg (show ¬ (false = true) by decide)] at H;exact H
             clear H
             have H := H1
             clear H1
             obtain rfl := Option.some.inj H
             refine start_ (n := 32) (S := fun w' => w'.cell? ⟨gb273,0,none⟩ = some (.int .i64 ((rd_T84 l0_3 x62_3).f0)) ∧ w'.cell? ⟨gb273,1,none⟩ = some (.int .i64 ((rd_T84 l0_3 x62_3).f1)) ∧ w'.cell? ⟨gb273,2,none⟩ = some (.int .i64 ((rd_T84 l0_3 x62_3).f2.f0)) ∧ w'.cell? ⟨gb273,3,none⟩ = some (.int .i64 ((rd_T84 l0_3 x62_3).f2.f1)) ∧ w'.cell? ⟨gb273,4,none⟩ = some (.int .i64 ((rd_T84 l0_3 x62_3).f2.f2)) ∧ w'.cell? ⟨gb273,5,none⟩ = some (.int .i64 ((rd_T84 l0_3 x62_3).f2.f3))) (ds := []) #[false,false,false,false,false,false,false,false,false,false,false,false,false,false,false,false,false,false,false,false,false,false,false,false,false,false,false,false,false,false,false,false] (by kernel_rfl) rfl rfl ⟨(blk_cell BK273.out 0).trans rfl,(blk_cell BK273.out 1).trans rfl,(blk_cell BK273.out 2).trans rfl,(blk_cell BK273.out 3).trans rfl,(blk_cell BK273.out 4).trans rfl,(blk_cell BK273.out 5).trans rfl⟩ (fun hHeld => ?_);refine with_tabW impl_TableOK.tab12 impl_TableOK.bits12 (fun HT_ HW_ => ?_)
             generalize w67.drew = w97 at BK265 BK273 HB hHeld ⊢
             refine zpu 0 (N := some 67) HT_ ?_
             refine ztk 1 (N := some 68) HT_ HW_ hHeld ?_
             refine zon 2 (N := some 69) HT_ (fun K hK => ?_)
             refine zgo Try.func63 #[.int .i64 ((rd_T84 l0_3 x62_3).f0),.int .i64 0,.int .i64 255] ?_
             with_reducible refine (impl_within.calls ((rd_T84 l0_3 x62_3).f0) 0 255 false _ A53.out).mono ?_
             rintro e w' ⟨rfl,⟨nd,rfl⟩⟩
             refine ⟨_,rfl,?_⟩
             refine hK.out _ _ ⟨(blk_cell BK273.out 0).trans rfl,(blk_cell BK273.out 1).trans rfl,(blk_cell BK273.out 2).trans rfl,(blk_cell BK273.out 3).trans rfl,(blk_cell BK273.out 4).trans rfl,(blk_cell BK273.out 5).trans rfl⟩ (fun hHeld => ?_)
             clear hK K
             refine norm_ (a' := ?_) ?_ ?_
             rotate_left
             ·show Act.put _ (some 69) _ = _
              simp only [Act.put,p1_,p2_,p3_,i64_w,i32_w]
              rfl
             refine zpu 3 (N := some 70) HT_ ?_
             refine zpu 4 (N := some 71) HT_ ?_
             refine zpx 5 (N := some 72) HT_ ?_
             refine zpx 6 (N := some 73) HT_ ?_
             refine zpx 7 (N := some 74) HT_ ?_
             refine zpx 8 (N := some 75) HT_ ?_
             refine zpu 9 (N := some 76) HT_ ?_
             refine zpu 10 (N := some 77) HT_ ?_
             refine zpx 11 (N := some 78) HT_ ?_
             refine zpx 12 (N := some 79) HT_ ?_
             refine zpx 13 (N := some 80) HT_ ?_
             refine zpx 14 (N := some 81) HT_ ?_
             refine zpu 15 (N := some 82) HT_ ?_
             refine zpu 16 (N := some 83) HT_ ?_
             refine zpx 17 (N := some 84) HT_ ?_
             refine zpx 18 (N := some 85) HT_ ?_
             refine zpx 19 (N := some 86) HT_ ?_
             refine zpx 20 (N := some 87) HT_ ?_
             refine zpx 21 (N := some 88) HT_ ?_
             refine zpx 22 (N := some 89) HT_ ?_
             refine zpx 23 (N := some 90) HT_ ?_
             refine zpx 24 (N := some 91) HT_ ?_
             refine zpx 25 (N := some 92) HT_ ?_
             refine zpx 26 (N := some 93) HT_ ?_
             refine zpx 27 (N := some 94) HT_ ?_
             refine zpx 28 (N := some 95) HT_ ?_
             refine zpx 29 (N := some 96) HT_ ?_
             refine zpx 30 (N := some 97) HT_ ?_
             refine zpu 31 (N := some 98) HT_ ?_
             refine done_ (done_of HT_.out (by kernel_rfl)) ?_
             try go_wp2
             go_ret
             exact ⟨zt_,zl_ HB⟩
           ·rw [if_neg c52] at H
            exact absurd H (by simp)
          ·rw [if_neg c51] at H
           exact absurd H (by simp)
         ·rw [if_neg c50] at H
          have c50b0 : decide (x62_3 < (l0_3.length : Int)) = false := decide_eq_false c50
          clear c50
          obtain rfl := Option.some.inj H
          go_wp2
          go_ret
          exact ⟨zt_,zl_ HB⟩
set_option maxHeartbeats 8000000 in
set_option maxRecDepth 100000 in
theorem impl_reader_done.calls (g : Nat) (s0_0 : ByteArray) (s0_1 : Bool) (r1 : Bool) (r2 : ByteArray) (r3 : Bool) (w0 w : World) (hI : IsS88 w0 w g s0_0 s0_1) (hB : Below w0.heap.size w0 w) (h : impl_reader_done.f s0_0 s0_1 = some (r1,r2,r3)) :
  Calls Try.prog 51 #[.pointer (some ⟨g,0,none⟩)] w fun e w' => e = .returned (.bool r1) ∧ IsS88 w0 w' g r2 r3 ∧ Below w0.heap.size w0 w' ∧ KeepBut w w' g none := by
 have HI0 := am_ hI
 have HK := am_ (KeepBut.refl w g none)
 have HL := am_ hB.size
 clear hI
 have HW0 := am_ hB.size
 have HB := am_ hB
 clear hB
 have H : (if s0_1 = true then (some (false,s0_0,s0_1)) else (some ((s0_0.toList == ([] : List UInt8)),s0_0,s0_1))) = some (r1,r2,r3) := h
 clear h
 by_cases c2 : s0_1 = true
 ·subst c2
  have H1 : (some (false,s0_0,true)) = some (r1,r2,r3) := by rw [if_pos rfl] at H;exact H
  clear H
  have H := H1
  clear H1
  simp only [Option.some.injEq,Prod.mk.injEq] at H
  obtain ⟨rfl,rfl,rfl⟩ := H
  obtain ⟨HGz3,hgz3⟩ := HI0.out
  have hcz3_0 := cellS88_0 HGz3
  have hcz3_1 := cellS88_1 HGz3
  have hfz3_0 := blk_frozen HGz3 0
  have hfz3_1 := blk_frozen HGz3 1
  clear HGz3 hgz3
  go_enter Try.func51,Try.ntmps51
  go_wp2
  go_ret
  exact ⟨zt_,(zi88 HI0),zl_ HB,zh_ HK⟩
 ·replace c2 := Bool.eq_false_iff.mpr c2
  subst c2
  have H1 : (some ((s0_0.toList == ([] : List UInt8)),s0_0,false)) = some (r1,r2,r3) := by rw [if_neg (show ¬ (false = true) by decide)] at H;exact H
  clear H
  have H := H1
  clear H1
  simp only [Option.some.injEq,Prod.mk.injEq] at H
  obtain ⟨rfl,rfl,rfl⟩ := H
  obtain ⟨HGz4,hgz4⟩ := HI0.out
  have hcz4_0 := cellS88_0 HGz4
  have hcz4_1 := cellS88_1 HGz4
  have hfz4_0 := blk_frozen HGz4 0
  have hfz4_1 := blk_frozen HGz4 1
  clear HGz4 hgz4
  go_enter Try.func51,Try.ntmps51
  go_wp2
  go_ret
  exact ⟨zt_,(zi88 HI0),zl_ HB,zh_ HK⟩
set_option maxHeartbeats 8000000 in
set_option maxRecDepth 100000 in
theorem impl_reader_take.calls (g : Nat) (s0_0 : ByteArray) (s0_1 : Bool) (a1 : Int) (r1 : ByteArray) (r2 : ByteArray) (r3 : Bool) (w0 w : World) (hI : IsS88 w0 w g s0_0 s0_1) (hB : Below w0.heap.size w0 w) (h : impl_reader_take.f s0_0 s0_1 a1 = some (r1,r2,r3)) :
  Calls Try.prog 76 #[.pointer (some ⟨g,0,none⟩),.int .i64 a1] w fun e w' => e = .returned (.string r1) ∧ IsS88 w0 w' g r2 r3 ∧ Below w0.heap.size w0 w' ∧ KeepBut w w' g none := by
 have HI0 := am_ hI
 have HK := am_ (KeepBut.refl w g none)
 have HL := am_ hB.size
 clear hI
 have HW0 := am_ hB.size
 have HB := am_ hB
 clear hB
 have H : (if s0_1 = true then (some ((⟨#[]⟩ : ByteArray),s0_0,true)) else (if a1 > (s0_0.size : Int) then (some ((⟨#[]⟩ : ByteArray),s0_0,true)) else (if 0 ≤ a1 then (if a1 ≤ (s0_0.size : Int) then (some (s0_0.extract 0 (a1 : Int).toNat,s0_0.extract (a1 : Int).toNat s0_0.size,s0_1)) else (none)) else (none)))) = some (r1,r2,r3) := h
 clear h
 by_cases c3 : s0_1 = true
 ·subst c3
  have H1 : (some ((⟨#[]⟩ : ByteArray),s0_0,true)) = some (r1,r2,r3) := by rw [if_pos rfl] at H;exact H
  clear H
  have H := H1
  clear H1
  simp only [Option.some.injEq,Prod.mk.injEq] at H
  obtain ⟨rfl,rfl,rfl⟩ := H
  obtain ⟨HGz4,hgz4⟩ := HI0.out
  have hcz4_0 := cellS88_0 HGz4
  have hcz4_1 := cellS88_1 HGz4
  have hfz4_0 := blk_frozen HGz4 0
  have hfz4_1 := blk_frozen HGz4 1
  clear HGz4 hgz4
  go_enter Try.func76,Try.ntmps76
  go_wp2
  go_ret
  exact ⟨zt_,(zi88 HI0),zl_ HB,zh_ HK⟩
 ·replace c3 := Bool.eq_false_iff.mpr c3
  subst c3
  have H1 : (if a1 > (s0_0.size : Int) then (some ((⟨#[]⟩ : ByteArray),s0_0,true)) else (if 0 ≤ a1 then (if a1 ≤ (s0_0.size : Int) then (some (s0_0.extract 0 (a1 : Int).toNat,s0_0.extract (a1 : Int).toNat s0_0.size,false)) else (none)) else (none))) = some (r1,r2,r3) := by rw [if_neg (show ¬ (false = true) by decide)] at H;exact H
  clear H
  have H := H1
  clear H1
  by_cases c5 : a1 > (s0_0.size : Int)
  ·rw [if_pos c5] at H
   have c5b0 : decide ((s0_0.size : Int) < a1) = true := decide_eq_true c5
   clear c5
   simp only [Option.some.injEq,Prod.mk.injEq] at H
   obtain ⟨rfl,rfl,rfl⟩ := H
   obtain ⟨HGz6,hgz6⟩ := HI0.out
   have hcz6_0 := cellS88_0 HGz6
   have hcz6_1 := cellS88_1 HGz6
   have hfz6_0 := blk_frozen HGz6 0
   have hfz6_1 := blk_frozen HGz6 1
   clear HGz6 hgz6
   go_enter Try.func76,Try.ntmps76
   go_wp2
   go_ret
   exact ⟨zt_,(zi88 HI0),zl_ HB,zh_ HK⟩
  ·rw [if_neg c5] at H
   have c5b0 : decide ((s0_0.size : Int) < a1) = false := decide_eq_false c5
   clear c5
   by_cases c7 : 0 ≤ a1
   ·rw [if_pos c7] at H
    have c7b0 := eq_true c7
    have c7b1 : decide (0 ≤ a1) = true := decide_eq_true c7
    clear c7
    by_cases c8 : a1 ≤ (s0_0.size : Int)
    ·rw [if_pos c8] at H
     have c8b0 := eq_true c8
     have c8b1 : decide (a1 ≤ (s0_0.size : Int)) = true := decide_eq_true c8
     clear c8
     have c9b0 := eq_true (zo_ : 0 ≤ a1)
     have c10b0 := eq_true (zo_ : a1 ≤ (s0_0.size : Int))
     simp only [Option.some.injEq,Prod.mk.injEq] at H
     obtain ⟨rfl,rfl,rfl⟩ := H
     obtain ⟨HGz11,hgz11⟩ := HI0.out
     have hcz11_0 := cellS88_0 HGz11
     have hcz11_1 := cellS88_1 HGz11
     have hfz11_0 := blk_frozen HGz11 0
     have hfz11_1 := blk_frozen HGz11 1
     clear HGz11 hgz11
     go_enter Try.func76,Try.ntmps76
     go_wp2
     go_ret
     exact ⟨zt_,(zi88 HI0),zl_ HB,zh_ HK⟩
    ·rw [if_neg c8] at H
     exact absurd H (by simp)
   ·rw [if_neg c7] at H
    exact absurd H (by simp)
set_option maxHeartbeats 8000000 in
set_option maxRecDepth 100000 in
theorem impl_reader_number.calls (k : Nat) (g : Nat) (s0_0 : ByteArray) (s0_1 : Bool) (a1 : Int) (r1 : Int) (r2 : ByteArray) (r3 : Bool) (w0 w : World) (hI : IsS88 w0 w g s0_0 s0_1) (hB : Below w0.heap.size w0 w) (h : impl_reader_number.f k s0_0 s0_1 a1 = some (r1,r2,r3)) :
  Calls Try.prog 49 #[.pointer (some ⟨g,0,none⟩),.int .i64 a1] w fun e w' => e = .returned (.int .i64 r1) ∧ IsS88 w0 w' g r2 r3 ∧ Below w0.heap.size w0 w' ∧ KeepBut w w' g none := by
 have HI0 := am_ hI
 have HK := am_ (KeepBut.refl w g none)
 have HL := am_ hB.size
 clear hI
 have HW0 := am_ hB.size
 have HB := am_ hB
 clear hB
 have H : ((impl_reader_take.f s0_0 s0_1 a1).bind fun bt234 => (if bt234.1.size ≤ 140737488355328 then ((some (bytesOf bt234.1 : List Int)).bind fun y237 => (impl_reader_number.l0 k 0 y237 (y237.length : Int) 0 bt234.2.1 bt234.2.2)) else (none))) = some (r1,r2,r3) := h
 clear h
 replace H := Option.bind_eq_some_iff.mp H
 obtain ⟨⟨t234,t235,t236⟩,A30,H⟩ := H
 try dsimp only at H
 have A3 := am_ A30
 clear A30
 by_cases c4 : t234.size ≤ 140737488355328
 ·rw [if_pos c4] at H
  have c4b0 := eq_true c4
  have c4b1 : decide (t234.size ≤ 140737488355328) = true := decide_eq_true c4
  clear c4
  obtain ⟨y237,hy237⟩ : ∃ y_ : List Int,y_ = (bytesOf t234) := ⟨_,rfl⟩
  replace H : (impl_reader_number.l0 k 0 y237 (y237.length : Int) 0 t235 t236) = some (r1,r2,r3) := by first | (rw [hy237];with_reducible exact H) | (have H2_ := (Option.bind_some _ _).symm.trans H;rw [hy237];with_reducible exact H2_) | (have H2_ := (Option.bind_some _ _).symm.trans H;with_reducible exact H2_) | with_reducible exact H | (rw [hy237];exact H) | exact H
  have Ny237 := am_ hy237
  clear hy237
  have H' := am_ H
  clear H
  go_enter Try.func49,Try.ntmps49
  go_wp2_with (first | ((with_reducible refine gate_callee (f := 76) rfl ?_);refine zgl (some 10) Try.func76 #[.pointer (some ⟨g,0,none⟩),.int .i64 a1] ?_;(with_reducible refine (impl_reader_take.calls g s0_0 s0_1 a1 t234 t235 t236 w0 _ ?side1 ?side2 A3.out).mono ?_);(case side1 => exact zi88 HI0);(case side2 => exact zl_ HB);rintro e w5 ⟨rfl,hi,hb,hk⟩;refine ⟨_,rfl,?_⟩;replace HK := am_ (KeepBut.trans (zh_ HK) hk (.inl rfl));replace HB := am_ (hb);replace HI0 := am_ (hi);(try clear hb);(try clear hb2);(try clear hk);(try clear hi)) | ((with_reducible refine gate_dst (N := 11) rfl ?_);refine Kd.V_conv (Kd.int .u8) rfl _ 5 rfl (N := 11) rfl 9 22 _ rfl t234 rfl Try.underlying9 Try.underlying22 Try.underlying5 (ok := fun k_ => w5.heap.size ≤ k_) (okp := fun _ => False) (fun _ hk => hk.elim) (Nat.le_refl _) (by have := o1_ (by first | (with_reducible assumption) | assumption : decide (t234.size ≤ 140737488355328) = true);omega) (Below.refl _ _) (Nat.le_refl _) ?_;intro v238 w6 ho7 hb hg_ hnew_;clear hg_ hnew_;(first | rw [← Ny237.out] at ho7 | (simp only [Int.reduceToNat] at ho7;rw [← Ny237.out] at ho7));have HO239 := am_ (Kd.V_lower (Kd.V_mono (ok' := fun k_ => k_ ≠ g) ho7 (fun k_ hk_ => (IsS88.fresh (zi88 HI0) k_ hk_))) (keep_size (w := w) (g := g) (row := none) (zh_ HK)));replace HI0 := am_ (IsS88.below (zi88 HI0) hb);replace HK := am_ (KeepBut.trans (zh_ HK) (KeepBut.of_below hb g none) (.inl rfl));replace HB := zs_ HB hb;clear hb ho7;obtain ⟨Ao8,co8,eo8⟩ := Kd.V_slice HO239.out;subst eo8))
  go_loopg [5,13] k (fun kq v5 v13 w' => ∃ (x5_1 : Int) (x13_1 : Int),v5 = .int .i64 x5_1 ∧ v13 = .int .i64 x13_1 ∧ Aside0 (impl_reader_number.l0 kq x5_1 y237 (y237.length : Int) x13_1 t235 t236 = some (r1,r2,r3)) ∧ Aside0 (kq ≤ k) ∧ Aside0 (Kd.V (Kd.int .u8) 5 w' w.heap.size (fun k_ => k_ ≠ g) (.slice Ao8 y237.length co8) y237) ∧ Aside0 (IsS88 w0 w' g t235 t236) ∧ Aside0 (KeepBut w w' g none) ∧ Aside0 (Below w0.heap.size w0 w'))
  case atStart => exact ⟨(0),(0),(by first | rfl | (simp;done) | (simp [*];done)),(by first | rfl | (simp;done) | (simp [*];done)),H',⟨Nat.le_refl _⟩,⟨by (with_reducible repeat (first | apply Kd.V_alloc | apply Kd.V_drewN | apply Kd.V_drew));exact HO239.out⟩,⟨(zi88 HI0)⟩,⟨zh_ HK⟩,⟨zl_ HB⟩⟩
  case round =>
   clear H'
   try clear p2
   try clear c4
   try clear c4b0
   try clear c4b1
   try clear c7
   obtain ⟨x5_1,x13_1,rfl,rfl,HA,HK1,HO_11,HI0,HK,HB⟩ := hrel
   cases gk with
   | zero => exact absurd HA.out (by simp [impl_reader_number.l0])
   | succ k1 =>
    have H := HA.out
    clear HA
    simp only [impl_reader_number.l0] at H
    by_cases c9 : x13_1 < (y237.length : Int)
    ·rw [if_pos c9] at H
     have c9b0 : decide (x13_1 < (y237.length : Int)) = true := decide_eq_true c9
     clear c9
     by_cases c10 : 0 ≤ x13_1
     ·rw [if_pos c10] at H
      have c10b0 : decide (0 ≤ x13_1) = true := decide_eq_true c10
      clear c10
      by_cases c11 : x13_1 < (y237.length : Int)
      ·rw [if_pos c11] at H
       have c11b0 : decide (x13_1 < (y237.length : Int)) = true := decide_eq_true c11
       clear c11
       have H' := am_ H
       clear H
       have p240 : 0 ≤ (x13_1 : Int) := zo_
       have q240 : x13_1 < (y237.length : Int) := zo_
       obtain ⟨ad240,e240,hx240_0⟩ := Kd.at_int (Kd.V_reads' HO_11.out).2.2 x13_1 p240 q240
       cases e240
       replace p240 := eq_true p240
       replace q240 := eq_true q240
       go_wp2
       go_roundg k1
       case measure => have := HK1.out;omega
       case rel => exact ⟨(Go.bits .or .i64 (wrap64 (x5_1 * 256)) (wrap64 (rd y237 x13_1))),(wrap64 (x13_1 + 1)),(by first | rfl | (simp;done) | (simp [*];done)),(by first | rfl | (simp;done) | (simp [*];done)),H',⟨by have := HK1.out;omega⟩,⟨by (with_reducible repeat (first | apply Kd.V_alloc | apply Kd.V_drewN | apply Kd.V_drew));exact HO_11.out⟩,⟨(zi88 HI0)⟩,⟨zh_ HK⟩,⟨zl_ HB⟩⟩
      ·rw [if_neg c11] at H
       exact absurd H (by simp)
     ·rw [if_neg c10] at H
      exact absurd H (by simp)
    ·rw [if_neg c9] at H
     have c9b0 : decide (x13_1 < (y237.length : Int)) = false := decide_eq_false c9
     clear c9
     simp only [Option.some.injEq,Prod.mk.injEq] at H
     obtain ⟨rfl,rfl,rfl⟩ := H
     go_wp2
     go_ret
     exact ⟨zt_,(zi88 HI0),zl_ HB,zh_ HK⟩
 ·rw [if_neg c4] at H
  exact absurd H (by simp)
set_option maxHeartbeats 8000000 in
set_option maxRecDepth 100000 in
theorem impl_reader_sized.calls (k : Nat) (g : Nat) (s0_0 : ByteArray) (s0_1 : Bool) (a1 : Int) (r1 : ByteArray) (r2 : ByteArray) (r3 : Bool) (w0 w : World) (hI : IsS88 w0 w g s0_0 s0_1) (hB : Below w0.heap.size w0 w) (h : impl_reader_sized.f k s0_0 s0_1 a1 = some (r1,r2,r3)) :
  Calls Try.prog 50 #[.pointer (some ⟨g,0,none⟩),.int .i64 a1] w fun e w' => e = .returned (.string r1) ∧ IsS88 w0 w' g r2 r3 ∧ Below w0.heap.size w0 w' ∧ KeepBut w w' g none := by
 have HI0 := am_ hI
 have HK := am_ (KeepBut.refl w g none)
 have HL := am_ hB.size
 clear hI
 have HW0 := am_ hB.size
 have HB := am_ hB
 clear hB
 have H : ((impl_reader_number.f k s0_0 s0_1 a1).bind fun bt241 => ((impl_reader_take.f bt241.2.1 bt241.2.2 bt241.1).bind fun bt244 => (some (bt244.1,bt244.2.1,bt244.2.2)))) = some (r1,r2,r3) := h
 clear h
 replace H := Option.bind_eq_some_iff.mp H
 obtain ⟨⟨t241,t242,t243⟩,A30,H⟩ := H
 try dsimp only at H
 have A3 := am_ A30
 clear A30
 replace H := Option.bind_eq_some_iff.mp H
 obtain ⟨⟨t244,t245,t246⟩,A40,H⟩ := H
 try dsimp only at H
 have A4 := am_ A40
 clear A40
 simp only [Option.some.injEq,Prod.mk.injEq] at H
 obtain ⟨rfl,rfl,rfl⟩ := H
 go_enter Try.func50,Try.ntmps50
 go_wp2_with (first | ((with_reducible refine gate_callee (f := 49) rfl ?_);refine zgl (some 8) Try.func49 #[.pointer (some ⟨g,0,none⟩),.int .i64 a1] ?_;(with_reducible refine (impl_reader_number.calls k g s0_0 s0_1 a1 t241 t242 t243 w0 _ ?side1 ?side2 A3.out).mono ?_);(case side1 => exact zi88 HI0);(case side2 => exact zl_ HB);rintro e w5 ⟨rfl,hi,hb,hk⟩;refine ⟨_,rfl,?_⟩;replace HK := am_ (KeepBut.trans (zh_ HK) hk (.inl rfl));replace HB := am_ (hb);replace HI0 := am_ (hi);(try clear hb);(try clear hb2);(try clear hk);(try clear hi)) | ((with_reducible refine gate_callee (f := 76) rfl ?_);refine zgl (some 9) Try.func76 #[.pointer (some ⟨g,0,none⟩),.int .i64 t241] ?_;(with_reducible refine (impl_reader_take.calls g t242 t243 t241 t244 t245 t246 w0 _ ?side1 ?side2 A4.out).mono ?_);(case side1 => exact zi88 HI0);(case side2 => exact zl_ HB);rintro e w6 ⟨rfl,hi,hb,hk⟩;refine ⟨_,rfl,?_⟩;replace HK := am_ (KeepBut.trans (zh_ HK) hk (.inl rfl));replace HB := am_ (hb);replace HI0 := am_ (hi);(try clear hb);(try clear hb2);(try clear hk);(try clear hi)))
 go_ret
 exact ⟨zt_,(zi88 HI0),zl_ HB,zh_ HK⟩
def impl_readTable.T8 : Bool × List (List Nat × List Nat) := (true,[([],[]),([0],[0]),([],[]),([2],[2]),([],[]),([4,3],[4]),([3,5],[3,5]),([6],[6]),([1,7,5],[1,7]),([0,1,2,3,4,5,6,7,8],[]),([9,8,8,0,1,2,3,4,5,6,7,8],[8,9])])
def impl_readTable.B8 : List Nat := [0,1,0,4,0,28,60,124,255,511,1023]
theorem impl_readTable.tab8 : rtab .any (opsOf Try.f22 8) = impl_readTable.T8 := by kernel_rfl
theorem impl_readTable.bits8 : waitsOk impl_readTable.T8.2 impl_readTable.B8 = true := by kernel_rfl
set_option maxHeartbeats 8000000 in
set_option maxRecDepth 100000 in
theorem impl_readTable.calls (k : Nat) (a0 : ByteArray) (r1 : Int) (r2 : Int) (r3 : List (S78)) (r4 : List (S84)) (r5 : Bool) (w : World) (h : impl_readTable.f k a0 = some (r1,r2,r3,r4,r5)) :
  Calls Try.prog 22 #[.string a0] w fun e w' => ∃ v2_ v3_ : Value,e = .returned (.tuple #[.agg #[.int .i64 r1,.int .i64 r2,v2_,v3_],.bool r5]) ∧ Kd.S k78 78 w' w.heap.size (fun _ => True) v2_ r3 ∧ Kd.R k84 84 w' w.heap.size (fun _ => True) v3_ r4 ∧ Below w.heap.size w w' := by
 have hu26 := Try.underlying26
 have hu88 := Try.underlying88
 have hu78 := Try.underlying78
 have hu80 := Try.underlying80
 have hu84 := Try.underlying84
 have hu82 := Try.underlying82
 have HB := am_ (Below.refl w.heap.size w)
 have H : ((impl_reader_number.f k a0 false 4).bind fun bt280 => ((impl_reader_number.f k bt280.2.1 bt280.2.2 3).bind fun bt283 => ((impl_reader_number.f k bt283.2.1 bt283.2.2 1).bind fun bt287 => (impl_readTable.l0 k bt287.1 0 bt287.2.1 bt287.2.2 bt280.1 bt283.1 ([] : List (S78)))))) = some (r1,r2,r3,r4,r5) := h
 clear h
 replace H := Option.bind_eq_some_iff.mp H
 obtain ⟨⟨t280,t281,t282⟩,A20,H⟩ := H
 try dsimp only at H
 have A2 := am_ A20
 clear A20
 replace H := Option.bind_eq_some_iff.mp H
 obtain ⟨⟨t283,t284,t285⟩,A30,H⟩ := H
 try dsimp only at H
 have A3 := am_ A30
 clear A30
 replace H := Option.bind_eq_some_iff.mp H
 obtain ⟨⟨t287,t288,t289⟩,A40,H⟩ := H
 try dsimp only at H
 have A4 := am_ A40
 clear A40
 have H' := am_ H
 clear H
 go_enter Try.func22,Try.ntmps22
 go_wp2_with (first | ((with_reducible refine gate_dst (N := 2) rfl ?_);refine zbx (N := 2) (cs := #[.int .i64 0,.int .i64 0,.slice none 0 0,.slice none 0 0]) (t := 26) ?_;intro gb278 hg w5 hbox hb;have BK278 := am_ (hbox);have GW278 := zw_ HB hg;have GE278 := zw_ HB hg;replace HB := zs_ HB hb;clear hb hbox hg) | ((with_reducible refine gate_dst (N := 10) rfl ?_);refine zbx (N := 10) (cs := #[.string a0,.bool false]) (t := 88) ?_;intro g279 hg w6 hbox hb;have HI279 := am_ ((show IsS88 w _ g279 a0 false from ⟨hbox,(by rw [hg];exact (below_size (zl_ HB)) : w.heap.size ≤ g279)⟩));replace HB := zs_ HB hb;have NB279_278 := zg hg BK278;have NB278_279 := zl hg BK278;replace BK278 := zb BK278 hb;clear hb hbox hg) | ((with_reducible refine gate_callee (f := 49) rfl ?_);refine zgl (some 12) Try.func49 #[.pointer (some ⟨g279,0,none⟩),.int .i64 4] ?_;(with_reducible refine (impl_reader_number.calls k g279 a0 false 4 t280 t281 t282 w _ ?side1 ?side2 A2.out).mono ?_);(case side1 => exact zi88 HI279);(case side2 => exact zl_ HB);rintro e w7 ⟨rfl,hi,hb,hk⟩;refine ⟨_,rfl,?_⟩;replace BK278 := zkb hk BK278 NB278_279;replace HB := am_ (hb);replace HI279 := am_ (hi);(try clear hb);(try clear hb2);(try clear hk);(try clear hi)) | ((with_reducible refine gate_callee (f := 49) rfl ?_);refine zgl (some 14) Try.func49 #[.pointer (some ⟨g279,0,none⟩),.int .i64 3] ?_;(with_reducible refine (impl_reader_number.calls k g279 t281 t282 3 t283 t284 t285 w _ ?side1 ?side2 A3.out).mono ?_);(case side1 => exact zi88 HI279);(case side2 => exact zl_ HB);rintro e w8 ⟨rfl,hi,hb,hk⟩;refine ⟨_,rfl,?_⟩;replace BK278 := zkb hk BK278 NB278_279;replace HB := am_ (hb);replace HI279 := am_ (hi);(try clear hb);(try clear hb2);(try clear hk);(try clear hi)) | ((with_reducible refine gate_dst (N := 5) rfl ?_);refine zbx (N := 5) (cs := #[.int .i64 0,.int .i64 0,.slice none 0 0,.slice none 0 0]) (t := 26) ?_;intro gb286 hg w9 hbox hb;have BK286 := am_ (hbox);have GW286 := zw_ HB hg;have GE286 := zw_ HB hg;replace HB := zs_ HB hb;have NB278_286 := zl hg BK278;have NB286_278 := zg hg BK278;replace BK278 := zb BK278 hb;have NB279_286 := am_ ((by rw [hg];exact Nat.ne_of_lt (IsS88.lt (show IsS88 w _ g279 t284 t285 from (zi88 HI279))) : g279 ≠ gb286));have NB286_279 := am_ ((by rw [hg];exact Nat.ne_of_gt (IsS88.lt (show IsS88 w _ g279 t284 t285 from (zi88 HI279))) : gb286 ≠ g279));replace HI279 := am_ (IsS88.below (zi88 HI279) hb);clear hb hbox hg;have hnb10 := NB286_278.out;have hnc10 := NB278_286.out;have hnb11 := NB286_279.out;have hnc11 := NB279_286.out;obtain ⟨hcz12_0,hcz12_1,hcz12_2,hcz12_3,hfz12_0,hfz12_1,hfz12_2,hfz12_3⟩ := zc4 BK286) | ((with_reducible refine gate_callee (f := 49) rfl ?_);refine zgl (some 17) Try.func49 #[.pointer (some ⟨g279,0,none⟩),.int .i64 1] ?_;(with_reducible refine (impl_reader_number.calls k g279 t284 t285 1 t287 t288 t289 w _ ?side1 ?side2 A4.out).mono ?_);(case side1 => exact zi88 HI279);(case side2 => exact zl_ HB);rintro e w13 ⟨rfl,hi,hb,hk⟩;refine ⟨_,rfl,?_⟩;replace BK278 := am_ (KeepBut.blk hk (g' := gb278) (o := .cells #[.int .i64 0,.int .i64 0,.slice none 0 0,.slice none 0 0] 26 (0,0)) (zq BK278) NB278_279.out (by simp));replace BK286 := am_ (KeepBut.blk hk (g' := gb286) (o := .cells #[.int .i64 t280,.int .i64 t283,.slice none 0 0,.slice none 0 0] 26 (0,0)) (zq BK286) NB286_279.out (by simp));replace HB := am_ (hb);replace HI279 := am_ (hi);(try clear hb);(try clear hb2);(try clear hk);(try clear hi)))
 go_loopg [18] k (fun kq v18 w' => ∃ (x18_1 : Int) (x280000_1 : ByteArray) (x280001_1 : Bool) (x287002_1 : List (S78)) (u287002 : Value),v18 = .int .i64 x18_1 ∧ Aside0 (impl_readTable.l0 kq t287 x18_1 x280000_1 x280001_1 t280 t283 x287002_1 = some (r1,r2,r3,r4,r5)) ∧ Aside0 (kq ≤ k) ∧ Aside0 (Kd.S k78 78 w' w.heap.size (fun _ => True) u287002 x287002_1) ∧ Aside0 (w'.heap[gb278]? = some (.cells #[.int .i64 0,.int .i64 0,(.slice none 0 0),(.slice none 0 0)] 26 (0,0))) ∧ Aside0 (w'.heap[gb286]? = some (.cells #[.int .i64 t280,.int .i64 t283,u287002,(.slice none 0 0)] 26 (0,0))) ∧ Aside0 (IsS88 w w' g279 x280000_1 x280001_1) ∧ Aside0 (Below w.heap.size w w'))
 case atStart => exact ⟨(0),(t288),(t289),(([] : List (S78))),(.slice none 0 0),(by first | rfl | (simp;done) | (simp [*];done)),H',⟨Nat.le_refl _⟩,⟨by first | exact Kd.S_nil _ _ _ _ _ | exact Kd.N_nil _ _ _ _ _ | exact Kd.V_nil _ _ _ _ _ | exact Kd.Q_nil _ _ _ _ _ | exact Kd.R_nil _ _ _ _ _⟩,⟨by (with_reducible repeat (first | apply k1_ | apply k2_ | apply k3_));exact BK278.out⟩,⟨by (with_reducible repeat (first | apply k1_ | apply k2_ | apply k3_));exact BK286.out⟩,⟨(zi88 HI279)⟩,⟨zl_ HB⟩⟩
 case round =>
  clear H'
  try clear c1
  try clear c2
  try clear p2
  try clear c4
  try clear c10
  try clear c11
  try clear hcz12_0
  try clear hcz12_1
  try clear hcz12_2
  try clear hcz12_3
  try clear hfz12_0
  try clear hfz12_1
  try clear hfz12_2
  try clear hfz12_3
  obtain ⟨x18_1,x280000_1,x280001_1,x287002_1,u287002,rfl,HA,HK1,HO_287002,BK278,BK286,HI279,HB⟩ := hrel
  cases gk with
  | zero => exact absurd HA.out (by simp [impl_readTable.l0])
  | succ k1 =>
   have H := HA.out
   clear HA
   simp only [impl_readTable.l0] at H
   by_cases c14 : x18_1 < t287
   ·rw [if_pos c14] at H
    have c14b0 : decide (x18_1 < t287) = true := decide_eq_true c14
    clear c14
    replace H := Option.bind_eq_some_iff.mp H
    obtain ⟨⟨t290,t291,t292⟩,A150,H⟩ := H
    try dsimp only at H
    have A15 := am_ A150
    clear A150
    replace H := Option.bind_eq_some_iff.mp H
    obtain ⟨⟨t293,t294,t295⟩,A160,H⟩ := H
    try dsimp only at H
    have A16 := am_ A160
    clear A160
    replace H := Option.bind_eq_some_iff.mp H
    obtain ⟨⟨t296,t297,t298⟩,A170,H⟩ := H
    try dsimp only at H
    have A17 := am_ A170
    clear A170
    replace H := Option.bind_eq_some_iff.mp H
    obtain ⟨⟨t299,t300,t301⟩,A180,H⟩ := H
    try dsimp only at H
    have A18 := am_ A180
    clear A180
    replace H := Option.bind_eq_some_iff.mp H
    obtain ⟨⟨t303,t304,t305⟩,A190,H⟩ := H
    try dsimp only at H
    have A19 := am_ A190
    clear A190
    have H' := am_ H
    clear H
    go_wp2_with (first | ((with_reducible refine gate_callee (f := 50) rfl ?_);refine zgl (some 21) Try.func50 #[.pointer (some ⟨g279,0,none⟩),.int .i64 1] ?_;(with_reducible refine (impl_reader_sized.calls k1 g279 x280000_1 x280001_1 1 t290 t291 t292 w _ ?side1 ?side2 A15.out).mono ?_);(case side1 => exact zi88 HI279);(case side2 => exact zl_ HB);rintro e w20 ⟨rfl,hi,hb,hk⟩;refine ⟨_,rfl,?_⟩;replace HO_287002 := am_ (Kd.S_mono (Kd.S_keep (IsS88.apartS (show IsS88 w _ g279 x280000_1 x280001_1 from (zi88 HI279)) (by (with_reducible repeat (first | apply Kd.S_alloc | apply Kd.S_drewN | apply Kd.S_drew));exact HO_287002.out) (by decide)) hk (fun _ h => h.2)) (fun _ h => h.1));replace BK278 := zkb hk BK278 NB278_279;replace BK286 := zkb hk BK286 NB286_279;replace HB := am_ (hb);replace HI279 := am_ (hi);(try clear hb);(try clear hb2);(try clear hk);(try clear hi)) | ((with_reducible refine gate_callee (f := 49) rfl ?_);refine zgl (some 23) Try.func49 #[.pointer (some ⟨g279,0,none⟩),.int .i64 3] ?_;(with_reducible refine (impl_reader_number.calls k1 g279 t291 t292 3 t293 t294 t295 w _ ?side1 ?side2 A16.out).mono ?_);(case side1 => exact zi88 HI279);(case side2 => exact zl_ HB);rintro e w21 ⟨rfl,hi,hb,hk⟩;refine ⟨_,rfl,?_⟩;replace HO_287002 := am_ (Kd.S_mono (Kd.S_keep (IsS88.apartS (show IsS88 w _ g279 t291 t292 from (zi88 HI279)) (by (with_reducible repeat (first | apply Kd.S_alloc | apply Kd.S_drewN | apply Kd.S_drew));exact HO_287002.out) (by decide)) hk (fun _ h => h.2)) (fun _ h => h.1));replace BK278 := zkb hk BK278 NB278_279;replace BK286 := zkb hk BK286 NB286_279;replace HB := am_ (hb);replace HI279 := am_ (hi);(try clear hb);(try clear hb2);(try clear hk);(try clear hi)) | ((with_reducible refine gate_callee (f := 49) rfl ?_);refine zgl (some 25) Try.func49 #[.pointer (some ⟨g279,0,none⟩),.int .i64 2] ?_;(with_reducible refine (impl_reader_number.calls k1 g279 t294 t295 2 t296 t297 t298 w _ ?side1 ?side2 A17.out).mono ?_);(case side1 => exact zi88 HI279);(case side2 => exact zl_ HB);rintro e w22 ⟨rfl,hi,hb,hk⟩;refine ⟨_,rfl,?_⟩;replace HO_287002 := am_ (Kd.S_mono (Kd.S_keep (IsS88.apartS (show IsS88 w _ g279 t294 t295 from (zi88 HI279)) (by (with_reducible repeat (first | apply Kd.S_alloc | apply Kd.S_drewN | apply Kd.S_drew));exact HO_287002.out) (by decide)) hk (fun _ h => h.2)) (fun _ h => h.1));replace BK278 := zkb hk BK278 NB278_279;replace BK286 := zkb hk BK286 NB286_279;replace HB := am_ (hb);replace HI279 := am_ (hi);(try clear hb);(try clear hb2);(try clear hk);(try clear hi)) | ((with_reducible refine gate_callee (f := 49) rfl ?_);refine zgl (some 28) Try.func49 #[.pointer (some ⟨g279,0,none⟩),.int .i64 4] ?_;(with_reducible refine (impl_reader_number.calls k1 g279 t297 t298 4 t299 t300 t301 w _ ?side1 ?side2 A18.out).mono ?_);(case side1 => exact zi88 HI279);(case side2 => exact zl_ HB);rintro e w23 ⟨rfl,hi,hb,hk⟩;refine ⟨_,rfl,?_⟩;replace HO_287002 := am_ (Kd.S_mono (Kd.S_keep (IsS88.apartS (show IsS88 w _ g279 t297 t298 from (zi88 HI279)) (by (with_reducible repeat (first | apply Kd.S_alloc | apply Kd.S_drewN | apply Kd.S_drew));exact HO_287002.out) (by decide)) hk (fun _ h => h.2)) (fun _ h => h.1));replace BK278 := zkb hk BK278 NB278_279;replace BK286 := zkb hk BK286 NB286_279;replace HB := am_ (hb);replace HI279 := am_ (hi);(try clear hb);(try clear hb2);(try clear hk);(try clear hi)) | ((with_reducible refine gate_dst (N := 6) rfl ?_);refine zbx (N := 6) (cs := #[.string ⟨#[]⟩,.int .i64 0,.int .i64 0,.int .i64 0,.slice none 0 0]) (t := 78) ?_;intro gb302 hg w24 hbox hb;replace HO_287002 := am_ (Kd.S_below (Kd.S_elderB (by (with_reducible repeat (first | apply Kd.S_alloc | apply Kd.S_drewN | apply Kd.S_drew));exact HO_287002.out) gb302 (Nat.le_of_eq hg.symm)) hb);have BK302 := am_ (hbox);have GW302 := zw_ HB hg;have GE302 := zw_ HB hg;replace HB := zs_ HB hb;have NB278_302 := zl hg BK278;have NB302_278 := zg hg BK278;replace BK278 := zb BK278 hb;have NB286_302 := zl hg BK286;have NB302_286 := zg hg BK286;replace BK286 := zb BK286 hb;have NB279_302 := am_ ((by rw [hg];exact Nat.ne_of_lt (IsS88.lt (show IsS88 w _ g279 t300 t301 from (zi88 HI279))) : g279 ≠ gb302));have NB302_279 := am_ ((by rw [hg];exact Nat.ne_of_gt (IsS88.lt (show IsS88 w _ g279 t300 t301 from (zi88 HI279))) : gb302 ≠ g279));replace HI279 := am_ (IsS88.below (zi88 HI279) hb);clear hb hbox hg;have hnb25 := NB302_278.out;have hnc25 := NB278_302.out;have hnb26 := NB302_286.out;have hnc26 := NB286_302.out;have hnb27 := NB302_279.out;have hnc27 := NB279_302.out;obtain ⟨hcz28_0,hcz28_1,hcz28_2,hcz28_3,hcz28_4,hfz28_0,hfz28_1,hfz28_2,hfz28_3,hfz28_4⟩ := zc5 BK302) | ((with_reducible refine gate_callee (f := 49) rfl ?_);refine zgl (some 31) Try.func49 #[.pointer (some ⟨g279,0,none⟩),.int .i64 1] ?_;(with_reducible refine (impl_reader_number.calls k1 g279 t300 t301 1 t303 t304 t305 w _ ?side1 ?side2 A19.out).mono ?_);(case side1 => exact zi88 HI279);(case side2 => exact zl_ HB);rintro e w29 ⟨rfl,hi,hb,hk⟩;refine ⟨_,rfl,?_⟩;replace HO_287002 := am_ (Kd.S_mono (Kd.S_keep (IsS88.apartS (show IsS88 w _ g279 t300 t301 from (zi88 HI279)) (by (with_reducible repeat (first | apply Kd.S_alloc | apply Kd.S_drewN | apply Kd.S_drew));exact (Kd.S_mono (Kd.S_far (p := ⟨gb302,4,none⟩) (Kd.S_far (p := ⟨gb302,3,none⟩) (Kd.S_far (p := ⟨gb302,2,none⟩) (Kd.S_far (p := ⟨gb302,1,none⟩) (Kd.S_far (p := ⟨gb302,0,none⟩) (Kd.S_mono HO_287002.out (fun k_ hk => (⟨hk,hk.2⟩ : _ ∧ k_ ≠ gb302))) (fun _ hk => hk.2) (.string t290)) (fun _ hk => hk.2) (.int .i64 t293)) (fun _ hk => hk.2) (.int .i64 (wrap64 (t296 - 1)))) (fun _ hk => hk.2) (.int .i64 t299)) (fun _ hk => hk.2) (.slice none 0 0)) (fun _ h_ => h_.1))) (by decide)) hk (fun _ h => h.2)) (fun _ h => h.1));replace BK278 := am_ (KeepBut.blk hk (g' := gb278) (o := .cells #[.int .i64 0,.int .i64 0,.slice none 0 0,.slice none 0 0] 26 (0,0)) (zq BK278) NB278_279.out (by simp));replace BK286 := am_ (KeepBut.blk hk (g' := gb286) (o := .cells #[.int .i64 t280,.int .i64 t283,u287002,.slice none 0 0] 26 (0,0)) (zq BK286) NB286_279.out (by simp));replace BK302 := am_ (KeepBut.blk hk (g' := gb302) (o := .cells #[.string t290,.int .i64 t293,.int .i64 (wrap64 (t296 - 1)),.int .i64 t299,.slice none 0 0] 78 (0,0)) (zq BK302) NB302_279.out (by simp));replace HB := am_ (hb);replace HI279 := am_ (hi);(try clear hb);(try clear hb2);(try clear hk);(try clear hi)))
    go_loopg [32] k1 (fun kq v32 w' => ∃ (x32_2 : Int) (x280000_2 : ByteArray) (x280001_2 : Bool) (x303004_2 : List (S80)) (u303004 : Value),v32 = .int .i64 x32_2 ∧ Aside0 (impl_readTable.l1 kq t287 x18_1 t303 x32_2 x280000_2 x280001_2 t280 t283 x287002_1 t290 t293 (wrap64 (t296 - 1)) t299 x303004_2 = some (r1,r2,r3,r4,r5)) ∧ Aside0 (kq ≤ k1) ∧ Aside0 (Kd.S k78 78 w' w.heap.size (fun k_ => some k_ ≠ (u303004 : Value).ownBlock ∧ k_ ≠ gb302) u287002 x287002_1) ∧ Aside0 (Kd.R k80 80 w' w.heap.size (fun _ => True) u303004 x303004_2) ∧ Aside0 (w'.heap[gb278]? = some (.cells #[.int .i64 0,.int .i64 0,(.slice none 0 0),(.slice none 0 0)] 26 (0,0))) ∧ Aside0 (w'.heap[gb286]? = some (.cells #[.int .i64 t280,.int .i64 t283,u287002,(.slice none 0 0)] 26 (0,0))) ∧ Aside0 (w'.heap[gb302]? = some (.cells #[.string t290,.int .i64 t293,.int .i64 (wrap64 (t296 - 1)),.int .i64 t299,u303004] 78 (0,0))) ∧ Aside0 (IsS88 w w' g279 x280000_2 x280001_2) ∧ Aside0 (Below w.heap.size w w'))
    case atStart => exact ⟨(0),(t304),(t305),(([] : List (S80))),(.slice none 0 0),(by first | rfl | (simp;done) | (simp [*];done)),H',⟨Nat.le_refl _⟩,⟨by (with_reducible repeat (first | apply Kd.S_alloc | apply Kd.S_drewN | apply Kd.S_drew));exact Kd.S_mono HO_287002.out (fun _ hk => ⟨(by simp [Value.ownBlock]),hk.2⟩)⟩,⟨by first | exact Kd.R_nil _ _ _ _ _ | exact Kd.N_nil _ _ _ _ _ | exact Kd.V_nil _ _ _ _ _ | exact Kd.Q_nil _ _ _ _ _ | exact Kd.S_nil _ _ _ _ _⟩,⟨by (with_reducible repeat (first | apply k1_ | apply k2_ | apply k3_));exact BK278.out⟩,⟨by (with_reducible repeat (first | apply k1_ | apply k2_ | apply k3_));exact BK286.out⟩,⟨by (with_reducible repeat (first | apply k1_ | apply k2_ | apply k3_));exact BK302.out⟩,⟨(zi88 HI279)⟩,⟨zl_ HB⟩⟩
    case round =>
     clear H'
     try clear c1
     try clear c2
     try clear p2
     try clear c4
     try clear c5
     try clear p6
     try clear c10
     try clear c11
     try clear c14
     try clear c14b0
     try clear c22
     try clear c25
     try clear c26
     try clear c27
     try clear hcz12_0
     try clear hcz12_1
     try clear hcz12_2
     try clear hcz12_3
     try clear hcz28_0
     try clear hcz28_1
     try clear hcz28_2
     try clear hcz28_3
     try clear hcz28_4
     try clear hfz12_0
     try clear hfz12_1
     try clear hfz12_2
     try clear hfz12_3
     try clear hfz28_0
     try clear hfz28_1
     try clear hfz28_2
     try clear hfz28_3
     try clear hfz28_4
     try clear p2
     obtain ⟨x32_2,x280000_2,x280001_2,x303004_2,u303004,rfl,HA,HK2,HO_287002,HO_303004,BK278,BK286,BK302,HI279,HB⟩ := hrel
     cases gk with
     | zero => exact absurd HA.out (by simp [impl_readTable.l1])
     | succ k2 =>
      have H := HA.out
      clear HA
      simp only [impl_readTable.l1] at H
      by_cases c30 : x32_2 < t303
      ·rw [if_pos c30] at H
       have c30b0 : decide (x32_2 < t303) = true := decide_eq_true c30
       clear c30
       replace H := Option.bind_eq_some_iff.mp H
       obtain ⟨⟨t306,t307,t308⟩,A310,H⟩ := H
       try dsimp only at H
       have A31 := am_ A310
       clear A310
       replace H := Option.bind_eq_some_iff.mp H
       obtain ⟨⟨t309,t310,t311⟩,A320,H⟩ := H
       try dsimp only at H
       have A32 := am_ A320
       clear A320
       by_cases c33 : x303004_2.length < 8796093022208
       ·rw [if_pos c33] at H
        have LMc33 := am_ c33
        clear c33
        obtain ⟨y312,hy312⟩ : ∃ y_ : List (S80),y_ = (x303004_2 ++ [(⟨t306,t309⟩ : S80)]) := ⟨_,rfl⟩
        replace H : (impl_readTable.l1 k2 t287 x18_1 t303 (wrap64 (x32_2 + 1)) t310 t311 t280 t283 x287002_1 t290 t293 (wrap64 (t296 - 1)) t299 y312) = some (r1,r2,r3,r4,r5) := by first | (rw [hy312];with_reducible exact H) | (have H2_ := (Option.bind_some _ _).symm.trans H;rw [hy312];with_reducible exact H2_) | (have H2_ := (Option.bind_some _ _).symm.trans H;with_reducible exact H2_) | with_reducible exact H | (rw [hy312];exact H) | exact H
        have Ny312 := am_ hy312
        clear hy312
        have H' := am_ H
        clear H
        try go_wp2
        replace HO_287002 := am_ (Kd.S_drew HO_287002.out)
        replace HO_303004 := am_ (Kd.R_drew HO_303004.out)
        replace BK278 := am_ (blk_drew BK278.out)
        replace BK286 := am_ (blk_drew BK286.out)
        replace BK302 := am_ (blk_drew BK302.out)
        replace HI279 := am_ (IsS88.drew HI279.out)
        replace HB := am_ (below_drew1 HB.out)
        refine start_ (n := 11) (S := fun w' => w'.cell? ⟨gb302,0,none⟩ = some (.string t290) ∧ w'.cell? ⟨gb302,1,none⟩ = some (.int .i64 t293) ∧ w'.cell? ⟨gb302,2,none⟩ = some (.int .i64 (wrap64 (t296 - 1))) ∧ w'.cell? ⟨gb302,3,none⟩ = some (.int .i64 t299) ∧ w'.cell? ⟨gb302,4,none⟩ = some (u303004)) (ds := [10]) #[false,false,false,false,false,false,false,false,false,false,false] (by kernel_rfl) rfl rfl ⟨(blk_cell BK302.out 0).trans rfl,(blk_cell BK302.out 1).trans rfl,(blk_cell BK302.out 2).trans rfl,(blk_cell BK302.out 3).trans rfl,(blk_cell BK302.out 4).trans rfl⟩ (fun hHeld => ?_);refine with_tabW impl_readTable.tab8 impl_readTable.bits8 (fun HT_ HW_ => ?_)
        generalize wr.drew = w34 at HO_287002 HO_303004 BK278 BK286 BK302 HI279 HB hHeld ⊢
        refine zpu 0 (N := some 34) HT_ ?_
        refine zpu 2 (N := some 36) HT_ ?_
        refine zpu 4 (N := some 38) HT_ ?_
        refine ztk 1 (N := some 35) HT_ HW_ hHeld ?_
        refine zon 3 (N := some 37) HT_ (fun K hK => ?_)
        refine zgo Try.func49 #[.pointer (some ⟨g279,0,none⟩),.int .i64 1] ?_
        with_reducible refine (impl_reader_number.calls k2 g279 x280000_2 x280001_2 1 t306 t307 t308 w _ ?side1 ?side2 A31.out).mono ?_
        (case side1 => exact zi88 HI279)
        (case side2 => exact zl_ HB)
        rintro e w35 ⟨rfl,hi,hb,hk⟩
        refine ⟨_,rfl,?_⟩
        replace HO_287002 := am_ (Kd.S_mono (Kd.S_keep (IsS88.apartS (show IsS88 w _ g279 x280000_2 x280001_2 from (zi88 HI279)) (by (with_reducible repeat (first | apply Kd.S_alloc | apply Kd.S_drewN | apply Kd.S_drew));exact HO_287002.out) (by decide)) hk (fun _ h => h.2)) (fun _ h => h.1))
        replace HO_303004 := am_ (Kd.R_mono (Kd.R_keep (IsS88.apart (show IsS88 w _ g279 x280000_2 x280001_2 from (zi88 HI279)) (zr HO_303004) (by decide)) hk (fun _ h => h.2)) (fun _ h => h.1))
        replace BK278 := zkb hk BK278 NB278_279
        replace BK286 := zkb hk BK286 NB286_279
        replace BK302 := zkb hk BK302 NB302_279
        replace HB := am_ (hb)
        replace HI279 := am_ (hi)
        (try clear hb)
        (try clear hb2)
        (try clear hk)
        (try clear hi)
        refine hK.out _ _ ⟨(blk_cell BK302.out 0).trans rfl,(blk_cell BK302.out 1).trans rfl,(blk_cell BK302.out 2).trans rfl,(blk_cell BK302.out 3).trans rfl,(blk_cell BK302.out 4).trans rfl⟩ (fun hHeld => ?_)
        clear hK K
        refine norm_ (a' := ?_) ?_ ?_
        rotate_left
        ·show Act.put _ (some 37) _ = _
         simp only [Act.put,p1_,p2_,p3_,i64_w,i32_w]
         rfl
        refine zon 5 (N := some 39) HT_ (fun K hK => ?_)
        refine zgo Try.func49 #[.pointer (some ⟨g279,0,none⟩),.int .i64 2] ?_
        with_reducible refine (impl_reader_number.calls k2 g279 t307 t308 2 t309 t310 t311 w _ ?side1 ?side2 A32.out).mono ?_
        (case side1 => exact zi88 HI279)
        (case side2 => exact zl_ HB)
        rintro e w36 ⟨rfl,hi,hb,hk⟩
        refine ⟨_,rfl,?_⟩
        replace HO_287002 := am_ (Kd.S_mono (Kd.S_keep (IsS88.apartS (show IsS88 w _ g279 t307 t308 from (zi88 HI279)) (by (with_reducible repeat (first | apply Kd.S_alloc | apply Kd.S_drewN | apply Kd.S_drew));exact HO_287002.out) (by decide)) hk (fun _ h => h.2)) (fun _ h => h.1))
        replace HO_303004 := am_ (Kd.R_mono (Kd.R_keep (IsS88.apart (show IsS88 w _ g279 t307 t308 from (zi88 HI279)) (zr HO_303004) (by decide)) hk (fun _ h => h.2)) (fun _ h => h.1))
        replace BK278 := zkb hk BK278 NB278_279
        replace BK286 := zkb hk BK286 NB286_279
        replace BK302 := zkb hk BK302 NB302_279
        replace HB := am_ (hb)
        replace HI279 := am_ (hi)
        (try clear hb)
        (try clear hb2)
        (try clear hk)
        (try clear hi)
        refine hK.out _ _ ⟨(blk_cell BK302.out 0).trans rfl,(blk_cell BK302.out 1).trans rfl,(blk_cell BK302.out 2).trans rfl,(blk_cell BK302.out 3).trans rfl,(blk_cell BK302.out 4).trans rfl⟩ (fun hHeld => ?_)
        clear hK K
        refine norm_ (a' := ?_) ?_ ?_
        rotate_left
        ·show Act.put _ (some 39) _ = _
         simp only [Act.put,p1_,p2_,p3_,i64_w,i32_w]
         rfl
        refine zpu 6 (N := some 40) HT_ ?_
        refine zon 7 (N := some 41) HT_ (fun K hK => ?_)
        refine value_ (w1 := ?_) (v := ?_) (by rfl) rfl ?_ ?_
        rotate_left 2
        ·go_simp
         constructor
         ·rfl
         ·rfl
        refine hK.out _ _ ⟨(blk_cell (blk_alloc BK302.out _) 0).trans rfl,(blk_cell (blk_alloc BK302.out _) 1).trans rfl,(blk_cell (blk_alloc BK302.out _) 2).trans rfl,(blk_cell (blk_alloc BK302.out _) 3).trans rfl,(blk_cell (blk_alloc BK302.out _) 4).trans rfl⟩ (fun hHeld => ?_)
        clear hK K
        refine norm_ (a' := ?_) ?_ ?_
        rotate_left
        ·show Act.put _ (some 41) _ = _
         simp only [Act.put,p1_,p2_,p3_,i64_w,i32_w]
         rfl
        refine zon 8 (N := some 42) HT_ (fun K hK => ?_)
        refine Kd.R_append_step k80 (w0 := w) w.heap.size (by rfl) (.tmp 35) (.tmp 41) 76 80 (.agg #[(.int .i64 0),(.int .i64 0)]) 16 rfl Try.underlying76 info80 rfl (by decide) (by omega) u303004 x303004_2 (⟨t306,t309⟩ : S80) [.int .i64 t306,.int .i64 t309] (fun _ => True) (fun _ => False) rfl rfl ?aP (fun _ hk => hk.elim) ?aF ?aO ?aB ?aS ?aL ?_
        (case aP => exact k80_mkM _ _ _ (⟨t306,t309⟩ : S80))
        (case aB => exact (zl_ HB))
        (case aF => exact (fun _ _ => trivial))
        (case aO => exact (zr HO_303004))
        (case aS => exact (below_size (zl_ HB)))
        (case aL => have := LMc33.out;omega)
        intro v313 w37 ho hb hg hat
        rw [← Ny312.out] at ho
        replace HO_287002 := am_ (Kd.S_after (ok := (fun k_ => k_ ≠ gb302)) (by (with_reducible repeat (first | apply Kd.S_alloc | apply Kd.S_drewN | apply Kd.S_drew));exact Kd.S_mono HO_287002.out (fun _ hk => ⟨hk.2,hk.1⟩)) hg hat)
        replace BK278 := am_ (blk_grown (g := gb278) (o := .cells #[.int .i64 0,.int .i64 0,.slice none 0 0,.slice none 0 0] 26 (0,0)) (zk BK278) hg (Kd.R_ne HO_303004.out BK278.out (by decide)))
        replace BK286 := am_ (blk_grown (g := gb286) (o := .cells #[.int .i64 t280,.int .i64 t283,u287002,.slice none 0 0] 26 (0,0)) (zk BK286) hg (Kd.R_ne HO_303004.out BK286.out (by decide)))
        replace BK302 := am_ (blk_grown (g := gb302) (o := .cells #[.string t290,.int .i64 t293,.int .i64 (wrap64 (t296 - 1)),.int .i64 t299,u303004] 78 (0,0)) (zk BK302) hg (Kd.R_ne HO_303004.out BK302.out (by decide)))
        replace HI279 := am_ (IsS88.grown (zi88 HI279) hg (IsS88.own_ne HI279.out HO_303004.out (by decide)))
        replace HB := am_ (hb)
        have HO314 := am_ (ho)
        clear HO_303004
        clear ho hb hg hat
        obtain ⟨Ao38,co38,eo38⟩ := Kd.R_slice HO314.out
        (first | subst eo38 | (injection eo38 with f1_ f2_ f3_;have f4_ := f1_.symm;have f5_ := f3_.symm;clear f1_ f2_ f3_;subst f4_;subst f5_))
        refine hK.out _ _ ⟨(blk_cell BK302.out 0).trans rfl,(blk_cell BK302.out 1).trans rfl,(blk_cell BK302.out 2).trans rfl,(blk_cell BK302.out 3).trans rfl,(blk_cell BK302.out 4).trans rfl⟩ (fun hHeld => ?_)
        clear hK K
        refine norm_ (a' := ?_) ?_ ?_
        rotate_left
        ·show Act.put _ (some 42) _ = _
         simp only [Act.put,p1_,p2_,p3_,i64_w,i32_w]
         rfl
        refine zpu 9 (N := some 43) HT_ ?_
        refine last_ (i := 10) (N := none) #[true,true,true,true,true,true,true,true,true,true,true] rfl rfl (one_of HT_.out (by kernel_rfl)) (by decide) (fun K hK => ?_)
        have hs39 : w37.cell? ⟨gb302,4,none⟩ = some (u303004) := (blk_cell BK302.out 4).trans rfl
        have hfs39 := blk_frozen BK302.out 4
        have hns39_0 := NB278_302.out
        have hns39_1 := NB286_302.out
        have hms39_0 := NB302_278.out
        have hms39_1 := NB302_286.out
        refine skip_ (w1 := ?_) (by rfl) rfl ?_ ?_
        rotate_left
        ·go_simp
         rfl
        refine hK.out _ _ ?_
        clear hK K
        refine done_ (done_of HT_.out (by kernel_rfl)) ?_
        try go_wp2
        go_roundg k2
        case measure => have := HK1.out;have := HK2.out;omega
        case rel => exact ⟨(wrap64 (x32_2 + 1)),(t310),(t311),(y312),(.slice Ao38 y312.length co38),(by first | rfl | (simp;done) | (simp [*];done)),H',⟨by have := HK1.out;have := HK2.out;omega⟩,⟨by (with_reducible repeat (first | apply Kd.S_alloc | apply Kd.S_drewN | apply Kd.S_drew));exact Kd.S_mono (Kd.S_far (p := ⟨gb302,4,none⟩) (Kd.S_mono HO_287002.out (fun k_ hk => (⟨hk,hk.1⟩ : _ ∧ k_ ≠ gb302))) (fun _ hk => hk.2) (.slice Ao38 y312.length co38)) (fun _ hk => ⟨hk.1.2,hk.1.1⟩)⟩,⟨by (with_reducible repeat (first | apply r1_ | apply r2_ | apply r3_));exact Kd.R_mono (zrf (Kd.R_types HO314.out BK302.out (by decide))) (fun _ hk => trivial)⟩,⟨zq BK278⟩,⟨zq BK286⟩,⟨zq BK302⟩,⟨(zi88 HI279)⟩,⟨zl_ HB⟩⟩
       ·rw [if_neg c33] at H
        exact absurd H (by simp)
      ·rw [if_neg c30] at H
       have c30b0 : decide (x32_2 < t303) = false := decide_eq_false c30
       clear c30
       by_cases c40 : x287002_1.length < 2199023255552
       ·rw [if_pos c40] at H
        have LMc40 := am_ c40
        clear c40
        obtain ⟨y315,hy315⟩ : ∃ y_ : List (S78),y_ = (x287002_1 ++ [(⟨t290,t293,(wrap64 (t296 - 1)),t299,x303004_2⟩ : S78)]) := ⟨_,rfl⟩
        replace H : (impl_readTable.l0 k2 t287 (wrap64 (x18_1 + 1)) x280000_2 x280001_2 t280 t283 y315) = some (r1,r2,r3,r4,r5) := by first | (rw [hy315];with_reducible exact H) | (have H2_ := (Option.bind_some _ _).symm.trans H;rw [hy315];with_reducible exact H2_) | (have H2_ := (Option.bind_some _ _).symm.trans H;with_reducible exact H2_) | with_reducible exact H | (rw [hy315];exact H) | exact H
        have Ny315 := am_ hy315
        clear hy315
        have H' := am_ H
        clear H
        have hnb41 := NB286_278.out
        have hnc41 := NB278_286.out
        have hnb42 := NB286_302.out
        have hnc42 := NB302_286.out
        have hnb43 := NB286_279.out
        have hnc43 := NB279_286.out
        obtain ⟨hcz44_0,hcz44_1,hcz44_2,hcz44_3,hfz44_0,hfz44_1,hfz44_2,hfz44_3⟩ := zc4 BK286
        have hnb45 := NB302_278.out
        have hnc45 := NB278_302.out
        have hnb46 := NB302_279.out
        have hnc46 := NB279_302.out
        obtain ⟨hcz47_0,hcz47_1,hcz47_2,hcz47_3,hcz47_4,hfz47_0,hfz47_1,hfz47_2,hfz47_3,hfz47_4⟩ := zc5 BK302
        obtain ⟨Ao49,co49,eo49⟩ := Kd.R_slice HO_303004.out
        subst eo49
        go_wp2_with (first | ((with_reducible refine gate_builtin (b := .append) (xs := #[.tmp 46,.tmp 48]) rfl ?_);at_builtin;refine Kd.S_append k78 (w0 := w) w.heap.size rfl (.tmp 46) (.tmp 48) 23 78 (.agg #[(.string ⟨#[]⟩),(.int .i64 0),(.int .i64 0),(.int .i64 0),(.slice none 0 0)]) 64 rfl Try.underlying23 info78 rfl (by decide) (by omega) u287002 x287002_1 (⟨t290,t293,(wrap64 (t296 - 1)),t299,x303004_2⟩ : S78) [.string t290,.int .i64 t293,.int .i64 (wrap64 (t296 - 1)),.int .i64 t299,.slice Ao49 x303004_2.length co49] (fun k_ => k_ ≠ gb302) (fun k_ => some k_ = (.slice Ao49 x303004_2.length co49 : Value).ownBlock) rfl rfl ?aP (fun k_ hk_ => ((Kd.R_mono (ok' := fun k_ => ((fun k_ => k_ ≠ gb302)) k_ ∧ some k_ ≠ (u287002 : Value).ownBlock) (Kd.R_types (Kd.R_apart' (HO_303004.out) (Kd.S_typed HO_287002.out) (by decide)) BK302.out (by decide)) (fun k_ hk => ⟨hk.2,hk.1.2⟩))).1 k_ hk_.symm) ?aF ?aO ?aB ?aS ?aL ?_;(case aP => exact k78_mkM _ _ _ (⟨t290,t293,(wrap64 (t296 - 1)),t299,x303004_2⟩ : S78) (Kd.R_mono (Kd.R_tight rfl (Kd.R_mono (ok' := fun k_ => ((fun k_ => k_ ≠ gb302)) k_ ∧ some k_ ≠ (u287002 : Value).ownBlock) (Kd.R_types (Kd.R_apart' (HO_303004.out) (Kd.S_typed HO_287002.out) (by decide)) BK302.out (by decide)) (fun k_ hk => ⟨hk.2,hk.1.2⟩))) (fun _ h_ => h_)));(case aB => exact (zl_ HB));(case aF => exact (fun k_ hk => Kd.freshB (g := gb302) (o := .cells #[.string t290,.int .i64 t293,.int .i64 (wrap64 (t296 - 1)),.int .i64 t299,.slice Ao49 x303004_2.length co49] 78 (0,0)) (zk BK302) k_ hk));(case aO => exact (by (with_reducible repeat (first | apply Kd.S_alloc | apply Kd.S_drewN | apply Kd.S_drew));exact Kd.S_mono HO_287002.out (fun k_ hk => ⟨hk.2,fun e_ => hk.1 e_⟩)));(case aS => exact (below_size (zl_ HB)));(case aL => have := LMc40.out;omega);intro v316 w48 ho hb hg hat;rw [← Ny315.out] at ho;replace BK278 := am_ (blk_grown (g := gb278) (o := .cells #[.int .i64 0,.int .i64 0,.slice none 0 0,.slice none 0 0] 26 (0,0)) (zk BK278) hg (Kd.S_ne HO_287002.out BK278.out (by decide)));replace BK286 := am_ (blk_grown (g := gb286) (o := .cells #[.int .i64 t280,.int .i64 t283,u287002,.slice none 0 0] 26 (0,0)) (zk BK286) hg (Kd.S_ne HO_287002.out BK286.out (by decide)));replace HI279 := am_ (IsS88.grown (zi88 HI279) hg (IsS88.own_neS HI279.out HO_287002.out (by decide)));replace HB := am_ (hb);have HO317 := am_ (ho);clear HO_287002;clear HO_303004;clear ho hb hg hat;obtain ⟨Ao50,co50,eo50⟩ := Kd.S_slice HO317.out;subst eo50;obtain ⟨hcz51_0,hcz51_1,hcz51_2,hcz51_3,hfz51_0,hfz51_1,hfz51_2,hfz51_3⟩ := zc4 BK286))
        go_roundg k2
        case measure => have := HK1.out;have := HK2.out;omega
        case rel => exact ⟨(wrap64 (x18_1 + 1)),(x280000_2),(x280001_2),(y315),(.slice Ao50 y315.length co50),(by first | rfl | (simp;done) | (simp [*];done)),H',⟨by have := HK1.out;have := HK2.out;omega⟩,⟨by (with_reducible repeat (first | apply Kd.S_alloc | apply Kd.S_drewN | apply Kd.S_drew));exact Kd.S_mono (Kd.S_far (p := ⟨gb286,2,none⟩) (Kd.S_types HO317.out BK286.out (by decide)) (fun _ hk => hk.2) (.slice Ao50 y315.length co50)) (fun _ hk => trivial)⟩,⟨zq BK278⟩,⟨zq BK286⟩,⟨(zi88 HI279)⟩,⟨zl_ HB⟩⟩
       ·rw [if_neg c40] at H
        exact absurd H (by simp)
   ·rw [if_neg c14] at H
    have c14b0 : decide (x18_1 < t287) = false := decide_eq_false c14
    clear c14
    replace H := Option.bind_eq_some_iff.mp H
    obtain ⟨⟨t318,t319,t320⟩,A520,H⟩ := H
    try dsimp only at H
    have A52 := am_ A520
    clear A520
    have H' := am_ H
    clear H
    go_wp2_with (first | ((with_reducible refine gate_callee (f := 49) rfl ?_);refine zgl (some 53) Try.func49 #[.pointer (some ⟨g279,0,none⟩),.int .i64 1] ?_;(with_reducible refine (impl_reader_number.calls k1 g279 x280000_1 x280001_1 1 t318 t319 t320 w _ ?side1 ?side2 A52.out).mono ?_);(case side1 => exact zi88 HI279);(case side2 => exact zl_ HB);rintro e w53 ⟨rfl,hi,hb,hk⟩;refine ⟨_,rfl,?_⟩;replace HO_287002 := am_ (Kd.S_mono (Kd.S_keep (IsS88.apartS (show IsS88 w _ g279 x280000_1 x280001_1 from (zi88 HI279)) (by (with_reducible repeat (first | apply Kd.S_alloc | apply Kd.S_drewN | apply Kd.S_drew));exact HO_287002.out) (by decide)) hk (fun _ h => h.2)) (fun _ h => h.1));replace BK278 := zkb hk BK278 NB278_279;replace BK286 := zkb hk BK286 NB286_279;replace HB := am_ (hb);replace HI279 := am_ (hi);(try clear hb);(try clear hb2);(try clear hk);(try clear hi)))
    go_loopg [54] k1 (fun kq v54 w' => ∃ (x54_2 : Int) (x280000_2 : ByteArray) (x280001_2 : Bool) (x287003_2 : List (S84)) (u287003 : Value),v54 = .int .i64 x54_2 ∧ Aside0 (impl_readTable.l2 kq t318 x54_2 x280000_2 x280001_2 t280 t283 x287002_1 x287003_2 = some (r1,r2,r3,r4,r5)) ∧ Aside0 (kq ≤ k1) ∧ Aside0 (Kd.S k78 78 w' w.heap.size (fun _ => True) u287002 x287002_1) ∧ Aside0 (Kd.R k84 84 w' w.heap.size (fun _ => True) u287003 x287003_2) ∧ Aside0 (w'.heap[gb278]? = some (.cells #[.int .i64 0,.int .i64 0,(.slice none 0 0),(.slice none 0 0)] 26 (0,0))) ∧ Aside0 (w'.heap[gb286]? = some (.cells #[.int .i64 t280,.int .i64 t283,u287002,u287003] 26 (0,0))) ∧ Aside0 (IsS88 w w' g279 x280000_2 x280001_2) ∧ Aside0 (Below w.heap.size w w'))
    case atStart => exact ⟨(0),(t319),(t320),(([] : List (S84))),(.slice none 0 0),(by first | rfl | (simp;done) | (simp [*];done)),H',⟨Nat.le_refl _⟩,⟨by (with_reducible repeat (first | apply Kd.S_alloc | apply Kd.S_drewN | apply Kd.S_drew));exact HO_287002.out⟩,⟨by first | exact Kd.R_nil _ _ _ _ _ | exact Kd.N_nil _ _ _ _ _ | exact Kd.V_nil _ _ _ _ _ | exact Kd.Q_nil _ _ _ _ _ | exact Kd.S_nil _ _ _ _ _⟩,⟨by (with_reducible repeat (first | apply k1_ | apply k2_ | apply k3_));exact BK278.out⟩,⟨by (with_reducible repeat (first | apply k1_ | apply k2_ | apply k3_));exact BK286.out⟩,⟨(zi88 HI279)⟩,⟨zl_ HB⟩⟩
    case round =>
     clear H'
     try clear c1
     try clear c2
     try clear p2
     try clear c3
     try clear c4
     try clear c5
     try clear p6
     try clear c10
     try clear c11
     try clear c14
     try clear c14b0
     try clear c22
     try clear c25
     try clear c26
     try clear c27
     try clear c30
     try clear c30b0
     try clear c33
     try clear c40
     try clear c41
     try clear c42
     try clear c43
     try clear c45
     try clear c46
     try clear c49
     try clear c50
     try clear hcz12_0
     try clear hcz12_1
     try clear hcz12_2
     try clear hcz12_3
     try clear hcz28_0
     try clear hcz28_1
     try clear hcz28_2
     try clear hcz28_3
     try clear hcz28_4
     try clear hcz44_0
     try clear hcz44_1
     try clear hcz44_2
     try clear hcz44_3
     try clear hcz47_0
     try clear hcz47_1
     try clear hcz47_2
     try clear hcz47_3
     try clear hcz47_4
     try clear hcz51_0
     try clear hcz51_1
     try clear hcz51_2
     try clear hcz51_3
     try clear hfz12_0
     try clear hfz12_1
     try clear hfz12_2
     try clear hfz12_3
     try clear hfz28_0
     try clear hfz28_1
     try clear hfz28_2
     try clear hfz28_3
     try clear hfz28_4
     try clear hfz44_0
     try clear hfz44_1
     try clear hfz44_2
     try clear hfz44_3
     try clear hfz47_0
     try clear hfz47_1
     try clear hfz47_2
     try clear hfz47_3
     try clear hfz47_4
     try clear hfz51_0
     try clear hfz51_1
     try clear hfz51_2
     try clear hfz51_3
     try clear p2
     try clear p6
     obtain ⟨x54_2,x280000_2,x280001_2,x287003_2,u287003,rfl,HA,HK2,HO_287002,HO_287003,BK278,BK286,HI279,HB⟩ := hrel
     cases gk with
     | zero => exact absurd HA.out (by simp [impl_readTable.l2])
     | succ k2 =>
      have H := HA.out
      clear HA
      simp only [impl_readTable.l2] at H
      by_cases c54 : x54_2 < t318
      ·rw [if_pos c54] at H
       have c54b0 : decide (x54_2 < t318) = true := decide_eq_true c54
       clear c54
       replace H := Option.bind_eq_some_iff.mp H
       obtain ⟨⟨t321,t322,t323⟩,A550,H⟩ := H
       try dsimp only at H
       have A55 := am_ A550
       clear A550
       replace H := Option.bind_eq_some_iff.mp H
       obtain ⟨⟨t324,t325,t326⟩,A560,H⟩ := H
       try dsimp only at H
       have A56 := am_ A560
       clear A560
       replace H := Option.bind_eq_some_iff.mp H
       obtain ⟨⟨t328,t329,t330⟩,A570,H⟩ := H
       try dsimp only at H
       have A57 := am_ A570
       clear A570
       replace H := Option.bind_eq_some_iff.mp H
       obtain ⟨⟨t331,t332,t333⟩,A580,H⟩ := H
       try dsimp only at H
       have A58 := am_ A580
       clear A580
       replace H := Option.bind_eq_some_iff.mp H
       obtain ⟨⟨t334,t335,t336⟩,A590,H⟩ := H
       try dsimp only at H
       have A59 := am_ A590
       clear A590
       replace H := Option.bind_eq_some_iff.mp H
       obtain ⟨⟨t337,t338,t339⟩,A600,H⟩ := H
       try dsimp only at H
       have A60 := am_ A600
       clear A600
       by_cases c61 : x287003_2.length < 2932031007402
       ·rw [if_pos c61] at H
        have LMc61 := am_ c61
        clear c61
        obtain ⟨y340,hy340⟩ : ∃ y_ : List (S84),y_ = (x287003_2 ++ [(⟨t321,t324,(⟨t328,t331,wrap64 (t334 - 1),t337⟩ : S82)⟩ : S84)]) := ⟨_,rfl⟩
        replace H : (impl_readTable.l2 k2 t318 (wrap64 (x54_2 + 1)) t338 t339 t280 t283 x287002_1 y340) = some (r1,r2,r3,r4,r5) := by first | (rw [hy340];with_reducible exact H) | (have H2_ := (Option.bind_some _ _).symm.trans H;rw [hy340];with_reducible exact H2_) | (have H2_ := (Option.bind_some _ _).symm.trans H;with_reducible exact H2_) | with_reducible exact H | (rw [hy340];exact H) | exact H
        have Ny340 := am_ hy340
        clear hy340
        have H' := am_ H
        clear H
        go_wp2_with (first | ((with_reducible refine gate_callee (f := 49) rfl ?_);refine zgl (some 57) Try.func49 #[.pointer (some ⟨g279,0,none⟩),.int .i64 1] ?_;(with_reducible refine (impl_reader_number.calls k2 g279 x280000_2 x280001_2 1 t321 t322 t323 w _ ?side1 ?side2 A55.out).mono ?_);(case side1 => exact zi88 HI279);(case side2 => exact zl_ HB);rintro e w62 ⟨rfl,hi,hb,hk⟩;refine ⟨_,rfl,?_⟩;replace HO_287002 := am_ (Kd.S_mono (Kd.S_keep (IsS88.apartS (show IsS88 w _ g279 x280000_2 x280001_2 from (zi88 HI279)) (by (with_reducible repeat (first | apply Kd.S_alloc | apply Kd.S_drewN | apply Kd.S_drew));exact HO_287002.out) (by decide)) hk (fun _ h => h.2)) (fun _ h => h.1));replace HO_287003 := am_ (Kd.R_mono (Kd.R_keep (IsS88.apart (show IsS88 w _ g279 x280000_2 x280001_2 from (zi88 HI279)) (zr HO_287003) (by decide)) hk (fun _ h => h.2)) (fun _ h => h.1));replace BK278 := zkb hk BK278 NB278_279;replace BK286 := zkb hk BK286 NB286_279;replace HB := am_ (hb);replace HI279 := am_ (hi);(try clear hb);(try clear hb2);(try clear hk);(try clear hi)) | ((with_reducible refine gate_callee (f := 49) rfl ?_);refine zgl (some 59) Try.func49 #[.pointer (some ⟨g279,0,none⟩),.int .i64 2] ?_;(with_reducible refine (impl_reader_number.calls k2 g279 t322 t323 2 t324 t325 t326 w _ ?side1 ?side2 A56.out).mono ?_);(case side1 => exact zi88 HI279);(case side2 => exact zl_ HB);rintro e w63 ⟨rfl,hi,hb,hk⟩;refine ⟨_,rfl,?_⟩;replace HO_287002 := am_ (Kd.S_mono (Kd.S_keep (IsS88.apartS (show IsS88 w _ g279 t322 t323 from (zi88 HI279)) (by (with_reducible repeat (first | apply Kd.S_alloc | apply Kd.S_drewN | apply Kd.S_drew));exact HO_287002.out) (by decide)) hk (fun _ h => h.2)) (fun _ h => h.1));replace HO_287003 := am_ (Kd.R_mono (Kd.R_keep (IsS88.apart (show IsS88 w _ g279 t322 t323 from (zi88 HI279)) (zr HO_287003) (by decide)) hk (fun _ h => h.2)) (fun _ h => h.1));replace BK278 := zkb hk BK278 NB278_279;replace BK286 := zkb hk BK286 NB286_279;replace HB := am_ (hb);replace HI279 := am_ (hi);(try clear hb);(try clear hb2);(try clear hk);(try clear hi)) | ((with_reducible refine gate_dst (N := 7) rfl ?_);refine zbx (N := 7) (cs := #[.int .i64 0,.int .i64 0,.int .i64 0,.int .i64 0,.int .i64 0,.int .i64 0]) (t := 84) ?_;intro gb327 hg w64 hbox hb;replace HO_287002 := am_ (Kd.S_below (by (with_reducible repeat (first | apply Kd.S_alloc | apply Kd.S_drewN | apply Kd.S_drew));exact HO_287002.out) hb);replace HO_287003 := am_ (Kd.R_below (Kd.R_elderB (zr HO_287003) gb327 (Nat.le_of_eq hg.symm)) hb);have BK327 := am_ (hbox);have GW327 := zw_ HB hg;have GE327 := zw_ HB hg;replace HB := zs_ HB hb;have NB278_327 := zl hg BK278;have NB327_278 := zg hg BK278;replace BK278 := zb BK278 hb;have NB286_327 := zl hg BK286;have NB327_286 := zg hg BK286;replace BK286 := zb BK286 hb;have NB279_327 := am_ ((by rw [hg];exact Nat.ne_of_lt (IsS88.lt (show IsS88 w _ g279 t325 t326 from (zi88 HI279))) : g279 ≠ gb327));have NB327_279 := am_ ((by rw [hg];exact Nat.ne_of_gt (IsS88.lt (show IsS88 w _ g279 t325 t326 from (zi88 HI279))) : gb327 ≠ g279));replace HI279 := am_ (IsS88.below (zi88 HI279) hb);clear hb hbox hg;have hnb65 := NB327_278.out;have hnc65 := NB278_327.out;have hnb66 := NB327_286.out;have hnc66 := NB286_327.out;have hnb67 := NB327_279.out;have hnc67 := NB279_327.out;obtain ⟨hcz68_0,hcz68_1,hcz68_2,hcz68_3,hcz68_4,hcz68_5,hfz68_0,hfz68_1,hfz68_2,hfz68_3,hfz68_4,hfz68_5⟩ := zc6 BK327) | ((with_reducible refine gate_callee (f := 49) rfl ?_);refine zgl (some 62) Try.func49 #[.pointer (some ⟨g279,0,none⟩),.int .i64 1] ?_;(with_reducible refine (impl_reader_number.calls k2 g279 t325 t326 1 t328 t329 t330 w _ ?side1 ?side2 A57.out).mono ?_);(case side1 => exact zi88 HI279);(case side2 => exact zl_ HB);rintro e w69 ⟨rfl,hi,hb,hk⟩;refine ⟨_,rfl,?_⟩;replace HO_287002 := am_ (Kd.S_mono (Kd.S_keep (IsS88.apartS (show IsS88 w _ g279 t325 t326 from (zi88 HI279)) (by (with_reducible repeat (first | apply Kd.S_alloc | apply Kd.S_drewN | apply Kd.S_drew));exact (Kd.S_mono (Kd.S_far (p := ⟨gb327,5,none⟩) (Kd.S_far (p := ⟨gb327,4,none⟩) (Kd.S_far (p := ⟨gb327,3,none⟩) (Kd.S_far (p := ⟨gb327,2,none⟩) (Kd.S_far (p := ⟨gb327,1,none⟩) (Kd.S_far (p := ⟨gb327,0,none⟩) (Kd.S_types HO_287002.out BK327.out (by decide)) (fun _ hk => hk.2) (.int .i64 t321)) (fun _ hk => hk.2) (.int .i64 t324)) (fun _ hk => hk.2) (.int .i64 0)) (fun _ hk => hk.2) (.int .i64 0)) (fun _ hk => hk.2) (.int .i64 0)) (fun _ hk => hk.2) (.int .i64 0)) (fun _ h_ => h_.1))) (by decide)) hk (fun _ h => h.2)) (fun _ h => h.1));replace HO_287003 := am_ (Kd.R_mono (Kd.R_keep (IsS88.apart (show IsS88 w _ g279 t325 t326 from (zi88 HI279)) (by (with_reducible repeat (first | apply r1_ | apply r2_ | apply r3_));exact (Kd.R_mono (Kd.Rf (Kd.Rf (Kd.Rf (Kd.Rf (Kd.Rf (Kd.Rf (Kd.R_mono HO_287003.out (fun k_ hk => (⟨hk,hk.2⟩ : _ ∧ k_ ≠ gb327))))))))) (fun _ h_ => h_.1))) (by decide)) hk (fun _ h => h.2)) (fun _ h => h.1));replace BK278 := am_ (KeepBut.blk hk (g' := gb278) (o := .cells #[.int .i64 0,.int .i64 0,.slice none 0 0,.slice none 0 0] 26 (0,0)) (zq BK278) NB278_279.out (by simp));replace BK286 := am_ (KeepBut.blk hk (g' := gb286) (o := .cells #[.int .i64 t280,.int .i64 t283,u287002,u287003] 26 (0,0)) (zq BK286) NB286_279.out (by simp));replace BK327 := am_ (KeepBut.blk hk (g' := gb327) (o := .cells #[.int .i64 t321,.int .i64 t324,.int .i64 0,.int .i64 0,.int .i64 0,.int .i64 0] 84 (0,0)) (zq BK327) NB327_279.out (by simp));replace HB := am_ (hb);replace HI279 := am_ (hi);(try clear hb);(try clear hb2);(try clear hk);(try clear hi)) | ((with_reducible refine gate_callee (f := 49) rfl ?_);refine zgl (some 64) Try.func49 #[.pointer (some ⟨g279,0,none⟩),.int .i64 3] ?_;(with_reducible refine (impl_reader_number.calls k2 g279 t329 t330 3 t331 t332 t333 w _ ?side1 ?side2 A58.out).mono ?_);(case side1 => exact zi88 HI279);(case side2 => exact zl_ HB);rintro e w70 ⟨rfl,hi,hb,hk⟩;refine ⟨_,rfl,?_⟩;replace HO_287002 := am_ (Kd.S_mono (Kd.S_keep (IsS88.apartS (show IsS88 w _ g279 t329 t330 from (zi88 HI279)) (by (with_reducible repeat (first | apply Kd.S_alloc | apply Kd.S_drewN | apply Kd.S_drew));exact HO_287002.out) (by decide)) hk (fun _ h => h.2)) (fun _ h => h.1));replace HO_287003 := am_ (Kd.R_mono (Kd.R_keep (IsS88.apart (show IsS88 w _ g279 t329 t330 from (zi88 HI279)) (zr HO_287003) (by decide)) hk (fun _ h => h.2)) (fun _ h => h.1));replace BK278 := zkb hk BK278 NB278_279;replace BK286 := zkb hk BK286 NB286_279;replace BK327 := zkb hk BK327 NB327_279;replace HB := am_ (hb);replace HI279 := am_ (hi);(try clear hb);(try clear hb2);(try clear hk);(try clear hi)) | ((with_reducible refine gate_callee (f := 49) rfl ?_);refine zgl (some 66) Try.func49 #[.pointer (some ⟨g279,0,none⟩),.int .i64 2] ?_;(with_reducible refine (impl_reader_number.calls k2 g279 t332 t333 2 t334 t335 t336 w _ ?side1 ?side2 A59.out).mono ?_);(case side1 => exact zi88 HI279);(case side2 => exact zl_ HB);rintro e w71 ⟨rfl,hi,hb,hk⟩;refine ⟨_,rfl,?_⟩;replace HO_287002 := am_ (Kd.S_mono (Kd.S_keep (IsS88.apartS (show IsS88 w _ g279 t332 t333 from (zi88 HI279)) (by (with_reducible repeat (first | apply Kd.S_alloc | apply Kd.S_drewN | apply Kd.S_drew));exact HO_287002.out) (by decide)) hk (fun _ h => h.2)) (fun _ h => h.1));replace HO_287003 := am_ (Kd.R_mono (Kd.R_keep (IsS88.apart (show IsS88 w _ g279 t332 t333 from (zi88 HI279)) (zr HO_287003) (by decide)) hk (fun _ h => h.2)) (fun _ h => h.1));replace BK278 := zkb hk BK278 NB278_279;replace BK286 := zkb hk BK286 NB286_279;replace BK327 := zkb hk BK327 NB327_279;replace HB := am_ (hb);replace HI279 := am_ (hi);(try clear hb);(try clear hb2);(try clear hk);(try clear hi)) | ((with_reducible refine gate_callee (f := 49) rfl ?_);refine zgl (some 69) Try.func49 #[.pointer (some ⟨g279,0,none⟩),.int .i64 4] ?_;(with_reducible refine (impl_reader_number.calls k2 g279 t335 t336 4 t337 t338 t339 w _ ?side1 ?side2 A60.out).mono ?_);(case side1 => exact zi88 HI279);(case side2 => exact zl_ HB);rintro e w72 ⟨rfl,hi,hb,hk⟩;refine ⟨_,rfl,?_⟩;replace HO_287002 := am_ (Kd.S_mono (Kd.S_keep (IsS88.apartS (show IsS88 w _ g279 t335 t336 from (zi88 HI279)) (by (with_reducible repeat (first | apply Kd.S_alloc | apply Kd.S_drewN | apply Kd.S_drew));exact HO_287002.out) (by decide)) hk (fun _ h => h.2)) (fun _ h => h.1));replace HO_287003 := am_ (Kd.R_mono (Kd.R_keep (IsS88.apart (show IsS88 w _ g279 t335 t336 from (zi88 HI279)) (zr HO_287003) (by decide)) hk (fun _ h => h.2)) (fun _ h => h.1));replace BK278 := zkb hk BK278 NB278_279;replace BK286 := zkb hk BK286 NB286_279;replace BK327 := zkb hk BK327 NB327_279;replace HB := am_ (hb);replace HI279 := am_ (hi);(try clear hb);(try clear hb2);(try clear hk);(try clear hi);obtain ⟨hcz73_0,hcz73_1,hcz73_2,hcz73_3,hcz73_4,hcz73_5,hfz73_0,hfz73_1,hfz73_2,hfz73_3,hfz73_4,hfz73_5⟩ := zc6 BK327;have hnb74 := NB286_278.out;have hnc74 := NB278_286.out;have hnb75 := NB286_279.out;have hnc75 := NB279_286.out;obtain ⟨hcz76_0,hcz76_1,hcz76_2,hcz76_3,hfz76_0,hfz76_1,hfz76_2,hfz76_3⟩ := zc4 BK286) | ((with_reducible refine gate_builtin (b := .append) (xs := #[.tmp 73,.tmp 75]) rfl ?_);at_builtin;refine Kd.R_append k84 (w0 := w) w.heap.size rfl (.tmp 73) (.tmp 75) 24 84 (.agg #[(.int .i64 0),(.int .i64 0),(.int .i64 0),(.int .i64 0),(.int .i64 0),(.int .i64 0)]) 48 rfl Try.underlying24 info84 rfl (by decide) (by omega) u287003 x287003_2 (⟨t321,t324,(⟨t328,t331,wrap64 (t334 - 1),t337⟩ : S82)⟩ : S84) [.int .i64 t321,.int .i64 t324,.int .i64 t328,.int .i64 t331,.int .i64 (wrap64 (t334 - 1)),.int .i64 t337] (fun k_ => k_ ≠ gb327) (fun _ => False) rfl (by first | (go_simp;done) | (go_simp;rfl)) ?aP (fun _ hk => hk.elim) ?aF ?aO ?aB ?aS ?aL ?_;(case aP => exact k84_mkM _ _ _ (⟨t321,t324,(⟨t328,t331,wrap64 (t334 - 1),t337⟩ : S82)⟩ : S84));(case aB => exact (zl_ HB));(case aF => exact (fun k_ hk => Kd.freshB (g := gb327) (o := .cells #[.int .i64 t321,.int .i64 t324,.int .i64 t328,.int .i64 t331,.int .i64 (wrap64 (t334 - 1)),.int .i64 t337] 84 (0,0)) (zq BK327) k_ hk));(case aO => exact (by (with_reducible repeat (first | apply r1_ | apply r2_ | apply r3_));exact Kd.R_mono (Kd.Rf (Kd.Rf (Kd.Rf (Kd.Rf (Kd.R_mono HO_287003.out (fun k_ hk => (⟨hk,hk.2⟩ : _ ∧ k_ ≠ gb327))))))) (fun _ hk => hk.1.2)));(case aS => exact (below_size (zl_ HB)));(case aL => have := LMc61.out;omega);intro v341 w77 ho hb hg hat;rw [← Ny340.out] at ho;replace HO_287002 := am_ (Kd.S_over' (by (with_reducible repeat (first | apply Kd.S_alloc | apply Kd.S_drewN | apply Kd.S_drew));exact (Kd.S_mono (Kd.S_far (p := ⟨gb327,5,none⟩) (Kd.S_far (p := ⟨gb327,4,none⟩) (Kd.S_far (p := ⟨gb327,3,none⟩) (Kd.S_far (p := ⟨gb327,2,none⟩) (Kd.S_types HO_287002.out BK327.out (by decide)) (fun _ hk => hk.2) (.int .i64 t328)) (fun _ hk => hk.2) (.int .i64 t331)) (fun _ hk => hk.2) (.int .i64 (wrap64 (t334 - 1)))) (fun _ hk => hk.2) (.int .i64 t337)) (fun _ h_ => h_.1))) (Kd.R_typed (by (with_reducible repeat (first | apply r1_ | apply r2_ | apply r3_));exact (Kd.R_mono (Kd.Rf (Kd.Rf (Kd.Rf (Kd.Rf (Kd.R_mono HO_287003.out (fun k_ hk => (⟨hk,hk.2⟩ : _ ∧ k_ ≠ gb327))))))) (fun _ h_ => h_.1)))) (by decide) hg);replace BK278 := am_ (blk_grown (g := gb278) (o := .cells #[.int .i64 0,.int .i64 0,.slice none 0 0,.slice none 0 0] 26 (0,0)) (zq BK278) hg (Kd.R_ne HO_287003.out BK278.out (by decide)));replace BK286 := am_ (blk_grown (g := gb286) (o := .cells #[.int .i64 t280,.int .i64 t283,u287002,u287003] 26 (0,0)) (zq BK286) hg (Kd.R_ne HO_287003.out BK286.out (by decide)));replace HI279 := am_ (IsS88.grown (IsS88.far (IsS88.far (IsS88.far (IsS88.far HI279.out (p := ⟨gb327,2,none⟩) (NB279_327.out) _) (p := ⟨gb327,3,none⟩) (NB279_327.out) _) (p := ⟨gb327,4,none⟩) (NB279_327.out) _) (p := ⟨gb327,5,none⟩) (NB279_327.out) _) hg (IsS88.own_ne HI279.out HO_287003.out (by decide)));replace HB := am_ (hb);have HO342 := am_ (ho);clear HO_287003;clear ho hb hg hat;obtain ⟨Ao78,co78,eo78⟩ := Kd.R_slice HO342.out;subst eo78;obtain ⟨hcz79_0,hcz79_1,hcz79_2,hcz79_3,hfz79_0,hfz79_1,hfz79_2,hfz79_3⟩ := zc4 BK286))
        go_roundg k2
        case measure => have := HK1.out;have := HK2.out;omega
        case rel => exact ⟨(wrap64 (x54_2 + 1)),(t338),(t339),(y340),(.slice Ao78 y340.length co78),(by first | rfl | (simp;done) | (simp [*];done)),H',⟨by have := HK1.out;have := HK2.out;omega⟩,⟨by (with_reducible repeat (first | apply Kd.S_alloc | apply Kd.S_drewN | apply Kd.S_drew));exact Kd.S_mono (Kd.S_far (p := ⟨gb286,3,none⟩) (Kd.S_types HO_287002.out BK286.out (by decide)) (fun _ hk => hk.2) (.slice Ao78 y340.length co78)) (fun _ hk => trivial)⟩,⟨by (with_reducible repeat (first | apply r1_ | apply r2_ | apply r3_));exact Kd.R_mono (zrf (Kd.R_types HO342.out BK286.out (by decide))) (fun _ hk => trivial)⟩,⟨zq BK278⟩,⟨zq BK286⟩,⟨(zi88 HI279)⟩,⟨zl_ HB⟩⟩
       ·rw [if_neg c61] at H
        exact absurd H (by simp)
      ·rw [if_neg c54] at H
       have c54b0 : decide (x54_2 < t318) = false := decide_eq_false c54
       clear c54
       replace H := Option.bind_eq_some_iff.mp H
       obtain ⟨⟨t343,t344,t345⟩,A800,H⟩ := H
       try dsimp only at H
       have A80 := am_ A800
       clear A800
       by_cases c81 : t343 = true
       ·subst c81
        have H1 : ((impl_TableOK.f k2 t280 t283 x287002_1 x287003_2).bind fun t346 => (if t346 = true then (some (t280,t283,x287002_1,x287003_2,true)) else (some (0,0,([] : List (S78)),([] : List (S84)),false)))) = some (r1,r2,r3,r4,r5) := by rw [if_pos rfl] at H;exact H
        clear H
        have H := H1
        clear H1
        replace H := Option.bind_eq_some_iff.mp H
        obtain ⟨t346,A820,H⟩ := H
        try dsimp only at H
        have A82 := am_ A820
        clear A820
        by_cases c83 : t346 = true
        ·subst c83
         have H1 : (some (t280,t283,x287002_1,x287003_2,true)) = some (r1,r2,r3,r4,r5) := by rw [if_pos rfl] at H;exact H
         clear H
         have H := H1
         clear H1
         simp only [Option.some.injEq,Prod.mk.injEq] at H
         obtain ⟨rfl,rfl,rfl,rfl,rfl⟩ := H
         go_wp2_with (first | ((with_reducible refine gate_callee (f := 51) rfl ?_);refine zgl (some 80) Try.func51 #[.pointer (some ⟨g279,0,none⟩)] ?_;(with_reducible refine (impl_reader_done.calls g279 x280000_2 x280001_2 true t344 t345 w _ ?side1 ?side2 A80.out).mono ?_);(case side1 => exact zi88 HI279);(case side2 => exact zl_ HB);rintro e w84 ⟨rfl,hi,hb,hk⟩;refine ⟨_,rfl,?_⟩;replace HO_287002 := am_ (Kd.S_mono (Kd.S_keep (IsS88.apartS (show IsS88 w _ g279 x280000_2 x280001_2 from (zi88 HI279)) (by (with_reducible repeat (first | apply Kd.S_alloc | apply Kd.S_drewN | apply Kd.S_drew));exact HO_287002.out) (by decide)) hk (fun _ h => h.2)) (fun _ h => h.1));replace HO_287003 := am_ (Kd.R_mono (Kd.R_keep (IsS88.apart (show IsS88 w _ g279 x280000_2 x280001_2 from (zi88 HI279)) (zr HO_287003) (by decide)) hk (fun _ h => h.2)) (fun _ h => h.1));replace BK278 := zkb hk BK278 NB278_279;replace BK286 := zkb hk BK286 NB286_279;replace HB := am_ (hb);replace HI279 := am_ (hi);(try clear hb);(try clear hb2);(try clear hk);(try clear hi);have hnb85 := NB286_278.out;have hnc85 := NB278_286.out;have hnb86 := NB286_279.out;have hnc86 := NB279_286.out;obtain ⟨hcz87_0,hcz87_1,hcz87_2,hcz87_3,hfz87_0,hfz87_1,hfz87_2,hfz87_3⟩ := zc4 BK286;obtain ⟨Ao88,co88,eo88⟩ := Kd.S_slice HO_287002.out;subst eo88;obtain ⟨Ao89,co89,eo89⟩ := Kd.R_slice HO_287003.out;subst eo89) | (go_at_call 52;(with_reducible refine (impl_TableOK.calls k2 t280 t283 _ _ x287002_1 _ _ x287003_2 true _ ?side1 ?side2 ?side3 ?side4 A82.out).mono ?_);(case side1 => repeat (first | exact (Kd.S_reads' HO_287002.out).2.2 | (with_reducible refine Kd.C_alloc ?_ _) | (with_reducible refine Kd.C_drewN ?_ _) | (with_reducible refine Kd.C_drew ?_)));(case side2 => exact (Kd.S_reads' HO_287002.out).2.1);(case side3 => repeat (first | exact (Kd.R_reads' HO_287003.out).2.2 | (with_reducible refine Kd.C_alloc ?_ _) | (with_reducible refine Kd.C_drewN ?_ _) | (with_reducible refine Kd.C_drew ?_)));(case side4 => exact (Kd.R_reads' HO_287003.out).2.1);rintro e w90 ⟨rfl,hb⟩;replace HO_287002 := am_ (Kd.S_below (by (with_reducible repeat (first | apply Kd.S_alloc | apply Kd.S_drewN | apply Kd.S_drew));exact HO_287002.out) hb);replace HO_287003 := zrb HO_287003 hb;replace BK278 := zb BK278 hb;replace BK286 := zb BK286 hb;replace HI279 := am_ (IsS88.below (zi88 HI279) hb);replace HB := zs_ HB hb;(try clear hb);(try clear hb2);(try clear hk);(try clear hi);obtain ⟨hcz91_0,hcz91_1,hcz91_2,hcz91_3,hfz91_0,hfz91_1,hfz91_2,hfz91_3⟩ := zc4 BK286;have hnb92 := NB278_279.out;have hnc92 := NB279_278.out;obtain ⟨hcz93_0,hcz93_1,hcz93_2,hcz93_3,hfz93_0,hfz93_1,hfz93_2,hfz93_3⟩ := zc4 BK278))
         refine bodyPost_ret (results_ct rfl _ _ gb278 26 #[.int .i64 t280,.int .i64 t283,.slice Ao88 x287002_1.length co88,.slice Ao89 x287003_2.length co89] (0,0) _ rfl (zq BK278) Try.underlying26 rfl (by kernel_rfl)) rfl ?_
         exact ⟨_,_,zt_,by (with_reducible repeat (first | apply Kd.S_alloc | apply Kd.S_drewN | apply Kd.S_drew));exact Kd.S_mono (Kd.S_far (p := ⟨gb278,3,none⟩) (Kd.S_far (p := ⟨gb278,2,none⟩) (Kd.S_far (p := ⟨gb278,1,none⟩) (Kd.S_far (p := ⟨gb278,0,none⟩) (Kd.S_types HO_287002.out BK278.out (by decide)) (fun _ hk => hk.2) (.int .i64 t280)) (fun _ hk => hk.2) (.int .i64 t283)) (fun _ hk => hk.2) (.slice Ao88 x287002_1.length co88)) (fun _ hk => hk.2) (.slice Ao89 x287003_2.length co89)) (fun _ hk => trivial),by (with_reducible repeat (first | apply r1_ | apply r2_ | apply r3_));exact Kd.R_mono (zrf (Kd.R_types HO_287003.out BK278.out (by decide))) (fun _ hk => trivial),zl_ HB⟩
        ·replace c83 := Bool.eq_false_iff.mpr c83
         subst c83
         have H1 : (some (0,0,([] : List (S78)),([] : List (S84)),false)) = some (r1,r2,r3,r4,r5) := by rw [if_neg (show ¬ (false = true) by decide)] at H;exact H
         clear H
         have H := H1
         clear H1
         simp only [Option.some.injEq,Prod.mk.injEq] at H
         obtain ⟨rfl,rfl,rfl,rfl,rfl⟩ := H
         go_wp2_with (first | ((with_reducible refine gate_callee (f := 51) rfl ?_);refine zgl (some 80) Try.func51 #[.pointer (some ⟨g279,0,none⟩)] ?_;(with_reducible refine (impl_reader_done.calls g279 x280000_2 x280001_2 true t344 t345 w _ ?side1 ?side2 A80.out).mono ?_);(case side1 => exact zi88 HI279);(case side2 => exact zl_ HB);rintro e w94 ⟨rfl,hi,hb,hk⟩;refine ⟨_,rfl,?_⟩;replace HO_287002 := am_ (Kd.S_mono (Kd.S_keep (IsS88.apartS (show IsS88 w _ g279 x280000_2 x280001_2 from (zi88 HI279)) (by (with_reducible repeat (first | apply Kd.S_alloc | apply Kd.S_drewN | apply Kd.S_drew));exact HO_287002.out) (by decide)) hk (fun _ h => h.2)) (fun _ h => h.1));replace HO_287003 := am_ (Kd.R_mono (Kd.R_keep (IsS88.apart (show IsS88 w _ g279 x280000_2 x280001_2 from (zi88 HI279)) (zr HO_287003) (by decide)) hk (fun _ h => h.2)) (fun _ h => h.1));replace BK278 := zkb hk BK278 NB278_279;replace BK286 := zkb hk BK286 NB286_279;replace HB := am_ (hb);replace HI279 := am_ (hi);(try clear hb);(try clear hb2);(try clear hk);(try clear hi);have hnb95 := NB286_278.out;have hnc95 := NB278_286.out;have hnb96 := NB286_279.out;have hnc96 := NB279_286.out;obtain ⟨hcz97_0,hcz97_1,hcz97_2,hcz97_3,hfz97_0,hfz97_1,hfz97_2,hfz97_3⟩ := zc4 BK286;obtain ⟨Ao98,co98,eo98⟩ := Kd.S_slice HO_287002.out;subst eo98;obtain ⟨Ao99,co99,eo99⟩ := Kd.R_slice HO_287003.out;subst eo99) | (go_at_call 52;(with_reducible refine (impl_TableOK.calls k2 t280 t283 _ _ x287002_1 _ _ x287003_2 false _ ?side1 ?side2 ?side3 ?side4 A82.out).mono ?_);(case side1 => repeat (first | exact (Kd.S_reads' HO_287002.out).2.2 | (with_reducible refine Kd.C_alloc ?_ _) | (with_reducible refine Kd.C_drewN ?_ _) | (with_reducible refine Kd.C_drew ?_)));(case side2 => exact (Kd.S_reads' HO_287002.out).2.1);(case side3 => repeat (first | exact (Kd.R_reads' HO_287003.out).2.2 | (with_reducible refine Kd.C_alloc ?_ _) | (with_reducible refine Kd.C_drewN ?_ _) | (with_reducible refine Kd.C_drew ?_)));(case side4 => exact (Kd.R_reads' HO_287003.out).2.1);rintro e w100 ⟨rfl,hb⟩;replace BK278 := zb BK278 hb;replace HI279 := am_ (IsS88.below (zi88 HI279) hb);replace HB := zs_ HB hb;(try clear hb);(try clear hb2);(try clear hk);(try clear hi);have hnb101 := NB278_279.out;have hnc101 := NB279_278.out;obtain ⟨hcz102_0,hcz102_1,hcz102_2,hcz102_3,hfz102_0,hfz102_1,hfz102_2,hfz102_3⟩ := zc4 BK278))
         refine bodyPost_ret (results_ct rfl _ _ gb278 26 #[.int .i64 0,.int .i64 0,.slice none 0 0,.slice none 0 0] (0,0) _ rfl (zq BK278) Try.underlying26 rfl (by kernel_rfl)) rfl ?_
         exact ⟨_,_,zt_,by first | exact Kd.S_nil _ _ _ _ _ | exact Kd.N_nil _ _ _ _ _ | exact Kd.V_nil _ _ _ _ _ | exact Kd.Q_nil _ _ _ _ _ | exact Kd.R_nil _ _ _ _ _,by first | exact Kd.R_nil _ _ _ _ _ | exact Kd.N_nil _ _ _ _ _ | exact Kd.V_nil _ _ _ _ _ | exact Kd.Q_nil _ _ _ _ _ | exact Kd.S_nil _ _ _ _ _,zl_ HB⟩
       ·replace c81 := Bool.eq_false_iff.mpr c81
        subst c81
        have H1 : (some (0,0,([] : List (S78)),([] : List (S84)),false)) = some (r1,r2,r3,r4,r5) := by rw [if_neg (show ¬ (false = true) by decide)] at H;exact H
        clear H
        have H := H1
        clear H1
        simp only [Option.some.injEq,Prod.mk.injEq] at H
        obtain ⟨rfl,rfl,rfl,rfl,rfl⟩ := H
        go_wp2_with (first | ((with_reducible refine gate_callee (f := 51) rfl ?_);refine zgl (some 80) Try.func51 #[.pointer (some ⟨g279,0,none⟩)] ?_;(with_reducible refine (impl_reader_done.calls g279 x280000_2 x280001_2 false t344 t345 w _ ?side1 ?side2 A80.out).mono ?_);(case side1 => exact zi88 HI279);(case side2 => exact zl_ HB);rintro e w103 ⟨rfl,hi,hb,hk⟩;refine ⟨_,rfl,?_⟩;replace BK278 := zkb hk BK278 NB278_279;replace HB := am_ (hb);replace HI279 := am_ (hi);(try clear hb);(try clear hb2);(try clear hk);(try clear hi);have hnb104 := NB278_286.out;have hnc104 := NB286_278.out;have hnb105 := NB278_279.out;have hnc105 := NB279_278.out;obtain ⟨hcz106_0,hcz106_1,hcz106_2,hcz106_3,hfz106_0,hfz106_1,hfz106_2,hfz106_3⟩ := zc4 BK278))
        refine bodyPost_ret (results_ct rfl _ _ gb278 26 #[.int .i64 0,.int .i64 0,.slice none 0 0,.slice none 0 0] (0,0) _ rfl (zq BK278) Try.underlying26 rfl (by kernel_rfl)) rfl ?_
        exact ⟨_,_,zt_,by first | exact Kd.S_nil _ _ _ _ _ | exact Kd.N_nil _ _ _ _ _ | exact Kd.V_nil _ _ _ _ _ | exact Kd.Q_nil _ _ _ _ _ | exact Kd.R_nil _ _ _ _ _,by first | exact Kd.R_nil _ _ _ _ _ | exact Kd.N_nil _ _ _ _ _ | exact Kd.V_nil _ _ _ _ _ | exact Kd.Q_nil _ _ _ _ _ | exact Kd.S_nil _ _ _ _ _,zl_ HB⟩
set_option maxHeartbeats 8000000 in
set_option maxRecDepth 100000 in
theorem impl_ReadTable.calls (k : Nat) (A0 : Option Addr) (c0 : Nat) (l0 : List Int) (r1 : Int) (r2 : Int) (r3 : List (S78)) (r4 : List (S84)) (r5 : Int) (w : World) (hr0 : Kd.C (Kd.int .u8) w A0 l0.length l0) (hc0 : l0.length ≤ c0) (h : impl_ReadTable.f k l0 = some (r1,r2,r3,r4,r5)) :
  Calls Try.prog 7 #[.slice A0 l0.length c0] w fun e w' => ∃ v2_ v3_ : Value,e = .returned (.tuple #[.agg #[.int .i64 r1,.int .i64 r2,v2_,v3_],.int .i64 r5]) ∧ Kd.S k78 78 w' w.heap.size (fun _ => True) v2_ r3 ∧ Kd.R k84 84 w' w.heap.size (fun _ => True) v3_ r4 ∧ Below w.heap.size w w' := by
 have hu26 := Try.underlying26
 have HR0 := am_ hr0
 have HC0 := am_ hc0
 clear hr0 hc0
 have HB := am_ (Below.refl w.heap.size w)
 have H : (if (l0.length : Int) > 65536 then (some (0,0,([] : List (S78)),([] : List (S84)),2)) else ((impl_readTable.f k (strOfNums l0)).bind fun bt348 => (if bt348.2.2.2.2 = true then (some (bt348.1,bt348.2.1,bt348.2.2.1,bt348.2.2.2.1,0)) else (some (0,0,([] : List (S78)),([] : List (S84)),3))))) = some (r1,r2,r3,r4,r5) := h
 clear h
 by_cases c2 : (l0.length : Int) > 65536
 ·rw [if_pos c2] at H
  have c2b0 : decide (65536 < (l0.length : Int)) = true := decide_eq_true c2
  have c2b1 : decide (65536 < l0.length) = true := decide_eq_true (by omega)
  clear c2
  simp only [Option.some.injEq,Prod.mk.injEq] at H
  obtain ⟨rfl,rfl,rfl,rfl,rfl⟩ := H
  go_enter Try.func7,Try.ntmps7
  go_wp2_with (first | ((with_reducible refine gate_dst (N := 2) rfl ?_);refine zbx (N := 2) (cs := #[.int .i64 0,.int .i64 0,.slice none 0 0,.slice none 0 0]) (t := 26) ?_;intro gb347 hg w3 hbox hb;have BK347 := am_ (hbox);have GW347 := zw_ HB hg;have GE347 := zw_ HB hg;replace HB := zs_ HB hb;clear hb hbox hg;obtain ⟨hcz4_0,hcz4_1,hcz4_2,hcz4_3,hfz4_0,hfz4_1,hfz4_2,hfz4_3⟩ := zc4 BK347))
  refine bodyPost_ret (results_ct rfl _ _ gb347 26 #[.int .i64 0,.int .i64 0,.slice none 0 0,.slice none 0 0] (0,0) _ rfl (zq BK347) Try.underlying26 rfl (by kernel_rfl)) rfl ?_
  exact ⟨_,_,zt_,by first | exact Kd.S_nil _ _ _ _ _ | exact Kd.N_nil _ _ _ _ _ | exact Kd.V_nil _ _ _ _ _ | exact Kd.Q_nil _ _ _ _ _ | exact Kd.R_nil _ _ _ _ _,by first | exact Kd.R_nil _ _ _ _ _ | exact Kd.N_nil _ _ _ _ _ | exact Kd.V_nil _ _ _ _ _ | exact Kd.Q_nil _ _ _ _ _ | exact Kd.S_nil _ _ _ _ _,zl_ HB⟩
 ·rw [if_neg c2] at H
  have c2b0 : decide (65536 < (l0.length : Int)) = false := decide_eq_false c2
  have c2b1 : decide (65536 < l0.length) = false := decide_eq_false (by omega)
  clear c2
  replace H := Option.bind_eq_some_iff.mp H
  obtain ⟨⟨t348,t349,t350,t353,t356⟩,A50,H⟩ := H
  try dsimp only at H
  have A5 := am_ A50
  clear A50
  by_cases c6 : t356 = true
  ·subst c6
   have H1 : (some (t348,t349,t350,t353,0)) = some (r1,r2,r3,r4,r5) := by rw [if_pos rfl] at H;exact H
   clear H
   have H := H1
   clear H1
   simp only [Option.some.injEq,Prod.mk.injEq] at H
   obtain ⟨rfl,rfl,rfl,rfl,rfl⟩ := H
   go_enter Try.func7,Try.ntmps7
   go_wp2_with (first | ((with_reducible refine gate_dst (N := 2) rfl ?_);refine zbx (N := 2) (cs := #[.int .i64 0,.int .i64 0,.slice none 0 0,.slice none 0 0]) (t := 26) ?_;intro gb347 hg w7 hbox hb;have BK347 := am_ (hbox);have GW347 := zw_ HB hg;have GE347 := zw_ HB hg;replace HB := zs_ HB hb;clear hb hbox hg;have hcv8 := Kd.C_string (P := Try.prog) (A := A0) (c := c0) Try.underlying22 Try.underlying5 Try.underlying9 (Kd.C_below HR0.out HB.out)) | ((with_reducible refine gate_callee (f := 22) rfl ?_);refine zgl (some 13) Try.func22 #[.string (strOfNums l0)] ?_;(with_reducible refine (impl_readTable.calls k (strOfNums l0) t348 t349 t350 t353 true _ A5.out).mono ?_);rintro e w9 ⟨v351,v354,rfl,ho0,ho1,hb⟩;refine ⟨_,rfl,?_⟩;have HO352 := am_ (Kd.S_lower ho0 (below_size (zl_ HB)));have HO355 := am_ (Kd.R_lower ho1 (below_size (zl_ HB)));replace BK347 := zb BK347 hb;replace HB := zs_ HB hb;(try clear hb);(try clear hb2);(try clear hk);(try clear hi);(try clear ho0);(try clear ho1)) | ((with_reducible refine gate_dst (N := 4) rfl ?_);refine zbx (N := 4) (cs := #[.int .i64 0,.int .i64 0,.slice none 0 0,.slice none 0 0]) (t := 26) ?_;intro gb357 hg w10 hbox hb;replace HO352 := am_ (Kd.S_below (by (with_reducible repeat (first | apply Kd.S_alloc | apply Kd.S_drewN | apply Kd.S_drew));exact HO352.out) hb);replace HO355 := zrb HO355 hb;have BK357 := am_ (hbox);have GW357 := zw_ HB hg;have GE357 := zw_ HB hg;replace HB := zs_ HB hb;have NB347_357 := zl hg BK347;have NB357_347 := zg hg BK347;replace BK347 := zb BK347 hb;clear hb hbox hg;have hnb11 := NB357_347.out;have hnc11 := NB347_357.out;obtain ⟨hcz12_0,hcz12_1,hcz12_2,hcz12_3,hfz12_0,hfz12_1,hfz12_2,hfz12_3⟩ := zc4 BK357;obtain ⟨Ao13,co13,eo13⟩ := Kd.S_slice HO352.out;subst eo13;obtain ⟨Ao14,co14,eo14⟩ := Kd.R_slice HO355.out;subst eo14;obtain ⟨hcz15_0,hcz15_1,hcz15_2,hcz15_3,hfz15_0,hfz15_1,hfz15_2,hfz15_3⟩ := zc4 BK347))
   refine bodyPost_ret (results_ct rfl _ _ gb347 26 #[.int .i64 t348,.int .i64 t349,.slice Ao13 t350.length co13,.slice Ao14 t353.length co14] (0,0) _ rfl (zq BK347) Try.underlying26 rfl (by kernel_rfl)) rfl ?_
   exact ⟨_,_,zt_,by (with_reducible repeat (first | apply Kd.S_alloc | apply Kd.S_drewN | apply Kd.S_drew));exact Kd.S_mono (Kd.S_far (p := ⟨gb347,3,none⟩) (Kd.S_far (p := ⟨gb347,2,none⟩) (Kd.S_far (p := ⟨gb347,1,none⟩) (Kd.S_far (p := ⟨gb347,0,none⟩) (Kd.S_far (p := ⟨gb357,3,none⟩) (Kd.S_far (p := ⟨gb357,2,none⟩) (Kd.S_far (p := ⟨gb357,1,none⟩) (Kd.S_far (p := ⟨gb357,0,none⟩) (Kd.S_types (Kd.S_types HO352.out BK357.out (by decide)) BK347.out (by decide)) (fun _ hk => hk.1.2) (.int .i64 t348)) (fun _ hk => hk.1.2) (.int .i64 t349)) (fun _ hk => hk.1.2) (.slice Ao13 t350.length co13)) (fun _ hk => hk.1.2) (.slice Ao14 t353.length co14)) (fun _ hk => hk.2) (.int .i64 t348)) (fun _ hk => hk.2) (.int .i64 t349)) (fun _ hk => hk.2) (.slice Ao13 t350.length co13)) (fun _ hk => hk.2) (.slice Ao14 t353.length co14)) (fun _ hk => trivial),by (with_reducible repeat (first | apply r1_ | apply r2_ | apply r3_));exact Kd.R_mono (Kd.Rf (Kd.Rf (Kd.Rf (Kd.Rf (Kd.R_far (p := ⟨gb357,3,none⟩) (Kd.R_far (p := ⟨gb357,2,none⟩) (Kd.R_far (p := ⟨gb357,1,none⟩) (Kd.R_far (p := ⟨gb357,0,none⟩) (Kd.R_types (Kd.R_types HO355.out BK357.out (by decide)) BK347.out (by decide)) (fun _ hk => hk.1.2) (.int .i64 t348)) (fun _ hk => hk.1.2) (.int .i64 t349)) (fun _ hk => hk.1.2) (.slice Ao13 t350.length co13)) (fun _ hk => hk.1.2) (.slice Ao14 t353.length co14)))))) (fun _ hk => trivial),zl_ HB⟩
  ·replace c6 := Bool.eq_false_iff.mpr c6
   subst c6
   have H1 : (some (0,0,([] : List (S78)),([] : List (S84)),3)) = some (r1,r2,r3,r4,r5) := by rw [if_neg (show ¬ (false = true) by decide)] at H;exact H
   clear H
   have H := H1
   clear H1
   simp only [Option.some.injEq,Prod.mk.injEq] at H
   obtain ⟨rfl,rfl,rfl,rfl,rfl⟩ := H
   go_enter Try.func7,Try.ntmps7
   go_wp2_with (first | ((with_reducible refine gate_dst (N := 2) rfl ?_);refine zbx (N := 2) (cs := #[.int .i64 0,.int .i64 0,.slice none 0 0,.slice none 0 0]) (t := 26) ?_;intro gb347 hg w16 hbox hb;have BK347 := am_ (hbox);have GW347 := zw_ HB hg;have GE347 := zw_ HB hg;replace HB := zs_ HB hb;clear hb hbox hg;have hcv17 := Kd.C_string (P := Try.prog) (A := A0) (c := c0) Try.underlying22 Try.underlying5 Try.underlying9 (Kd.C_below HR0.out HB.out)) | ((with_reducible refine gate_callee (f := 22) rfl ?_);refine zgl (some 13) Try.func22 #[.string (strOfNums l0)] ?_;(with_reducible refine (impl_readTable.calls k (strOfNums l0) t348 t349 t350 t353 false _ A5.out).mono ?_);rintro e w18 ⟨v351,v354,rfl,ho0,ho1,hb⟩;refine ⟨_,rfl,?_⟩;have HO352 := am_ (Kd.S_lower ho0 (below_size (zl_ HB)));have HO355 := am_ (Kd.R_lower ho1 (below_size (zl_ HB)));replace BK347 := zb BK347 hb;replace HB := zs_ HB hb;(try clear hb);(try clear hb2);(try clear hk);(try clear hi);(try clear ho0);(try clear ho1)) | ((with_reducible refine gate_dst (N := 4) rfl ?_);refine zbx (N := 4) (cs := #[.int .i64 0,.int .i64 0,.slice none 0 0,.slice none 0 0]) (t := 26) ?_;intro gb357 hg w19 hbox hb;replace HO352 := am_ (Kd.S_below (by (with_reducible repeat (first | apply Kd.S_alloc | apply Kd.S_drewN | apply Kd.S_drew));exact HO352.out) hb);replace HO355 := zrb HO355 hb;have BK357 := am_ (hbox);have GW357 := zw_ HB hg;have GE357 := zw_ HB hg;replace HB := zs_ HB hb;have NB347_357 := zl hg BK347;have NB357_347 := zg hg BK347;replace BK347 := zb BK347 hb;clear hb hbox hg;have hnb20 := NB357_347.out;have hnc20 := NB347_357.out;obtain ⟨hcz21_0,hcz21_1,hcz21_2,hcz21_3,hfz21_0,hfz21_1,hfz21_2,hfz21_3⟩ := zc4 BK357;obtain ⟨Ao22,co22,eo22⟩ := Kd.S_slice HO352.out;subst eo22;obtain ⟨Ao23,co23,eo23⟩ := Kd.R_slice HO355.out;subst eo23;obtain ⟨hcz24_0,hcz24_1,hcz24_2,hcz24_3,hfz24_0,hfz24_1,hfz24_2,hfz24_3⟩ := zc4 BK347))
   refine bodyPost_ret (results_ct rfl _ _ gb347 26 #[.int .i64 0,.int .i64 0,.slice none 0 0,.slice none 0 0] (0,0) _ rfl (zq BK347) Try.underlying26 rfl (by kernel_rfl)) rfl ?_
   exact ⟨_,_,zt_,by first | exact Kd.S_nil _ _ _ _ _ | exact Kd.N_nil _ _ _ _ _ | exact Kd.V_nil _ _ _ _ _ | exact Kd.Q_nil _ _ _ _ _ | exact Kd.R_nil _ _ _ _ _,by first | exact Kd.R_nil _ _ _ _ _ | exact Kd.N_nil _ _ _ _ _ | exact Kd.V_nil _ _ _ _ _ | exact Kd.Q_nil _ _ _ _ _ | exact Kd.S_nil _ _ _ _ _,zl_ HB⟩
set_option maxHeartbeats 8000000 in
set_option maxRecDepth 100000 in
theorem laws_eqByteS.calls (k : Nat) (A0 : Option Addr) (c0 : Nat) (l0 : List Int) (A1 : Option Addr) (c1 : Nat) (l1 : List Int) (r : Bool) (w : World) (hr0 : Kd.C (Kd.int .u8) w A0 l0.length l0) (hc0 : l0.length ≤ c0) (hr1 : Kd.C (Kd.int .u8) w A1 l1.length l1) (hc1 : l1.length ≤ c1) (h : laws_eqByteS.f k l0 l1 = some r) :
  Calls Try.prog 9 #[.slice A0 l0.length c0,.slice A1 l1.length c1] w fun e w' => e = .returned (.bool r) ∧ Drawn0 w w' := by
 have HR0 := am_ hr0
 have HC0 := am_ hc0
 clear hr0 hc0
 have HR1 := am_ hr1
 have HC1 := am_ hc1
 clear hr1 hc1
 have H : (if (l0.length : Int) = (l1.length : Int) then (laws_eqByteS.l0 k l0 l1 0) else (some false)) = some r := h
 clear h
 by_cases c3 : (l0.length : Int) = (l1.length : Int)
 ·rw [if_pos c3] at H
  have c3b0 : ((l0.length : Int) == (l1.length : Int)) = true := beq_iff_eq.mpr c3
  have c3b1 : ((l0.length : Int) != (l1.length : Int)) = false := bne_eq_false_iff_eq.mpr c3
  have c3b2 : (l0.length == l1.length) = true := by first | simpa using c3 | (simp at c3 ⊢;omega)
  clear c3
  have H' := am_ H
  clear H
  go_enter Try.func9,Try.ntmps9
  go_wp2
  repeat (go_quiet (fail);try go_wp2)
  go_loopg [5] k (fun kq v5 w' => ∃ (x5_1 : Int),v5 = .int .i64 x5_1 ∧ Aside0 (laws_eqByteS.l0 kq l0 l1 x5_1 = some r) ∧ Aside0 (kq ≤ k) ∧ Drawn0 w w')
  case atStart => exact ⟨(0),(by first | rfl | (simp;done) | (simp [*];done)),H',⟨Nat.le_refl _⟩,by repeat (first | exact Drawn0.refl _ | apply Drawn0.step)⟩
  case round =>
   clear H'
   try clear c1
   try clear p2
   try clear c3
   try clear c3b0
   try clear c3b1
   try clear c3b2
   obtain ⟨x5_1,rfl,HA,HK1,⟨m1,rfl⟩⟩ := hrel
   cases gk with
   | zero => exact absurd HA.out (by simp [laws_eqByteS.l0])
   | succ k1 =>
    have H := HA.out
    clear HA
    simp only [laws_eqByteS.l0] at H
    by_cases c4 : x5_1 < (l0.length : Int)
    ·rw [if_pos c4] at H
     have c4b0 : decide (x5_1 < (l0.length : Int)) = true := decide_eq_true c4
     clear c4
     by_cases c5 : 0 ≤ x5_1
     ·rw [if_pos c5] at H
      have c5b0 : decide (0 ≤ x5_1) = true := decide_eq_true c5
      clear c5
      by_cases c6 : x5_1 < (l1.length : Int)
      ·rw [if_pos c6] at H
       have c6b0 : decide (x5_1 < (l1.length : Int)) = true := decide_eq_true c6
       clear c6
       by_cases c7 : (rd l0 x5_1) = (rd l1 x5_1)
       ·rw [if_pos c7] at H
        have c7b0 : ((rd l0 x5_1) == (rd l1 x5_1)) = true := beq_iff_eq.mpr c7
        have c7b1 : ((rd l0 x5_1) != (rd l1 x5_1)) = false := bne_eq_false_iff_eq.mpr c7
        clear c7
        have H' := am_ H
        clear H
        have p381 : 0 ≤ (x5_1 : Int) := zo_
        have q381 : x5_1 < (l0.length : Int) := zo_
        obtain ⟨ad381,e381,hx381_0⟩ := Kd.at_int HR0.out x5_1 p381 q381
        cases e381
        replace p381 := eq_true p381
        replace q381 := eq_true q381
        have p382 : 0 ≤ (x5_1 : Int) := zo_
        have q382 : x5_1 < (l1.length : Int) := zo_
        obtain ⟨ad382,e382,hx382_0⟩ := Kd.at_int HR1.out x5_1 p382 q382
        cases e382
        replace p382 := eq_true p382
        replace q382 := eq_true q382
        go_wp2
        repeat (go_quiet (fail);try go_wp2)
        go_roundg k1
        case measure => have := HK1.out;omega
        case rel => exact ⟨(wrap64 (x5_1 + 1)),(by first | rfl | (simp;done) | (simp [*];done)),H',⟨by have := HK1.out;omega⟩,by repeat (first | exact Drawn0.refl _ | apply Drawn0.step)⟩
       ·rw [if_neg c7] at H
        have c7b0 : ((rd l0 x5_1) == (rd l1 x5_1)) = false := beq_eq_false_iff_ne.mpr c7
        have c7b1 : ((rd l0 x5_1) != (rd l1 x5_1)) = true := bne_iff_ne.mpr c7
        obtain rfl := Option.some.inj H
        have p381 : 0 ≤ (x5_1 : Int) := zo_
        have q381 : x5_1 < (l0.length : Int) := zo_
        obtain ⟨ad381,e381,hx381_0⟩ := Kd.at_int HR0.out x5_1 p381 q381
        cases e381
        replace p381 := eq_true p381
        replace q381 := eq_true q381
        have p382 : 0 ≤ (x5_1 : Int) := zo_
        have q382 : x5_1 < (l1.length : Int) := zo_
        obtain ⟨ad382,e382,hx382_0⟩ := Kd.at_int HR1.out x5_1 p382 q382
        cases e382
        replace p382 := eq_true p382
        replace q382 := eq_true q382
        go_wp2
        repeat (go_quiet (fail);try go_wp2)
        go_ret
        exact ⟨by first | rfl | (simp;done) | (simp [*];done),by repeat (first | exact Drawn0.refl _ | apply Drawn0.step)⟩
      ·rw [if_neg c6] at H
       exact absurd H (by simp)
     ·rw [if_neg c5] at H
      exact absurd H (by simp)
    ·rw [if_neg c4] at H
     have c4b0 : decide (x5_1 < (l0.length : Int)) = false := decide_eq_false c4
     clear c4
     obtain rfl := Option.some.inj H
     go_wp2
     repeat (go_quiet (fail);try go_wp2)
     go_ret
     exact ⟨by first | rfl | (simp;done) | (simp [*];done),by repeat (first | exact Drawn0.refl _ | apply Drawn0.step)⟩
 ·rw [if_neg c3] at H
  have c3b0 : ((l0.length : Int) == (l1.length : Int)) = false := beq_eq_false_iff_ne.mpr c3
  have c3b1 : ((l0.length : Int) != (l1.length : Int)) = true := bne_iff_ne.mpr c3
  have c3b2 : (l0.length == l1.length) = false := by first | simpa using c3 | (simp at c3 ⊢;omega)
  obtain rfl := Option.some.inj H
  go_enter Try.func9,Try.ntmps9
  go_wp2
  repeat (go_quiet (fail);try go_wp2)
  go_ret
  exact ⟨by first | rfl | (simp;done) | (simp [*];done),by repeat (first | exact Drawn0.refl _ | apply Drawn0.step)⟩
set_option maxHeartbeats 8000000 in
set_option maxRecDepth 100000 in
theorem laws_eqWaiter.calls (a0_0 : Int) (a0_1 : Int) (a1_0 : Int) (a1_1 : Int) (r : Bool) (w : World) (h : laws_eqWaiter.f a0_0 a0_1 a1_0 a1_1 = some r) :
  Calls Try.prog 88 #[.agg #[.int .i64 a0_0,.int .i64 a0_1],.agg #[.int .i64 a1_0,.int .i64 a1_1]] w fun e w' => e = .returned (.bool r) ∧ Below w.heap.size w w' := by
 have hu80 := Try.underlying80
 have HB := am_ (Below.refl w.heap.size w)
 have H : (if a0_0 = a1_0 then (if a0_1 = a1_1 then (some true) else (some false)) else (some false)) = some r := h
 clear h
 by_cases c3 : a0_0 = a1_0
 ·rw [if_pos c3] at H
  have c3b0 : (a0_0 == a1_0) = true := beq_iff_eq.mpr c3
  have c3b1 : (a0_0 != a1_0) = false := bne_eq_false_iff_eq.mpr c3
  clear c3
  by_cases c4 : a0_1 = a1_1
  ·rw [if_pos c4] at H
   have c4b0 : (a0_1 == a1_1) = true := beq_iff_eq.mpr c4
   have c4b1 : (a0_1 != a1_1) = false := bne_eq_false_iff_eq.mpr c4
   clear c4
   obtain rfl := Option.some.inj H
   go_enter Try.func88,Try.ntmps88
   go_wp2_with (first | ((with_reducible refine gate_dst (N := 2) rfl ?_);refine zbx (N := 2) (cs := #[.int .i64 a0_0,.int .i64 a0_1]) (t := 80) ?_;intro gb358 hg w5 hbox hb;have BK358 := am_ (hbox);have GW358 := zw_ HB hg;have GE358 := zw_ HB hg;replace HB := zs_ HB hb;clear hb hbox hg) | ((with_reducible refine gate_dst (N := 3) rfl ?_);refine zbx (N := 3) (cs := #[.int .i64 a1_0,.int .i64 a1_1]) (t := 80) ?_;intro gb359 hg w6 hbox hb;have BK359 := am_ (hbox);have GW359 := zw_ HB hg;have GE359 := zw_ HB hg;replace HB := zs_ HB hb;have NB358_359 := zl hg BK358;have NB359_358 := zg hg BK358;replace BK358 := zb BK358 hb;clear hb hbox hg;have hnb7 := NB358_359.out;have hnc7 := NB359_358.out;obtain ⟨hcz8_0,hcz8_1,hfz8_0,hfz8_1⟩ := zc2 BK358;obtain ⟨hcz9_0,hcz9_1,hfz9_0,hfz9_1⟩ := zc2 BK359))
   go_ret
   exact ⟨zt_,zl_ HB⟩
  ·rw [if_neg c4] at H
   have c4b0 : (a0_1 == a1_1) = false := beq_eq_false_iff_ne.mpr c4
   have c4b1 : (a0_1 != a1_1) = true := bne_iff_ne.mpr c4
   obtain rfl := Option.some.inj H
   go_enter Try.func88,Try.ntmps88
   go_wp2_with (first | ((with_reducible refine gate_dst (N := 2) rfl ?_);refine zbx (N := 2) (cs := #[.int .i64 a0_0,.int .i64 a0_1]) (t := 80) ?_;intro gb358 hg w10 hbox hb;have BK358 := am_ (hbox);have GW358 := zw_ HB hg;have GE358 := zw_ HB hg;replace HB := zs_ HB hb;clear hb hbox hg) | ((with_reducible refine gate_dst (N := 3) rfl ?_);refine zbx (N := 3) (cs := #[.int .i64 a1_0,.int .i64 a1_1]) (t := 80) ?_;intro gb359 hg w11 hbox hb;have BK359 := am_ (hbox);have GW359 := zw_ HB hg;have GE359 := zw_ HB hg;replace HB := zs_ HB hb;have NB358_359 := zl hg BK358;have NB359_358 := zg hg BK358;replace BK358 := zb BK358 hb;clear hb hbox hg;have hnb12 := NB358_359.out;have hnc12 := NB359_358.out;obtain ⟨hcz13_0,hcz13_1,hfz13_0,hfz13_1⟩ := zc2 BK358;obtain ⟨hcz14_0,hcz14_1,hfz14_0,hfz14_1⟩ := zc2 BK359))
   go_ret
   exact ⟨zt_,zl_ HB⟩
 ·rw [if_neg c3] at H
  have c3b0 : (a0_0 == a1_0) = false := beq_eq_false_iff_ne.mpr c3
  have c3b1 : (a0_0 != a1_0) = true := bne_iff_ne.mpr c3
  obtain rfl := Option.some.inj H
  go_enter Try.func88,Try.ntmps88
  go_wp2_with (first | ((with_reducible refine gate_dst (N := 2) rfl ?_);refine zbx (N := 2) (cs := #[.int .i64 a0_0,.int .i64 a0_1]) (t := 80) ?_;intro gb358 hg w15 hbox hb;have BK358 := am_ (hbox);have GW358 := zw_ HB hg;have GE358 := zw_ HB hg;replace HB := zs_ HB hb;clear hb hbox hg) | ((with_reducible refine gate_dst (N := 3) rfl ?_);refine zbx (N := 3) (cs := #[.int .i64 a1_0,.int .i64 a1_1]) (t := 80) ?_;intro gb359 hg w16 hbox hb;have BK359 := am_ (hbox);have GW359 := zw_ HB hg;have GE359 := zw_ HB hg;replace HB := zs_ HB hb;have NB358_359 := zl hg BK358;have NB359_358 := zg hg BK358;replace BK358 := zb BK358 hb;clear hb hbox hg;have hnb17 := NB358_359.out;have hnc17 := NB359_358.out;obtain ⟨hcz18_0,hcz18_1,hfz18_0,hfz18_1⟩ := zc2 BK358;obtain ⟨hcz19_0,hcz19_1,hfz19_0,hfz19_1⟩ := zc2 BK359))
  go_ret
  exact ⟨zt_,zl_ HB⟩
def laws_eqWaiterS.T6 : Bool × List (List Nat × List Nat) := (true,[([],[]),([],[]),([0,1],[0,1]),([2],[2]),([],[]),([],[]),([4,5],[4,5]),([6],[6]),([3,7],[3,7]),([8],[8])])
def laws_eqWaiterS.B6 : List Nat := [0,0,3,7,0,0,48,112,255,511]
theorem laws_eqWaiterS.tab6 : rtab .any (opsOf Try.f79 6) = laws_eqWaiterS.T6 := by kernel_rfl
theorem laws_eqWaiterS.bits6 : waitsOk laws_eqWaiterS.T6.2 laws_eqWaiterS.B6 = true := by kernel_rfl
set_option maxHeartbeats 8000000 in
set_option maxRecDepth 100000 in
theorem laws_eqWaiterS.calls (k : Nat) (A0 : Option Addr) (c0 : Nat) (l0 : List (S80)) (A1 : Option Addr) (c1 : Nat) (l1 : List (S80)) (r : Bool) (w : World) (hr0 : Kd.C k80 w A0 l0.length l0) (hc0 : l0.length ≤ c0) (hr1 : Kd.C k80 w A1 l1.length l1) (hc1 : l1.length ≤ c1) (h : laws_eqWaiterS.f k l0 l1 = some r) :
  Calls Try.prog 79 #[.slice A0 l0.length c0,.slice A1 l1.length c1] w fun e w' => e = .returned (.bool r) ∧ Below w.heap.size w w' := by
 have hu80 := Try.underlying80
 have HR0 := am_ hr0
 have HC0 := am_ hc0
 clear hr0 hc0
 have HR1 := am_ hr1
 have HC1 := am_ hc1
 clear hr1 hc1
 have HB := am_ (Below.refl w.heap.size w)
 have H : (if (l0.length : Int) = (l1.length : Int) then (laws_eqWaiterS.l0 k l0 l1 0) else (some false)) = some r := h
 clear h
 by_cases c3 : (l0.length : Int) = (l1.length : Int)
 ·rw [if_pos c3] at H
  have c3b0 : ((l0.length : Int) == (l1.length : Int)) = true := beq_iff_eq.mpr c3
  have c3b1 : ((l0.length : Int) != (l1.length : Int)) = false := bne_eq_false_iff_eq.mpr c3
  have c3b2 : (l0.length == l1.length) = true := by first | simpa using c3 | (simp at c3 ⊢;omega)
  clear c3
  have H' := am_ H
  clear H
  go_enter Try.func79,Try.ntmps79
  go_wp2
  go_loopg [5] k (fun kq v5 w' => ∃ (x5_1 : Int),v5 = .int .i64 x5_1 ∧ Aside0 (laws_eqWaiterS.l0 kq l0 l1 x5_1 = some r) ∧ Aside0 (kq ≤ k) ∧ Aside0 (Below w.heap.size w w'))
  case atStart => exact ⟨(0),(by first | rfl | (simp;done) | (simp [*];done)),H',⟨Nat.le_refl _⟩,⟨zl_ HB⟩⟩
  case round =>
   clear H'
   try clear c1
   try clear p2
   try clear c3
   try clear c3b0
   try clear c3b1
   try clear c3b2
   obtain ⟨x5_1,rfl,HA,HK1,HB⟩ := hrel
   cases gk with
   | zero => exact absurd HA.out (by simp [laws_eqWaiterS.l0])
   | succ k1 =>
    have H := HA.out
    clear HA
    simp only [laws_eqWaiterS.l0] at H
    by_cases c4 : x5_1 < (l0.length : Int)
    ·rw [if_pos c4] at H
     have c4b0 : decide (x5_1 < (l0.length : Int)) = true := decide_eq_true c4
     clear c4
     by_cases c5 : 0 ≤ x5_1
     ·rw [if_pos c5] at H
      have c5b0 : decide (0 ≤ x5_1) = true := decide_eq_true c5
      clear c5
      by_cases c6 : x5_1 < (l1.length : Int)
      ·rw [if_pos c6] at H
       have c6b0 : decide (x5_1 < (l1.length : Int)) = true := decide_eq_true c6
       clear c6
       replace H := Option.bind_eq_some_iff.mp H
       obtain ⟨t362,A70,H⟩ := H
       try dsimp only at H
       have A7 := am_ A70
       clear A70
       by_cases c8 : t362 = true
       ·subst c8
        have H1 : (laws_eqWaiterS.l0 k1 l0 l1 (wrap64 (x5_1 + 1))) = some r := by rw [if_pos rfl] at H;exact H
        clear H
        have H := H1
        clear H1
        have H' := am_ H
        clear H
        try go_wp2
        replace HB := am_ (below_drew1 HB.out)
        have p360 : 0 ≤ (x5_1 : Int) := zo_
        have q360 : x5_1 < (l0.length : Int) := zo_
        obtain ⟨ad360,e360,hx360_0,hx360_1⟩ := at_T80 HR0.out x5_1 p360 q360
        have hw360_1 := hx360_1
        have hw360_0 := hx360_0
        cases e360
        replace hx360_0 := zx_ HB hx360_0
        replace hx360_1 := zx_ HB hx360_1
        replace p360 := eq_true p360
        replace q360 := eq_true q360
        have p361 : 0 ≤ (x5_1 : Int) := zo_
        have q361 : x5_1 < (l1.length : Int) := zo_
        obtain ⟨ad361,e361,hx361_0,hx361_1⟩ := at_T80 HR1.out x5_1 p361 q361
        have hw361_1 := hx361_1
        have hw361_0 := hx361_0
        cases e361
        replace hx361_0 := zx_ HB hx361_0
        replace hx361_1 := zx_ HB hx361_1
        replace p361 := eq_true p361
        replace q361 := eq_true q361
        refine start_ (n := 10) (S := fun w' => w'.cell? (ad360.add ((x5_1).toNat * 2)) = some (.int .i64 ((rd_T80 l0 x5_1).f0)) ∧ w'.cell? ⟨(ad360.add ((x5_1).toNat * 2)).block,(ad360.add ((x5_1).toNat * 2)).off + 1,none⟩ = some (.int .i64 ((rd_T80 l0 x5_1).f1)) ∧ w'.cell? (ad361.add ((x5_1).toNat * 2)) = some (.int .i64 ((rd_T80 l1 x5_1).f0)) ∧ w'.cell? ⟨(ad361.add ((x5_1).toNat * 2)).block,(ad361.add ((x5_1).toNat * 2)).off + 1,none⟩ = some (.int .i64 ((rd_T80 l1 x5_1).f1))) (ds := []) #[false,false,false,false,false,false,false,false,false,false] (by kernel_rfl) rfl rfl ⟨(zx_ HB hw360_0),(zx_ HB hw360_1),(zx_ HB hw361_0),(zx_ HB hw361_1)⟩ (fun hHeld => ?_);refine with_tabW laws_eqWaiterS.tab6 laws_eqWaiterS.bits6 (fun HT_ HW_ => ?_)
        generalize wr.drew = w9 at HB hx360_0 hx360_1 hx361_0 hx361_1 hHeld ⊢
        refine zpu 0 (N := some 17) HT_ ?_
        refine zpu 1 (N := some 18) HT_ ?_
        refine zpu 2 (N := some 19) HT_ ?_
        refine zpu 4 (N := some 21) HT_ ?_
        refine zpu 5 (N := some 22) HT_ ?_
        refine zpu 6 (N := some 23) HT_ ?_
        refine ztk 3 (N := some 20) HT_ HW_ hHeld ?_
        refine ztk 7 (N := some 24) HT_ HW_ hHeld ?_
        refine zon 8 (N := some 25) HT_ (fun K hK => ?_)
        refine zgo Try.func88 #[.agg #[.int .i64 ((rd_T80 l0 x5_1).f0),.int .i64 ((rd_T80 l0 x5_1).f1)],.agg #[.int .i64 ((rd_T80 l1 x5_1).f0),.int .i64 ((rd_T80 l1 x5_1).f1)]] ?_
        with_reducible refine (laws_eqWaiter.calls ((rd_T80 l0 x5_1).f0) ((rd_T80 l0 x5_1).f1) ((rd_T80 l1 x5_1).f0) ((rd_T80 l1 x5_1).f1) true _ A7.out).mono ?_
        rintro e w10 ⟨rfl,hb⟩
        refine ⟨_,rfl,?_⟩
        replace HB := zs_ HB hb
        (try clear hb)
        (try clear hb2)
        (try clear hk)
        (try clear hi)
        refine hK.out _ _ ⟨(zx_ HB hw360_0),(zx_ HB hw360_1),(zx_ HB hw361_0),(zx_ HB hw361_1)⟩ (fun hHeld => ?_)
        clear hK K
        refine norm_ (a' := ?_) ?_ ?_
        rotate_left
        ·show Act.put _ (some 25) _ = _
         simp only [Act.put,p1_,p2_,p3_,i64_w,i32_w]
         rfl
        refine zpu 9 (N := some 26) HT_ ?_
        refine done_ (done_of HT_.out (by kernel_rfl)) ?_
        try go_wp2
        go_roundg k1
        case measure => have := HK1.out;omega
        case rel => exact ⟨(wrap64 (x5_1 + 1)),(by first | rfl | (simp;done) | (simp [*];done)),H',⟨by have := HK1.out;omega⟩,⟨zl_ HB⟩⟩
       ·replace c8 := Bool.eq_false_iff.mpr c8
        subst c8
        have H1 : (some false) = some r := by rw [if_neg (show ¬ (false = true) by decide)] at H;exact H
        clear H
        have H := H1
        clear H1
        obtain rfl := Option.some.inj H
        try go_wp2
        replace HB := am_ (below_drew1 HB.out)
        have p360 : 0 ≤ (x5_1 : Int) := zo_
        have q360 : x5_1 < (l0.length : Int) := zo_
        obtain ⟨ad360,e360,hx360_0,hx360_1⟩ := at_T80 HR0.out x5_1 p360 q360
        have hw360_1 := hx360_1
        have hw360_0 := hx360_0
        cases e360
        replace hx360_0 := zx_ HB hx360_0
        replace hx360_1 := zx_ HB hx360_1
        replace p360 := eq_true p360
        replace q360 := eq_true q360
        have p361 : 0 ≤ (x5_1 : Int) := zo_
        have q361 : x5_1 < (l1.length : Int) := zo_
        obtain ⟨ad361,e361,hx361_0,hx361_1⟩ := at_T80 HR1.out x5_1 p361 q361
        have hw361_1 := hx361_1
        have hw361_0 := hx361_0
        cases e361
        replace hx361_0 := zx_ HB hx361_0
        replace hx361_1 := zx_ HB hx361_1
        replace p361 := eq_true p361
        replace q361 := eq_true q361
        refine start_ (n := 10) (S := fun w' => w'.cell? (ad360.add ((x5_1).toNat * 2)) = some (.int .i64 ((rd_T80 l0 x5_1).f0)) ∧ w'.cell? ⟨(ad360.add ((x5_1).toNat * 2)).block,(ad360.add ((x5_1).toNat * 2)).off + 1,none⟩ = some (.int .i64 ((rd_T80 l0 x5_1).f1)) ∧ w'.cell? (ad361.add ((x5_1).toNat * 2)) = some (.int .i64 ((rd_T80 l1 x5_1).f0)) ∧ w'.cell? ⟨(ad361.add ((x5_1).toNat * 2)).block,(ad361.add ((x5_1).toNat * 2)).off + 1,none⟩ = some (.int .i64 ((rd_T80 l1 x5_1).f1))) (ds := []) #[false,false,false,false,false,false,false,false,false,false] (by kernel_rfl) rfl rfl ⟨(zx_ HB hw360_0),(zx_ HB hw360_1),(zx_ HB hw361_0),(zx_ HB hw361_1)⟩ (fun hHeld => ?_);refine with_tabW laws_eqWaiterS.tab6 laws_eqWaiterS.bits6 (fun HT_ HW_ => ?_)
        generalize wr.drew = w11 at HB hx360_0 hx360_1 hx361_0 hx361_1 hHeld ⊢
        refine zpu 0 (N := some 17) HT_ ?_
        refine zpu 1 (N := some 18) HT_ ?_
        refine zpu 2 (N := some 19) HT_ ?_
        refine zpu 4 (N := some 21) HT_ ?_
        refine zpu 5 (N := some 22) HT_ ?_
        refine zpu 6 (N := some 23) HT_ ?_
        refine ztk 3 (N := some 20) HT_ HW_ hHeld ?_
        refine ztk 7 (N := some 24) HT_ HW_ hHeld ?_
        refine zon 8 (N := some 25) HT_ (fun K hK => ?_)
        refine zgo Try.func88 #[.agg #[.int .i64 ((rd_T80 l0 x5_1).f0),.int .i64 ((rd_T80 l0 x5_1).f1)],.agg #[.int .i64 ((rd_T80 l1 x5_1).f0),.int .i64 ((rd_T80 l1 x5_1).f1)]] ?_
        with_reducible refine (laws_eqWaiter.calls ((rd_T80 l0 x5_1).f0) ((rd_T80 l0 x5_1).f1) ((rd_T80 l1 x5_1).f0) ((rd_T80 l1 x5_1).f1) false _ A7.out).mono ?_
        rintro e w12 ⟨rfl,hb⟩
        refine ⟨_,rfl,?_⟩
        replace HB := zs_ HB hb
        (try clear hb)
        (try clear hb2)
        (try clear hk)
        (try clear hi)
        refine hK.out _ _ ⟨(zx_ HB hw360_0),(zx_ HB hw360_1),(zx_ HB hw361_0),(zx_ HB hw361_1)⟩ (fun hHeld => ?_)
        clear hK K
        refine norm_ (a' := ?_) ?_ ?_
        rotate_left
        ·show Act.put _ (some 25) _ = _
         simp only [Act.put,p1_,p2_,p3_,i64_w,i32_w]
         rfl
        refine zpu 9 (N := some 26) HT_ ?_
        refine done_ (done_of HT_.out (by kernel_rfl)) ?_
        try go_wp2
        go_ret
        exact ⟨zt_,zl_ HB⟩
      ·rw [if_neg c6] at H
       exact absurd H (by simp)
     ·rw [if_neg c5] at H
      exact absurd H (by simp)
    ·rw [if_neg c4] at H
     have c4b0 : decide (x5_1 < (l0.length : Int)) = false := decide_eq_false c4
     clear c4
     obtain rfl := Option.some.inj H
     go_wp2
     go_ret
     exact ⟨zt_,zl_ HB⟩
 ·rw [if_neg c3] at H
  have c3b0 : ((l0.length : Int) == (l1.length : Int)) = false := beq_eq_false_iff_ne.mpr c3
  have c3b1 : ((l0.length : Int) != (l1.length : Int)) = true := bne_iff_ne.mpr c3
  have c3b2 : (l0.length == l1.length) = false := by first | simpa using c3 | (simp at c3 ⊢;omega)
  obtain rfl := Option.some.inj H
  go_enter Try.func79,Try.ntmps79
  go_wp2
  go_ret
  exact ⟨zt_,zl_ HB⟩
set_option maxHeartbeats 8000000 in
set_option maxRecDepth 100000 in
theorem laws_eqLock.calls (k : Nat) (a0_0 : ByteArray) (a0_1 : Int) (a0_2 : Int) (a0_3 : Int) (A0_4 : Option Addr) (c0_4 : Nat) (l0_4 : List (S80)) (a1_0 : ByteArray) (a1_1 : Int) (a1_2 : Int) (a1_3 : Int) (A1_4 : Option Addr) (c1_4 : Nat) (l1_4 : List (S80)) (r : Bool) (w : World) (hr0_4 : Kd.C k80 w A0_4 l0_4.length l0_4) (hc0_4 : l0_4.length ≤ c0_4) (hr1_4 : Kd.C k80 w A1_4 l1_4.length l1_4) (hc1_4 : l1_4.length ≤ c1_4) (h : laws_eqLock.f k a0_0 a0_1 a0_2 a0_3 l0_4 a1_0 a1_1 a1_2 a1_3 l1_4 = some r) :
  Calls Try.prog 53 #[.agg #[.string a0_0,.int .i64 a0_1,.int .i64 a0_2,.int .i64 a0_3,.slice A0_4 l0_4.length c0_4],.agg #[.string a1_0,.int .i64 a1_1,.int .i64 a1_2,.int .i64 a1_3,.slice A1_4 l1_4.length c1_4]] w fun e w' => e = .returned (.bool r) ∧ Below w.heap.size w w' := by
 have hu78 := Try.underlying78
 have HR0_4 := am_ hr0_4
 have HC0_4 := am_ hc0_4
 clear hr0_4 hc0_4
 have HR1_4 := am_ hr1_4
 have HC1_4 := am_ hc1_4
 clear hr1_4 hc1_4
 have HB := am_ (Below.refl w.heap.size w)
 have H : (if a0_0.toList = a1_0.toList then (if a0_1 = a1_1 then (if a0_2 = a1_2 then (if a0_3 = a1_3 then ((laws_eqWaiterS.f k l0_4 l1_4).bind fun t365 => (if t365 = true then (some true) else (some false))) else (some false)) else (some false)) else (some false)) else (some false)) = some r := h
 clear h
 by_cases c3 : a0_0.toList = a1_0.toList
 ·rw [if_pos c3] at H
  have c3b0 : (a0_0.toList == a1_0.toList) = true := beq_iff_eq.mpr c3
  have c3b1 : (a0_0.toList != a1_0.toList) = false := bne_eq_false_iff_eq.mpr c3
  clear c3
  by_cases c4 : a0_1 = a1_1
  ·rw [if_pos c4] at H
   have c4b0 : (a0_1 == a1_1) = true := beq_iff_eq.mpr c4
   have c4b1 : (a0_1 != a1_1) = false := bne_eq_false_iff_eq.mpr c4
   clear c4
   by_cases c5 : a0_2 = a1_2
   ·rw [if_pos c5] at H
    have c5b0 : (a0_2 == a1_2) = true := beq_iff_eq.mpr c5
    have c5b1 : (a0_2 != a1_2) = false := bne_eq_false_iff_eq.mpr c5
    clear c5
    by_cases c6 : a0_3 = a1_3
    ·rw [if_pos c6] at H
     have c6b0 : (a0_3 == a1_3) = true := beq_iff_eq.mpr c6
     have c6b1 : (a0_3 != a1_3) = false := bne_eq_false_iff_eq.mpr c6
     clear c6
     replace H := Option.bind_eq_some_iff.mp H
     obtain ⟨t365,A70,H⟩ := H
     try dsimp only at H
     have A7 := am_ A70
     clear A70
     by_cases c8 : t365 = true
     ·subst c8
      have H1 : (some true) = some r := by rw [if_pos rfl] at H;exact H
      clear H
      have H := H1
      clear H1
      obtain rfl := Option.some.inj H
      go_enter Try.func53,Try.ntmps53
      go_wp2_with (first | ((with_reducible refine gate_dst (N := 2) rfl ?_);refine zbx (N := 2) (cs := #[.string a0_0,.int .i64 a0_1,.int .i64 a0_2,.int .i64 a0_3,.slice A0_4 l0_4.length c0_4]) (t := 78) ?_;intro gb363 hg w9 hbox hb;have BK363 := am_ (hbox);have GW363 := zw_ HB hg;have GE363 := zw_ HB hg;replace HB := zs_ HB hb;clear hb hbox hg) | ((with_reducible refine gate_dst (N := 3) rfl ?_);refine zbx (N := 3) (cs := #[.string a1_0,.int .i64 a1_1,.int .i64 a1_2,.int .i64 a1_3,.slice A1_4 l1_4.length c1_4]) (t := 78) ?_;intro gb364 hg w10 hbox hb;have BK364 := am_ (hbox);have GW364 := zw_ HB hg;have GE364 := zw_ HB hg;replace HB := zs_ HB hb;have NB363_364 := zl hg BK363;have NB364_363 := zg hg BK363;replace BK363 := zb BK363 hb;clear hb hbox hg;have hnb11 := NB363_364.out;have hnc11 := NB364_363.out;obtain ⟨hcz12_0,hcz12_1,hcz12_2,hcz12_3,hcz12_4,hfz12_0,hfz12_1,hfz12_2,hfz12_3,hfz12_4⟩ := zc5 BK363;obtain ⟨hcz13_0,hcz13_1,hcz13_2,hcz13_3,hcz13_4,hfz13_0,hfz13_1,hfz13_2,hfz13_3,hfz13_4⟩ := zc5 BK364) | ((with_reducible refine gate_callee (f := 79) rfl ?_);refine zgl (some 29) Try.func79 #[.slice A0_4 l0_4.length c0_4,.slice A1_4 l1_4.length c1_4] ?_;(with_reducible refine (laws_eqWaiterS.calls k _ _ l0_4 _ _ l1_4 true _ ?side1 ?side2 ?side3 ?side4 A7.out).mono ?_);(case side1 => exact zc_ HR0_4 HB);(case side2 => exact HC0_4.out);(case side3 => exact zc_ HR1_4 HB);(case side4 => exact HC1_4.out);rintro e w14 ⟨rfl,hb⟩;refine ⟨_,rfl,?_⟩;replace BK363 := zb BK363 hb;replace BK364 := zb BK364 hb;replace HB := zs_ HB hb;(try clear hb);(try clear hb2);(try clear hk);(try clear hi)))
      go_ret
      exact ⟨zt_,zl_ HB⟩
     ·replace c8 := Bool.eq_false_iff.mpr c8
      subst c8
      have H1 : (some false) = some r := by rw [if_neg (show ¬ (false = true) by decide)] at H;exact H
      clear H
      have H := H1
      clear H1
      obtain rfl := Option.some.inj H
      go_enter Try.func53,Try.ntmps53
      go_wp2_with (first | ((with_reducible refine gate_dst (N := 2) rfl ?_);refine zbx (N := 2) (cs := #[.string a0_0,.int .i64 a0_1,.int .i64 a0_2,.int .i64 a0_3,.slice A0_4 l0_4.length c0_4]) (t := 78) ?_;intro gb363 hg w15 hbox hb;have BK363 := am_ (hbox);have GW363 := zw_ HB hg;have GE363 := zw_ HB hg;replace HB := zs_ HB hb;clear hb hbox hg) | ((with_reducible refine gate_dst (N := 3) rfl ?_);refine zbx (N := 3) (cs := #[.string a1_0,.int .i64 a1_1,.int .i64 a1_2,.int .i64 a1_3,.slice A1_4 l1_4.length c1_4]) (t := 78) ?_;intro gb364 hg w16 hbox hb;have BK364 := am_ (hbox);have GW364 := zw_ HB hg;have GE364 := zw_ HB hg;replace HB := zs_ HB hb;have NB363_364 := zl hg BK363;have NB364_363 := zg hg BK363;replace BK363 := zb BK363 hb;clear hb hbox hg;have hnb17 := NB363_364.out;have hnc17 := NB364_363.out;obtain ⟨hcz18_0,hcz18_1,hcz18_2,hcz18_3,hcz18_4,hfz18_0,hfz18_1,hfz18_2,hfz18_3,hfz18_4⟩ := zc5 BK363;obtain ⟨hcz19_0,hcz19_1,hcz19_2,hcz19_3,hcz19_4,hfz19_0,hfz19_1,hfz19_2,hfz19_3,hfz19_4⟩ := zc5 BK364) | ((with_reducible refine gate_callee (f := 79) rfl ?_);refine zgl (some 29) Try.func79 #[.slice A0_4 l0_4.length c0_4,.slice A1_4 l1_4.length c1_4] ?_;(with_reducible refine (laws_eqWaiterS.calls k _ _ l0_4 _ _ l1_4 false _ ?side1 ?side2 ?side3 ?side4 A7.out).mono ?_);(case side1 => exact zc_ HR0_4 HB);(case side2 => exact HC0_4.out);(case side3 => exact zc_ HR1_4 HB);(case side4 => exact HC1_4.out);rintro e w20 ⟨rfl,hb⟩;refine ⟨_,rfl,?_⟩;replace HB := zs_ HB hb;(try clear hb);(try clear hb2);(try clear hk);(try clear hi)))
      go_ret
      exact ⟨zt_,zl_ HB⟩
    ·rw [if_neg c6] at H
     have c6b0 : (a0_3 == a1_3) = false := beq_eq_false_iff_ne.mpr c6
     have c6b1 : (a0_3 != a1_3) = true := bne_iff_ne.mpr c6
     obtain rfl := Option.some.inj H
     go_enter Try.func53,Try.ntmps53
     go_wp2_with (first | ((with_reducible refine gate_dst (N := 2) rfl ?_);refine zbx (N := 2) (cs := #[.string a0_0,.int .i64 a0_1,.int .i64 a0_2,.int .i64 a0_3,.slice A0_4 l0_4.length c0_4]) (t := 78) ?_;intro gb363 hg w21 hbox hb;have BK363 := am_ (hbox);have GW363 := zw_ HB hg;have GE363 := zw_ HB hg;replace HB := zs_ HB hb;clear hb hbox hg) | ((with_reducible refine gate_dst (N := 3) rfl ?_);refine zbx (N := 3) (cs := #[.string a1_0,.int .i64 a1_1,.int .i64 a1_2,.int .i64 a1_3,.slice A1_4 l1_4.length c1_4]) (t := 78) ?_;intro gb364 hg w22 hbox hb;have BK364 := am_ (hbox);have GW364 := zw_ HB hg;have GE364 := zw_ HB hg;replace HB := zs_ HB hb;have NB363_364 := zl hg BK363;have NB364_363 := zg hg BK363;replace BK363 := zb BK363 hb;clear hb hbox hg;have hnb23 := NB363_364.out;have hnc23 := NB364_363.out;obtain ⟨hcz24_0,hcz24_1,hcz24_2,hcz24_3,hcz24_4,hfz24_0,hfz24_1,hfz24_2,hfz24_3,hfz24_4⟩ := zc5 BK363;obtain ⟨hcz25_0,hcz25_1,hcz25_2,hcz25_3,hcz25_4,hfz25_0,hfz25_1,hfz25_2,hfz25_3,hfz25_4⟩ := zc5 BK364))
     go_ret
     exact ⟨zt_,zl_ HB⟩
   ·rw [if_neg c5] at H
    have c5b0 : (a0_2 == a1_2) = false := beq_eq_false_iff_ne.mpr c5
    have c5b1 : (a0_2 != a1_2) = true := bne_iff_ne.mpr c5
    obtain rfl := Option.some.inj H
    go_enter Try.func53,Try.ntmps53
    go_wp2_with (first | ((with_reducible refine gate_dst (N := 2) rfl ?_);refine zbx (N := 2) (cs := #[.string a0_0,.int .i64 a0_1,.int .i64 a0_2,.int .i64 a0_3,.slice A0_4 l0_4.length c0_4]) (t := 78) ?_;intro gb363 hg w26 hbox hb;have BK363 := am_ (hbox);have GW363 := zw_ HB hg;have GE363 := zw_ HB hg;replace HB := zs_ HB hb;clear hb hbox hg) | ((with_reducible refine gate_dst (N := 3) rfl ?_);refine zbx (N := 3) (cs := #[.string a1_0,.int .i64 a1_1,.int .i64 a1_2,.int .i64 a1_3,.slice A1_4 l1_4.length c1_4]) (t := 78) ?_;intro gb364 hg w27 hbox hb;have BK364 := am_ (hbox);have GW364 := zw_ HB hg;have GE364 := zw_ HB hg;replace HB := zs_ HB hb;have NB363_364 := zl hg BK363;have NB364_363 := zg hg BK363;replace BK363 := zb BK363 hb;clear hb hbox hg;have hnb28 := NB363_364.out;have hnc28 := NB364_363.out;obtain ⟨hcz29_0,hcz29_1,hcz29_2,hcz29_3,hcz29_4,hfz29_0,hfz29_1,hfz29_2,hfz29_3,hfz29_4⟩ := zc5 BK363;obtain ⟨hcz30_0,hcz30_1,hcz30_2,hcz30_3,hcz30_4,hfz30_0,hfz30_1,hfz30_2,hfz30_3,hfz30_4⟩ := zc5 BK364))
    go_ret
    exact ⟨zt_,zl_ HB⟩
  ·rw [if_neg c4] at H
   have c4b0 : (a0_1 == a1_1) = false := beq_eq_false_iff_ne.mpr c4
   have c4b1 : (a0_1 != a1_1) = true := bne_iff_ne.mpr c4
   obtain rfl := Option.some.inj H
   go_enter Try.func53,Try.ntmps53
   go_wp2_with (first | ((with_reducible refine gate_dst (N := 2) rfl ?_);refine zbx (N := 2) (cs := #[.string a0_0,.int .i64 a0_1,.int .i64 a0_2,.int .i64 a0_3,.slice A0_4 l0_4.length c0_4]) (t := 78) ?_;intro gb363 hg w31 hbox hb;have BK363 := am_ (hbox);have GW363 := zw_ HB hg;have GE363 := zw_ HB hg;replace HB := zs_ HB hb;clear hb hbox hg) | ((with_reducible refine gate_dst (N := 3) rfl ?_);refine zbx (N := 3) (cs := #[.string a1_0,.int .i64 a1_1,.int .i64 a1_2,.int .i64 a1_3,.slice A1_4 l1_4.length c1_4]) (t := 78) ?_;intro gb364 hg w32 hbox hb;have BK364 := am_ (hbox);have GW364 := zw_ HB hg;have GE364 := zw_ HB hg;replace HB := zs_ HB hb;have NB363_364 := zl hg BK363;have NB364_363 := zg hg BK363;replace BK363 := zb BK363 hb;clear hb hbox hg;have hnb33 := NB363_364.out;have hnc33 := NB364_363.out;obtain ⟨hcz34_0,hcz34_1,hcz34_2,hcz34_3,hcz34_4,hfz34_0,hfz34_1,hfz34_2,hfz34_3,hfz34_4⟩ := zc5 BK363;obtain ⟨hcz35_0,hcz35_1,hcz35_2,hcz35_3,hcz35_4,hfz35_0,hfz35_1,hfz35_2,hfz35_3,hfz35_4⟩ := zc5 BK364))
   go_ret
   exact ⟨zt_,zl_ HB⟩
 ·rw [if_neg c3] at H
  have c3b0 : (a0_0.toList == a1_0.toList) = false := beq_eq_false_iff_ne.mpr c3
  have c3b1 : (a0_0.toList != a1_0.toList) = true := bne_iff_ne.mpr c3
  obtain rfl := Option.some.inj H
  go_enter Try.func53,Try.ntmps53
  go_wp2_with (first | ((with_reducible refine gate_dst (N := 2) rfl ?_);refine zbx (N := 2) (cs := #[.string a0_0,.int .i64 a0_1,.int .i64 a0_2,.int .i64 a0_3,.slice A0_4 l0_4.length c0_4]) (t := 78) ?_;intro gb363 hg w36 hbox hb;have BK363 := am_ (hbox);have GW363 := zw_ HB hg;have GE363 := zw_ HB hg;replace HB := zs_ HB hb;clear hb hbox hg) | ((with_reducible refine gate_dst (N := 3) rfl ?_);refine zbx (N := 3) (cs := #[.string a1_0,.int .i64 a1_1,.int .i64 a1_2,.int .i64 a1_3,.slice A1_4 l1_4.length c1_4]) (t := 78) ?_;intro gb364 hg w37 hbox hb;have BK364 := am_ (hbox);have GW364 := zw_ HB hg;have GE364 := zw_ HB hg;replace HB := zs_ HB hb;have NB363_364 := zl hg BK363;have NB364_363 := zg hg BK363;replace BK363 := zb BK363 hb;clear hb hbox hg;have hnb38 := NB363_364.out;have hnc38 := NB364_363.out;obtain ⟨hcz39_0,hcz39_1,hcz39_2,hcz39_3,hcz39_4,hfz39_0,hfz39_1,hfz39_2,hfz39_3,hfz39_4⟩ := zc5 BK363;obtain ⟨hcz40_0,hcz40_1,hcz40_2,hcz40_3,hcz40_4,hfz40_0,hfz40_1,hfz40_2,hfz40_3,hfz40_4⟩ := zc5 BK364))
  go_ret
  exact ⟨zt_,zl_ HB⟩
def laws_eqLockS.T6 : Bool × List (List Nat × List Nat) := (true,[([],[]),([],[]),([0,1],[0,1]),([2],[2]),([],[]),([],[]),([4,5],[4,5]),([6],[6]),([3,7],[3,7]),([8],[8])])
def laws_eqLockS.B6 : List Nat := [0,0,3,7,0,0,48,112,255,511]
theorem laws_eqLockS.tab6 : rtab .any (opsOf Try.f23 6) = laws_eqLockS.T6 := by kernel_rfl
theorem laws_eqLockS.bits6 : waitsOk laws_eqLockS.T6.2 laws_eqLockS.B6 = true := by kernel_rfl
set_option maxHeartbeats 8000000 in
set_option maxRecDepth 100000 in
theorem laws_eqLockS.calls (k : Nat) (A0 : Option Addr) (c0 : Nat) (l0 : List (S78)) (A1 : Option Addr) (c1 : Nat) (l1 : List (S78)) (r : Bool) (w : World) (hr0 : Kd.C k78 w A0 l0.length l0) (hc0 : l0.length ≤ c0) (hr1 : Kd.C k78 w A1 l1.length l1) (hc1 : l1.length ≤ c1) (h : laws_eqLockS.f k l0 l1 = some r) :
  Calls Try.prog 23 #[.slice A0 l0.length c0,.slice A1 l1.length c1] w fun e w' => e = .returned (.bool r) ∧ Below w.heap.size w w' := by
 have hu78 := Try.underlying78
 have HR0 := am_ hr0
 have HC0 := am_ hc0
 clear hr0 hc0
 have HR1 := am_ hr1
 have HC1 := am_ hc1
 clear hr1 hc1
 have HB := am_ (Below.refl w.heap.size w)
 have H : (if (l0.length : Int) = (l1.length : Int) then (laws_eqLockS.l0 k l0 l1 0) else (some false)) = some r := h
 clear h
 by_cases c3 : (l0.length : Int) = (l1.length : Int)
 ·rw [if_pos c3] at H
  have c3b0 : ((l0.length : Int) == (l1.length : Int)) = true := beq_iff_eq.mpr c3
  have c3b1 : ((l0.length : Int) != (l1.length : Int)) = false := bne_eq_false_iff_eq.mpr c3
  have c3b2 : (l0.length == l1.length) = true := by first | simpa using c3 | (simp at c3 ⊢;omega)
  clear c3
  have H' := am_ H
  clear H
  go_enter Try.func23,Try.ntmps23
  go_wp2
  go_loopg [5] k (fun kq v5 w' => ∃ (x5_1 : Int),v5 = .int .i64 x5_1 ∧ Aside0 (laws_eqLockS.l0 kq l0 l1 x5_1 = some r) ∧ Aside0 (kq ≤ k) ∧ Aside0 (Below w.heap.size w w'))
  case atStart => exact ⟨(0),(by first | rfl | (simp;done) | (simp [*];done)),H',⟨Nat.le_refl _⟩,⟨zl_ HB⟩⟩
  case round =>
   clear H'
   try clear c1
   try clear c2
   try clear p2
   try clear c3
   try clear c3b0
   try clear c3b1
   try clear c3b2
   obtain ⟨x5_1,rfl,HA,HK1,HB⟩ := hrel
   cases gk with
   | zero => exact absurd HA.out (by simp [laws_eqLockS.l0])
   | succ k1 =>
    have H := HA.out
    clear HA
    simp only [laws_eqLockS.l0] at H
    by_cases c4 : x5_1 < (l0.length : Int)
    ·rw [if_pos c4] at H
     have c4b0 : decide (x5_1 < (l0.length : Int)) = true := decide_eq_true c4
     clear c4
     by_cases c5 : 0 ≤ x5_1
     ·rw [if_pos c5] at H
      have c5b0 : decide (0 ≤ x5_1) = true := decide_eq_true c5
      clear c5
      by_cases c6 : x5_1 < (l1.length : Int)
      ·rw [if_pos c6] at H
       have c6b0 : decide (x5_1 < (l1.length : Int)) = true := decide_eq_true c6
       clear c6
       replace H := Option.bind_eq_some_iff.mp H
       obtain ⟨t368,A70,H⟩ := H
       try dsimp only at H
       have A7 := am_ A70
       clear A70
       by_cases c8 : t368 = true
       ·subst c8
        have H1 : (laws_eqLockS.l0 k1 l0 l1 (wrap64 (x5_1 + 1))) = some r := by rw [if_pos rfl] at H;exact H
        clear H
        have H := H1
        clear H1
        have H' := am_ H
        clear H
        try go_wp2
        replace HB := am_ (below_drew1 HB.out)
        have p366 : 0 ≤ (x5_1 : Int) := zo_
        have q366 : x5_1 < (l0.length : Int) := zo_
        obtain ⟨ad366,A366_4,c366_4,e366,hx366_0,hx366_1,hx366_2,hx366_3,hx366_4,hl366_4,hi366_4⟩ := at_T78 HR0.out x5_1 p366 q366
        have hw366_4 := hx366_4
        have hw366_3 := hx366_3
        have hw366_2 := hx366_2
        have hw366_1 := hx366_1
        have hw366_0 := hx366_0
        have hv366_4 := hx366_4
        cases e366
        replace hx366_0 := zx_ HB hx366_0
        replace hx366_1 := zx_ HB hx366_1
        replace hx366_2 := zx_ HB hx366_2
        replace hx366_3 := zx_ HB hx366_3
        replace hx366_4 := zx_ HB hx366_4
        have HR366_4 := am_ hi366_4
        have HC366_4 := am_ hl366_4
        clear hi366_4 hl366_4
        replace p366 := eq_true p366
        replace q366 := eq_true q366
        have p367 : 0 ≤ (x5_1 : Int) := zo_
        have q367 : x5_1 < (l1.length : Int) := zo_
        obtain ⟨ad367,A367_4,c367_4,e367,hx367_0,hx367_1,hx367_2,hx367_3,hx367_4,hl367_4,hi367_4⟩ := at_T78 HR1.out x5_1 p367 q367
        have hw367_4 := hx367_4
        have hw367_3 := hx367_3
        have hw367_2 := hx367_2
        have hw367_1 := hx367_1
        have hw367_0 := hx367_0
        have hv367_4 := hx367_4
        cases e367
        replace hx367_0 := zx_ HB hx367_0
        replace hx367_1 := zx_ HB hx367_1
        replace hx367_2 := zx_ HB hx367_2
        replace hx367_3 := zx_ HB hx367_3
        replace hx367_4 := zx_ HB hx367_4
        have HR367_4 := am_ hi367_4
        have HC367_4 := am_ hl367_4
        clear hi367_4 hl367_4
        replace p367 := eq_true p367
        replace q367 := eq_true q367
        refine start_ (n := 10) (S := fun w' => w'.cell? (ad366.add ((x5_1).toNat * 5)) = some (.string ((rd_T78 l0 x5_1).f0)) ∧ w'.cell? ⟨(ad366.add ((x5_1).toNat * 5)).block,(ad366.add ((x5_1).toNat * 5)).off + 1,none⟩ = some (.int .i64 ((rd_T78 l0 x5_1).f1)) ∧ w'.cell? ⟨(ad366.add ((x5_1).toNat * 5)).block,(ad366.add ((x5_1).toNat * 5)).off + 2,none⟩ = some (.int .i64 ((rd_T78 l0 x5_1).f2)) ∧ w'.cell? ⟨(ad366.add ((x5_1).toNat * 5)).block,(ad366.add ((x5_1).toNat * 5)).off + 3,none⟩ = some (.int .i64 ((rd_T78 l0 x5_1).f3)) ∧ w'.cell? ⟨(ad366.add ((x5_1).toNat * 5)).block,(ad366.add ((x5_1).toNat * 5)).off + 4,none⟩ = some (.slice A366_4 ((rd_T78 l0 x5_1).f4).length c366_4) ∧ w'.cell? (ad367.add ((x5_1).toNat * 5)) = some (.string ((rd_T78 l1 x5_1).f0)) ∧ w'.cell? ⟨(ad367.add ((x5_1).toNat * 5)).block,(ad367.add ((x5_1).toNat * 5)).off + 1,none⟩ = some (.int .i64 ((rd_T78 l1 x5_1).f1)) ∧ w'.cell? ⟨(ad367.add ((x5_1).toNat * 5)).block,(ad367.add ((x5_1).toNat * 5)).off + 2,none⟩ = some (.int .i64 ((rd_T78 l1 x5_1).f2)) ∧ w'.cell? ⟨(ad367.add ((x5_1).toNat * 5)).block,(ad367.add ((x5_1).toNat * 5)).off + 3,none⟩ = some (.int .i64 ((rd_T78 l1 x5_1).f3)) ∧ w'.cell? ⟨(ad367.add ((x5_1).toNat * 5)).block,(ad367.add ((x5_1).toNat * 5)).off + 4,none⟩ = some (.slice A367_4 ((rd_T78 l1 x5_1).f4).length c367_4)) (ds := []) #[false,false,false,false,false,false,false,false,false,false] (by kernel_rfl) rfl rfl ⟨(zx_ HB hw366_0),(zx_ HB hw366_1),(zx_ HB hw366_2),(zx_ HB hw366_3),(zx_ HB hw366_4),(zx_ HB hw367_0),(zx_ HB hw367_1),(zx_ HB hw367_2),(zx_ HB hw367_3),(zx_ HB hw367_4)⟩ (fun hHeld => ?_);refine with_tabW laws_eqLockS.tab6 laws_eqLockS.bits6 (fun HT_ HW_ => ?_)
        generalize wr.drew = w9 at HB HR366_4 HR367_4 hx366_0 hx366_1 hx366_2 hx366_3 hx366_4 hx367_0 hx367_1 hx367_2 hx367_3 hx367_4 hHeld ⊢
        refine zpu 0 (N := some 17) HT_ ?_
        refine zpu 1 (N := some 18) HT_ ?_
        refine zpu 2 (N := some 19) HT_ ?_
        refine zpu 4 (N := some 21) HT_ ?_
        refine zpu 5 (N := some 22) HT_ ?_
        refine zpu 6 (N := some 23) HT_ ?_
        refine ztk 3 (N := some 20) HT_ HW_ hHeld ?_
        refine ztk 7 (N := some 24) HT_ HW_ hHeld ?_
        refine zon 8 (N := some 25) HT_ (fun K hK => ?_)
        refine zgo Try.func53 #[.agg #[.string ((rd_T78 l0 x5_1).f0),.int .i64 ((rd_T78 l0 x5_1).f1),.int .i64 ((rd_T78 l0 x5_1).f2),.int .i64 ((rd_T78 l0 x5_1).f3),.slice A366_4 ((rd_T78 l0 x5_1).f4).length c366_4],.agg #[.string ((rd_T78 l1 x5_1).f0),.int .i64 ((rd_T78 l1 x5_1).f1),.int .i64 ((rd_T78 l1 x5_1).f2),.int .i64 ((rd_T78 l1 x5_1).f3),.slice A367_4 ((rd_T78 l1 x5_1).f4).length c367_4]] ?_
        with_reducible refine (laws_eqLock.calls k1 ((rd_T78 l0 x5_1).f0) ((rd_T78 l0 x5_1).f1) ((rd_T78 l0 x5_1).f2) ((rd_T78 l0 x5_1).f3) _ _ ((rd_T78 l0 x5_1).f4) ((rd_T78 l1 x5_1).f0) ((rd_T78 l1 x5_1).f1) ((rd_T78 l1 x5_1).f2) ((rd_T78 l1 x5_1).f3) _ _ ((rd_T78 l1 x5_1).f4) true _ ?side1 ?side2 ?side3 ?side4 A7.out).mono ?_
        (case side1 => exact zc_ HR366_4 HB)
        (case side2 => exact HC366_4.out)
        (case side3 => exact zc_ HR367_4 HB)
        (case side4 => exact HC367_4.out)
        rintro e w10 ⟨rfl,hb⟩
        refine ⟨_,rfl,?_⟩
        replace HB := zs_ HB hb
        (try clear hb)
        (try clear hb2)
        (try clear hk)
        (try clear hi)
        refine hK.out _ _ ⟨(zx_ HB hw366_0),(zx_ HB hw366_1),(zx_ HB hw366_2),(zx_ HB hw366_3),(zx_ HB hw366_4),(zx_ HB hw367_0),(zx_ HB hw367_1),(zx_ HB hw367_2),(zx_ HB hw367_3),(zx_ HB hw367_4)⟩ (fun hHeld => ?_)
        clear hK K
        refine norm_ (a' := ?_) ?_ ?_
        rotate_left
        ·show Act.put _ (some 25) _ = _
         simp only [Act.put,p1_,p2_,p3_,i64_w,i32_w]
         rfl
        refine zpu 9 (N := some 26) HT_ ?_
        refine done_ (done_of HT_.out (by kernel_rfl)) ?_
        try go_wp2
        go_roundg k1
        case measure => have := HK1.out;omega
        case rel => exact ⟨(wrap64 (x5_1 + 1)),(by first | rfl | (simp;done) | (simp [*];done)),H',⟨by have := HK1.out;omega⟩,⟨zl_ HB⟩⟩
       ·replace c8 := Bool.eq_false_iff.mpr c8
        subst c8
        have H1 : (some false) = some r := by rw [if_neg (show ¬ (false = true) by decide)] at H;exact H
        clear H
        have H := H1
        clear H1
        obtain rfl := Option.some.inj H
        try go_wp2
        replace HB := am_ (below_drew1 HB.out)
        have p366 : 0 ≤ (x5_1 : Int) := zo_
        have q366 : x5_1 < (l0.length : Int) := zo_
        obtain ⟨ad366,A366_4,c366_4,e366,hx366_0,hx366_1,hx366_2,hx366_3,hx366_4,hl366_4,hi366_4⟩ := at_T78 HR0.out x5_1 p366 q366
        have hw366_4 := hx366_4
        have hw366_3 := hx366_3
        have hw366_2 := hx366_2
        have hw366_1 := hx366_1
        have hw366_0 := hx366_0
        have hv366_4 := hx366_4
        cases e366
        replace hx366_0 := zx_ HB hx366_0
        replace hx366_1 := zx_ HB hx366_1
        replace hx366_2 := zx_ HB hx366_2
        replace hx366_3 := zx_ HB hx366_3
        replace hx366_4 := zx_ HB hx366_4
        have HR366_4 := am_ hi366_4
        have HC366_4 := am_ hl366_4
        clear hi366_4 hl366_4
        replace p366 := eq_true p366
        replace q366 := eq_true q366
        have p367 : 0 ≤ (x5_1 : Int) := zo_
        have q367 : x5_1 < (l1.length : Int) := zo_
        obtain ⟨ad367,A367_4,c367_4,e367,hx367_0,hx367_1,hx367_2,hx367_3,hx367_4,hl367_4,hi367_4⟩ := at_T78 HR1.out x5_1 p367 q367
        have hw367_4 := hx367_4
        have hw367_3 := hx367_3
        have hw367_2 := hx367_2
        have hw367_1 := hx367_1
        have hw367_0 := hx367_0
        have hv367_4 := hx367_4
        cases e367
        replace hx367_0 := zx_ HB hx367_0
        replace hx367_1 := zx_ HB hx367_1
        replace hx367_2 := zx_ HB hx367_2
        replace hx367_3 := zx_ HB hx367_3
        replace hx367_4 := zx_ HB hx367_4
        have HR367_4 := am_ hi367_4
        have HC367_4 := am_ hl367_4
        clear hi367_4 hl367_4
        replace p367 := eq_true p367
        replace q367 := eq_true q367
        refine start_ (n := 10) (S := fun w' => w'.cell? (ad366.add ((x5_1).toNat * 5)) = some (.string ((rd_T78 l0 x5_1).f0)) ∧ w'.cell? ⟨(ad366.add ((x5_1).toNat * 5)).block,(ad366.add ((x5_1).toNat * 5)).off + 1,none⟩ = some (.int .i64 ((rd_T78 l0 x5_1).f1)) ∧ w'.cell? ⟨(ad366.add ((x5_1).toNat * 5)).block,(ad366.add ((x5_1).toNat * 5)).off + 2,none⟩ = some (.int .i64 ((rd_T78 l0 x5_1).f2)) ∧ w'.cell? ⟨(ad366.add ((x5_1).toNat * 5)).block,(ad366.add ((x5_1).toNat * 5)).off + 3,none⟩ = some (.int .i64 ((rd_T78 l0 x5_1).f3)) ∧ w'.cell? ⟨(ad366.add ((x5_1).toNat * 5)).block,(ad366.add ((x5_1).toNat * 5)).off + 4,none⟩ = some (.slice A366_4 ((rd_T78 l0 x5_1).f4).length c366_4) ∧ w'.cell? (ad367.add ((x5_1).toNat * 5)) = some (.string ((rd_T78 l1 x5_1).f0)) ∧ w'.cell? ⟨(ad367.add ((x5_1).toNat * 5)).block,(ad367.add ((x5_1).toNat * 5)).off + 1,none⟩ = some (.int .i64 ((rd_T78 l1 x5_1).f1)) ∧ w'.cell? ⟨(ad367.add ((x5_1).toNat * 5)).block,(ad367.add ((x5_1).toNat * 5)).off + 2,none⟩ = some (.int .i64 ((rd_T78 l1 x5_1).f2)) ∧ w'.cell? ⟨(ad367.add ((x5_1).toNat * 5)).block,(ad367.add ((x5_1).toNat * 5)).off + 3,none⟩ = some (.int .i64 ((rd_T78 l1 x5_1).f3)) ∧ w'.cell? ⟨(ad367.add ((x5_1).toNat * 5)).block,(ad367.add ((x5_1).toNat * 5)).off + 4,none⟩ = some (.slice A367_4 ((rd_T78 l1 x5_1).f4).length c367_4)) (ds := []) #[false,false,false,false,false,false,false,false,false,false] (by kernel_rfl) rfl rfl ⟨(zx_ HB hw366_0),(zx_ HB hw366_1),(zx_ HB hw366_2),(zx_ HB hw366_3),(zx_ HB hw366_4),(zx_ HB hw367_0),(zx_ HB hw367_1),(zx_ HB hw367_2),(zx_ HB hw367_3),(zx_ HB hw367_4)⟩ (fun hHeld => ?_);refine with_tabW laws_eqLockS.tab6 laws_eqLockS.bits6 (fun HT_ HW_ => ?_)
        generalize wr.drew = w11 at HB HR366_4 HR367_4 hx366_0 hx366_1 hx366_2 hx366_3 hx366_4 hx367_0 hx367_1 hx367_2 hx367_3 hx367_4 hHeld ⊢
        refine zpu 0 (N := some 17) HT_ ?_
        refine zpu 1 (N := some 18) HT_ ?_
        refine zpu 2 (N := some 19) HT_ ?_
        refine zpu 4 (N := some 21) HT_ ?_
        refine zpu 5 (N := some 22) HT_ ?_
        refine zpu 6 (N := some 23) HT_ ?_
        refine ztk 3 (N := some 20) HT_ HW_ hHeld ?_
        refine ztk 7 (N := some 24) HT_ HW_ hHeld ?_
        refine zon 8 (N := some 25) HT_ (fun K hK => ?_)
        refine zgo Try.func53 #[.agg #[.string ((rd_T78 l0 x5_1).f0),.int .i64 ((rd_T78 l0 x5_1).f1),.int .i64 ((rd_T78 l0 x5_1).f2),.int .i64 ((rd_T78 l0 x5_1).f3),.slice A366_4 ((rd_T78 l0 x5_1).f4).length c366_4],.agg #[.string ((rd_T78 l1 x5_1).f0),.int .i64 ((rd_T78 l1 x5_1).f1),.int .i64 ((rd_T78 l1 x5_1).f2),.int .i64 ((rd_T78 l1 x5_1).f3),.slice A367_4 ((rd_T78 l1 x5_1).f4).length c367_4]] ?_
        with_reducible refine (laws_eqLock.calls k1 ((rd_T78 l0 x5_1).f0) ((rd_T78 l0 x5_1).f1) ((rd_T78 l0 x5_1).f2) ((rd_T78 l0 x5_1).f3) _ _ ((rd_T78 l0 x5_1).f4) ((rd_T78 l1 x5_1).f0) ((rd_T78 l1 x5_1).f1) ((rd_T78 l1 x5_1).f2) ((rd_T78 l1 x5_1).f3) _ _ ((rd_T78 l1 x5_1).f4) false _ ?side1 ?side2 ?side3 ?side4 A7.out).mono ?_
        (case side1 => exact zc_ HR366_4 HB)
        (case side2 => exact HC366_4.out)
        (case side3 => exact zc_ HR367_4 HB)
        (case side4 => exact HC367_4.out)
        rintro e w12 ⟨rfl,hb⟩
        refine ⟨_,rfl,?_⟩
        replace HB := zs_ HB hb
        (try clear hb)
        (try clear hb2)
        (try clear hk)
        (try clear hi)
        refine hK.out _ _ ⟨(zx_ HB hw366_0),(zx_ HB hw366_1),(zx_ HB hw366_2),(zx_ HB hw366_3),(zx_ HB hw366_4),(zx_ HB hw367_0),(zx_ HB hw367_1),(zx_ HB hw367_2),(zx_ HB hw367_3),(zx_ HB hw367_4)⟩ (fun hHeld => ?_)
        clear hK K
        refine norm_ (a' := ?_) ?_ ?_
        rotate_left
        ·show Act.put _ (some 25) _ = _
         simp only [Act.put,p1_,p2_,p3_,i64_w,i32_w]
         rfl
        refine zpu 9 (N := some 26) HT_ ?_
        refine done_ (done_of HT_.out (by kernel_rfl)) ?_
        try go_wp2
        go_ret
        exact ⟨zt_,zl_ HB⟩
      ·rw [if_neg c6] at H
       exact absurd H (by simp)
     ·rw [if_neg c5] at H
      exact absurd H (by simp)
    ·rw [if_neg c4] at H
     have c4b0 : decide (x5_1 < (l0.length : Int)) = false := decide_eq_false c4
     clear c4
     obtain rfl := Option.some.inj H
     go_wp2
     go_ret
     exact ⟨zt_,zl_ HB⟩
 ·rw [if_neg c3] at H
  have c3b0 : ((l0.length : Int) == (l1.length : Int)) = false := beq_eq_false_iff_ne.mpr c3
  have c3b1 : ((l0.length : Int) != (l1.length : Int)) = true := bne_iff_ne.mpr c3
  have c3b2 : (l0.length == l1.length) = false := by first | simpa using c3 | (simp at c3 ⊢;omega)
  obtain rfl := Option.some.inj H
  go_enter Try.func23,Try.ntmps23
  go_wp2
  go_ret
  exact ⟨zt_,zl_ HB⟩
set_option maxHeartbeats 8000000 in
set_option maxRecDepth 100000 in
theorem laws_eqAnswer.calls (a0_0 : Int) (a0_1 : Int) (a0_2 : Int) (a0_3 : Int) (a1_0 : Int) (a1_1 : Int) (a1_2 : Int) (a1_3 : Int) (r : Bool) (w : World) (h : laws_eqAnswer.f a0_0 a0_1 a0_2 a0_3 a1_0 a1_1 a1_2 a1_3 = some r) :
  Calls Try.prog 80 #[.agg #[.int .i64 a0_0,.int .i64 a0_1,.int .i64 a0_2,.int .i64 a0_3],.agg #[.int .i64 a1_0,.int .i64 a1_1,.int .i64 a1_2,.int .i64 a1_3]] w fun e w' => e = .returned (.bool r) ∧ Below w.heap.size w w' := by
 have hu82 := Try.underlying82
 have HB := am_ (Below.refl w.heap.size w)
 have H : (if a0_0 = a1_0 then (if a0_1 = a1_1 then (if a0_2 = a1_2 then (if a0_3 = a1_3 then (some true) else (some false)) else (some false)) else (some false)) else (some false)) = some r := h
 clear h
 by_cases c3 : a0_0 = a1_0
 ·rw [if_pos c3] at H
  have c3b0 : (a0_0 == a1_0) = true := beq_iff_eq.mpr c3
  have c3b1 : (a0_0 != a1_0) = false := bne_eq_false_iff_eq.mpr c3
  clear c3
  by_cases c4 : a0_1 = a1_1
  ·rw [if_pos c4] at H
   have c4b0 : (a0_1 == a1_1) = true := beq_iff_eq.mpr c4
   have c4b1 : (a0_1 != a1_1) = false := bne_eq_false_iff_eq.mpr c4
   clear c4
   by_cases c5 : a0_2 = a1_2
   ·rw [if_pos c5] at H
    have c5b0 : (a0_2 == a1_2) = true := beq_iff_eq.mpr c5
    have c5b1 : (a0_2 != a1_2) = false := bne_eq_false_iff_eq.mpr c5
    clear c5
    by_cases c6 : a0_3 = a1_3
    ·rw [if_pos c6] at H
     have c6b0 : (a0_3 == a1_3) = true := beq_iff_eq.mpr c6
     have c6b1 : (a0_3 != a1_3) = false := bne_eq_false_iff_eq.mpr c6
     clear c6
     obtain rfl := Option.some.inj H
     go_enter Try.func80,Try.ntmps80
     go_wp2_with (first | ((with_reducible refine gate_dst (N := 2) rfl ?_);refine zbx (N := 2) (cs := #[.int .i64 a0_0,.int .i64 a0_1,.int .i64 a0_2,.int .i64 a0_3]) (t := 82) ?_;intro gb369 hg w7 hbox hb;have BK369 := am_ (hbox);have GW369 := zw_ HB hg;have GE369 := zw_ HB hg;replace HB := zs_ HB hb;clear hb hbox hg) | ((with_reducible refine gate_dst (N := 3) rfl ?_);refine zbx (N := 3) (cs := #[.int .i64 a1_0,.int .i64 a1_1,.int .i64 a1_2,.int .i64 a1_3]) (t := 82) ?_;intro gb370 hg w8 hbox hb;have BK370 := am_ (hbox);have GW370 := zw_ HB hg;have GE370 := zw_ HB hg;replace HB := zs_ HB hb;have NB369_370 := zl hg BK369;have NB370_369 := zg hg BK369;replace BK369 := zb BK369 hb;clear hb hbox hg;have hnb9 := NB369_370.out;have hnc9 := NB370_369.out;obtain ⟨hcz10_0,hcz10_1,hcz10_2,hcz10_3,hfz10_0,hfz10_1,hfz10_2,hfz10_3⟩ := zc4 BK369;obtain ⟨hcz11_0,hcz11_1,hcz11_2,hcz11_3,hfz11_0,hfz11_1,hfz11_2,hfz11_3⟩ := zc4 BK370))
     go_ret
     exact ⟨zt_,zl_ HB⟩
    ·rw [if_neg c6] at H
     have c6b0 : (a0_3 == a1_3) = false := beq_eq_false_iff_ne.mpr c6
     have c6b1 : (a0_3 != a1_3) = true := bne_iff_ne.mpr c6
     obtain rfl := Option.some.inj H
     go_enter Try.func80,Try.ntmps80
     go_wp2_with (first | ((with_reducible refine gate_dst (N := 2) rfl ?_);refine zbx (N := 2) (cs := #[.int .i64 a0_0,.int .i64 a0_1,.int .i64 a0_2,.int .i64 a0_3]) (t := 82) ?_;intro gb369 hg w12 hbox hb;have BK369 := am_ (hbox);have GW369 := zw_ HB hg;have GE369 := zw_ HB hg;replace HB := zs_ HB hb;clear hb hbox hg) | ((with_reducible refine gate_dst (N := 3) rfl ?_);refine zbx (N := 3) (cs := #[.int .i64 a1_0,.int .i64 a1_1,.int .i64 a1_2,.int .i64 a1_3]) (t := 82) ?_;intro gb370 hg w13 hbox hb;have BK370 := am_ (hbox);have GW370 := zw_ HB hg;have GE370 := zw_ HB hg;replace HB := zs_ HB hb;have NB369_370 := zl hg BK369;have NB370_369 := zg hg BK369;replace BK369 := zb BK369 hb;clear hb hbox hg;have hnb14 := NB369_370.out;have hnc14 := NB370_369.out;obtain ⟨hcz15_0,hcz15_1,hcz15_2,hcz15_3,hfz15_0,hfz15_1,hfz15_2,hfz15_3⟩ := zc4 BK369;obtain ⟨hcz16_0,hcz16_1,hcz16_2,hcz16_3,hfz16_0,hfz16_1,hfz16_2,hfz16_3⟩ := zc4 BK370))
     go_ret
     exact ⟨zt_,zl_ HB⟩
   ·rw [if_neg c5] at H
    have c5b0 : (a0_2 == a1_2) = false := beq_eq_false_iff_ne.mpr c5
    have c5b1 : (a0_2 != a1_2) = true := bne_iff_ne.mpr c5
    obtain rfl := Option.some.inj H
    go_enter Try.func80,Try.ntmps80
    go_wp2_with (first | ((with_reducible refine gate_dst (N := 2) rfl ?_);refine zbx (N := 2) (cs := #[.int .i64 a0_0,.int .i64 a0_1,.int .i64 a0_2,.int .i64 a0_3]) (t := 82) ?_;intro gb369 hg w17 hbox hb;have BK369 := am_ (hbox);have GW369 := zw_ HB hg;have GE369 := zw_ HB hg;replace HB := zs_ HB hb;clear hb hbox hg) | ((with_reducible refine gate_dst (N := 3) rfl ?_);refine zbx (N := 3) (cs := #[.int .i64 a1_0,.int .i64 a1_1,.int .i64 a1_2,.int .i64 a1_3]) (t := 82) ?_;intro gb370 hg w18 hbox hb;have BK370 := am_ (hbox);have GW370 := zw_ HB hg;have GE370 := zw_ HB hg;replace HB := zs_ HB hb;have NB369_370 := zl hg BK369;have NB370_369 := zg hg BK369;replace BK369 := zb BK369 hb;clear hb hbox hg;have hnb19 := NB369_370.out;have hnc19 := NB370_369.out;obtain ⟨hcz20_0,hcz20_1,hcz20_2,hcz20_3,hfz20_0,hfz20_1,hfz20_2,hfz20_3⟩ := zc4 BK369;obtain ⟨hcz21_0,hcz21_1,hcz21_2,hcz21_3,hfz21_0,hfz21_1,hfz21_2,hfz21_3⟩ := zc4 BK370))
    go_ret
    exact ⟨zt_,zl_ HB⟩
  ·rw [if_neg c4] at H
   have c4b0 : (a0_1 == a1_1) = false := beq_eq_false_iff_ne.mpr c4
   have c4b1 : (a0_1 != a1_1) = true := bne_iff_ne.mpr c4
   obtain rfl := Option.some.inj H
   go_enter Try.func80,Try.ntmps80
   go_wp2_with (first | ((with_reducible refine gate_dst (N := 2) rfl ?_);refine zbx (N := 2) (cs := #[.int .i64 a0_0,.int .i64 a0_1,.int .i64 a0_2,.int .i64 a0_3]) (t := 82) ?_;intro gb369 hg w22 hbox hb;have BK369 := am_ (hbox);have GW369 := zw_ HB hg;have GE369 := zw_ HB hg;replace HB := zs_ HB hb;clear hb hbox hg) | ((with_reducible refine gate_dst (N := 3) rfl ?_);refine zbx (N := 3) (cs := #[.int .i64 a1_0,.int .i64 a1_1,.int .i64 a1_2,.int .i64 a1_3]) (t := 82) ?_;intro gb370 hg w23 hbox hb;have BK370 := am_ (hbox);have GW370 := zw_ HB hg;have GE370 := zw_ HB hg;replace HB := zs_ HB hb;have NB369_370 := zl hg BK369;have NB370_369 := zg hg BK369;replace BK369 := zb BK369 hb;clear hb hbox hg;have hnb24 := NB369_370.out;have hnc24 := NB370_369.out;obtain ⟨hcz25_0,hcz25_1,hcz25_2,hcz25_3,hfz25_0,hfz25_1,hfz25_2,hfz25_3⟩ := zc4 BK369;obtain ⟨hcz26_0,hcz26_1,hcz26_2,hcz26_3,hfz26_0,hfz26_1,hfz26_2,hfz26_3⟩ := zc4 BK370))
   go_ret
   exact ⟨zt_,zl_ HB⟩
 ·rw [if_neg c3] at H
  have c3b0 : (a0_0 == a1_0) = false := beq_eq_false_iff_ne.mpr c3
  have c3b1 : (a0_0 != a1_0) = true := bne_iff_ne.mpr c3
  obtain rfl := Option.some.inj H
  go_enter Try.func80,Try.ntmps80
  go_wp2_with (first | ((with_reducible refine gate_dst (N := 2) rfl ?_);refine zbx (N := 2) (cs := #[.int .i64 a0_0,.int .i64 a0_1,.int .i64 a0_2,.int .i64 a0_3]) (t := 82) ?_;intro gb369 hg w27 hbox hb;have BK369 := am_ (hbox);have GW369 := zw_ HB hg;have GE369 := zw_ HB hg;replace HB := zs_ HB hb;clear hb hbox hg) | ((with_reducible refine gate_dst (N := 3) rfl ?_);refine zbx (N := 3) (cs := #[.int .i64 a1_0,.int .i64 a1_1,.int .i64 a1_2,.int .i64 a1_3]) (t := 82) ?_;intro gb370 hg w28 hbox hb;have BK370 := am_ (hbox);have GW370 := zw_ HB hg;have GE370 := zw_ HB hg;replace HB := zs_ HB hb;have NB369_370 := zl hg BK369;have NB370_369 := zg hg BK369;replace BK369 := zb BK369 hb;clear hb hbox hg;have hnb29 := NB369_370.out;have hnc29 := NB370_369.out;obtain ⟨hcz30_0,hcz30_1,hcz30_2,hcz30_3,hfz30_0,hfz30_1,hfz30_2,hfz30_3⟩ := zc4 BK369;obtain ⟨hcz31_0,hcz31_1,hcz31_2,hcz31_3,hfz31_0,hfz31_1,hfz31_2,hfz31_3⟩ := zc4 BK370))
  go_ret
  exact ⟨zt_,zl_ HB⟩
set_option maxHeartbeats 8000000 in
set_option maxRecDepth 100000 in
theorem laws_eqSeen.calls (a0_0 : Int) (a0_1 : Int) (a0_2 : Int) (a0_3 : Int) (a0_4 : Int) (a0_5 : Int) (a1_0 : Int) (a1_1 : Int) (a1_2 : Int) (a1_3 : Int) (a1_4 : Int) (a1_5 : Int) (r : Bool) (w : World) (h : laws_eqSeen.f a0_0 a0_1 a0_2 a0_3 a0_4 a0_5 a1_0 a1_1 a1_2 a1_3 a1_4 a1_5 = some r) :
  Calls Try.prog 54 #[.agg #[.int .i64 a0_0,.int .i64 a0_1,.int .i64 a0_2,.int .i64 a0_3,.int .i64 a0_4,.int .i64 a0_5],.agg #[.int .i64 a1_0,.int .i64 a1_1,.int .i64 a1_2,.int .i64 a1_3,.int .i64 a1_4,.int .i64 a1_5]] w fun e w' => e = .returned (.bool r) ∧ Below w.heap.size w w' := by
 have hu84 := Try.underlying84
 have hu82 := Try.underlying82
 have HB := am_ (Below.refl w.heap.size w)
 have H : (if a0_0 = a1_0 then (if a0_1 = a1_1 then ((laws_eqAnswer.f a0_2 a0_3 a0_4 a0_5 a1_2 a1_3 a1_4 a1_5).bind fun t373 => (if t373 = true then (some true) else (some false))) else (some false)) else (some false)) = some r := h
 clear h
 by_cases c3 : a0_0 = a1_0
 ·rw [if_pos c3] at H
  have c3b0 : (a0_0 == a1_0) = true := beq_iff_eq.mpr c3
  have c3b1 : (a0_0 != a1_0) = false := bne_eq_false_iff_eq.mpr c3
  clear c3
  by_cases c4 : a0_1 = a1_1
  ·rw [if_pos c4] at H
   have c4b0 : (a0_1 == a1_1) = true := beq_iff_eq.mpr c4
   have c4b1 : (a0_1 != a1_1) = false := bne_eq_false_iff_eq.mpr c4
   clear c4
   replace H := Option.bind_eq_some_iff.mp H
   obtain ⟨t373,A50,H⟩ := H
   try dsimp only at H
   have A5 := am_ A50
   clear A50
   by_cases c6 : t373 = true
   ·subst c6
    have H1 : (some true) = some r := by rw [if_pos rfl] at H;exact H
    clear H
    have H := H1
    clear H1
    obtain rfl := Option.some.inj H
    go_enter Try.func54,Try.ntmps54
    go_wp2_with (first | ((with_reducible refine gate_dst (N := 2) rfl ?_);refine zbx (N := 2) (cs := #[.int .i64 a0_0,.int .i64 a0_1,.int .i64 a0_2,.int .i64 a0_3,.int .i64 a0_4,.int .i64 a0_5]) (t := 84) ?_;intro gb371 hg w7 hbox hb;have BK371 := am_ (hbox);have GW371 := zw_ HB hg;have GE371 := zw_ HB hg;replace HB := zs_ HB hb;clear hb hbox hg) | ((with_reducible refine gate_dst (N := 3) rfl ?_);refine zbx (N := 3) (cs := #[.int .i64 a1_0,.int .i64 a1_1,.int .i64 a1_2,.int .i64 a1_3,.int .i64 a1_4,.int .i64 a1_5]) (t := 84) ?_;intro gb372 hg w8 hbox hb;have BK372 := am_ (hbox);have GW372 := zw_ HB hg;have GE372 := zw_ HB hg;replace HB := zs_ HB hb;have NB371_372 := zl hg BK371;have NB372_371 := zg hg BK371;replace BK371 := zb BK371 hb;clear hb hbox hg;have hnb9 := NB371_372.out;have hnc9 := NB372_371.out;obtain ⟨hcz10_0,hcz10_1,hcz10_2,hcz10_3,hcz10_4,hcz10_5,hfz10_0,hfz10_1,hfz10_2,hfz10_3,hfz10_4,hfz10_5⟩ := zc6 BK371;obtain ⟨hcz11_0,hcz11_1,hcz11_2,hcz11_3,hcz11_4,hcz11_5,hfz11_0,hfz11_1,hfz11_2,hfz11_3,hfz11_4,hfz11_5⟩ := zc6 BK372) | ((with_reducible refine gate_callee (f := 80) rfl ?_);refine zgl (some 19) Try.func80 #[.agg #[.int .i64 a0_2,.int .i64 a0_3,.int .i64 a0_4,.int .i64 a0_5],.agg #[.int .i64 a1_2,.int .i64 a1_3,.int .i64 a1_4,.int .i64 a1_5]] ?_;(with_reducible refine (laws_eqAnswer.calls a0_2 a0_3 a0_4 a0_5 a1_2 a1_3 a1_4 a1_5 true _ A5.out).mono ?_);rintro e w12 ⟨rfl,hb⟩;refine ⟨_,rfl,?_⟩;replace BK371 := zb BK371 hb;replace BK372 := zb BK372 hb;replace HB := zs_ HB hb;(try clear hb);(try clear hb2);(try clear hk);(try clear hi)))
    go_ret
    exact ⟨zt_,zl_ HB⟩
   ·replace c6 := Bool.eq_false_iff.mpr c6
    subst c6
    have H1 : (some false) = some r := by rw [if_neg (show ¬ (false = true) by decide)] at H;exact H
    clear H
    have H := H1
    clear H1
    obtain rfl := Option.some.inj H
    go_enter Try.func54,Try.ntmps54
    go_wp2_with (first | ((with_reducible refine gate_dst (N := 2) rfl ?_);refine zbx (N := 2) (cs := #[.int .i64 a0_0,.int .i64 a0_1,.int .i64 a0_2,.int .i64 a0_3,.int .i64 a0_4,.int .i64 a0_5]) (t := 84) ?_;intro gb371 hg w13 hbox hb;have BK371 := am_ (hbox);have GW371 := zw_ HB hg;have GE371 := zw_ HB hg;replace HB := zs_ HB hb;clear hb hbox hg) | ((with_reducible refine gate_dst (N := 3) rfl ?_);refine zbx (N := 3) (cs := #[.int .i64 a1_0,.int .i64 a1_1,.int .i64 a1_2,.int .i64 a1_3,.int .i64 a1_4,.int .i64 a1_5]) (t := 84) ?_;intro gb372 hg w14 hbox hb;have BK372 := am_ (hbox);have GW372 := zw_ HB hg;have GE372 := zw_ HB hg;replace HB := zs_ HB hb;have NB371_372 := zl hg BK371;have NB372_371 := zg hg BK371;replace BK371 := zb BK371 hb;clear hb hbox hg;have hnb15 := NB371_372.out;have hnc15 := NB372_371.out;obtain ⟨hcz16_0,hcz16_1,hcz16_2,hcz16_3,hcz16_4,hcz16_5,hfz16_0,hfz16_1,hfz16_2,hfz16_3,hfz16_4,hfz16_5⟩ := zc6 BK371;obtain ⟨hcz17_0,hcz17_1,hcz17_2,hcz17_3,hcz17_4,hcz17_5,hfz17_0,hfz17_1,hfz17_2,hfz17_3,hfz17_4,hfz17_5⟩ := zc6 BK372) | ((with_reducible refine gate_callee (f := 80) rfl ?_);refine zgl (some 19) Try.func80 #[.agg #[.int .i64 a0_2,.int .i64 a0_3,.int .i64 a0_4,.int .i64 a0_5],.agg #[.int .i64 a1_2,.int .i64 a1_3,.int .i64 a1_4,.int .i64 a1_5]] ?_;(with_reducible refine (laws_eqAnswer.calls a0_2 a0_3 a0_4 a0_5 a1_2 a1_3 a1_4 a1_5 false _ A5.out).mono ?_);rintro e w18 ⟨rfl,hb⟩;refine ⟨_,rfl,?_⟩;replace HB := zs_ HB hb;(try clear hb);(try clear hb2);(try clear hk);(try clear hi)))
    go_ret
    exact ⟨zt_,zl_ HB⟩
  ·rw [if_neg c4] at H
   have c4b0 : (a0_1 == a1_1) = false := beq_eq_false_iff_ne.mpr c4
   have c4b1 : (a0_1 != a1_1) = true := bne_iff_ne.mpr c4
   obtain rfl := Option.some.inj H
   go_enter Try.func54,Try.ntmps54
   go_wp2_with (first | ((with_reducible refine gate_dst (N := 2) rfl ?_);refine zbx (N := 2) (cs := #[.int .i64 a0_0,.int .i64 a0_1,.int .i64 a0_2,.int .i64 a0_3,.int .i64 a0_4,.int .i64 a0_5]) (t := 84) ?_;intro gb371 hg w19 hbox hb;have BK371 := am_ (hbox);have GW371 := zw_ HB hg;have GE371 := zw_ HB hg;replace HB := zs_ HB hb;clear hb hbox hg) | ((with_reducible refine gate_dst (N := 3) rfl ?_);refine zbx (N := 3) (cs := #[.int .i64 a1_0,.int .i64 a1_1,.int .i64 a1_2,.int .i64 a1_3,.int .i64 a1_4,.int .i64 a1_5]) (t := 84) ?_;intro gb372 hg w20 hbox hb;have BK372 := am_ (hbox);have GW372 := zw_ HB hg;have GE372 := zw_ HB hg;replace HB := zs_ HB hb;have NB371_372 := zl hg BK371;have NB372_371 := zg hg BK371;replace BK371 := zb BK371 hb;clear hb hbox hg;have hnb21 := NB371_372.out;have hnc21 := NB372_371.out;obtain ⟨hcz22_0,hcz22_1,hcz22_2,hcz22_3,hcz22_4,hcz22_5,hfz22_0,hfz22_1,hfz22_2,hfz22_3,hfz22_4,hfz22_5⟩ := zc6 BK371;obtain ⟨hcz23_0,hcz23_1,hcz23_2,hcz23_3,hcz23_4,hcz23_5,hfz23_0,hfz23_1,hfz23_2,hfz23_3,hfz23_4,hfz23_5⟩ := zc6 BK372))
   go_ret
   exact ⟨zt_,zl_ HB⟩
 ·rw [if_neg c3] at H
  have c3b0 : (a0_0 == a1_0) = false := beq_eq_false_iff_ne.mpr c3
  have c3b1 : (a0_0 != a1_0) = true := bne_iff_ne.mpr c3
  obtain rfl := Option.some.inj H
  go_enter Try.func54,Try.ntmps54
  go_wp2_with (first | ((with_reducible refine gate_dst (N := 2) rfl ?_);refine zbx (N := 2) (cs := #[.int .i64 a0_0,.int .i64 a0_1,.int .i64 a0_2,.int .i64 a0_3,.int .i64 a0_4,.int .i64 a0_5]) (t := 84) ?_;intro gb371 hg w24 hbox hb;have BK371 := am_ (hbox);have GW371 := zw_ HB hg;have GE371 := zw_ HB hg;replace HB := zs_ HB hb;clear hb hbox hg) | ((with_reducible refine gate_dst (N := 3) rfl ?_);refine zbx (N := 3) (cs := #[.int .i64 a1_0,.int .i64 a1_1,.int .i64 a1_2,.int .i64 a1_3,.int .i64 a1_4,.int .i64 a1_5]) (t := 84) ?_;intro gb372 hg w25 hbox hb;have BK372 := am_ (hbox);have GW372 := zw_ HB hg;have GE372 := zw_ HB hg;replace HB := zs_ HB hb;have NB371_372 := zl hg BK371;have NB372_371 := zg hg BK371;replace BK371 := zb BK371 hb;clear hb hbox hg;have hnb26 := NB371_372.out;have hnc26 := NB372_371.out;obtain ⟨hcz27_0,hcz27_1,hcz27_2,hcz27_3,hcz27_4,hcz27_5,hfz27_0,hfz27_1,hfz27_2,hfz27_3,hfz27_4,hfz27_5⟩ := zc6 BK371;obtain ⟨hcz28_0,hcz28_1,hcz28_2,hcz28_3,hcz28_4,hcz28_5,hfz28_0,hfz28_1,hfz28_2,hfz28_3,hfz28_4,hfz28_5⟩ := zc6 BK372))
  go_ret
  exact ⟨zt_,zl_ HB⟩
def laws_eqSeenS.T6 : Bool × List (List Nat × List Nat) := (true,[([],[]),([],[]),([0,1],[0,1]),([2],[2]),([],[]),([],[]),([4,5],[4,5]),([6],[6]),([3,7],[3,7]),([8],[8])])
def laws_eqSeenS.B6 : List Nat := [0,0,3,7,0,0,48,112,255,511]
theorem laws_eqSeenS.tab6 : rtab .any (opsOf Try.f24 6) = laws_eqSeenS.T6 := by kernel_rfl
theorem laws_eqSeenS.bits6 : waitsOk laws_eqSeenS.T6.2 laws_eqSeenS.B6 = true := by kernel_rfl
set_option maxHeartbeats 8000000 in
set_option maxRecDepth 100000 in
theorem laws_eqSeenS.calls (k : Nat) (A0 : Option Addr) (c0 : Nat) (l0 : List (S84)) (A1 : Option Addr) (c1 : Nat) (l1 : List (S84)) (r : Bool) (w : World) (hr0 : Kd.C k84 w A0 l0.length l0) (hc0 : l0.length ≤ c0) (hr1 : Kd.C k84 w A1 l1.length l1) (hc1 : l1.length ≤ c1) (h : laws_eqSeenS.f k l0 l1 = some r) :
  Calls Try.prog 24 #[.slice A0 l0.length c0,.slice A1 l1.length c1] w fun e w' => e = .returned (.bool r) ∧ Below w.heap.size w w' := by
 have hu84 := Try.underlying84
 have HR0 := am_ hr0
 have HC0 := am_ hc0
 clear hr0 hc0
 have HR1 := am_ hr1
 have HC1 := am_ hc1
 clear hr1 hc1
 have HB := am_ (Below.refl w.heap.size w)
 have H : (if (l0.length : Int) = (l1.length : Int) then (laws_eqSeenS.l0 k l0 l1 0) else (some false)) = some r := h
 clear h
 by_cases c3 : (l0.length : Int) = (l1.length : Int)
 ·rw [if_pos c3] at H
  have c3b0 : ((l0.length : Int) == (l1.length : Int)) = true := beq_iff_eq.mpr c3
  have c3b1 : ((l0.length : Int) != (l1.length : Int)) = false := bne_eq_false_iff_eq.mpr c3
  have c3b2 : (l0.length == l1.length) = true := by first | simpa using c3 | (simp at c3 ⊢;omega)
  clear c3
  have H' := am_ H
  clear H
  go_enter Try.func24,Try.ntmps24
  go_wp2
  go_loopg [5] k (fun kq v5 w' => ∃ (x5_1 : Int),v5 = .int .i64 x5_1 ∧ Aside0 (laws_eqSeenS.l0 kq l0 l1 x5_1 = some r) ∧ Aside0 (kq ≤ k) ∧ Aside0 (Below w.heap.size w w'))
  case atStart => exact ⟨(0),(by first | rfl | (simp;done) | (simp [*];done)),H',⟨Nat.le_refl _⟩,⟨zl_ HB⟩⟩
  case round =>
   clear H'
   try clear c1
   try clear c2
   try clear p2
   try clear c3
   try clear c3b0
   try clear c3b1
   try clear c3b2
   obtain ⟨x5_1,rfl,HA,HK1,HB⟩ := hrel
   cases gk with
   | zero => exact absurd HA.out (by simp [laws_eqSeenS.l0])
   | succ k1 =>
    have H := HA.out
    clear HA
    simp only [laws_eqSeenS.l0] at H
    by_cases c4 : x5_1 < (l0.length : Int)
    ·rw [if_pos c4] at H
     have c4b0 : decide (x5_1 < (l0.length : Int)) = true := decide_eq_true c4
     clear c4
     by_cases c5 : 0 ≤ x5_1
     ·rw [if_pos c5] at H
      have c5b0 : decide (0 ≤ x5_1) = true := decide_eq_true c5
      clear c5
      by_cases c6 : x5_1 < (l1.length : Int)
      ·rw [if_pos c6] at H
       have c6b0 : decide (x5_1 < (l1.length : Int)) = true := decide_eq_true c6
       clear c6
       replace H := Option.bind_eq_some_iff.mp H
       obtain ⟨t376,A70,H⟩ := H
       try dsimp only at H
       have A7 := am_ A70
       clear A70
       by_cases c8 : t376 = true
       ·subst c8
        have H1 : (laws_eqSeenS.l0 k1 l0 l1 (wrap64 (x5_1 + 1))) = some r := by rw [if_pos rfl] at H;exact H
        clear H
        have H := H1
        clear H1
        have H' := am_ H
        clear H
        try go_wp2
        replace HB := am_ (below_drew1 HB.out)
        have p374 : 0 ≤ (x5_1 : Int) := zo_
        have q374 : x5_1 < (l0.length : Int) := zo_
        obtain ⟨ad374,e374,hx374_0,hx374_1,hx374_2,hx374_3,hx374_4,hx374_5⟩ := at_T84 HR0.out x5_1 p374 q374
        have hw374_5 := hx374_5
        have hw374_4 := hx374_4
        have hw374_3 := hx374_3
        have hw374_2 := hx374_2
        have hw374_1 := hx374_1
        have hw374_0 := hx374_0
        cases e374
        replace hx374_0 := zx_ HB hx374_0
        replace hx374_1 := zx_ HB hx374_1
        replace hx374_2 := zx_ HB hx374_2
        replace hx374_3 := zx_ HB hx374_3
        replace hx374_4 := zx_ HB hx374_4
        replace hx374_5 := zx_ HB hx374_5
        replace p374 := eq_true p374
        replace q374 := eq_true q374
        have p375 : 0 ≤ (x5_1 : Int) := zo_
        have q375 : x5_1 < (l1.length : Int) := zo_
        obtain ⟨ad375,e375,hx375_0,hx375_1,hx375_2,hx375_3,hx375_4,hx375_5⟩ := at_T84 HR1.out x5_1 p375 q375
        have hw375_5 := hx375_5
        have hw375_4 := hx375_4
        have hw375_3 := hx375_3
        have hw375_2 := hx375_2
        have hw375_1 := hx375_1
        have hw375_0 := hx375_0
        cases e375
        replace hx375_0 := zx_ HB hx375_0
        replace hx375_1 := zx_ HB hx375_1
        replace hx375_2 := zx_ HB hx375_2
        replace hx375_3 := zx_ HB hx375_3
        replace hx375_4 := zx_ HB hx375_4
        replace hx375_5 := zx_ HB hx375_5
        replace p375 := eq_true p375
        replace q375 := eq_true q375
        refine start_ (n := 10) (S := fun w' => w'.cell? (ad374.add ((x5_1).toNat * 6)) = some (.int .i64 ((rd_T84 l0 x5_1).f0)) ∧ w'.cell? ⟨(ad374.add ((x5_1).toNat * 6)).block,(ad374.add ((x5_1).toNat * 6)).off + 1,none⟩ = some (.int .i64 ((rd_T84 l0 x5_1).f1)) ∧ w'.cell? ⟨(ad374.add ((x5_1).toNat * 6)).block,(ad374.add ((x5_1).toNat * 6)).off + 2,none⟩ = some (.int .i64 ((rd_T84 l0 x5_1).f2.f0)) ∧ w'.cell? ⟨(ad374.add ((x5_1).toNat * 6)).block,(ad374.add ((x5_1).toNat * 6)).off + 3,none⟩ = some (.int .i64 ((rd_T84 l0 x5_1).f2.f1)) ∧ w'.cell? ⟨(ad374.add ((x5_1).toNat * 6)).block,(ad374.add ((x5_1).toNat * 6)).off + 4,none⟩ = some (.int .i64 ((rd_T84 l0 x5_1).f2.f2)) ∧ w'.cell? ⟨(ad374.add ((x5_1).toNat * 6)).block,(ad374.add ((x5_1).toNat * 6)).off + 5,none⟩ = some (.int .i64 ((rd_T84 l0 x5_1).f2.f3)) ∧ w'.cell? (ad375.add ((x5_1).toNat * 6)) = some (.int .i64 ((rd_T84 l1 x5_1).f0)) ∧ w'.cell? ⟨(ad375.add ((x5_1).toNat * 6)).block,(ad375.add ((x5_1).toNat * 6)).off + 1,none⟩ = some (.int .i64 ((rd_T84 l1 x5_1).f1)) ∧ w'.cell? ⟨(ad375.add ((x5_1).toNat * 6)).block,(ad375.add ((x5_1).toNat * 6)).off + 2,none⟩ = some (.int .i64 ((rd_T84 l1 x5_1).f2.f0)) ∧ w'.cell? ⟨(ad375.add ((x5_1).toNat * 6)).block,(ad375.add ((x5_1).toNat * 6)).off + 3,none⟩ = some (.int .i64 ((rd_T84 l1 x5_1).f2.f1)) ∧ w'.cell? ⟨(ad375.add ((x5_1).toNat * 6)).block,(ad375.add ((x5_1).toNat * 6)).off + 4,none⟩ = some (.int .i64 ((rd_T84 l1 x5_1).f2.f2)) ∧ w'.cell? ⟨(ad375.add ((x5_1).toNat * 6)).block,(ad375.add ((x5_1).toNat * 6)).off + 5,none⟩ = some (.int .i64 ((rd_T84 l1 x5_1).f2.f3))) (ds := []) #[false,false,false,false,false,false,false,false,false,false] (by kernel_rfl) rfl rfl ⟨(zx_ HB hw374_0),(zx_ HB hw374_1),(zx_ HB hw374_2),(zx_ HB hw374_3),(zx_ HB hw374_4),(zx_ HB hw374_5),(zx_ HB hw375_0),(zx_ HB hw375_1),(zx_ HB hw375_2),(zx_ HB hw375_3),(zx_ HB hw375_4),(zx_ HB hw375_5)⟩ (fun hHeld => ?_);refine with_tabW laws_eqSeenS.tab6 laws_eqSeenS.bits6 (fun HT_ HW_ => ?_)
        generalize wr.drew = w9 at HB hx374_0 hx374_1 hx374_2 hx374_3 hx374_4 hx374_5 hx375_0 hx375_1 hx375_2 hx375_3 hx375_4 hx375_5 hHeld ⊢
        refine zpu 0 (N := some 17) HT_ ?_
        refine zpu 1 (N := some 18) HT_ ?_
        refine zpu 2 (N := some 19) HT_ ?_
        refine zpu 4 (N := some 21) HT_ ?_
        refine zpu 5 (N := some 22) HT_ ?_
        refine zpu 6 (N := some 23) HT_ ?_
        refine ztk 3 (N := some 20) HT_ HW_ hHeld ?_
        refine ztk 7 (N := some 24) HT_ HW_ hHeld ?_
        refine zon 8 (N := some 25) HT_ (fun K hK => ?_)
        refine zgo Try.func54 #[.agg #[.int .i64 ((rd_T84 l0 x5_1).f0),.int .i64 ((rd_T84 l0 x5_1).f1),.int .i64 ((rd_T84 l0 x5_1).f2.f0),.int .i64 ((rd_T84 l0 x5_1).f2.f1),.int .i64 ((rd_T84 l0 x5_1).f2.f2),.int .i64 ((rd_T84 l0 x5_1).f2.f3)],.agg #[.int .i64 ((rd_T84 l1 x5_1).f0),.int .i64 ((rd_T84 l1 x5_1).f1),.int .i64 ((rd_T84 l1 x5_1).f2.f0),.int .i64 ((rd_T84 l1 x5_1).f2.f1),.int .i64 ((rd_T84 l1 x5_1).f2.f2),.int .i64 ((rd_T84 l1 x5_1).f2.f3)]] ?_
        with_reducible refine (laws_eqSeen.calls ((rd_T84 l0 x5_1).f0) ((rd_T84 l0 x5_1).f1) ((rd_T84 l0 x5_1).f2.f0) ((rd_T84 l0 x5_1).f2.f1) ((rd_T84 l0 x5_1).f2.f2) ((rd_T84 l0 x5_1).f2.f3) ((rd_T84 l1 x5_1).f0) ((rd_T84 l1 x5_1).f1) ((rd_T84 l1 x5_1).f2.f0) ((rd_T84 l1 x5_1).f2.f1) ((rd_T84 l1 x5_1).f2.f2) ((rd_T84 l1 x5_1).f2.f3) true _ A7.out).mono ?_
        rintro e w10 ⟨rfl,hb⟩
        refine ⟨_,rfl,?_⟩
        replace HB := zs_ HB hb
        (try clear hb)
        (try clear hb2)
        (try clear hk)
        (try clear hi)
        refine hK.out _ _ ⟨(zx_ HB hw374_0),(zx_ HB hw374_1),(zx_ HB hw374_2),(zx_ HB hw374_3),(zx_ HB hw374_4),(zx_ HB hw374_5),(zx_ HB hw375_0),(zx_ HB hw375_1),(zx_ HB hw375_2),(zx_ HB hw375_3),(zx_ HB hw375_4),(zx_ HB hw375_5)⟩ (fun hHeld => ?_)
        clear hK K
        refine norm_ (a' := ?_) ?_ ?_
        rotate_left
        ·show Act.put _ (some 25) _ = _
         simp only [Act.put,p1_,p2_,p3_,i64_w,i32_w]
         rfl
        refine zpu 9 (N := some 26) HT_ ?_
        refine done_ (done_of HT_.out (by kernel_rfl)) ?_
        try go_wp2
        go_roundg k1
        case measure => have := HK1.out;omega
        case rel => exact ⟨(wrap64 (x5_1 + 1)),(by first | rfl | (simp;done) | (simp [*];done)),H',⟨by have := HK1.out;omega⟩,⟨zl_ HB⟩⟩
       ·replace c8 := Bool.eq_false_iff.mpr c8
        subst c8
        have H1 : (some false) = some r := by rw [if_neg (show ¬ (false = true) by decide)] at H;exact H
        clear H
        have H := H1
        clear H1
        obtain rfl := Option.some.inj H
        try go_wp2
        replace HB := am_ (below_drew1 HB.out)
        have p374 : 0 ≤ (x5_1 : Int) := zo_
        have q374 : x5_1 < (l0.length : Int) := zo_
        obtain ⟨ad374,e374,hx374_0,hx374_1,hx374_2,hx374_3,hx374_4,hx374_5⟩ := at_T84 HR0.out x5_1 p374 q374
        have hw374_5 := hx374_5
        have hw374_4 := hx374_4
        have hw374_3 := hx374_3
        have hw374_2 := hx374_2
        have hw374_1 := hx374_1
        have hw374_0 := hx374_0
        cases e374
        replace hx374_0 := zx_ HB hx374_0
        replace hx374_1 := zx_ HB hx374_1
        replace hx374_2 := zx_ HB hx374_2
        replace hx374_3 := zx_ HB hx374_3
        replace hx374_4 := zx_ HB hx374_4
        replace hx374_5 := zx_ HB hx374_5
        replace p374 := eq_true p374
        replace q374 := eq_true q374
        have p375 : 0 ≤ (x5_1 : Int) := zo_
        have q375 : x5_1 < (l1.length : Int) := zo_
        obtain ⟨ad375,e375,hx375_0,hx375_1,hx375_2,hx375_3,hx375_4,hx375_5⟩ := at_T84 HR1.out x5_1 p375 q375
        have hw375_5 := hx375_5
        have hw375_4 := hx375_4
        have hw375_3 := hx375_3
        have hw375_2 := hx375_2
        have hw375_1 := hx375_1
        have hw375_0 := hx375_0
        cases e375
        replace hx375_0 := zx_ HB hx375_0
        replace hx375_1 := zx_ HB hx375_1
        replace hx375_2 := zx_ HB hx375_2
        replace hx375_3 := zx_ HB hx375_3
        replace hx375_4 := zx_ HB hx375_4
        replace hx375_5 := zx_ HB hx375_5
        replace p375 := eq_true p375
        replace q375 := eq_true q375
        refine start_ (n := 10) (S := fun w' => w'.cell? (ad374.add ((x5_1).toNat * 6)) = some (.int .i64 ((rd_T84 l0 x5_1).f0)) ∧ w'.cell? ⟨(ad374.add ((x5_1).toNat * 6)).block,(ad374.add ((x5_1).toNat * 6)).off + 1,none⟩ = some (.int .i64 ((rd_T84 l0 x5_1).f1)) ∧ w'.cell? ⟨(ad374.add ((x5_1).toNat * 6)).block,(ad374.add ((x5_1).toNat * 6)).off + 2,none⟩ = some (.int .i64 ((rd_T84 l0 x5_1).f2.f0)) ∧ w'.cell? ⟨(ad374.add ((x5_1).toNat * 6)).block,(ad374.add ((x5_1).toNat * 6)).off + 3,none⟩ = some (.int .i64 ((rd_T84 l0 x5_1).f2.f1)) ∧ w'.cell? ⟨(ad374.add ((x5_1).toNat * 6)).block,(ad374.add ((x5_1).toNat * 6)).off + 4,none⟩ = some (.int .i64 ((rd_T84 l0 x5_1).f2.f2)) ∧ w'.cell? ⟨(ad374.add ((x5_1).toNat * 6)).block,(ad374.add ((x5_1).toNat * 6)).off + 5,none⟩ = some (.int .i64 ((rd_T84 l0 x5_1).f2.f3)) ∧ w'.cell? (ad375.add ((x5_1).toNat * 6)) = some (.int .i64 ((rd_T84 l1 x5_1).f0)) ∧ w'.cell? ⟨(ad375.add ((x5_1).toNat * 6)).block,(ad375.add ((x5_1).toNat * 6)).off + 1,none⟩ = some (.int .i64 ((rd_T84 l1 x5_1).f1)) ∧ w'.cell? ⟨(ad375.add ((x5_1).toNat * 6)).block,(ad375.add ((x5_1).toNat * 6)).off + 2,none⟩ = some (.int .i64 ((rd_T84 l1 x5_1).f2.f0)) ∧ w'.cell? ⟨(ad375.add ((x5_1).toNat * 6)).block,(ad375.add ((x5_1).toNat * 6)).off + 3,none⟩ = some (.int .i64 ((rd_T84 l1 x5_1).f2.f1)) ∧ w'.cell? ⟨(ad375.add ((x5_1).toNat * 6)).block,(ad375.add ((x5_1).toNat * 6)).off + 4,none⟩ = some (.int .i64 ((rd_T84 l1 x5_1).f2.f2)) ∧ w'.cell? ⟨(ad375.add ((x5_1).toNat * 6)).block,(ad375.add ((x5_1).toNat * 6)).off + 5,none⟩ = some (.int .i64 ((rd_T84 l1 x5_1).f2.f3))) (ds := []) #[false,false,false,false,false,false,false,false,false,false] (by kernel_rfl) rfl rfl ⟨(zx_ HB hw374_0),(zx_ HB hw374_1),(zx_ HB hw374_2),(zx_ HB hw374_3),(zx_ HB hw374_4),(zx_ HB hw374_5),(zx_ HB hw375_0),(zx_ HB hw375_1),(zx_ HB hw375_2),(zx_ HB hw375_3),(zx_ HB hw375_4),(zx_ HB hw375_5)⟩ (fun hHeld => ?_);refine with_tabW laws_eqSeenS.tab6 laws_eqSeenS.bits6 (fun HT_ HW_ => ?_)
        generalize wr.drew = w11 at HB hx374_0 hx374_1 hx374_2 hx374_3 hx374_4 hx374_5 hx375_0 hx375_1 hx375_2 hx375_3 hx375_4 hx375_5 hHeld ⊢
        refine zpu 0 (N := some 17) HT_ ?_
        refine zpu 1 (N := some 18) HT_ ?_
        refine zpu 2 (N := some 19) HT_ ?_
        refine zpu 4 (N := some 21) HT_ ?_
        refine zpu 5 (N := some 22) HT_ ?_
        refine zpu 6 (N := some 23) HT_ ?_
        refine ztk 3 (N := some 20) HT_ HW_ hHeld ?_
        refine ztk 7 (N := some 24) HT_ HW_ hHeld ?_
        refine zon 8 (N := some 25) HT_ (fun K hK => ?_)
        refine zgo Try.func54 #[.agg #[.int .i64 ((rd_T84 l0 x5_1).f0),.int .i64 ((rd_T84 l0 x5_1).f1),.int .i64 ((rd_T84 l0 x5_1).f2.f0),.int .i64 ((rd_T84 l0 x5_1).f2.f1),.int .i64 ((rd_T84 l0 x5_1).f2.f2),.int .i64 ((rd_T84 l0 x5_1).f2.f3)],.agg #[.int .i64 ((rd_T84 l1 x5_1).f0),.int .i64 ((rd_T84 l1 x5_1).f1),.int .i64 ((rd_T84 l1 x5_1).f2.f0),.int .i64 ((rd_T84 l1 x5_1).f2.f1),.int .i64 ((rd_T84 l1 x5_1).f2.f2),.int .i64 ((rd_T84 l1 x5_1).f2.f3)]] ?_
        with_reducible refine (laws_eqSeen.calls ((rd_T84 l0 x5_1).f0) ((rd_T84 l0 x5_1).f1) ((rd_T84 l0 x5_1).f2.f0) ((rd_T84 l0 x5_1).f2.f1) ((rd_T84 l0 x5_1).f2.f2) ((rd_T84 l0 x5_1).f2.f3) ((rd_T84 l1 x5_1).f0) ((rd_T84 l1 x5_1).f1) ((rd_T84 l1 x5_1).f2.f0) ((rd_T84 l1 x5_1).f2.f1) ((rd_T84 l1 x5_1).f2.f2) ((rd_T84 l1 x5_1).f2.f3) false _ A7.out).mono ?_
        rintro e w12 ⟨rfl,hb⟩
        refine ⟨_,rfl,?_⟩
        replace HB := zs_ HB hb
        (try clear hb)
        (try clear hb2)
        (try clear hk)
        (try clear hi)
        refine hK.out _ _ ⟨(zx_ HB hw374_0),(zx_ HB hw374_1),(zx_ HB hw374_2),(zx_ HB hw374_3),(zx_ HB hw374_4),(zx_ HB hw374_5),(zx_ HB hw375_0),(zx_ HB hw375_1),(zx_ HB hw375_2),(zx_ HB hw375_3),(zx_ HB hw375_4),(zx_ HB hw375_5)⟩ (fun hHeld => ?_)
        clear hK K
        refine norm_ (a' := ?_) ?_ ?_
        rotate_left
        ·show Act.put _ (some 25) _ = _
         simp only [Act.put,p1_,p2_,p3_,i64_w,i32_w]
         rfl
        refine zpu 9 (N := some 26) HT_ ?_
        refine done_ (done_of HT_.out (by kernel_rfl)) ?_
        try go_wp2
        go_ret
        exact ⟨zt_,zl_ HB⟩
      ·rw [if_neg c6] at H
       exact absurd H (by simp)
     ·rw [if_neg c5] at H
      exact absurd H (by simp)
    ·rw [if_neg c4] at H
     have c4b0 : decide (x5_1 < (l0.length : Int)) = false := decide_eq_false c4
     clear c4
     obtain rfl := Option.some.inj H
     go_wp2
     go_ret
     exact ⟨zt_,zl_ HB⟩
 ·rw [if_neg c3] at H
  have c3b0 : ((l0.length : Int) == (l1.length : Int)) = false := beq_eq_false_iff_ne.mpr c3
  have c3b1 : ((l0.length : Int) != (l1.length : Int)) = true := bne_iff_ne.mpr c3
  have c3b2 : (l0.length == l1.length) = false := by first | simpa using c3 | (simp at c3 ⊢;omega)
  obtain rfl := Option.some.inj H
  go_enter Try.func24,Try.ntmps24
  go_wp2
  go_ret
  exact ⟨zt_,zl_ HB⟩
set_option maxHeartbeats 8000000 in
set_option maxRecDepth 100000 in
theorem laws_eqTable.calls (k : Nat) (a0_0 : Int) (a0_1 : Int) (A0_2 : Option Addr) (c0_2 : Nat) (l0_2 : List (S78)) (A0_3 : Option Addr) (c0_3 : Nat) (l0_3 : List (S84)) (a1_0 : Int) (a1_1 : Int) (A1_2 : Option Addr) (c1_2 : Nat) (l1_2 : List (S78)) (A1_3 : Option Addr) (c1_3 : Nat) (l1_3 : List (S84)) (r : Bool) (w : World) (hr0_2 : Kd.C k78 w A0_2 l0_2.length l0_2) (hc0_2 : l0_2.length ≤ c0_2) (hr0_3 : Kd.C k84 w A0_3 l0_3.length l0_3) (hc0_3 : l0_3.length ≤ c0_3) (hr1_2 : Kd.C k78 w A1_2 l1_2.length l1_2) (hc1_2 : l1_2.length ≤ c1_2) (hr1_3 : Kd.C k84 w A1_3 l1_3.length l1_3) (hc1_3 : l1_3.length ≤ c1_3) (h : laws_eqTable.f k a0_0 a0_1 l0_2 l0_3 a1_0 a1_1 l1_2 l1_3 = some r) :
  Calls Try.prog 8 #[.agg #[.int .i64 a0_0,.int .i64 a0_1,.slice A0_2 l0_2.length c0_2,.slice A0_3 l0_3.length c0_3],.agg #[.int .i64 a1_0,.int .i64 a1_1,.slice A1_2 l1_2.length c1_2,.slice A1_3 l1_3.length c1_3]] w fun e w' => e = .returned (.bool r) ∧ Below w.heap.size w w' := by
 have hu26 := Try.underlying26
 have HR0_2 := am_ hr0_2
 have HC0_2 := am_ hc0_2
 clear hr0_2 hc0_2
 have HR0_3 := am_ hr0_3
 have HC0_3 := am_ hc0_3
 clear hr0_3 hc0_3
 have HR1_2 := am_ hr1_2
 have HC1_2 := am_ hc1_2
 clear hr1_2 hc1_2
 have HR1_3 := am_ hr1_3
 have HC1_3 := am_ hc1_3
 clear hr1_3 hc1_3
 have HB := am_ (Below.refl w.heap.size w)
 have H : (if a0_0 = a1_0 then (if a0_1 = a1_1 then ((laws_eqLockS.f k l0_2 l1_2).bind fun t379 => (if t379 = true then ((laws_eqSeenS.f k l0_3 l1_3).bind fun t380 => (if t380 = true then (some true) else (some false))) else (some false))) else (some false)) else (some false)) = some r := h
 clear h
 by_cases c3 : a0_0 = a1_0
 ·rw [if_pos c3] at H
  have c3b0 : (a0_0 == a1_0) = true := beq_iff_eq.mpr c3
  have c3b1 : (a0_0 != a1_0) = false := bne_eq_false_iff_eq.mpr c3
  clear c3
  by_cases c4 : a0_1 = a1_1
  ·rw [if_pos c4] at H
   have c4b0 : (a0_1 == a1_1) = true := beq_iff_eq.mpr c4
   have c4b1 : (a0_1 != a1_1) = false := bne_eq_false_iff_eq.mpr c4
   clear c4
   replace H := Option.bind_eq_some_iff.mp H
   obtain ⟨t379,A50,H⟩ := H
   try dsimp only at H
   have A5 := am_ A50
   clear A50
   by_cases c6 : t379 = true
   ·subst c6
    have H1 : ((laws_eqSeenS.f k l0_3 l1_3).bind fun t380 => (if t380 = true then (some true) else (some false))) = some r := by rw [if_pos rfl] at H;exact H
    clear H
    have H := H1
    clear H1
    replace H := Option.bind_eq_some_iff.mp H
    obtain ⟨t380,A70,H⟩ := H
    try dsimp only at H
    have A7 := am_ A70
    clear A70
    by_cases c8 : t380 = true
    ·subst c8
     have H1 : (some true) = some r := by rw [if_pos rfl] at H;exact H
     clear H
     have H := H1
     clear H1
     obtain rfl := Option.some.inj H
     go_enter Try.func8,Try.ntmps8
     go_wp2_with (first | ((with_reducible refine gate_dst (N := 2) rfl ?_);refine zbx (N := 2) (cs := #[.int .i64 a0_0,.int .i64 a0_1,.slice A0_2 l0_2.length c0_2,.slice A0_3 l0_3.length c0_3]) (t := 26) ?_;intro gb377 hg w9 hbox hb;have BK377 := am_ (hbox);have GW377 := zw_ HB hg;have GE377 := zw_ HB hg;replace HB := zs_ HB hb;clear hb hbox hg) | ((with_reducible refine gate_dst (N := 3) rfl ?_);refine zbx (N := 3) (cs := #[.int .i64 a1_0,.int .i64 a1_1,.slice A1_2 l1_2.length c1_2,.slice A1_3 l1_3.length c1_3]) (t := 26) ?_;intro gb378 hg w10 hbox hb;have BK378 := am_ (hbox);have GW378 := zw_ HB hg;have GE378 := zw_ HB hg;replace HB := zs_ HB hb;have NB377_378 := zl hg BK377;have NB378_377 := zg hg BK377;replace BK377 := zb BK377 hb;clear hb hbox hg;have hnb11 := NB377_378.out;have hnc11 := NB378_377.out;obtain ⟨hcz12_0,hcz12_1,hcz12_2,hcz12_3,hfz12_0,hfz12_1,hfz12_2,hfz12_3⟩ := zc4 BK377;obtain ⟨hcz13_0,hcz13_1,hcz13_2,hcz13_3,hfz13_0,hfz13_1,hfz13_2,hfz13_3⟩ := zc4 BK378) | ((with_reducible refine gate_callee (f := 23) rfl ?_);refine zgl (some 19) Try.func23 #[.slice A0_2 l0_2.length c0_2,.slice A1_2 l1_2.length c1_2] ?_;(with_reducible refine (laws_eqLockS.calls k _ _ l0_2 _ _ l1_2 true _ ?side1 ?side2 ?side3 ?side4 A5.out).mono ?_);(case side1 => exact zc_ HR0_2 HB);(case side2 => exact HC0_2.out);(case side3 => exact zc_ HR1_2 HB);(case side4 => exact HC1_2.out);rintro e w14 ⟨rfl,hb⟩;refine ⟨_,rfl,?_⟩;replace BK377 := zb BK377 hb;replace BK378 := zb BK378 hb;replace HB := zs_ HB hb;(try clear hb);(try clear hb2);(try clear hk);(try clear hi);obtain ⟨hcz15_0,hcz15_1,hcz15_2,hcz15_3,hfz15_0,hfz15_1,hfz15_2,hfz15_3⟩ := zc4 BK377;obtain ⟨hcz16_0,hcz16_1,hcz16_2,hcz16_3,hfz16_0,hfz16_1,hfz16_2,hfz16_3⟩ := zc4 BK378) | ((with_reducible refine gate_callee (f := 24) rfl ?_);refine zgl (some 25) Try.func24 #[.slice A0_3 l0_3.length c0_3,.slice A1_3 l1_3.length c1_3] ?_;(with_reducible refine (laws_eqSeenS.calls k _ _ l0_3 _ _ l1_3 true _ ?side1 ?side2 ?side3 ?side4 A7.out).mono ?_);(case side1 => exact zc_ HR0_3 HB);(case side2 => exact HC0_3.out);(case side3 => exact zc_ HR1_3 HB);(case side4 => exact HC1_3.out);rintro e w17 ⟨rfl,hb⟩;refine ⟨_,rfl,?_⟩;replace BK377 := zb BK377 hb;replace BK378 := zb BK378 hb;replace HB := zs_ HB hb;(try clear hb);(try clear hb2);(try clear hk);(try clear hi)))
     go_ret
     exact ⟨zt_,zl_ HB⟩
    ·replace c8 := Bool.eq_false_iff.mpr c8
     subst c8
     have H1 : (some false) = some r := by rw [if_neg (show ¬ (false = true) by decide)] at H;exact H
     clear H
     have H := H1
     clear H1
     obtain rfl := Option.some.inj H
     go_enter Try.func8,Try.ntmps8
     go_wp2_with (first | ((with_reducible refine gate_dst (N := 2) rfl ?_);refine zbx (N := 2) (cs := #[.int .i64 a0_0,.int .i64 a0_1,.slice A0_2 l0_2.length c0_2,.slice A0_3 l0_3.length c0_3]) (t := 26) ?_;intro gb377 hg w18 hbox hb;have BK377 := am_ (hbox);have GW377 := zw_ HB hg;have GE377 := zw_ HB hg;replace HB := zs_ HB hb;clear hb hbox hg) | ((with_reducible refine gate_dst (N := 3) rfl ?_);refine zbx (N := 3) (cs := #[.int .i64 a1_0,.int .i64 a1_1,.slice A1_2 l1_2.length c1_2,.slice A1_3 l1_3.length c1_3]) (t := 26) ?_;intro gb378 hg w19 hbox hb;have BK378 := am_ (hbox);have GW378 := zw_ HB hg;have GE378 := zw_ HB hg;replace HB := zs_ HB hb;have NB377_378 := zl hg BK377;have NB378_377 := zg hg BK377;replace BK377 := zb BK377 hb;clear hb hbox hg;have hnb20 := NB377_378.out;have hnc20 := NB378_377.out;obtain ⟨hcz21_0,hcz21_1,hcz21_2,hcz21_3,hfz21_0,hfz21_1,hfz21_2,hfz21_3⟩ := zc4 BK377;obtain ⟨hcz22_0,hcz22_1,hcz22_2,hcz22_3,hfz22_0,hfz22_1,hfz22_2,hfz22_3⟩ := zc4 BK378) | ((with_reducible refine gate_callee (f := 23) rfl ?_);refine zgl (some 19) Try.func23 #[.slice A0_2 l0_2.length c0_2,.slice A1_2 l1_2.length c1_2] ?_;(with_reducible refine (laws_eqLockS.calls k _ _ l0_2 _ _ l1_2 true _ ?side1 ?side2 ?side3 ?side4 A5.out).mono ?_);(case side1 => exact zc_ HR0_2 HB);(case side2 => exact HC0_2.out);(case side3 => exact zc_ HR1_2 HB);(case side4 => exact HC1_2.out);rintro e w23 ⟨rfl,hb⟩;refine ⟨_,rfl,?_⟩;replace BK377 := zb BK377 hb;replace BK378 := zb BK378 hb;replace HB := zs_ HB hb;(try clear hb);(try clear hb2);(try clear hk);(try clear hi);obtain ⟨hcz24_0,hcz24_1,hcz24_2,hcz24_3,hfz24_0,hfz24_1,hfz24_2,hfz24_3⟩ := zc4 BK377;obtain ⟨hcz25_0,hcz25_1,hcz25_2,hcz25_3,hfz25_0,hfz25_1,hfz25_2,hfz25_3⟩ := zc4 BK378) | ((with_reducible refine gate_callee (f := 24) rfl ?_);refine zgl (some 25) Try.func24 #[.slice A0_3 l0_3.length c0_3,.slice A1_3 l1_3.length c1_3] ?_;(with_reducible refine (laws_eqSeenS.calls k _ _ l0_3 _ _ l1_3 false _ ?side1 ?side2 ?side3 ?side4 A7.out).mono ?_);(case side1 => exact zc_ HR0_3 HB);(case side2 => exact HC0_3.out);(case side3 => exact zc_ HR1_3 HB);(case side4 => exact HC1_3.out);rintro e w26 ⟨rfl,hb⟩;refine ⟨_,rfl,?_⟩;replace HB := zs_ HB hb;(try clear hb);(try clear hb2);(try clear hk);(try clear hi)))
     go_ret
     exact ⟨zt_,zl_ HB⟩
   ·replace c6 := Bool.eq_false_iff.mpr c6
    subst c6
    have H1 : (some false) = some r := by rw [if_neg (show ¬ (false = true) by decide)] at H;exact H
    clear H
    have H := H1
    clear H1
    obtain rfl := Option.some.inj H
    go_enter Try.func8,Try.ntmps8
    go_wp2_with (first | ((with_reducible refine gate_dst (N := 2) rfl ?_);refine zbx (N := 2) (cs := #[.int .i64 a0_0,.int .i64 a0_1,.slice A0_2 l0_2.length c0_2,.slice A0_3 l0_3.length c0_3]) (t := 26) ?_;intro gb377 hg w27 hbox hb;have BK377 := am_ (hbox);have GW377 := zw_ HB hg;have GE377 := zw_ HB hg;replace HB := zs_ HB hb;clear hb hbox hg) | ((with_reducible refine gate_dst (N := 3) rfl ?_);refine zbx (N := 3) (cs := #[.int .i64 a1_0,.int .i64 a1_1,.slice A1_2 l1_2.length c1_2,.slice A1_3 l1_3.length c1_3]) (t := 26) ?_;intro gb378 hg w28 hbox hb;have BK378 := am_ (hbox);have GW378 := zw_ HB hg;have GE378 := zw_ HB hg;replace HB := zs_ HB hb;have NB377_378 := zl hg BK377;have NB378_377 := zg hg BK377;replace BK377 := zb BK377 hb;clear hb hbox hg;have hnb29 := NB377_378.out;have hnc29 := NB378_377.out;obtain ⟨hcz30_0,hcz30_1,hcz30_2,hcz30_3,hfz30_0,hfz30_1,hfz30_2,hfz30_3⟩ := zc4 BK377;obtain ⟨hcz31_0,hcz31_1,hcz31_2,hcz31_3,hfz31_0,hfz31_1,hfz31_2,hfz31_3⟩ := zc4 BK378) | ((with_reducible refine gate_callee (f := 23) rfl ?_);refine zgl (some 19) Try.func23 #[.slice A0_2 l0_2.length c0_2,.slice A1_2 l1_2.length c1_2] ?_;(with_reducible refine (laws_eqLockS.calls k _ _ l0_2 _ _ l1_2 false _ ?side1 ?side2 ?side3 ?side4 A5.out).mono ?_);(case side1 => exact zc_ HR0_2 HB);(case side2 => exact HC0_2.out);(case side3 => exact zc_ HR1_2 HB);(case side4 => exact HC1_2.out);rintro e w32 ⟨rfl,hb⟩;refine ⟨_,rfl,?_⟩;replace HB := zs_ HB hb;(try clear hb);(try clear hb2);(try clear hk);(try clear hi)))
    go_ret
    exact ⟨zt_,zl_ HB⟩
  ·rw [if_neg c4] at H
   have c4b0 : (a0_1 == a1_1) = false := beq_eq_false_iff_ne.mpr c4
   have c4b1 : (a0_1 != a1_1) = true := bne_iff_ne.mpr c4
   obtain rfl := Option.some.inj H
   go_enter Try.func8,Try.ntmps8
   go_wp2_with (first | ((with_reducible refine gate_dst (N := 2) rfl ?_);refine zbx (N := 2) (cs := #[.int .i64 a0_0,.int .i64 a0_1,.slice A0_2 l0_2.length c0_2,.slice A0_3 l0_3.length c0_3]) (t := 26) ?_;intro gb377 hg w33 hbox hb;have BK377 := am_ (hbox);have GW377 := zw_ HB hg;have GE377 := zw_ HB hg;replace HB := zs_ HB hb;clear hb hbox hg) | ((with_reducible refine gate_dst (N := 3) rfl ?_);refine zbx (N := 3) (cs := #[.int .i64 a1_0,.int .i64 a1_1,.slice A1_2 l1_2.length c1_2,.slice A1_3 l1_3.length c1_3]) (t := 26) ?_;intro gb378 hg w34 hbox hb;have BK378 := am_ (hbox);have GW378 := zw_ HB hg;have GE378 := zw_ HB hg;replace HB := zs_ HB hb;have NB377_378 := zl hg BK377;have NB378_377 := zg hg BK377;replace BK377 := zb BK377 hb;clear hb hbox hg;have hnb35 := NB377_378.out;have hnc35 := NB378_377.out;obtain ⟨hcz36_0,hcz36_1,hcz36_2,hcz36_3,hfz36_0,hfz36_1,hfz36_2,hfz36_3⟩ := zc4 BK377;obtain ⟨hcz37_0,hcz37_1,hcz37_2,hcz37_3,hfz37_0,hfz37_1,hfz37_2,hfz37_3⟩ := zc4 BK378))
   go_ret
   exact ⟨zt_,zl_ HB⟩
 ·rw [if_neg c3] at H
  have c3b0 : (a0_0 == a1_0) = false := beq_eq_false_iff_ne.mpr c3
  have c3b1 : (a0_0 != a1_0) = true := bne_iff_ne.mpr c3
  obtain rfl := Option.some.inj H
  go_enter Try.func8,Try.ntmps8
  go_wp2_with (first | ((with_reducible refine gate_dst (N := 2) rfl ?_);refine zbx (N := 2) (cs := #[.int .i64 a0_0,.int .i64 a0_1,.slice A0_2 l0_2.length c0_2,.slice A0_3 l0_3.length c0_3]) (t := 26) ?_;intro gb377 hg w38 hbox hb;have BK377 := am_ (hbox);have GW377 := zw_ HB hg;have GE377 := zw_ HB hg;replace HB := zs_ HB hb;clear hb hbox hg) | ((with_reducible refine gate_dst (N := 3) rfl ?_);refine zbx (N := 3) (cs := #[.int .i64 a1_0,.int .i64 a1_1,.slice A1_2 l1_2.length c1_2,.slice A1_3 l1_3.length c1_3]) (t := 26) ?_;intro gb378 hg w39 hbox hb;have BK378 := am_ (hbox);have GW378 := zw_ HB hg;have GE378 := zw_ HB hg;replace HB := zs_ HB hb;have NB377_378 := zl hg BK377;have NB378_377 := zg hg BK377;replace BK377 := zb BK377 hb;clear hb hbox hg;have hnb40 := NB377_378.out;have hnc40 := NB378_377.out;obtain ⟨hcz41_0,hcz41_1,hcz41_2,hcz41_3,hfz41_0,hfz41_1,hfz41_2,hfz41_3⟩ := zc4 BK377;obtain ⟨hcz42_0,hcz42_1,hcz42_2,hcz42_3,hfz42_0,hfz42_1,hfz42_2,hfz42_3⟩ := zc4 BK378))
  go_ret
  exact ⟨zt_,zl_ HB⟩
set_option maxHeartbeats 8000000 in
set_option maxRecDepth 100000 in
theorem laws_markByteS.calls (k : Nat) (P0_ : Nat → Prop) (u9000_ : Value) (l0 : List Int) (a1 : Int) (r1 : Int) (r2 : List Int) (w0 w : World) (hB : Below w0.heap.size w0 w) (ho0 : Kd.R (Kd.int .u8) 5 w w0.heap.size P0_ u9000_ l0) (h : laws_markByteS.f k l0 a1 = some (r1,r2)) :
  Calls Try.prog 10 #[u9000_,.int .i64 a1] w fun e w' => e = .returned (.int .i64 r1) ∧ Kd.R (Kd.int .u8) 5 w' w0.heap.size (fun k_ => (P0_ k_ ∨ w.heap.size ≤ k_)) u9000_ r2 ∧ Below w0.heap.size w0 w' ∧ Kept w w' (fun k_ => P0_ k_) := by
 have HO0 := am_ (show Kd.R (Kd.int .u8) 5 w w0.heap.size (fun k_ => (P0_ k_ ∨ w.heap.size ≤ k_)) u9000_ l0 from Kd.R_mono ho0 (fun k_ hk => (.inl hk)))
 have HK := am_ (Kept.refl w (fun k_ => P0_ k_))
 have HW0 := am_ hB.size
 have HB := am_ hB
 clear hB
 have H : (laws_markByteS.l0 k l0 a1 0) = some (r1,r2) := h
 clear h
 have H' := am_ H
 clear H
 go_enter Try.func10,Try.ntmps10
 go_wp2
 go_loopg [1,5] k (fun kq v1 v5 w' => ∃ (x0_1 : List Int) (x1_1 : Int) (x5_1 : Int),v1 = .int .i64 x1_1 ∧ v5 = .int .i64 x5_1 ∧ Aside0 (laws_markByteS.l0 kq x0_1 x1_1 x5_1 = some (r1,r2)) ∧ Aside0 (kq ≤ k) ∧ Aside0 (Kd.R (Kd.int .u8) 5 w' w0.heap.size (fun k_ => (P0_ k_ ∨ w.heap.size ≤ k_)) u9000_ x0_1) ∧ Aside0 (Kept w w' (fun k_ => P0_ k_)) ∧ Aside0 (Below w0.heap.size w0 w'))
 case atStart => exact ⟨(l0),(a1),(0),(by first | rfl | (simp;done) | (simp [*];done)),(by first | rfl | (simp;done) | (simp [*];done)),H',⟨Nat.le_refl _⟩,⟨zr HO0⟩,⟨by repeat (first | (with_reducible first | exact HK.out | apply Kept.alloc | apply Kept.drewN | apply Kept.drew) | exact HK.out)⟩,⟨zl_ HB⟩⟩
 case round =>
  clear H'
  try clear c1
  try clear p2
  obtain ⟨x0_1,x1_1,x5_1,rfl,rfl,HA,HK1,HO_0,HK,HB⟩ := hrel
  cases gk with
  | zero => exact absurd HA.out (by simp [laws_markByteS.l0])
  | succ k1 =>
   have H := HA.out
   clear HA
   simp only [laws_markByteS.l0] at H
   by_cases c3 : x5_1 < (x0_1.length : Int)
   ·rw [if_pos c3] at H
    have c3b0 : decide (x5_1 < (x0_1.length : Int)) = true := decide_eq_true c3
    clear c3
    by_cases c4 : 0 ≤ x5_1
    ·rw [if_pos c4] at H
     have c4b0 : decide (0 ≤ x5_1) = true := decide_eq_true c4
     clear c4
     obtain ⟨y383,hy383⟩ : ∃ y_ : List Int,y_ = (x0_1.set (x5_1 : Int).toNat ((x1_1) % 256)) := ⟨_,rfl⟩
     replace H : (laws_markByteS.l0 k1 y383 (wrap64 (x1_1 + 1)) (wrap64 (x5_1 + 1))) = some (r1,r2) := by first | (rw [hy383];with_reducible exact H) | (have H2_ := (Option.bind_some _ _).symm.trans H;rw [hy383];with_reducible exact H2_) | (have H2_ := (Option.bind_some _ _).symm.trans H;with_reducible exact H2_) | with_reducible exact H | (rw [hy383];exact H) | exact H
     have Ny383 := am_ hy383
     clear hy383
     have H' := am_ H
     clear H
     obtain ⟨Ao6,co6,eo6⟩ := Kd.R_slice HO_0.out
     subst eo6
     have p5 : 0 ≤ (x5_1 : Int) := zo_
     have q5 : (x5_1 : Int) < ((x0_1.length : Int) : Int) := zo_
     obtain ⟨go5,co5,eo5,gb5,gl5,cl5,HG5⟩ := Kd.R_form HO_0.out (by omega)
     (first | cases eo5 | (injection eo5 with ea_ en_ ec_;(first | subst ea_ | (injection ea_ with ea_;subst ea_));subst ec_;clear en_))
     have GB5 := am_ gb5
     have GG5 := am_ HG5
     clear gb5 gl5 HG5
     have HMgo5 := am_ (show (P0_ go5 ∨ w.heap.size ≤ go5) from (HO_0.out.1 _ rfl))
     obtain ⟨hx5_0,hf5_0⟩ := Kd.R_celln 0 HO_0.out (x5_1 : Int) p5 q5
     replace p5 := eq_true p5
     replace q5 := eq_true q5
     have HP7 := Kd.R_putg HO_0.out (x5_1 : Int) ((x1_1) % 256)
     go_wp2_with (first | ((with_reducible refine gate_store (t := 5) (p := 16) rfl ?_);refine store_event (t := 5) (p := 16) (v := ?vo_w8) (w1 := (wr.setCell ⟨go5,(x5_1 : Int).toNat,none⟩ (.int .u8 ((x1_1) % 256)))) ?hg ?ho ?hn ?hr ?_;(case ho => rfl);(case hg => rfl);(case hn => rfl);(case hr => first | (go_simp;done) | (go_simp;rfl));intro w8 hw;have hg : wr.grownBy w8 (some go5) := (by rw [hw];exact HP7.2);have hp_ : Kd.R (Kd.int .u8) 5 w8 w0.heap.size (fun k_ => (P0_ k_ ∨ w.heap.size ≤ k_)) (.slice (some ⟨go5,0,none⟩) x0_1.length co6) y383 := (by rw [hw,Ny383.out];exact HP7.1);clear HP7;replace HB := am_ ((by rw [hw];exact below_set (HB.out) GB5.out : Below w0.heap.size w0 w8));replace HK := am_ (Kept.of_grown (S := (fun k_ => P0_ k_)) hg (by repeat (first | (with_reducible first | exact HK.out | apply Kept.alloc | apply Kept.drewN | apply Kept.drew) | exact HK.out)) (fun k_ e_ => (HO_0.out.1 k_ e_)));replace HO_0 := am_ (hp_);clear hg hw hp_))
     go_roundg k1
     case measure => have := HK1.out;omega
     case rel => exact ⟨(y383),(wrap64 (x1_1 + 1)),(wrap64 (x5_1 + 1)),(by first | rfl | (simp;done) | (simp [*];done)),(by first | rfl | (simp;done) | (simp [*];done)),H',⟨by have := HK1.out;omega⟩,⟨zr HO_0⟩,⟨by repeat (first | (with_reducible first | exact HK.out | apply Kept.alloc | apply Kept.drewN | apply Kept.drew) | exact HK.out)⟩,⟨zl_ HB⟩⟩
    ·rw [if_neg c4] at H
     exact absurd H (by simp)
   ·rw [if_neg c3] at H
    have c3b0 : decide (x5_1 < (x0_1.length : Int)) = false := decide_eq_false c3
    clear c3
    simp only [Option.some.injEq,Prod.mk.injEq] at H
    obtain ⟨rfl,rfl⟩ := H
    obtain ⟨Ao9,co9,eo9⟩ := Kd.R_slice HO_0.out
    subst eo9
    go_wp2
    go_ret
    exact ⟨zt_,zr HO_0,zl_ HB,by repeat (first | (with_reducible first | exact HK.out | apply Kept.alloc | apply Kept.drewN | apply Kept.drew) | exact HK.out)⟩
set_option maxHeartbeats 8000000 in
set_option maxRecDepth 100000 in
theorem laws_toByteS.calls (k : Nat) (A0 : Option Addr) (c0 : Nat) (l0 : List Int) (r : List Int) (w : World) (hr0 : Kd.C (Kd.int .u8) w A0 l0.length l0) (hc0 : l0.length ≤ c0) (h : laws_toByteS.f k l0 = some r) :
  Calls Try.prog 6 #[.slice A0 l0.length c0] w fun e w' => ∃ v0_ : Value,e = .returned (v0_) ∧ Kd.R (Kd.int .u8) 5 w' w.heap.size (fun _ => True) v0_ r ∧ Below w.heap.size w w' := by
 have HR0 := am_ hr0
 have HC0 := am_ hc0
 clear hr0 hc0
 have HB := am_ (Below.refl w.heap.size w)
 have H : (if 0 ≤ (l0.length : Int) then (if ((l0.length : Int) : Int).toNat ≤ 281474976710656 then (laws_toByteS.l0 k l0 (List.replicate ((l0.length : Int) : Int).toNat 0) 0) else (none)) else (none)) = some r := h
 clear h
 by_cases c2 : 0 ≤ (l0.length : Int)
 ·rw [if_pos c2] at H
  have c2b0 := eq_true c2
  have c2b1 : decide (0 ≤ (l0.length : Int)) = true := decide_eq_true c2
  clear c2
  by_cases c3 : ((l0.length : Int) : Int).toNat ≤ 281474976710656
  ·rw [if_pos c3] at H
   have c3b0 := eq_true c3
   have c3b1 : decide (((l0.length : Int) : Int).toNat ≤ 281474976710656) = true := decide_eq_true c3
   clear c3
   obtain ⟨y229,hy229⟩ : ∃ y_ : List Int,y_ = (List.replicate ((l0.length : Int) : Int).toNat 0) := ⟨_,rfl⟩
   replace H : (laws_toByteS.l0 k l0 y229 0) = some r := by first | (rw [hy229];with_reducible exact H) | (have H2_ := (Option.bind_some _ _).symm.trans H;rw [hy229];with_reducible exact H2_) | (have H2_ := (Option.bind_some _ _).symm.trans H;with_reducible exact H2_) | with_reducible exact H | (rw [hy229];exact H) | exact H
   have Ny229 := am_ hy229
   clear hy229
   have H' := am_ H
   clear H
   go_enter Try.func6,Try.ntmps6
   go_wp2_with (first | ((with_reducible refine gate_dst (N := 7) rfl ?_);refine Kd.R_make (Kd.int .u8) _ 5 rfl (N := 7) rfl 22 _ _ rfl (l0.length : Int) rfl rfl Try.underlying22 (.int .u8 0) 1 info5 rfl (by decide) (by omega) 0 (ok := fun _ => True) (okp := fun _ => True) rfl (fun _ hk => hk) trivial (zo_) (Nat.le_trans (Nat.mul_le_mul_right _ (zo_ : (l0.length : Int).toNat ≤ 281474976710656)) (by omega)) (Below.refl _ _) (Nat.le_refl _) ?_;intro v230 w4 ho5 hb hg_ hnew_;clear hg_ hnew_;(first | rw [← Ny229.out] at ho5 | (simp only [Int.reduceToNat] at ho5;rw [← Ny229.out] at ho5));have HO231 := am_ (Kd.R_lower ho5 (below_size (zl_ HB)));replace HB := zs_ HB hb;clear hb ho5))
   go_loopg [4] k (fun kq v4 w' => ∃ (x3_1 : List Int) (x4_1 : Int),v4 = .int .i64 x4_1 ∧ Aside0 (laws_toByteS.l0 kq l0 x3_1 x4_1 = some r) ∧ Aside0 (kq ≤ k) ∧ Aside0 (Kd.R (Kd.int .u8) 5 w' w.heap.size (fun _ => True) v230 x3_1) ∧ Aside0 (Below w.heap.size w w'))
   case atStart => exact ⟨(y229),(0),(by first | rfl | (simp;done) | (simp [*];done)),H',⟨Nat.le_refl _⟩,⟨zr HO231⟩,⟨zl_ HB⟩⟩
   case round =>
    clear H'
    try clear c2
    try clear c2b0
    try clear c2b1
    try clear p2
    try clear c3
    try clear c3b0
    try clear c3b1
    obtain ⟨x3_1,x4_1,rfl,HA,HK1,HO_3,HB⟩ := hrel
    cases gk with
    | zero => exact absurd HA.out (by simp [laws_toByteS.l0])
    | succ k1 =>
     have H := HA.out
     clear HA
     simp only [laws_toByteS.l0] at H
     by_cases c6 : x4_1 < (l0.length : Int)
     ·rw [if_pos c6] at H
      have c6b0 : decide (x4_1 < (l0.length : Int)) = true := decide_eq_true c6
      clear c6
      by_cases c7 : 0 ≤ x4_1
      ·rw [if_pos c7] at H
       have c7b0 : decide (0 ≤ x4_1) = true := decide_eq_true c7
       clear c7
       by_cases c8 : x4_1 < (x3_1.length : Int)
       ·rw [if_pos c8] at H
        have c8b0 : decide (x4_1 < (x3_1.length : Int)) = true := decide_eq_true c8
        clear c8
        obtain ⟨y233,hy233⟩ : ∃ y_ : List Int,y_ = (x3_1.set (x4_1 : Int).toNat (rd l0 x4_1)) := ⟨_,rfl⟩
        replace H : (laws_toByteS.l0 k1 l0 y233 (wrap64 (x4_1 + 1))) = some r := by first | (rw [hy233];with_reducible exact H) | (have H2_ := (Option.bind_some _ _).symm.trans H;rw [hy233];with_reducible exact H2_) | (have H2_ := (Option.bind_some _ _).symm.trans H;with_reducible exact H2_) | with_reducible exact H | (rw [hy233];exact H) | exact H
        have Ny233 := am_ hy233
        clear hy233
        have H' := am_ H
        clear H
        have p232 : 0 ≤ (x4_1 : Int) := zo_
        have q232 : x4_1 < (l0.length : Int) := zo_
        obtain ⟨ad232,e232,hx232_0⟩ := Kd.at_int HR0.out x4_1 p232 q232
        cases e232
        replace hx232_0 := zx_ HB hx232_0
        replace p232 := eq_true p232
        replace q232 := eq_true q232
        have p9 : 0 ≤ (x4_1 : Int) := zo_
        have q9 : (x4_1 : Int) < ((x3_1.length : Int) : Int) := zo_
        obtain ⟨go9,co9,eo9,gb9,gl9,cl9,HG9⟩ := Kd.R_form HO_3.out (by omega)
        (first | cases eo9 | (injection eo9 with ea_ en_ ec_;(first | subst ea_ | (injection ea_ with ea_;subst ea_));subst ec_;clear en_))
        have GB9 := am_ gb9
        have GG9 := am_ HG9
        clear gb9 gl9 HG9
        obtain ⟨hx9_0,hf9_0⟩ := Kd.R_celln 0 HO_3.out (x4_1 : Int) p9 q9
        replace p9 := eq_true p9
        replace q9 := eq_true q9
        have HP10 := Kd.R_putg HO_3.out (x4_1 : Int) (rd l0 x4_1)
        go_wp2_with (first | ((with_reducible refine gate_store (t := 5) (p := 20) rfl ?_);refine store_event (t := 5) (p := 20) (v := ?vo_w11) (w1 := (wr.setCell ⟨go9,(x4_1 : Int).toNat,none⟩ (.int .u8 (rd l0 x4_1)))) ?hg ?ho ?hn ?hr ?_;(case ho => rfl);(case hg => rfl);(case hn => rfl);(case hr => first | (go_simp;done) | (go_simp;rfl));intro w11 hw;have hg : wr.grownBy w11 (some go9) := (by rw [hw];exact HP10.2);have hp_ : Kd.R (Kd.int .u8) 5 w11 w.heap.size (fun _ => True) (.slice (some ⟨go9,0,none⟩) x3_1.length co9) y233 := (by rw [hw,Ny233.out];exact HP10.1);clear HP10;replace HO_3 := am_ (hp_);replace HB := am_ ((by rw [hw];exact below_set (HB.out) GB9.out : Below w.heap.size w w11));clear hg hw hp_))
        go_roundg k1
        case measure => have := HK1.out;omega
        case rel => exact ⟨(y233),(wrap64 (x4_1 + 1)),(by first | rfl | (simp;done) | (simp [*];done)),H',⟨by have := HK1.out;omega⟩,⟨zr HO_3⟩,⟨zl_ HB⟩⟩
       ·rw [if_neg c8] at H
        exact absurd H (by simp)
      ·rw [if_neg c7] at H
       exact absurd H (by simp)
     ·rw [if_neg c6] at H
      have c6b0 : decide (x4_1 < (l0.length : Int)) = false := decide_eq_false c6
      clear c6
      obtain rfl := Option.some.inj H
      go_wp2
      go_ret
      exact ⟨_,zt_,zr HO_3,zl_ HB⟩
  ·rw [if_neg c3] at H
   exact absurd H (by simp)
 ·rw [if_neg c2] at H
  exact absurd H (by simp)
set_option maxHeartbeats 8000000 in
set_option maxRecDepth 100000 in
theorem spec_l01In.calls (a0 : Int) (a1 : Int) (a2 : Int) (r : Bool) (w : World) (h : spec_l01In.f a0 a1 a2 = some r) :
  Calls Try.prog 58 #[.int .i64 a0,.int .i64 a1,.int .i64 a2] w fun e w' => e = .returned (.bool r) ∧ Drawn0 w w' := by
 have H : (if a0 ≥ a1 then (some (decide (a0 ≤ a2))) else (some false)) = some r := h
 clear h
 by_cases c4 : a0 ≥ a1
 ·rw [if_pos c4] at H
  have c4b0 : decide (a1 ≤ a0) = true := decide_eq_true c4
  clear c4
  obtain rfl := Option.some.inj H
  go_enter Try.func58,Try.ntmps58
  go_wp2
  go_ret
  exact ⟨by first | rfl | (simp;done) | (simp [*];done),by repeat (first | exact Drawn0.refl _ | apply Drawn0.step)⟩
 ·rw [if_neg c4] at H
  have c4b0 : decide (a1 ≤ a0) = false := decide_eq_false c4
  clear c4
  obtain rfl := Option.some.inj H
  go_enter Try.func58,Try.ntmps58
  go_wp2
  go_ret
  exact ⟨by first | rfl | (simp;done) | (simp [*];done),by repeat (first | exact Drawn0.refl _ | apply Drawn0.step)⟩
set_option maxHeartbeats 8000000 in
set_option maxRecDepth 100000 in
theorem spec_l00Digit.calls (a0 : Int) (r : Bool) (w : World) (h : spec_l00Digit.f a0 = some r) :
  Calls Try.prog 96 #[.int .u8 a0] w fun e w' => e = .returned (.bool r) ∧ Drawn0 w w' := by
 have H : (if a0 ≥ 48 then (some (decide (a0 ≤ 57))) else (some false)) = some r := h
 clear h
 by_cases c2 : a0 ≥ 48
 ·rw [if_pos c2] at H
  have c2b0 : decide (48 ≤ a0) = true := decide_eq_true c2
  clear c2
  obtain rfl := Option.some.inj H
  go_enter Try.func96,Try.ntmps96
  go_wp2
  go_ret
  exact ⟨by first | rfl | (simp;done) | (simp [*];done),by repeat (first | exact Drawn0.refl _ | apply Drawn0.step)⟩
 ·rw [if_neg c2] at H
  have c2b0 : decide (48 ≤ a0) = false := decide_eq_false c2
  clear c2
  obtain rfl := Option.some.inj H
  go_enter Try.func96,Try.ntmps96
  go_wp2
  go_ret
  exact ⟨by first | rfl | (simp;done) | (simp [*];done),by repeat (first | exact Drawn0.refl _ | apply Drawn0.step)⟩
end Go.Proofs.Ytioocldcdonlpaa.B
end
