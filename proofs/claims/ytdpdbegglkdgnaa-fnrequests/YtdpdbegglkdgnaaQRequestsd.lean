/- A part of the proof that FnRequests returns true at every input: plain functions, contracts and lemmas. No conditions. -/
import Derived.Test.YtdpdbegglkdgnaaQRequestsc
set_option linter.unusedVariables false
set_option linter.unusedSimpArgs false
set_option linter.unusedSectionVars false
section
namespace Go.Proofs.Ytdpdbegglkdgnaa.A
open Go.RowKit Go.Proofs.YtdpdbegglkdgnaaW.PrintWords Go.Proofs.YtdpdbegglkdgnaaW.PrintLast Go.Proofs.YtdpdbegglkdgnaaW.PrintMore
attribute [local go_sem] max2_int min2_int max_two min_two max_three min_three max_four min_four
attribute [local go_sem high] eqA33 eqA70
set_option maxHeartbeats 8000000 in
set_option maxRecDepth 100000 in
theorem laws_sameBatch.calls (k : Nat) (a0_0 : Bool) (a0_1 : Int) (a0_2 : Int) (a0_3 : Int) (a0_4 : Int) (a0_5 : ByteArray) (A0_6 : Option Addr) (c0_6 : Nat) (l0_6 : List (S70)) (a1_0 : Bool) (a1_1 : Int) (a1_2 : Int) (a1_3 : Int) (a1_4 : Int) (a1_5 : ByteArray) (A1_6 : Option Addr) (c1_6 : Nat) (l1_6 : List (S70)) (r : Bool) (w : World) (hr0_6 : Kd.C k70 w A0_6 l0_6.length l0_6) (hc0_6 : l0_6.length ≤ c0_6) (hr1_6 : Kd.C k70 w A1_6 l1_6.length l1_6) (hc1_6 : l1_6.length ≤ c1_6) (h : laws_sameBatch.f k a0_0 a0_1 a0_2 a0_3 a0_4 a0_5 l0_6 a1_0 a1_1 a1_2 a1_3 a1_4 a1_5 l1_6 = some r) :
  Calls Try.prog 20 #[.agg #[.bool a0_0,.int .i64 a0_1,.int .i64 a0_2,.int .i64 a0_3,.int .i64 a0_4,.string a0_5,.slice A0_6 l0_6.length c0_6],.agg #[.bool a1_0,.int .i64 a1_1,.int .i64 a1_2,.int .i64 a1_3,.int .i64 a1_4,.string a1_5,.slice A1_6 l1_6.length c1_6]] w fun e w' => e = .returned (.bool r) ∧ Below w.heap.size w w' := by
 have hu41 := Try.underlying41
 have hu33 := Try.underlying33
 have hu70 := Try.underlying70
 have HR0_6 := am_ hr0_6
 have HC0_6 := am_ hc0_6
 clear hr0_6 hc0_6
 have HR1_6 := am_ hr1_6
 have HC1_6 := am_ hc1_6
 clear hr1_6 hc1_6
 have HB := am_ (Below.refl w.heap.size w)
 have H : (if (a0_0 != a1_0) = true then (laws_sameBatch.j0 k true a0_0 a0_1 a0_2 a0_3 a0_4 a0_5 l0_6 a1_0 a1_1 a1_2 a1_3 a1_4 a1_5 l1_6) else (if (!(a0_1 == a1_1) || (!(a0_2 == a1_2) || (!(a0_3 == a1_3) || (!(a0_4 == a1_4) || (!(a0_5.toList == a1_5.toList)))))) = true then (laws_sameBatch.j0 k true a0_0 a0_1 a0_2 a0_3 a0_4 a0_5 l0_6 a1_0 a1_1 a1_2 a1_3 a1_4 a1_5 l1_6) else (laws_sameBatch.j0 k ((l0_6.length : Int) != (l1_6.length : Int)) a0_0 a0_1 a0_2 a0_3 a0_4 a0_5 l0_6 a1_0 a1_1 a1_2 a1_3 a1_4 a1_5 l1_6))) = some r := h
 clear h
 have HC3 := am_ H
 clear H
 go_enter Try.func20,Try.ntmps20
 go_upto_region 1 with (first | ((with_reducible refine gate_dst (N := 2) rfl ?_);(try (refine gate_guard (by rfl) ?_;dsimp only));refine zbx (N := 2) (cs := #[.bool a0_0,.int .i64 a0_1,.int .i64 a0_2,.int .i64 a0_3,.int .i64 a0_4,.string a0_5,.slice A0_6 l0_6.length c0_6]) (t := 41) ?_;intro gb767 hg w4 hbox hb;have BK767 := am_ (hbox);have GW767 := zw_ HB hg;have GE767 := zw_ HB hg;replace HB := zs_ HB hb;clear hb hbox hg) | ((with_reducible refine gate_dst (N := 3) rfl ?_);(try (refine gate_guard (by rfl) ?_;dsimp only));refine zbx (N := 3) (cs := #[.bool a1_0,.int .i64 a1_1,.int .i64 a1_2,.int .i64 a1_3,.int .i64 a1_4,.string a1_5,.slice A1_6 l1_6.length c1_6]) (t := 41) ?_;intro gb768 hg w5 hbox hb;have BK768 := am_ (hbox);have GW768 := zw_ HB hg;have GE768 := zw_ HB hg;replace HB := zs_ HB hb;have NB767_768 := zl hg BK767;have NB768_767 := zg hg BK767;replace BK767 := zb BK767 hb;clear hb hbox hg))
 repeat (go_quiet (first | ((with_reducible refine gate_dst (N := 2) rfl ?_);(try (refine gate_guard (by rfl) ?_;dsimp only));refine zbx (N := 2) (cs := #[.bool a0_0,.int .i64 a0_1,.int .i64 a0_2,.int .i64 a0_3,.int .i64 a0_4,.string a0_5,.slice A0_6 l0_6.length c0_6]) (t := 41) ?_;intro gb767 hg w4 hbox hb;have n0_ := zs_ HB hb;have n1_ := am_ (hbox);have n2_ := zw_ HB hg;have n3_ := zw_ HB hg;clear HB;have HB := n0_;have BK767 := n1_;have GW767 := n2_;have GE767 := n3_;clear n0_ n1_ n2_ n3_;clear hb hbox hg) | ((with_reducible refine gate_dst (N := 3) rfl ?_);(try (refine gate_guard (by rfl) ?_;dsimp only));refine zbx (N := 3) (cs := #[.bool a1_0,.int .i64 a1_1,.int .i64 a1_2,.int .i64 a1_3,.int .i64 a1_4,.string a1_5,.slice A1_6 l1_6.length c1_6]) (t := 41) ?_;intro gb768 hg w5 hbox hb;have n0_ := zb BK767 hb;have n1_ := zs_ HB hb;have n2_ := am_ (hbox);have n3_ := zw_ HB hg;have n4_ := zw_ HB hg;have n5_ := zl hg BK767;have n6_ := zg hg BK767;clear BK767;clear HB;have BK767 := n0_;have HB := n1_;have BK768 := n2_;have GW768 := n3_;have GE768 := n4_;have NB767_768 := n5_;have NB768_767 := n6_;clear n0_ n1_ n2_ n3_ n4_ n5_ n6_;clear hb hbox hg));go_upto_region 1 with (first | ((with_reducible refine gate_dst (N := 2) rfl ?_);(try (refine gate_guard (by rfl) ?_;dsimp only));refine zbx (N := 2) (cs := #[.bool a0_0,.int .i64 a0_1,.int .i64 a0_2,.int .i64 a0_3,.int .i64 a0_4,.string a0_5,.slice A0_6 l0_6.length c0_6]) (t := 41) ?_;intro gb767 hg w4 hbox hb;have n0_ := zs_ HB hb;have n1_ := am_ (hbox);have n2_ := zw_ HB hg;have n3_ := zw_ HB hg;clear HB;have HB := n0_;have BK767 := n1_;have GW767 := n2_;have GE767 := n3_;clear n0_ n1_ n2_ n3_;clear hb hbox hg) | ((with_reducible refine gate_dst (N := 3) rfl ?_);(try (refine gate_guard (by rfl) ?_;dsimp only));refine zbx (N := 3) (cs := #[.bool a1_0,.int .i64 a1_1,.int .i64 a1_2,.int .i64 a1_3,.int .i64 a1_4,.string a1_5,.slice A1_6 l1_6.length c1_6]) (t := 41) ?_;intro gb768 hg w5 hbox hb;have n0_ := zb BK767 hb;have n1_ := zs_ HB hb;have n2_ := am_ (hbox);have n3_ := zw_ HB hg;have n4_ := zw_ HB hg;have n5_ := zl hg BK767;have n6_ := zg hg BK767;clear BK767;clear HB;have BK767 := n0_;have HB := n1_;have BK768 := n2_;have GW768 := n3_;have GE768 := n4_;have NB767_768 := n5_;have NB768_767 := n6_;clear n0_ n1_ n2_ n3_ n4_ n5_ n6_;clear hb hbox hg)))
 (try simp only [Act.put,p1_,p2_,p3_])
 go_cut [26] (fun v26 wc => ∃ (kq : Nat) (x26_2 : Bool),v26 = .bool x26_2 ∧ Aside0 (laws_sameBatch.j0 kq x26_2 a0_0 a0_1 a0_2 a0_3 a0_4 a0_5 l0_6 a1_0 a1_1 a1_2 a1_3 a1_4 a1_5 l1_6 = some r) ∧ Aside0 (kq ≤ k) ∧ Aside0 (wc.heap[gb767]? = some (.cells #[.bool a0_0,.int .i64 a0_1,.int .i64 a0_2,.int .i64 a0_3,.int .i64 a0_4,.string a0_5,(.slice A0_6 l0_6.length c0_6)] 41 (0,0))) ∧ Aside0 (wc.heap[gb768]? = some (.cells #[.bool a1_0,.int .i64 a1_1,.int .i64 a1_2,.int .i64 a1_3,.int .i64 a1_4,.string a1_5,(.slice A1_6 l1_6.length c1_6)] 41 (0,0))) ∧ Aside0 (Below w.heap.size w wc))
 case first =>
  have H := HC3.out
  clear HC3
  by_cases c6 : (a0_0 != a1_0) = true
  ·rw [if_pos c6] at H
   have c6b0 : (a0_0 != a1_0) = true := c6
   (try (have c6b1 : decide (a0_0 = a1_0) = false := by simpa using c6))
   (try (have c6b2 : (a0_0 == a1_0) = false := by simpa using c6))
   (try (have c6b3 : ¬ (a0_0 = a1_0) := by simpa using c6))
   clear c6
   (first | rw [c6b0] | (simp only [i64_w,i32_w];rw [c6b0]) | skip)
   have H' := am_ H
   clear H
   have hnb7 := NB767_768.out
   have hnc7 := NB768_767.out
   obtain ⟨hcz8_0,hcz8_1,hcz8_2,hcz8_3,hcz8_4,hcz8_5,hcz8_6,hfz8_0,hfz8_1,hfz8_2,hfz8_3,hfz8_4,hfz8_5,hfz8_6⟩ := zc7 BK767
   obtain ⟨hcz9_0,hcz9_1,hcz9_2,hcz9_3,hcz9_4,hcz9_5,hcz9_6,hfz9_0,hfz9_1,hfz9_2,hfz9_3,hfz9_4,hfz9_5,hfz9_6⟩ := zc7 BK768
   go_wp2
   repeat (go_quiet (fail);try go_wp2)
   go_meet
   case rel => exact ⟨_,(true),(by first | rfl | (simp;done) | (simp [*];done)),H',⟨by first | omega | exact Nat.le_refl _⟩,⟨by (with_reducible repeat (first | apply k1_ | apply k2_ | apply k3_));exact BK767.out⟩,⟨by (with_reducible repeat (first | apply k1_ | apply k2_ | apply k3_));exact BK768.out⟩,⟨zl_ HB⟩⟩
  ·rw [if_neg c6] at H
   have c6b0 : (a0_0 != a1_0) = false := by simpa using c6
   (try (have c6b1 : decide (a0_0 = a1_0) = true := by simpa using c6))
   (try (have c6b2 : (a0_0 == a1_0) = true := by simpa using c6))
   clear c6
   (first | rw [c6b0] | (simp only [i64_w,i32_w];rw [c6b0]) | skip)
   by_cases c10 : (!(a0_1 == a1_1) || (!(a0_2 == a1_2) || (!(a0_3 == a1_3) || (!(a0_4 == a1_4) || (!(a0_5.toList == a1_5.toList)))))) = true
   ·rw [if_pos c10] at H
    have c10k := am_ c10
    have c10b0 : (!(a0_1 == a1_1) || (!(a0_2 == a1_2) || (!(a0_3 == a1_3) || (!(a0_4 == a1_4) || (!(a0_5.toList == a1_5.toList)))))) = true := c10k.out
    (try simp only [*,Bool.not_true,Bool.not_false,Bool.false_or,Bool.true_or,Bool.or_false,Bool.or_true,Bool.true_and,Bool.and_true,Bool.false_and,Bool.and_false] at c10)
    have c10bs := c10
    clear c10k
    clear c10
    have H' := am_ H
    clear H
    have hnb11 := NB767_768.out
    have hnc11 := NB768_767.out
    obtain ⟨hcz12_0,hcz12_1,hcz12_2,hcz12_3,hcz12_4,hcz12_5,hcz12_6,hfz12_0,hfz12_1,hfz12_2,hfz12_3,hfz12_4,hfz12_5,hfz12_6⟩ := zc7 BK767
    obtain ⟨hcz13_0,hcz13_1,hcz13_2,hcz13_3,hcz13_4,hcz13_5,hcz13_6,hfz13_0,hfz13_1,hfz13_2,hfz13_3,hfz13_4,hfz13_5,hfz13_6⟩ := zc7 BK768
    go_wp2
    repeat (go_quiet (fail);try go_wp2)
    go_meet
    case rel => exact ⟨_,(true),(by first | rfl | (simp;done) | (simp [*];done)),H',⟨by first | omega | exact Nat.le_refl _⟩,⟨by (with_reducible repeat (first | apply k1_ | apply k2_ | apply k3_));exact BK767.out⟩,⟨by (with_reducible repeat (first | apply k1_ | apply k2_ | apply k3_));exact BK768.out⟩,⟨zl_ HB⟩⟩
   ·rw [if_neg c10] at H
    have c10k := am_ c10
    have c10b0 : (!(a0_1 == a1_1) || (!(a0_2 == a1_2) || (!(a0_3 == a1_3) || (!(a0_4 == a1_4) || (!(a0_5.toList == a1_5.toList)))))) = false := by simpa using c10k.out
    (try simp only [*,Bool.not_true,Bool.not_false,Bool.false_or,Bool.true_or,Bool.or_false,Bool.or_true,Bool.true_and,Bool.and_true,Bool.false_and,Bool.and_false] at c10)
    have c10bs := c10
    clear c10k
    clear c10
    have H' := am_ H
    clear H
    have hnb14 := NB767_768.out
    have hnc14 := NB768_767.out
    obtain ⟨hcz15_0,hcz15_1,hcz15_2,hcz15_3,hcz15_4,hcz15_5,hcz15_6,hfz15_0,hfz15_1,hfz15_2,hfz15_3,hfz15_4,hfz15_5,hfz15_6⟩ := zc7 BK767
    obtain ⟨hcz16_0,hcz16_1,hcz16_2,hcz16_3,hcz16_4,hcz16_5,hcz16_6,hfz16_0,hfz16_1,hfz16_2,hfz16_3,hfz16_4,hfz16_5,hfz16_6⟩ := zc7 BK768
    go_wp2
    repeat (go_quiet (fail);try go_wp2)
    go_meet
    case rel => exact ⟨_,(((l0_6.length : Int) != (l1_6.length : Int))),(by first | rfl | (simp;done) | (simp [*];done)),H',⟨by first | omega | exact Nat.le_refl _⟩,⟨by (with_reducible repeat (first | apply k1_ | apply k2_ | apply k3_));exact BK767.out⟩,⟨by (with_reducible repeat (first | apply k1_ | apply k2_ | apply k3_));exact BK768.out⟩,⟨zl_ HB⟩⟩
 case rest =>
  clear HC3
  try clear c1
  try clear c2
  try clear p2
  try clear c6
  try clear c6b0
  try clear c6b1
  try clear c6b2
  try clear c7
  try clear c10
  try clear c10b0
  try clear c11
  try clear c14
  try clear hcz12_0
  try clear hcz12_1
  try clear hcz12_2
  try clear hcz12_3
  try clear hcz12_4
  try clear hcz12_5
  try clear hcz12_6
  try clear hcz13_0
  try clear hcz13_1
  try clear hcz13_2
  try clear hcz13_3
  try clear hcz13_4
  try clear hcz13_5
  try clear hcz13_6
  try clear hcz15_0
  try clear hcz15_1
  try clear hcz15_2
  try clear hcz15_3
  try clear hcz15_4
  try clear hcz15_5
  try clear hcz15_6
  try clear hcz16_0
  try clear hcz16_1
  try clear hcz16_2
  try clear hcz16_3
  try clear hcz16_4
  try clear hcz16_5
  try clear hcz16_6
  try clear hcz8_0
  try clear hcz8_1
  try clear hcz8_2
  try clear hcz8_3
  try clear hcz8_4
  try clear hcz8_5
  try clear hcz8_6
  try clear hcz9_0
  try clear hcz9_1
  try clear hcz9_2
  try clear hcz9_3
  try clear hcz9_4
  try clear hcz9_5
  try clear hcz9_6
  try clear hfz12_0
  try clear hfz12_1
  try clear hfz12_2
  try clear hfz12_3
  try clear hfz12_4
  try clear hfz12_5
  try clear hfz12_6
  try clear hfz13_0
  try clear hfz13_1
  try clear hfz13_2
  try clear hfz13_3
  try clear hfz13_4
  try clear hfz13_5
  try clear hfz13_6
  try clear hfz15_0
  try clear hfz15_1
  try clear hfz15_2
  try clear hfz15_3
  try clear hfz15_4
  try clear hfz15_5
  try clear hfz15_6
  try clear hfz16_0
  try clear hfz16_1
  try clear hfz16_2
  try clear hfz16_3
  try clear hfz16_4
  try clear hfz16_5
  try clear hfz16_6
  try clear hfz8_0
  try clear hfz8_1
  try clear hfz8_2
  try clear hfz8_3
  try clear hfz8_4
  try clear hfz8_5
  try clear hfz8_6
  try clear hfz9_0
  try clear hfz9_1
  try clear hfz9_2
  try clear hfz9_3
  try clear hfz9_4
  try clear hfz9_5
  try clear hfz9_6
  obtain ⟨kq,x26_2,rfl,HA,HJ2,BK767,BK768,HB⟩ := hcut
  cases kq with
  | zero => exact absurd HA.out (by simp [laws_sameBatch.j0])
  | succ kj2 =>
   have H := HA.out
   clear HA
   simp only [laws_sameBatch.j0] at H
   by_cases c17 : x26_2 = true
   ·subst c17
    have H1 : (some false) = some r := by rw [if_pos rfl] at H;exact H
    clear H
    have H := H1
    clear H1
    obtain rfl := Option.some.inj H
    go_wp2
    repeat (go_quiet (fail);try go_wp2)
    go_ret
    exact ⟨zt_,zl_ HB⟩
   ·replace c17 := Bool.eq_false_iff.mpr c17
    subst c17
    have H1 : (laws_sameBatch.l0 kj2 0 a0_0 a0_1 a0_2 a0_3 a0_4 a0_5 l0_6 a1_0 a1_1 a1_2 a1_3 a1_4 a1_5 l1_6) = some r := by rw [if_neg (show ¬ (false = true) by decide)] at H;exact H
    clear H
    have H := H1
    clear H1
    have H' := am_ H
    clear H
    go_wp2
    repeat (go_quiet (fail);try go_wp2)
    go_loopg [5] kj2 (fun kq v5 w' => ∃ (x5_2 : Int),v5 = .int .i64 x5_2 ∧ Aside0 (laws_sameBatch.l0 kq x5_2 a0_0 a0_1 a0_2 a0_3 a0_4 a0_5 l0_6 a1_0 a1_1 a1_2 a1_3 a1_4 a1_5 l1_6 = some r) ∧ Aside0 (kq ≤ kj2) ∧ Aside0 (w'.heap[gb767]? = some (.cells #[.bool a0_0,.int .i64 a0_1,.int .i64 a0_2,.int .i64 a0_3,.int .i64 a0_4,.string a0_5,(.slice A0_6 l0_6.length c0_6)] 41 (0,0))) ∧ Aside0 (w'.heap[gb768]? = some (.cells #[.bool a1_0,.int .i64 a1_1,.int .i64 a1_2,.int .i64 a1_3,.int .i64 a1_4,.string a1_5,(.slice A1_6 l1_6.length c1_6)] 41 (0,0))) ∧ Aside0 (Below w.heap.size w w'))
    case atStart => exact ⟨(0),(by first | rfl | (simp;done) | (simp [*];done)),H',⟨Nat.le_refl _⟩,⟨by (with_reducible repeat (first | apply k1_ | apply k2_ | apply k3_));exact BK767.out⟩,⟨by (with_reducible repeat (first | apply k1_ | apply k2_ | apply k3_));exact BK768.out⟩,⟨zl_ HB⟩⟩
    case round =>
     clear H'
     try clear c1
     try clear c2
     try clear p2
     try clear c6
     try clear c6b0
     try clear c6b1
     try clear c6b2
     try clear c7
     try clear c10
     try clear c10b0
     try clear c11
     try clear c14
     try clear c17
     try clear hcz12_0
     try clear hcz12_1
     try clear hcz12_2
     try clear hcz12_3
     try clear hcz12_4
     try clear hcz12_5
     try clear hcz12_6
     try clear hcz13_0
     try clear hcz13_1
     try clear hcz13_2
     try clear hcz13_3
     try clear hcz13_4
     try clear hcz13_5
     try clear hcz13_6
     try clear hcz15_0
     try clear hcz15_1
     try clear hcz15_2
     try clear hcz15_3
     try clear hcz15_4
     try clear hcz15_5
     try clear hcz15_6
     try clear hcz16_0
     try clear hcz16_1
     try clear hcz16_2
     try clear hcz16_3
     try clear hcz16_4
     try clear hcz16_5
     try clear hcz16_6
     try clear hcz8_0
     try clear hcz8_1
     try clear hcz8_2
     try clear hcz8_3
     try clear hcz8_4
     try clear hcz8_5
     try clear hcz8_6
     try clear hcz9_0
     try clear hcz9_1
     try clear hcz9_2
     try clear hcz9_3
     try clear hcz9_4
     try clear hcz9_5
     try clear hcz9_6
     try clear hfz12_0
     try clear hfz12_1
     try clear hfz12_2
     try clear hfz12_3
     try clear hfz12_4
     try clear hfz12_5
     try clear hfz12_6
     try clear hfz13_0
     try clear hfz13_1
     try clear hfz13_2
     try clear hfz13_3
     try clear hfz13_4
     try clear hfz13_5
     try clear hfz13_6
     try clear hfz15_0
     try clear hfz15_1
     try clear hfz15_2
     try clear hfz15_3
     try clear hfz15_4
     try clear hfz15_5
     try clear hfz15_6
     try clear hfz16_0
     try clear hfz16_1
     try clear hfz16_2
     try clear hfz16_3
     try clear hfz16_4
     try clear hfz16_5
     try clear hfz16_6
     try clear hfz8_0
     try clear hfz8_1
     try clear hfz8_2
     try clear hfz8_3
     try clear hfz8_4
     try clear hfz8_5
     try clear hfz8_6
     try clear hfz9_0
     try clear hfz9_1
     try clear hfz9_2
     try clear hfz9_3
     try clear hfz9_4
     try clear hfz9_5
     try clear hfz9_6
     try clear p2
     obtain ⟨x5_2,rfl,HA,HK2,BK767,BK768,HB⟩ := hrel
     cases gk with
     | zero => exact absurd HA.out (by simp [laws_sameBatch.l0])
     | succ k2 =>
      have H := HA.out
      clear HA
      simp only [laws_sameBatch.l0] at H
      by_cases c18 : x5_2 < (l0_6.length : Int)
      ·rw [if_pos c18] at H
       have c18b0 : decide (x5_2 < (l0_6.length : Int)) = true := decide_eq_true c18
       clear c18
       by_cases c19 : 0 ≤ x5_2
       ·rw [if_pos c19] at H
        have c19b0 : decide (0 ≤ x5_2) = true := decide_eq_true c19
        clear c19
        by_cases c20 : x5_2 < (l1_6.length : Int)
        ·rw [if_pos c20] at H
         have c20b0 : decide (x5_2 < (l1_6.length : Int)) = true := decide_eq_true c20
         clear c20
         by_cases c21 : (!(((rd_T70 l0_6 x5_2).f0) == ((rd_T70 l1_6 x5_2).f0)) || (!(((rd_T70 l0_6 x5_2).f1) == ((rd_T70 l1_6 x5_2).f1)) || (!((((rd_T70 l0_6 x5_2).f2).toList) == (((rd_T70 l1_6 x5_2).f2).toList))))) = true
         ·rw [if_pos c21] at H
          have c21k := am_ c21
          have c21b0 : (!(((rd_T70 l0_6 x5_2).f0) == ((rd_T70 l1_6 x5_2).f0)) || (!(((rd_T70 l0_6 x5_2).f1) == ((rd_T70 l1_6 x5_2).f1)) || (!((((rd_T70 l0_6 x5_2).f2).toList) == (((rd_T70 l1_6 x5_2).f2).toList))))) = true := c21k.out
          (try simp only [*,Bool.not_true,Bool.not_false,Bool.false_or,Bool.true_or,Bool.or_false,Bool.or_true,Bool.true_and,Bool.and_true,Bool.false_and,Bool.and_false] at c21)
          have c21bs := c21
          clear c21k
          clear c21
          obtain rfl := Option.some.inj H
          have hnb22 := NB767_768.out
          have hnc22 := NB768_767.out
          obtain ⟨hcz23_0,hcz23_1,hcz23_2,hcz23_3,hcz23_4,hcz23_5,hcz23_6,hfz23_0,hfz23_1,hfz23_2,hfz23_3,hfz23_4,hfz23_5,hfz23_6⟩ := zc7 BK767
          have p769 : 0 ≤ (x5_2 : Int) := o1_ (by first | (with_reducible assumption) | assumption)
          have q769 : x5_2 < (l0_6.length : Int) := o1_ (by first | (with_reducible assumption) | assumption)
          obtain ⟨ad769,e769,hx769_0,hx769_1,hx769_2⟩ := at_T70 HR0_6.out x5_2 p769 q769
          cases e769
          replace hx769_0 := (HB.out.cell (World.block_lt_of_cell? w _ hx769_0)).trans hx769_0
          replace hx769_1 := (HB.out.cell (World.block_lt_of_cell? w _ hx769_1)).trans hx769_1
          replace hx769_2 := (HB.out.cell (World.block_lt_of_cell? w _ hx769_2)).trans hx769_2
          replace p769 := eq_true p769
          replace q769 := eq_true q769
          obtain ⟨hcz24_0,hcz24_1,hcz24_2,hcz24_3,hcz24_4,hcz24_5,hcz24_6,hfz24_0,hfz24_1,hfz24_2,hfz24_3,hfz24_4,hfz24_5,hfz24_6⟩ := zc7 BK768
          have p770 : 0 ≤ (x5_2 : Int) := o1_ (by first | (with_reducible assumption) | assumption)
          have q770 : x5_2 < (l1_6.length : Int) := o1_ (by first | (with_reducible assumption) | assumption)
          obtain ⟨ad770,e770,hx770_0,hx770_1,hx770_2⟩ := at_T70 HR1_6.out x5_2 p770 q770
          cases e770
          replace hx770_0 := (HB.out.cell (World.block_lt_of_cell? w _ hx770_0)).trans hx770_0
          replace hx770_1 := (HB.out.cell (World.block_lt_of_cell? w _ hx770_1)).trans hx770_1
          replace hx770_2 := (HB.out.cell (World.block_lt_of_cell? w _ hx770_2)).trans hx770_2
          replace p770 := eq_true p770
          replace q770 := eq_true q770
          go_wp2
          repeat (go_quiet (fail);try go_wp2)
          go_ret
          exact ⟨zt_,zl_ HB⟩
         ·rw [if_neg c21] at H
          have c21k := am_ c21
          have c21b0 : (!(((rd_T70 l0_6 x5_2).f0) == ((rd_T70 l1_6 x5_2).f0)) || (!(((rd_T70 l0_6 x5_2).f1) == ((rd_T70 l1_6 x5_2).f1)) || (!((((rd_T70 l0_6 x5_2).f2).toList) == (((rd_T70 l1_6 x5_2).f2).toList))))) = false := by simpa using c21k.out
          (try simp only [*,Bool.not_true,Bool.not_false,Bool.false_or,Bool.true_or,Bool.or_false,Bool.or_true,Bool.true_and,Bool.and_true,Bool.false_and,Bool.and_false] at c21)
          have c21bs := c21
          clear c21k
          clear c21
          have H' := am_ H
          clear H
          have hnb25 := NB767_768.out
          have hnc25 := NB768_767.out
          obtain ⟨hcz26_0,hcz26_1,hcz26_2,hcz26_3,hcz26_4,hcz26_5,hcz26_6,hfz26_0,hfz26_1,hfz26_2,hfz26_3,hfz26_4,hfz26_5,hfz26_6⟩ := zc7 BK767
          have p769 : 0 ≤ (x5_2 : Int) := o1_ (by first | (with_reducible assumption) | assumption)
          have q769 : x5_2 < (l0_6.length : Int) := o1_ (by first | (with_reducible assumption) | assumption)
          obtain ⟨ad769,e769,hx769_0,hx769_1,hx769_2⟩ := at_T70 HR0_6.out x5_2 p769 q769
          cases e769
          replace hx769_0 := (HB.out.cell (World.block_lt_of_cell? w _ hx769_0)).trans hx769_0
          replace hx769_1 := (HB.out.cell (World.block_lt_of_cell? w _ hx769_1)).trans hx769_1
          replace hx769_2 := (HB.out.cell (World.block_lt_of_cell? w _ hx769_2)).trans hx769_2
          replace p769 := eq_true p769
          replace q769 := eq_true q769
          obtain ⟨hcz27_0,hcz27_1,hcz27_2,hcz27_3,hcz27_4,hcz27_5,hcz27_6,hfz27_0,hfz27_1,hfz27_2,hfz27_3,hfz27_4,hfz27_5,hfz27_6⟩ := zc7 BK768
          have p770 : 0 ≤ (x5_2 : Int) := o1_ (by first | (with_reducible assumption) | assumption)
          have q770 : x5_2 < (l1_6.length : Int) := o1_ (by first | (with_reducible assumption) | assumption)
          obtain ⟨ad770,e770,hx770_0,hx770_1,hx770_2⟩ := at_T70 HR1_6.out x5_2 p770 q770
          cases e770
          replace hx770_0 := (HB.out.cell (World.block_lt_of_cell? w _ hx770_0)).trans hx770_0
          replace hx770_1 := (HB.out.cell (World.block_lt_of_cell? w _ hx770_1)).trans hx770_1
          replace hx770_2 := (HB.out.cell (World.block_lt_of_cell? w _ hx770_2)).trans hx770_2
          replace p770 := eq_true p770
          replace q770 := eq_true q770
          go_wp2
          repeat (go_quiet (fail);try go_wp2)
          go_roundg k2
          case measure => have := HJ2.out;have := HK2.out;omega
          case rel => exact ⟨(wrap64 (x5_2 + 1)),(by first | rfl | (simp;done) | (simp [*];done)),H',⟨by have := HJ2.out;have := HK2.out;omega⟩,⟨by (with_reducible repeat (first | apply k1_ | apply k2_ | apply k3_));exact BK767.out⟩,⟨by (with_reducible repeat (first | apply k1_ | apply k2_ | apply k3_));exact BK768.out⟩,⟨zl_ HB⟩⟩
        ·rw [if_neg c20] at H
         exact absurd H (by simp)
       ·rw [if_neg c19] at H
        exact absurd H (by simp)
      ·rw [if_neg c18] at H
       have c18b0 : decide (x5_2 < (l0_6.length : Int)) = false := decide_eq_false c18
       clear c18
       obtain rfl := Option.some.inj H
       have hnb28 := NB767_768.out
       have hnc28 := NB768_767.out
       obtain ⟨hcz29_0,hcz29_1,hcz29_2,hcz29_3,hcz29_4,hcz29_5,hcz29_6,hfz29_0,hfz29_1,hfz29_2,hfz29_3,hfz29_4,hfz29_5,hfz29_6⟩ := zc7 BK767
       go_wp2
       repeat (go_quiet (fail);try go_wp2)
       go_ret
       exact ⟨zt_,zl_ HB⟩
end Go.Proofs.Ytdpdbegglkdgnaa.A
end

section
namespace Go.Proofs.Ytdpdbegglkdgnaa.A
open Go.RowKit Go.Proofs.YtdpdbegglkdgnaaW.PrintWords Go.Proofs.YtdpdbegglkdgnaaW.PrintLast Go.Proofs.YtdpdbegglkdgnaaW.PrintMore
attribute [local go_sem] max2_int min2_int max_two min_two max_three min_three max_four min_four
set_option maxHeartbeats 8000000 in
set_option maxRecDepth 100000 in
theorem spec_l02Number.calls (k : Nat) (a0 : Int) (a1 : Int) (r : List Int) (w : World) (h : spec_l02Number.f k a0 a1 = some r) :
  Calls Try.prog 58 #[.int .i64 a0,.int .i64 a1] w fun e w' => ∃ v0_ : Value,e = .returned (v0_) ∧ Kd.R (Kd.int .u8) 5 w' w.heap.size (fun _ => True) v0_ r ∧ Below w.heap.size w w' := by
 have HB := am_ (Below.refl w.heap.size w)
 have H : (spec_l02Number.l0 k a0 (([] : List Int)) (wrap64 (a1 - 1))) = some r := h
 clear h
 obtain ⟨y272,hy272⟩ : ∃ y_ : List Int,y_ = (([] : List Int)) := ⟨_,rfl⟩
 replace H : (spec_l02Number.l0 k a0 y272 (wrap64 (a1 - 1))) = some r := by first | (rw [hy272];with_reducible exact H) | (have H2_ := (Option.bind_some _ _).symm.trans H;rw [hy272];with_reducible exact H2_) | (have H2_ := (Option.bind_some _ _).symm.trans H;with_reducible exact H2_) | with_reducible exact H | (rw [hy272];exact H) | exact H
 have Ny272 := am_ hy272
 clear hy272
 have H' := am_ H
 clear H
 go_enter Try.func58,Try.ntmps58
 go_wp2_with (first | ((with_reducible refine gate_dst (N := 7) rfl ?_);refine Kd.R_lit (Kd.int .u8) _ 5 ?hg (N := 7) ?hd (xs := ([] : List Int)) (inner := []) (ok := fun _ => True) (okp := fun _ => True) ?hr ?hp (fun _ hk => hk) trivial (Below.refl _ _) (Nat.le_refl _) (by simp) ?_;(case hd => rfl);(case hg => rfl);(case hr => first | (go_simp;done) | (go_simp;rfl));(case hp => exact (Reps.none _ _));intro v273 w3 ho4 hb hg_ hnew_;clear hg_ hnew_;(first | rw [← Ny272.out] at ho4 | (simp only [Int.reduceToNat] at ho4;rw [← Ny272.out] at ho4));have HO274 := am_ (Kd.R_lower ho4 (below_size (zl_ HB)));replace HB := zs_ HB hb;clear hb ho4))
 go_loopg [5,6] k (fun kq v5 v6 w' => ∃ (x5_1 : List Int) (x6_1 : Int),v6 = .int .i64 x6_1 ∧ Aside0 (spec_l02Number.l0 kq a0 x5_1 x6_1 = some r) ∧ Aside0 (kq ≤ k) ∧ Aside0 (Kd.R (Kd.int .u8) 5 w' w.heap.size (fun _ => True) v5 x5_1) ∧ Aside0 (Below w.heap.size w w'))
 case atStart => exact ⟨(y272),(wrap64 (a1 - 1)),(by first | rfl | (simp;done) | (simp [*];done)),H',⟨Nat.le_refl _⟩,⟨by (with_reducible repeat (first | apply r1_ | apply r2_ | apply r3_));exact HO274.out⟩,⟨zl_ HB⟩⟩
 case round =>
  clear H'
  try clear p2
  obtain ⟨x5_1,x6_1,rfl,HA,HK1,HO_5,HB⟩ := hrel
  cases gk with
  | zero => exact absurd HA.out (by simp [spec_l02Number.l0])
  | succ k1 =>
   have H := HA.out
   clear HA
   simp only [spec_l02Number.l0] at H
   by_cases c5 : x6_1 ≥ 0
   ·rw [if_pos c5] at H
    have c5b0 : decide (0 ≤ x6_1) = true := decide_eq_true c5
    clear c5
    obtain ⟨ji6,hji6⟩ : ∃ j_ : Int,(IntKind.u64.wrap (wrap64 (8 * x6_1))) = j_ := ⟨_,rfl⟩
    replace H : (if 0 ≤ (ji6) then (if x5_1.length < 140737488355328 then (spec_l02Number.l0 k1 a0 (x5_1 ++ [(shr .i64 a0 (ji6)) % 256]) (wrap64 (x6_1 - 1))) else (none)) else (none)) = some r := by first | (rw [hji6] at H;exact H) | (simp only [hji6] at H ⊢;exact H)
    by_cases c7 : 0 ≤ (ji6)
    ·rw [if_pos c7] at H
     have c7b0 := eq_true c7
     have c7b1 : decide (0 ≤ (ji6)) = true := decide_eq_true c7
     clear c7
     obtain ⟨ji8,hji8⟩ : ∃ j_ : Int,(shr .i64 a0 (ji6)) = j_ := ⟨_,rfl⟩
     replace H : (if x5_1.length < 140737488355328 then (spec_l02Number.l0 k1 a0 (x5_1 ++ [(ji8) % 256]) (wrap64 (x6_1 - 1))) else (none)) = some r := by first | (rw [hji8] at H;exact H) | (simp only [hji8] at H ⊢;exact H)
     have hji8_ : (a0 / 2 ^ min (ji6).toNat 64) = ji8 := hji8
     have hji8z : (ji6) ≤ 64 → (a0 / 2 ^ (ji6).toNat) = ji8 := shr_small hji8
     by_cases c9 : x5_1.length < 140737488355328
     ·rw [if_pos c9] at H
      have LMc9 := am_ c9
      clear c9
      obtain ⟨y275,hy275⟩ : ∃ y_ : List Int,y_ = (x5_1 ++ [(ji8) % 256]) := ⟨_,rfl⟩
      replace H : (spec_l02Number.l0 k1 a0 y275 (wrap64 (x6_1 - 1))) = some r := by first | (rw [hy275];with_reducible exact H) | (have H2_ := (Option.bind_some _ _).symm.trans H;rw [hy275];with_reducible exact H2_) | (have H2_ := (Option.bind_some _ _).symm.trans H;with_reducible exact H2_) | with_reducible exact H | (rw [hy275];exact H) | exact H
      have Ny275 := am_ hy275
      clear hy275
      have H' := am_ H
      clear H
      go_wp2_with (first | ((with_reducible refine gate_builtin (b := .append) (xs := #[.tmp 14,.tmp 21]) rfl ?_);at_builtin;refine Kd.R_append (Kd.int .u8) (w0 := w) w.heap.size rfl (.tmp 14) (.tmp 21) 22 5 (.int .u8 0) 1 rfl Try.underlying22 info5 rfl (by decide) (by omega) u5 x5_1 ((ji8) % 256) [.int .u8 ((ji8) % 256)] (fun _ => True) (fun _ => False) rfl rfl ?aP (fun _ hk => hk.elim) ?aF ?aO ?aB ?aS ?aL ?_;(case aP => exact rfl);(case aB => exact (zl_ HB));(case aF => exact (fun _ _ => trivial));(case aO => exact (zr HO_5));(case aS => exact (below_size (zl_ HB)));(case aL => have := LMc9.out;omega);intro v276 w10 ho hb hg hat;rw [← Ny275.out] at ho;replace HB := am_ (hb);have HO277 := am_ (ho);clear HO_5;clear ho hb hg hat))
      go_roundg k1
      case measure => have := HK1.out;omega
      case rel => exact ⟨(y275),(wrap64 (x6_1 - 1)),(by first | rfl | (simp;done) | (simp [*];done)),H',⟨by have := HK1.out;omega⟩,⟨by (with_reducible repeat (first | apply r1_ | apply r2_ | apply r3_));exact HO277.out⟩,⟨zl_ HB⟩⟩
     ·rw [if_neg c9] at H
      exact absurd H (by simp)
    ·rw [if_neg c7] at H
     exact absurd H (by simp)
   ·rw [if_neg c5] at H
    have c5b0 : decide (0 ≤ x6_1) = false := decide_eq_false c5
    clear c5
    obtain rfl := Option.some.inj H
    go_wp2
    go_ret
    exact ⟨_,zt_,by (with_reducible repeat (first | apply r1_ | apply r2_ | apply r3_));exact HO_5.out,zl_ HB⟩
def spec_l02Request.T1 : Bool × List (List Nat × List Nat) := (true,[([],[]),([0],[0]),([1],[1]),([2],[2]),([],[]),([4],[4]),([5],[5]),([3,6,6],[3,6]),([7,7,0,1,2,3,4,5,6,7],[7])])
def spec_l02Request.B1 : List Nat := [0,1,3,7,0,16,48,127,255]
theorem spec_l02Request.tab1 : rtab .any (opsOf Try.f34 1) = spec_l02Request.T1 := by kernel_rfl
theorem spec_l02Request.bits1 : waitsOk spec_l02Request.T1.2 spec_l02Request.B1 = true := by kernel_rfl
def spec_l02Request.T2 : Bool × List (List Nat × List Nat) := (true,[([],[]),([],[]),([1],[1]),([2],[2]),([3],[3]),([0,4],[0,4]),([],[]),([6],[6]),([7,5],[7]),([5,8,8],[5,8]),([9,9,0,1,2,3,4,5,6,7,8,9],[0,9])])
def spec_l02Request.B2 : List Nat := [0,0,2,6,14,31,0,64,255,511,1023]
theorem spec_l02Request.tab2 : rtab .any (opsOf Try.f34 2) = spec_l02Request.T2 := by kernel_rfl
theorem spec_l02Request.bits2 : waitsOk spec_l02Request.T2.2 spec_l02Request.B2 = true := by kernel_rfl
def spec_l02Request.T3 : Bool × List (List Nat × List Nat) := (true,[([],[]),([],[]),([1],[1]),([2],[2]),([3],[3]),([4],[4]),([0,5],[0,5]),([],[]),([7],[7]),([6,8,6],[6,8]),([9,9,0,1,2,3,4,5,6,7,8,9],[9])])
def spec_l02Request.B3 : List Nat := [0,0,2,6,14,30,63,0,128,511,1023]
theorem spec_l02Request.tab3 : rtab .any (opsOf Try.f34 3) = spec_l02Request.T3 := by kernel_rfl
theorem spec_l02Request.bits3 : waitsOk spec_l02Request.T3.2 spec_l02Request.B3 = true := by kernel_rfl
set_option maxHeartbeats 8000000 in
set_option maxRecDepth 100000 in
theorem spec_l02Request.calls (k : Nat) (a0_0 : Int) (a0_1 : Int) (a0_2 : Int) (a0_3 : Int) (a0_4 : ByteArray) (r : List Int) (w : World) (h : spec_l02Request.f k a0_0 a0_1 a0_2 a0_3 a0_4 = some r) :
  Calls Try.prog 34 #[.agg #[.int .i64 a0_0,.int .i64 a0_1,.int .i64 a0_2,.int .i64 a0_3,.string a0_4]] w fun e w' => ∃ v0_ : Value,e = .returned (v0_) ∧ Kd.R (Kd.int .u8) 5 w' w.heap.size (fun _ => True) v0_ r ∧ Below w.heap.size w w' := by
 have hu33 := Try.underlying33
 have HB := am_ (Below.refl w.heap.size w)
 have H : ((some (([(a0_0) % 256] : List Int) : List Int)).bind fun y279 => ((spec_l02Number.f k a0_1 2).bind fun t282 => (if y279.length + t282.length < 140737488355328 then ((some (y279 ++ t282 : List Int)).bind fun y285 => (if y285.length < 140737488355328 then ((some (y285 ++ [(a0_2) % 256] : List Int)).bind fun y288 => ((spec_l02Number.f k a0_3 2).bind fun t291 => (if y288.length + t291.length < 140737488355328 then ((some (y288 ++ t291 : List Int)).bind fun y294 => (if y294.length < 140737488355328 then ((some (y294 ++ [((a0_4.size : Int)) % 256] : List Int)).bind fun y297 => (if y297.length + a0_4.size < 140737488355328 then (some (y297 ++ bytesOf a0_4)) else (none))) else (none))) else (none)))) else (none))) else (none)))) = some r := h
 clear h
 obtain ⟨y279,hy279⟩ : ∃ y_ : List Int,y_ = (([(a0_0) % 256] : List Int)) := ⟨_,rfl⟩
 replace H : ((spec_l02Number.f k a0_1 2).bind fun t282 => (if y279.length + t282.length < 140737488355328 then ((some (y279 ++ t282 : List Int)).bind fun y285 => (if y285.length < 140737488355328 then ((some (y285 ++ [(a0_2) % 256] : List Int)).bind fun y288 => ((spec_l02Number.f k a0_3 2).bind fun t291 => (if y288.length + t291.length < 140737488355328 then ((some (y288 ++ t291 : List Int)).bind fun y294 => (if y294.length < 140737488355328 then ((some (y294 ++ [((a0_4.size : Int)) % 256] : List Int)).bind fun y297 => (if y297.length + a0_4.size < 140737488355328 then (some (y297 ++ bytesOf a0_4)) else (none))) else (none))) else (none)))) else (none))) else (none))) = some r := by first | (rw [hy279];with_reducible exact H) | (have H2_ := (Option.bind_some _ _).symm.trans H;rw [hy279];with_reducible exact H2_) | (have H2_ := (Option.bind_some _ _).symm.trans H;with_reducible exact H2_) | with_reducible exact H | (rw [hy279];exact H) | exact H
 have Ny279 := am_ hy279
 clear hy279
 replace H := Option.bind_eq_some_iff.mp H
 obtain ⟨t282,A20,H⟩ := H
 try dsimp only at H
 have A2 := am_ A20
 clear A20
 by_cases c3 : y279.length + t282.length < 140737488355328
 ·rw [if_pos c3] at H
  have LMc3 := am_ c3
  clear c3
  obtain ⟨y285,hy285⟩ : ∃ y_ : List Int,y_ = (y279 ++ t282) := ⟨_,rfl⟩
  replace H : (if y285.length < 140737488355328 then ((some (y285 ++ [(a0_2) % 256] : List Int)).bind fun y288 => ((spec_l02Number.f k a0_3 2).bind fun t291 => (if y288.length + t291.length < 140737488355328 then ((some (y288 ++ t291 : List Int)).bind fun y294 => (if y294.length < 140737488355328 then ((some (y294 ++ [((a0_4.size : Int)) % 256] : List Int)).bind fun y297 => (if y297.length + a0_4.size < 140737488355328 then (some (y297 ++ bytesOf a0_4)) else (none))) else (none))) else (none)))) else (none)) = some r := by first | (rw [hy285];with_reducible exact H) | (have H2_ := (Option.bind_some _ _).symm.trans H;rw [hy285];with_reducible exact H2_) | (have H2_ := (Option.bind_some _ _).symm.trans H;with_reducible exact H2_) | with_reducible exact H | (rw [hy285];exact H) | exact H
  have Ny285 := am_ hy285
  clear hy285
  by_cases c4 : y285.length < 140737488355328
  ·rw [if_pos c4] at H
   have LMc4 := am_ c4
   clear c4
   obtain ⟨y288,hy288⟩ : ∃ y_ : List Int,y_ = (y285 ++ [(a0_2) % 256]) := ⟨_,rfl⟩
   replace H : ((spec_l02Number.f k a0_3 2).bind fun t291 => (if y288.length + t291.length < 140737488355328 then ((some (y288 ++ t291 : List Int)).bind fun y294 => (if y294.length < 140737488355328 then ((some (y294 ++ [((a0_4.size : Int)) % 256] : List Int)).bind fun y297 => (if y297.length + a0_4.size < 140737488355328 then (some (y297 ++ bytesOf a0_4)) else (none))) else (none))) else (none))) = some r := by first | (rw [hy288];with_reducible exact H) | (have H2_ := (Option.bind_some _ _).symm.trans H;rw [hy288];with_reducible exact H2_) | (have H2_ := (Option.bind_some _ _).symm.trans H;with_reducible exact H2_) | with_reducible exact H | (rw [hy288];exact H) | exact H
   have Ny288 := am_ hy288
   clear hy288
   replace H := Option.bind_eq_some_iff.mp H
   obtain ⟨t291,A50,H⟩ := H
   try dsimp only at H
   have A5 := am_ A50
   clear A50
   by_cases c6 : y288.length + t291.length < 140737488355328
   ·rw [if_pos c6] at H
    have LMc6 := am_ c6
    clear c6
    obtain ⟨y294,hy294⟩ : ∃ y_ : List Int,y_ = (y288 ++ t291) := ⟨_,rfl⟩
    replace H : (if y294.length < 140737488355328 then ((some (y294 ++ [((a0_4.size : Int)) % 256] : List Int)).bind fun y297 => (if y297.length + a0_4.size < 140737488355328 then (some (y297 ++ bytesOf a0_4)) else (none))) else (none)) = some r := by first | (rw [hy294];with_reducible exact H) | (have H2_ := (Option.bind_some _ _).symm.trans H;rw [hy294];with_reducible exact H2_) | (have H2_ := (Option.bind_some _ _).symm.trans H;with_reducible exact H2_) | with_reducible exact H | (rw [hy294];exact H) | exact H
    have Ny294 := am_ hy294
    clear hy294
    by_cases c7 : y294.length < 140737488355328
    ·rw [if_pos c7] at H
     have LMc7 := am_ c7
     clear c7
     obtain ⟨y297,hy297⟩ : ∃ y_ : List Int,y_ = (y294 ++ [((a0_4.size : Int)) % 256]) := ⟨_,rfl⟩
     replace H : (if y297.length + a0_4.size < 140737488355328 then (some (y297 ++ bytesOf a0_4)) else (none)) = some r := by first | (rw [hy297];with_reducible exact H) | (have H2_ := (Option.bind_some _ _).symm.trans H;rw [hy297];with_reducible exact H2_) | (have H2_ := (Option.bind_some _ _).symm.trans H;with_reducible exact H2_) | with_reducible exact H | (rw [hy297];exact H) | exact H
     have Ny297 := am_ hy297
     clear hy297
     by_cases c8 : y297.length + a0_4.size < 140737488355328
     ·rw [if_pos c8] at H
      have LMc8 := am_ c8
      clear c8
      obtain ⟨y300,hy300⟩ : ∃ y_ : List Int,y_ = (y297 ++ bytesOf a0_4) := ⟨_,rfl⟩
      replace H : (some y300) = some r := by first | (rw [hy300];with_reducible exact H) | (have H2_ := (Option.bind_some _ _).symm.trans H;rw [hy300];with_reducible exact H2_) | (have H2_ := (Option.bind_some _ _).symm.trans H;with_reducible exact H2_) | with_reducible exact H | (rw [hy300];exact H) | exact H
      have Ny300 := am_ hy300
      clear hy300
      obtain rfl := Option.some.inj H
      go_enter Try.func34,Try.ntmps34
      try go_wp2_with (first | ((with_reducible refine gate_dst (N := 1) rfl ?_);refine zbx (N := 1) (cs := #[.int .i64 a0_0,.int .i64 a0_1,.int .i64 a0_2,.int .i64 a0_3,.string a0_4]) (t := 33) ?_;intro gb278 hg w9 hbox hb;have BK278 := am_ (hbox);have GW278 := zw_ HB hg;have GE278 := zw_ HB hg;replace HB := zs_ HB hb;clear hb hbox hg))
      replace BK278 := am_ (blk_drew BK278.out)
      replace HB := am_ (below_drew1 HB.out)
      refine start_ (n := 9) (S := fun w' => w'.cell? ⟨gb278,0,none⟩ = some (.int .i64 a0_0) ∧ w'.cell? ⟨gb278,1,none⟩ = some (.int .i64 a0_1) ∧ w'.cell? ⟨gb278,2,none⟩ = some (.int .i64 a0_2) ∧ w'.cell? ⟨gb278,3,none⟩ = some (.int .i64 a0_3) ∧ w'.cell? ⟨gb278,4,none⟩ = some (.string a0_4)) (ds := []) #[false,false,false,false,false,false,false,false,false] (by kernel_rfl) rfl rfl ⟨(blk_cell BK278.out 0).trans rfl,(blk_cell BK278.out 1).trans rfl,(blk_cell BK278.out 2).trans rfl,(blk_cell BK278.out 3).trans rfl,(blk_cell BK278.out 4).trans rfl⟩ (fun hHeld => ?_);refine with_tabW spec_l02Request.tab1 spec_l02Request.bits1 (fun HT_ HW_ => ?_)
      generalize w9.drew = w10 at BK278 HB hHeld ⊢
      refine zpu 0 (N := some 4) #[true,false,false,false,false,false,false,false,false] HT_ ?_
      refine zpu 4 (N := some 8) #[true,false,false,false,true,false,false,false,false] HT_ ?_
      refine ztk 1 (N := some 5) #[true,true,false,false,true,false,false,false,false] HT_ HW_ hHeld ?_
      refine zpu 2 (N := some 6) #[true,true,true,false,true,false,false,false,false] HT_ ?_
      refine ztk 5 (N := some 9) #[true,true,true,false,true,true,false,false,false] HT_ HW_ hHeld ?_
      refine join_ (σ := Value × Value) 2 #[true,true,true,true,true,true,true,false,false] (fun s_ => [(7,s_.1),(10,s_.2)]) (fun s_ w' => (w'.cell? ⟨gb278,0,none⟩ = some (.int .i64 a0_0) ∧ w'.cell? ⟨gb278,1,none⟩ = some (.int .i64 a0_1) ∧ w'.cell? ⟨gb278,2,none⟩ = some (.int .i64 a0_2) ∧ w'.cell? ⟨gb278,3,none⟩ = some (.int .i64 a0_3) ∧ w'.cell? ⟨gb278,4,none⟩ = some (.string a0_4)) ∧ (Kd.R (Kd.int .u8) 5 w' w.heap.size (fun k_ => some k_ ≠ (s_.2 : Value).ownBlock) s_.1 y279) ∧ (Kd.R (Kd.int .u8) 5 w' w.heap.size (fun k_ => some k_ ≠ (s_.1 : Value).ownBlock) s_.2 t282) ∧ (w'.heap[gb278]? = some (.cells #[.int .i64 a0_0,.int .i64 a0_1,.int .i64 a0_2,.int .i64 a0_3,.string a0_4] 33 (0,0))) ∧ (Below w.heap.size w w')) ?_ ?_
      rotate_left
      ·intro hCont
       refine two_ (i := 3) (j := 6) (Ni := some 7) (Nj := some 10) #[true,true,true,true,true,true,false,false,false] #[true,true,true,false,true,true,true,false,false] rfl rfl rfl rfl (two_of HT_.out (by kernel_rfl)) (by decide) (by decide) (fun K hK => ?_) (fun K hK => ?_)
       ·skip
        refine Kd.R_lit_step (Kd.int .u8) _ 5 ?hg (N := 7) ?hd (xs := ([(a0_0) % 256] : List Int)) (inner := [.int .u8 ((a0_0) % 256)]) (ok := fun _ => True) (okp := fun _ => True) ?hr ?hp (fun _ hk => hk) trivial (Below.refl _ _) (Nat.le_refl _) (by simp) ?_;(case hd => rfl);(case hg => rfl);(case hr => first | (go_simp;done) | (go_simp;rfl));(case hp => exact (Reps.one (show Kd.M (Kd.int .u8) _ _ _ ((a0_0) % 256) [.int .u8 ((a0_0) % 256)] from rfl) (Reps.none _ _)))
        intro v280 w11 ho12 hb hg_ hnew_
        clear hg_ hnew_
        (first | rw [← Ny279.out] at ho12 | (simp only [Int.reduceToNat] at ho12;rw [← Ny279.out] at ho12))
        have HO281 := am_ (Kd.R_lower ho12 (below_size (zl_ HB)))
        replace BK278 := zb BK278 hb
        replace HB := zs_ HB hb
        clear hb ho12
        refine hK.out _ _ ⟨(blk_cell BK278.out 0).trans rfl,(blk_cell BK278.out 1).trans rfl,(blk_cell BK278.out 2).trans rfl,(blk_cell BK278.out 3).trans rfl,(blk_cell BK278.out 4).trans rfl⟩ (fun hHeld => ?_)
        clear hK K
        refine norm_ (a' := ?_) ?_ ?_
        rotate_left
        ·show Act.put _ (some 7) _ = _
         simp only [Act.put,p1_,p2_,p3_,i64_w,i32_w]
         rfl
        refine one_ (i := 6) (N := some 10) #[true,true,true,true,true,true,true,false,false] rfl rfl (one_of HT_.out (by kernel_rfl)) (by decide) (fun K hK => ?_)
        refine goes_ Try.func58 (by kernel_rfl) rfl #[.int .i64 a0_1,.int .i64 2] (by rfl) rfl rfl (by (try simp only [m1_,m2_,m3_]);first | done | rfl | (simp only [d1_,d2_];rfl)) ?_
        with_reducible refine (spec_l02Number.calls k a0_1 2 t282 _ A2.out).mono ?_
        rintro e w13 ⟨v283,rfl,ho0,hb⟩
        refine ⟨_,rfl,?_⟩
        have HO284 := am_ (Kd.R_lower (Kd.R_new' ho0 (Kd.R_lt (zr HO281))) (below_size (zl_ HB)))
        replace HO281 := am_ (Kd.R_elder' (zr HO281) (Kd.R_base ho0) hb)
        replace BK278 := zb BK278 hb
        replace HB := zs_ HB hb
        (try clear hb)
        (try clear hb2)
        (try clear hk)
        (try clear hi)
        (try clear ho0)
        refine hK.out _ _ ⟨(blk_cell BK278.out 0).trans rfl,(blk_cell BK278.out 1).trans rfl,(blk_cell BK278.out 2).trans rfl,(blk_cell BK278.out 3).trans rfl,(blk_cell BK278.out 4).trans rfl⟩ (fun hHeld => ?_)
        clear hK K
        refine norm_ (a' := ?_) ?_ ?_
        rotate_left
        ·show Act.put _ (some 10) _ = _
         simp only [Act.put,p1_,p2_,p3_,i64_w,i32_w]
         rfl
        exact norm_ (by simp only [putAll,Act.put,p1_,p2_,p3_]) (hCont (v280,v283) _ ⟨hHeld,(by (with_reducible repeat (first | apply r1_ | apply r2_ | apply r3_));exact Kd.R_mono HO281.out (fun _ hk => hk.2)),(by (with_reducible repeat (first | apply r1_ | apply r2_ | apply r3_));exact Kd.R_mono HO284.out (fun _ hk => hk.2)),(zk BK278),(zl_ HB)⟩)
       ·skip
        refine goes_ Try.func58 (by kernel_rfl) rfl #[.int .i64 a0_1,.int .i64 2] (by rfl) rfl rfl (by (try simp only [m1_,m2_,m3_]);first | done | rfl | (simp only [d1_,d2_];rfl)) ?_
        with_reducible refine (spec_l02Number.calls k a0_1 2 t282 _ A2.out).mono ?_
        rintro e w11 ⟨v283,rfl,ho0,hb⟩
        refine ⟨_,rfl,?_⟩
        have HO284 := am_ (Kd.R_lower ho0 (below_size (zl_ HB)))
        replace BK278 := zb BK278 hb
        replace HB := zs_ HB hb
        (try clear hb)
        (try clear hb2)
        (try clear hk)
        (try clear hi)
        (try clear ho0)
        refine hK.out _ _ ⟨(blk_cell BK278.out 0).trans rfl,(blk_cell BK278.out 1).trans rfl,(blk_cell BK278.out 2).trans rfl,(blk_cell BK278.out 3).trans rfl,(blk_cell BK278.out 4).trans rfl⟩ (fun hHeld => ?_)
        clear hK K
        refine norm_ (a' := ?_) ?_ ?_
        rotate_left
        ·show Act.put _ (some 10) _ = _
         simp only [Act.put,p1_,p2_,p3_,i64_w,i32_w]
         rfl
        refine one_ (i := 3) (N := some 7) #[true,true,true,true,true,true,true,false,false] rfl rfl (one_of HT_.out (by kernel_rfl)) (by decide) (fun K hK => ?_)
        refine Kd.R_lit_step (Kd.int .u8) _ 5 ?hg (N := 7) ?hd (xs := ([(a0_0) % 256] : List Int)) (inner := [.int .u8 ((a0_0) % 256)]) (ok := fun _ => True) (okp := fun _ => True) ?hr ?hp (fun _ hk => hk) trivial (Below.refl _ _) (Nat.le_refl _) (by simp) ?_;(case hd => rfl);(case hg => rfl);(case hr => first | (go_simp;done) | (go_simp;rfl));(case hp => exact (Reps.one (show Kd.M (Kd.int .u8) _ _ _ ((a0_0) % 256) [.int .u8 ((a0_0) % 256)] from rfl) (Reps.none _ _)))
        intro v280 w12 ho13 hb hg_ hnew_
        clear hg_ hnew_
        (first | rw [← Ny279.out] at ho13 | (simp only [Int.reduceToNat] at ho13;rw [← Ny279.out] at ho13))
        have HO281 := am_ (Kd.R_lower (Kd.R_new' ho13 (Kd.R_lt (zr HO284))) (below_size (zl_ HB)))
        replace HO284 := am_ (Kd.R_elder' (zr HO284) (Kd.R_base ho13) hb)
        replace BK278 := zb BK278 hb
        replace HB := zs_ HB hb
        clear hb ho13
        refine hK.out _ _ ⟨(blk_cell BK278.out 0).trans rfl,(blk_cell BK278.out 1).trans rfl,(blk_cell BK278.out 2).trans rfl,(blk_cell BK278.out 3).trans rfl,(blk_cell BK278.out 4).trans rfl⟩ (fun hHeld => ?_)
        clear hK K
        refine norm_ (a' := ?_) ?_ ?_
        rotate_left
        ·show Act.put _ (some 7) _ = _
         simp only [Act.put,p1_,p2_,p3_,i64_w,i32_w]
         rfl
        exact norm_ (by simp only [putAll,Act.put,p1_,p2_,p3_]) (hCont (v280,v283) _ ⟨hHeld,(by (with_reducible repeat (first | apply r1_ | apply r2_ | apply r3_));exact Kd.R_mono HO281.out (fun _ hk => hk.2)),(by (with_reducible repeat (first | apply r1_ | apply r2_ | apply r3_));exact Kd.R_mono HO284.out (fun _ hk => hk.2)),(zk BK278),(zl_ HB)⟩)
      rintro ⟨v280,v283⟩ w14 ⟨hS_,h0_,h1_,h2_,h3_⟩
      have n0_ : Aside0 (Kd.R (Kd.int .u8) 5 w14 w.heap.size (fun k_ => some k_ ≠ (v283 : Value).ownBlock) v280 y279) := ⟨h0_⟩
      have n1_ : Aside0 (Kd.R (Kd.int .u8) 5 w14 w.heap.size (fun k_ => some k_ ≠ (v280 : Value).ownBlock) v283 t282) := ⟨h1_⟩
      have n2_ : Aside0 (w14.heap[gb278]? = some (.cells #[.int .i64 a0_0,.int .i64 a0_1,.int .i64 a0_2,.int .i64 a0_3,.string a0_4] 33 (0,0))) := ⟨h2_⟩
      have n3_ : Aside0 (Below w.heap.size w w14) := ⟨h3_⟩
      clear BK278
      clear HB
      clear h0_ h1_ h2_ h3_
      have HO281 := n0_
      have HO284 := n1_
      have BK278 := n2_
      have HB := n3_
      clear n0_ n1_ n2_ n3_
      have hHeld : w14.cell? ⟨gb278,0,none⟩ = some (.int .i64 a0_0) ∧ w14.cell? ⟨gb278,1,none⟩ = some (.int .i64 a0_1) ∧ w14.cell? ⟨gb278,2,none⟩ = some (.int .i64 a0_2) ∧ w14.cell? ⟨gb278,3,none⟩ = some (.int .i64 a0_3) ∧ w14.cell? ⟨gb278,4,none⟩ = some (.string a0_4) := hS_
      obtain ⟨Ao16,co16,eo16⟩ := Kd.R_slice HO284.out
      (first | subst eo16 | (injection eo16 with f1_ f2_ f3_;have f4_ := f1_.symm;have f5_ := f3_.symm;clear f1_ f2_ f3_;subst f4_;subst f5_))
      refine norm_ (a' := ?_) ?_ ?_
      rotate_left
      ·simp only [putAll,Act.put,p1_,p2_,p3_]
       rfl
      refine one_ (i := 7) (N := some 11) #[true,true,true,true,true,true,true,true,false] rfl rfl (one_of HT_.out (by kernel_rfl)) (by decide) (fun K hK => ?_)
      refine Kd.R_append_rows_step (Kd.int .u8) (w0 := w) w.heap.size (by rfl) (.tmp 7) (.tmp 10) 22 5 (.int .u8 0) 1 rfl Try.underlying22 info5 rfl (by decide) (by omega) v280 y279 t282 _ _ _ (fun k_ => some k_ ≠ (.slice Ao16 t282.length co16 : Value).ownBlock) (fun _ => False) rfl rfl ?aO ?aR (fun _ _ h => h) (fun _ h => h.elim) ?aF ?aB ?aS ?aL ?_
      (case aR => repeat (first | exact (Kd.R_reads' HO284.out).2.2 | (with_reducible refine Kd.C_alloc ?_ _) | (with_reducible refine Kd.C_drewN ?_ _) | (with_reducible refine Kd.C_drew ?_)))
      (case aB => exact (zl_ HB))
      (case aF => exact (fun k_ hk => Kd.fresh' (Kd.R_lt (zr HO284)) k_ hk))
      (case aO => exact (zr HO281))
      (case aS => exact (below_size (zl_ HB)))
      (case aL => have := LMc3.out;omega)
      intro v286 w15 ho hb hg hat
      rw [← Ny285.out] at ho
      replace BK278 := am_ (blk_grown (g := gb278) (o := .cells #[.int .i64 a0_0,.int .i64 a0_1,.int .i64 a0_2,.int .i64 a0_3,.string a0_4] 33 (0,0)) (zk BK278) hg (Kd.R_ne HO281.out BK278.out (by decide)))
      replace HO284 := am_ (Kd.R_after (ok := (fun _ => True)) (by (with_reducible repeat (first | apply r1_ | apply r2_ | apply r3_));exact Kd.R_mono HO284.out (fun _ hk => ⟨trivial,hk⟩)) hg hat)
      replace HB := am_ (hb)
      have HO287 := am_ (ho)
      clear HO281
      clear ho hb hg hat
      refine hK.out _ _ ⟨(blk_cell BK278.out 0).trans rfl,(blk_cell BK278.out 1).trans rfl,(blk_cell BK278.out 2).trans rfl,(blk_cell BK278.out 3).trans rfl,(blk_cell BK278.out 4).trans rfl⟩ (fun hHeld => ?_)
      clear hK K
      refine norm_ (a' := ?_) ?_ ?_
      rotate_left
      ·show Act.put _ (some 11) _ = _
       simp only [Act.put,p1_,p2_,p3_,i64_w,i32_w]
       rfl
      refine zpu 8 (N := some 3) #[true,true,true,true,true,true,true,true,true] HT_ ?_
      refine done_ (done_of HT_.out (by kernel_rfl)) ?_
      try go_wp2
      replace HO284 := am_ (Kd.R_drew HO284.out)
      replace HO287 := am_ (Kd.R_drew HO287.out)
      replace BK278 := am_ (blk_drew BK278.out)
      replace HB := am_ (below_drew1 HB.out)
      refine start_ (n := 11) (S := fun w' => w'.cell? ⟨gb278,0,none⟩ = some (.int .i64 a0_0) ∧ w'.cell? ⟨gb278,1,none⟩ = some (.int .i64 a0_1) ∧ w'.cell? ⟨gb278,2,none⟩ = some (.int .i64 a0_2) ∧ w'.cell? ⟨gb278,3,none⟩ = some (.int .i64 a0_3) ∧ w'.cell? ⟨gb278,4,none⟩ = some (.string a0_4)) (ds := []) #[false,false,false,false,false,false,false,false,false,false,false] (by kernel_rfl) rfl rfl ⟨(blk_cell BK278.out 0).trans rfl,(blk_cell BK278.out 1).trans rfl,(blk_cell BK278.out 2).trans rfl,(blk_cell BK278.out 3).trans rfl,(blk_cell BK278.out 4).trans rfl⟩ (fun hHeld => ?_);refine with_tabW spec_l02Request.tab2 spec_l02Request.bits2 (fun HT_ HW_ => ?_)
      generalize w15.drew = w17 at HO284 HO287 BK278 HB hHeld ⊢
      refine zpu 0 (N := some 12) #[true,false,false,false,false,false,false,false,false,false,false] HT_ ?_
      refine zpu 1 (N := some 13) #[true,true,false,false,false,false,false,false,false,false,false] HT_ ?_
      refine zpu 6 (N := some 18) #[true,true,false,false,false,false,true,false,false,false,false] HT_ ?_
      refine ztk 2 (N := some 14) #[true,true,true,false,false,false,true,false,false,false,false] HT_ HW_ hHeld ?_
      refine zpu 3 (N := some 15) #[true,true,true,true,false,false,true,false,false,false,false] HT_ ?_
      refine ztk 7 (N := some 19) #[true,true,true,true,false,false,true,true,false,false,false] HT_ HW_ hHeld ?_
      refine one_ (i := 4) (N := some 16) #[true,true,true,true,true,false,true,true,false,false,false] rfl rfl (one_of HT_.out (by kernel_rfl)) (by decide) (fun K hK => ?_)
      refine value_ (w1 := ?_) (v := ?_) (by rfl) rfl ?_ ?_
      rotate_left 2
      ·go_simp
       constructor
       ·rfl
       ·rfl
      refine hK.out _ _ ⟨(blk_cell (blk_alloc BK278.out _) 0).trans rfl,(blk_cell (blk_alloc BK278.out _) 1).trans rfl,(blk_cell (blk_alloc BK278.out _) 2).trans rfl,(blk_cell (blk_alloc BK278.out _) 3).trans rfl,(blk_cell (blk_alloc BK278.out _) 4).trans rfl⟩ (fun hHeld => ?_)
      clear hK K
      refine norm_ (a' := ?_) ?_ ?_
      rotate_left
      ·show Act.put _ (some 16) _ = _
       simp only [Act.put,p1_,p2_,p3_,i64_w,i32_w]
       rfl
      refine one_ (i := 5) (N := some 17) #[true,true,true,true,true,true,true,true,false,false,false] rfl rfl (one_of HT_.out (by kernel_rfl)) (by decide) (fun K hK => ?_)
      refine Kd.R_append_step (Kd.int .u8) (w0 := w) w.heap.size (by rfl) (.tmp 12) (.tmp 16) 22 5 (.int .u8 0) 1 rfl Try.underlying22 info5 rfl (by decide) (by omega) v286 y285 ((a0_2) % 256) [.int .u8 ((a0_2) % 256)] (fun k_ => some k_ ≠ (.slice Ao16 t282.length co16 : Value).ownBlock) (fun _ => False) rfl rfl ?aP (fun _ hk => hk.elim) ?aF ?aO ?aB ?aS ?aL ?_
      (case aP => exact rfl)
      (case aB => exact (zl_ HB))
      (case aF => exact (fun k_ hk => Kd.fresh' (Kd.R_lt (zr HO284)) k_ hk))
      (case aO => exact (zr HO287))
      (case aS => exact (below_size (zl_ HB)))
      (case aL => have := LMc4.out;omega)
      intro v289 w18 ho hb hg hat
      rw [← Ny288.out] at ho
      replace BK278 := am_ (blk_grown (g := gb278) (o := .cells #[.int .i64 a0_0,.int .i64 a0_1,.int .i64 a0_2,.int .i64 a0_3,.string a0_4] 33 (0,0)) (zk BK278) hg (Kd.R_ne HO287.out BK278.out (by decide)))
      replace HO284 := am_ (Kd.R_after (ok := (fun _ => True)) (zr HO284) hg hat)
      replace HB := am_ (hb)
      have HO290 := am_ (ho)
      clear HO287
      clear ho hb hg hat
      refine hK.out _ _ ⟨(blk_cell BK278.out 0).trans rfl,(blk_cell BK278.out 1).trans rfl,(blk_cell BK278.out 2).trans rfl,(blk_cell BK278.out 3).trans rfl,(blk_cell BK278.out 4).trans rfl⟩ (fun hHeld => ?_)
      clear hK K
      refine norm_ (a' := ?_) ?_ ?_
      rotate_left
      ·show Act.put _ (some 17) _ = _
       simp only [Act.put,p1_,p2_,p3_,i64_w,i32_w]
       rfl
      refine one_ (i := 8) (N := some 20) #[true,true,true,true,true,true,true,true,true,false,false] rfl rfl (one_of HT_.out (by kernel_rfl)) (by decide) (fun K hK => ?_)
      refine goes_ Try.func58 (by kernel_rfl) rfl #[.int .i64 a0_3,.int .i64 2] (by rfl) rfl rfl (by (try simp only [m1_,m2_,m3_]);first | done | rfl | (simp only [d1_,d2_];rfl)) ?_
      with_reducible refine (spec_l02Number.calls k a0_3 2 t291 _ A5.out).mono ?_
      rintro e w19 ⟨v292,rfl,ho0,hb⟩
      refine ⟨_,rfl,?_⟩
      have HO293 := am_ (Kd.R_lower (Kd.R_new' (Kd.R_new' ho0 (Kd.R_lt (zr HO284))) (Kd.R_lt (zr HO290))) (below_size (zl_ HB)))
      replace HO284 := am_ (Kd.R_elder' (zr HO284) (Kd.R_base ho0) hb)
      replace HO290 := am_ (Kd.R_elder' (zr HO290) (Kd.R_base ho0) hb)
      replace BK278 := zb BK278 hb
      replace HB := zs_ HB hb
      (try clear hb)
      (try clear hb2)
      (try clear hk)
      (try clear hi)
      (try clear ho0)
      obtain ⟨Ao21,co21,eo21⟩ := Kd.R_slice HO293.out
      (first | subst eo21 | (injection eo21 with f1_ f2_ f3_;have f4_ := f1_.symm;have f5_ := f3_.symm;clear f1_ f2_ f3_;subst f4_;subst f5_))
      refine hK.out _ _ ⟨(blk_cell BK278.out 0).trans rfl,(blk_cell BK278.out 1).trans rfl,(blk_cell BK278.out 2).trans rfl,(blk_cell BK278.out 3).trans rfl,(blk_cell BK278.out 4).trans rfl⟩ (fun hHeld => ?_)
      clear hK K
      refine norm_ (a' := ?_) ?_ ?_
      rotate_left
      ·show Act.put _ (some 20) _ = _
       simp only [Act.put,p1_,p2_,p3_,i64_w,i32_w]
       rfl
      refine one_ (i := 9) (N := some 21) #[true,true,true,true,true,true,true,true,true,true,false] rfl rfl (one_of HT_.out (by kernel_rfl)) (by decide) (fun K hK => ?_)
      refine Kd.R_append_rows_step (Kd.int .u8) (w0 := w) w.heap.size (by rfl) (.tmp 17) (.tmp 20) 22 5 (.int .u8 0) 1 rfl Try.underlying22 info5 rfl (by decide) (by omega) v289 y288 t291 _ _ _ (fun k_ => some k_ ≠ (.slice Ao16 t282.length co16 : Value).ownBlock ∧ some k_ ≠ (.slice Ao21 t291.length co21 : Value).ownBlock) (fun _ => False) rfl rfl ?aO ?aR (fun _ _ h => h) (fun _ h => h.elim) ?aF ?aB ?aS ?aL ?_
      (case aR => repeat (first | exact (Kd.R_reads' HO293.out).2.2 | (with_reducible refine Kd.C_alloc ?_ _) | (with_reducible refine Kd.C_drewN ?_ _) | (with_reducible refine Kd.C_drew ?_)))
      (case aB => exact (zl_ HB))
      (case aF => exact (fun k_ hk => ⟨Kd.fresh' (Kd.R_lt (zr HO284)) k_ hk,Kd.fresh' (Kd.R_lt (zr HO293)) k_ hk⟩))
      (case aO => exact (zr HO290))
      (case aS => exact (below_size (zl_ HB)))
      (case aL => have := LMc6.out;omega)
      intro v295 w20 ho hb hg hat
      rw [← Ny294.out] at ho
      replace BK278 := am_ (blk_grown (g := gb278) (o := .cells #[.int .i64 a0_0,.int .i64 a0_1,.int .i64 a0_2,.int .i64 a0_3,.string a0_4] 33 (0,0)) (zk BK278) hg (Kd.R_ne HO290.out BK278.out (by decide)))
      replace HO284 := am_ (Kd.R_after (ok := (fun k_ => some k_ ≠ (.slice Ao21 t291.length co21 : Value).ownBlock)) (by (with_reducible repeat (first | apply r1_ | apply r2_ | apply r3_));exact Kd.R_mono HO284.out (fun _ hk => ⟨hk.2,hk.1.2⟩)) hg hat)
      replace HO293 := am_ (Kd.R_after (ok := (fun k_ => some k_ ≠ (.slice Ao16 t282.length co16 : Value).ownBlock)) (by (with_reducible repeat (first | apply r1_ | apply r2_ | apply r3_));exact Kd.R_mono HO293.out (fun _ hk => ⟨hk.1.2,hk.2⟩)) hg hat)
      replace HB := am_ (hb)
      have HO296 := am_ (ho)
      clear HO290
      clear ho hb hg hat
      refine hK.out _ _ ⟨(blk_cell BK278.out 0).trans rfl,(blk_cell BK278.out 1).trans rfl,(blk_cell BK278.out 2).trans rfl,(blk_cell BK278.out 3).trans rfl,(blk_cell BK278.out 4).trans rfl⟩ (fun hHeld => ?_)
      clear hK K
      refine norm_ (a' := ?_) ?_ ?_
      rotate_left
      ·show Act.put _ (some 21) _ = _
       simp only [Act.put,p1_,p2_,p3_,i64_w,i32_w]
       rfl
      refine zpu 10 (N := some 3) #[true,true,true,true,true,true,true,true,true,true,true] HT_ ?_
      refine done_ (done_of HT_.out (by kernel_rfl)) ?_
      try go_wp2
      replace HO284 := am_ (Kd.R_drew HO284.out)
      replace HO293 := am_ (Kd.R_drew HO293.out)
      replace HO296 := am_ (Kd.R_drew HO296.out)
      replace BK278 := am_ (blk_drew BK278.out)
      replace HB := am_ (below_drew1 HB.out)
      refine start_ (n := 11) (S := fun w' => w'.cell? ⟨gb278,0,none⟩ = some (.int .i64 a0_0) ∧ w'.cell? ⟨gb278,1,none⟩ = some (.int .i64 a0_1) ∧ w'.cell? ⟨gb278,2,none⟩ = some (.int .i64 a0_2) ∧ w'.cell? ⟨gb278,3,none⟩ = some (.int .i64 a0_3) ∧ w'.cell? ⟨gb278,4,none⟩ = some (.string a0_4)) (ds := []) #[false,false,false,false,false,false,false,false,false,false,false] (by kernel_rfl) rfl rfl ⟨(blk_cell BK278.out 0).trans rfl,(blk_cell BK278.out 1).trans rfl,(blk_cell BK278.out 2).trans rfl,(blk_cell BK278.out 3).trans rfl,(blk_cell BK278.out 4).trans rfl⟩ (fun hHeld => ?_);refine with_tabW spec_l02Request.tab3 spec_l02Request.bits3 (fun HT_ HW_ => ?_)
      generalize w20.drew = w22 at HO284 HO293 HO296 BK278 HB hHeld ⊢
      refine zpu 0 (N := some 22) #[true,false,false,false,false,false,false,false,false,false,false] HT_ ?_
      refine zpu 1 (N := some 23) #[true,true,false,false,false,false,false,false,false,false,false] HT_ ?_
      refine zpu 7 (N := some 29) #[true,true,false,false,false,false,false,true,false,false,false] HT_ ?_
      refine ztk 2 (N := some 24) #[true,true,true,false,false,false,false,true,false,false,false] HT_ HW_ hHeld ?_
      refine zpu 3 (N := some 25) #[true,true,true,true,false,false,false,true,false,false,false] HT_ ?_
      refine zpu 4 (N := some 26) #[true,true,true,true,true,false,false,true,false,false,false] HT_ ?_
      refine ztk 8 (N := some 30) #[true,true,true,true,true,false,false,true,true,false,false] HT_ HW_ hHeld ?_
      refine one_ (i := 5) (N := some 27) #[true,true,true,true,true,true,false,true,true,false,false] rfl rfl (one_of HT_.out (by kernel_rfl)) (by decide) (fun K hK => ?_)
      refine value_ (w1 := ?_) (v := ?_) (by rfl) rfl ?_ ?_
      rotate_left 2
      ·go_simp
       constructor
       ·rfl
       ·rfl
      refine hK.out _ _ ⟨(blk_cell (blk_alloc BK278.out _) 0).trans rfl,(blk_cell (blk_alloc BK278.out _) 1).trans rfl,(blk_cell (blk_alloc BK278.out _) 2).trans rfl,(blk_cell (blk_alloc BK278.out _) 3).trans rfl,(blk_cell (blk_alloc BK278.out _) 4).trans rfl⟩ (fun hHeld => ?_)
      clear hK K
      refine norm_ (a' := ?_) ?_ ?_
      rotate_left
      ·show Act.put _ (some 27) _ = _
       simp only [Act.put,p1_,p2_,p3_,i64_w,i32_w]
       rfl
      refine one_ (i := 6) (N := some 28) #[true,true,true,true,true,true,true,true,true,false,false] rfl rfl (one_of HT_.out (by kernel_rfl)) (by decide) (fun K hK => ?_)
      refine Kd.R_append_step (Kd.int .u8) (w0 := w) w.heap.size (by rfl) (.tmp 22) (.tmp 27) 22 5 (.int .u8 0) 1 rfl Try.underlying22 info5 rfl (by decide) (by omega) v295 y294 (((a0_4.size : Int)) % 256) [.int .u8 (((a0_4.size : Int)) % 256)] (fun k_ => some k_ ≠ (.slice Ao16 t282.length co16 : Value).ownBlock ∧ some k_ ≠ (.slice Ao21 t291.length co21 : Value).ownBlock) (fun _ => False) rfl rfl ?aP (fun _ hk => hk.elim) ?aF ?aO ?aB ?aS ?aL ?_
      (case aP => exact rfl)
      (case aB => exact (zl_ HB))
      (case aF => exact (fun k_ hk => ⟨Kd.fresh' (Kd.R_lt (zr HO284)) k_ hk,Kd.fresh' (Kd.R_lt (zr HO293)) k_ hk⟩))
      (case aO => exact (zr HO296))
      (case aS => exact (below_size (zl_ HB)))
      (case aL => have := LMc7.out;omega)
      intro v298 w23 ho hb hg hat
      rw [← Ny297.out] at ho
      replace BK278 := am_ (blk_grown (g := gb278) (o := .cells #[.int .i64 a0_0,.int .i64 a0_1,.int .i64 a0_2,.int .i64 a0_3,.string a0_4] 33 (0,0)) (zk BK278) hg (Kd.R_ne HO296.out BK278.out (by decide)))
      replace HO284 := am_ (Kd.R_after (ok := (fun k_ => some k_ ≠ (.slice Ao21 t291.length co21 : Value).ownBlock)) (zr HO284) hg hat)
      replace HO293 := am_ (Kd.R_after (ok := (fun k_ => some k_ ≠ (.slice Ao16 t282.length co16 : Value).ownBlock)) (zr HO293) hg hat)
      replace HB := am_ (hb)
      have HO299 := am_ (ho)
      clear HO296
      clear ho hb hg hat
      refine hK.out _ _ ⟨(blk_cell BK278.out 0).trans rfl,(blk_cell BK278.out 1).trans rfl,(blk_cell BK278.out 2).trans rfl,(blk_cell BK278.out 3).trans rfl,(blk_cell BK278.out 4).trans rfl⟩ (fun hHeld => ?_)
      clear hK K
      refine norm_ (a' := ?_) ?_ ?_
      rotate_left
      ·show Act.put _ (some 28) _ = _
       simp only [Act.put,p1_,p2_,p3_,i64_w,i32_w]
       rfl
      refine one_ (i := 9) (N := some 31) #[true,true,true,true,true,true,true,true,true,true,false] rfl rfl (one_of HT_.out (by kernel_rfl)) (by decide) (fun K hK => ?_)
      refine Kd.R_append_str_step (Kd.int .u8) rfl (w0 := w) w.heap.size (by rfl) (.tmp 28) _ 22 9 5 rfl Try.underlying22 Try.underlying9 info5 v298 y297 a0_4 (fun k_ => some k_ ≠ (.slice Ao16 t282.length co16 : Value).ownBlock ∧ some k_ ≠ (.slice Ao21 t291.length co21 : Value).ownBlock) rfl rfl ?aO ?aF ?aB ?aS ?aL ?_
      (case aB => exact (zl_ HB))
      (case aF => exact (fun k_ hk => ⟨Kd.fresh' (Kd.R_lt (zr HO284)) k_ hk,Kd.fresh' (Kd.R_lt (zr HO293)) k_ hk⟩))
      (case aO => exact (zr HO299))
      (case aS => exact (below_size (zl_ HB)))
      (case aL => have := LMc8.out;omega)
      intro v301 w24 ho hb hg hat
      rw [← Ny300.out] at ho
      replace BK278 := am_ (blk_grown (g := gb278) (o := .cells #[.int .i64 a0_0,.int .i64 a0_1,.int .i64 a0_2,.int .i64 a0_3,.string a0_4] 33 (0,0)) (zk BK278) hg (Kd.R_ne HO299.out BK278.out (by decide)))
      replace HB := am_ (hb)
      have HO302 := am_ (ho)
      clear HO299
      clear ho hb hg hat
      refine hK.out _ _ ⟨(blk_cell BK278.out 0).trans rfl,(blk_cell BK278.out 1).trans rfl,(blk_cell BK278.out 2).trans rfl,(blk_cell BK278.out 3).trans rfl,(blk_cell BK278.out 4).trans rfl⟩ (fun hHeld => ?_)
      clear hK K
      refine norm_ (a' := ?_) ?_ ?_
      rotate_left
      ·show Act.put _ (some 31) _ = _
       simp only [Act.put,p1_,p2_,p3_,i64_w,i32_w]
       rfl
      refine zpu 10 (N := some 2) #[true,true,true,true,true,true,true,true,true,true,true] HT_ ?_
      refine done_ (done_of HT_.out (by kernel_rfl)) ?_
      try go_wp2
      go_ret
      exact ⟨_,zt_,by (with_reducible repeat (first | apply r1_ | apply r2_ | apply r3_));exact Kd.R_mono HO302.out (fun _ hk => trivial),zl_ HB⟩
     ·rw [if_neg c8] at H
      exact absurd H (by simp)
    ·rw [if_neg c7] at H
     exact absurd H (by simp)
   ·rw [if_neg c6] at H
    exact absurd H (by simp)
  ·rw [if_neg c4] at H
   exact absurd H (by simp)
 ·rw [if_neg c3] at H
  exact absurd H (by simp)
def spec_l02Batch.T7 : Bool × List (List Nat × List Nat) := (true,[([],[]),([],[]),([1],[1]),([],[]),([2,3],[2,3]),([4],[4]),([5],[5]),([6],[6]),([7],[7]),([0,8],[0,8]),([],[]),([10],[10]),([],[]),([11,12],[11,12]),([13],[13]),([14],[14]),([15,9],[15]),([9,16,16],[9,16]),([17,17,0,1,2,3,4,5,6,7,8,9,10,11,12,13,14,15,16,17],[0,17])])
def spec_l02Batch.B7 : List Nat := [0,0,2,0,14,30,62,126,254,511,0,1024,0,7168,15360,31744,65535,131071,262143]
theorem spec_l02Batch.tab7 : rtab .any (opsOf Try.f42 7) = spec_l02Batch.T7 := by kernel_rfl
theorem spec_l02Batch.bits7 : waitsOk spec_l02Batch.T7.2 spec_l02Batch.B7 = true := by kernel_rfl
set_option maxHeartbeats 8000000 in
set_option maxRecDepth 100000 in
theorem spec_l02Batch.calls (k : Nat) (a0_0 : Bool) (a0_1 : Int) (a0_2 : Int) (a0_3 : Int) (a0_4 : Int) (a0_5 : ByteArray) (A0_6 : Option Addr) (c0_6 : Nat) (l0_6 : List (S70)) (r : List Int) (w : World) (hr0_6 : Kd.C k70 w A0_6 l0_6.length l0_6) (hc0_6 : l0_6.length ≤ c0_6) (h : spec_l02Batch.f k a0_0 a0_1 a0_2 a0_3 a0_4 a0_5 l0_6 = some r) :
  Calls Try.prog 42 #[.agg #[.bool a0_0,.int .i64 a0_1,.int .i64 a0_2,.int .i64 a0_3,.int .i64 a0_4,.string a0_5,.slice A0_6 l0_6.length c0_6]] w fun e w' => ∃ v0_ : Value,e = .returned (v0_) ∧ Kd.R (Kd.int .u8) 5 w' w.heap.size (fun _ => True) v0_ r ∧ Below w.heap.size w w' := by
 have hu41 := Try.underlying41
 have hu33 := Try.underlying33
 have HR0_6 := am_ hr0_6
 have HC0_6 := am_ hc0_6
 clear hr0_6 hc0_6
 have HB := am_ (Below.refl w.heap.size w)
 have H : (if a0_0 = true then (some (([0] : List Int))) else (spec_l02Batch.l0 k (([(wrap64 (1 + (l0_6.length : Int))) % 256] : List Int)) 0 a0_0 a0_1 a0_2 a0_3 a0_4 a0_5 l0_6)) = some r := h
 clear h
 by_cases c2 : a0_0 = true
 ·subst c2
  have H1 : (some (([0] : List Int))) = some r := by rw [if_pos rfl] at H;exact H
  clear H
  have H := H1
  clear H1
  obtain ⟨y304,hy304⟩ : ∃ y_ : List Int,y_ = (([0] : List Int)) := ⟨_,rfl⟩
  replace H : (some y304) = some r := by first | (rw [hy304];with_reducible exact H) | (have H2_ := (Option.bind_some _ _).symm.trans H;rw [hy304];with_reducible exact H2_) | (have H2_ := (Option.bind_some _ _).symm.trans H;with_reducible exact H2_) | with_reducible exact H | (rw [hy304];exact H) | exact H
  have Ny304 := am_ hy304
  clear hy304
  obtain rfl := Option.some.inj H
  go_enter Try.func42,Try.ntmps42
  go_wp2_with (first | ((with_reducible refine gate_dst (N := 1) rfl ?_);refine zbx (N := 1) (cs := #[.bool true,.int .i64 a0_1,.int .i64 a0_2,.int .i64 a0_3,.int .i64 a0_4,.string a0_5,.slice A0_6 l0_6.length c0_6]) (t := 41) ?_;intro gb303 hg w3 hbox hb;have BK303 := am_ (hbox);have GW303 := zw_ HB hg;have GE303 := zw_ HB hg;replace HB := zs_ HB hb;clear hb hbox hg;obtain ⟨hcz4_0,hcz4_1,hcz4_2,hcz4_3,hcz4_4,hcz4_5,hcz4_6,hfz4_0,hfz4_1,hfz4_2,hfz4_3,hfz4_4,hfz4_5,hfz4_6⟩ := zc7 BK303) | ((with_reducible refine gate_dst (N := 7) rfl ?_);refine Kd.R_lit (Kd.int .u8) _ 5 ?hg (N := 7) ?hd (xs := ([0] : List Int)) (inner := [.int .u8 0]) (ok := fun _ => True) (okp := fun _ => True) ?hr ?hp (fun _ hk => hk) trivial (Below.refl _ _) (Nat.le_refl _) (by simp) ?_;(case hd => rfl);(case hg => rfl);(case hr => first | (go_simp;done) | (go_simp;rfl));(case hp => exact (Reps.one (show Kd.M (Kd.int .u8) _ _ _ 0 [.int .u8 0] from rfl) (Reps.none _ _)));intro v305 w5 ho6 hb hg_ hnew_;clear hg_ hnew_;(first | rw [← Ny304.out] at ho6 | (simp only [Int.reduceToNat] at ho6;rw [← Ny304.out] at ho6));have HO306 := am_ (Kd.R_lower ho6 (below_size (zl_ HB)));replace BK303 := zb BK303 hb;replace HB := zs_ HB hb;clear hb ho6))
  go_ret
  exact ⟨_,zt_,by (with_reducible repeat (first | apply r1_ | apply r2_ | apply r3_));exact HO306.out,zl_ HB⟩
 ·replace c2 := Bool.eq_false_iff.mpr c2
  subst c2
  have H1 : (spec_l02Batch.l0 k (([(wrap64 (1 + (l0_6.length : Int))) % 256] : List Int)) 0 false a0_1 a0_2 a0_3 a0_4 a0_5 l0_6) = some r := by rw [if_neg (show ¬ (false = true) by decide)] at H;exact H
  clear H
  have H := H1
  clear H1
  obtain ⟨y307,hy307⟩ : ∃ y_ : List Int,y_ = (([(wrap64 (1 + (l0_6.length : Int))) % 256] : List Int)) := ⟨_,rfl⟩
  replace H : (spec_l02Batch.l0 k y307 0 false a0_1 a0_2 a0_3 a0_4 a0_5 l0_6) = some r := by first | (rw [hy307];with_reducible exact H) | (have H2_ := (Option.bind_some _ _).symm.trans H;rw [hy307];with_reducible exact H2_) | (have H2_ := (Option.bind_some _ _).symm.trans H;with_reducible exact H2_) | with_reducible exact H | (rw [hy307];exact H) | exact H
  have Ny307 := am_ hy307
  clear hy307
  have H' := am_ H
  clear H
  go_enter Try.func42,Try.ntmps42
  go_wp2_with (first | ((with_reducible refine gate_dst (N := 1) rfl ?_);refine zbx (N := 1) (cs := #[.bool false,.int .i64 a0_1,.int .i64 a0_2,.int .i64 a0_3,.int .i64 a0_4,.string a0_5,.slice A0_6 l0_6.length c0_6]) (t := 41) ?_;intro gb303 hg w7 hbox hb;have BK303 := am_ (hbox);have GW303 := zw_ HB hg;have GE303 := zw_ HB hg;replace HB := zs_ HB hb;clear hb hbox hg;obtain ⟨hcz8_0,hcz8_1,hcz8_2,hcz8_3,hcz8_4,hcz8_5,hcz8_6,hfz8_0,hfz8_1,hfz8_2,hfz8_3,hfz8_4,hfz8_5,hfz8_6⟩ := zc7 BK303) | ((with_reducible refine gate_dst (N := 13) rfl ?_);refine Kd.R_lit (Kd.int .u8) _ 5 ?hg (N := 13) ?hd (xs := ([(wrap64 (1 + (l0_6.length : Int))) % 256] : List Int)) (inner := [.int .u8 ((wrap64 (1 + (l0_6.length : Int))) % 256)]) (ok := fun _ => True) (okp := fun _ => True) ?hr ?hp (fun _ hk => hk) trivial (Below.refl _ _) (Nat.le_refl _) (by simp) ?_;(case hd => rfl);(case hg => rfl);(case hr => first | (go_simp;done) | (go_simp;rfl));(case hp => exact (Reps.one (show Kd.M (Kd.int .u8) _ _ _ ((wrap64 (1 + (l0_6.length : Int))) % 256) [.int .u8 ((wrap64 (1 + (l0_6.length : Int))) % 256)] from rfl) (Reps.none _ _)));intro v308 w9 ho10 hb hg_ hnew_;clear hg_ hnew_;(first | rw [← Ny307.out] at ho10 | (simp only [Int.reduceToNat] at ho10;rw [← Ny307.out] at ho10));have HO309 := am_ (Kd.R_lower ho10 (below_size (zl_ HB)));replace BK303 := zb BK303 hb;replace HB := zs_ HB hb;clear hb ho10))
  go_loopg [3,4] k (fun kq v3 v4 w' => ∃ (x3_1 : List Int) (x4_1 : Int),v4 = .int .i64 x4_1 ∧ Aside0 (spec_l02Batch.l0 kq x3_1 x4_1 false a0_1 a0_2 a0_3 a0_4 a0_5 l0_6 = some r) ∧ Aside0 (kq ≤ k) ∧ Aside0 (Kd.R (Kd.int .u8) 5 w' w.heap.size (fun _ => True) v3 x3_1) ∧ Aside0 (w'.heap[gb303]? = some (.cells #[.bool false,.int .i64 a0_1,.int .i64 a0_2,.int .i64 a0_3,.int .i64 a0_4,.string a0_5,(.slice A0_6 l0_6.length c0_6)] 41 (0,0))) ∧ Aside0 (Below w.heap.size w w'))
  case atStart => exact ⟨(y307),(0),(by first | rfl | (simp;done) | (simp [*];done)),H',⟨Nat.le_refl _⟩,⟨by (with_reducible repeat (first | apply r1_ | apply r2_ | apply r3_));exact HO309.out⟩,⟨by (with_reducible repeat (first | apply k1_ | apply k2_ | apply k3_));exact BK303.out⟩,⟨zl_ HB⟩⟩
  case round =>
   clear H'
   try clear c2
   try clear p2
   try clear c4
   try clear p6
   try clear hcz4_0
   try clear hcz4_1
   try clear hcz4_2
   try clear hcz4_3
   try clear hcz4_4
   try clear hcz4_5
   try clear hcz4_6
   try clear hcz8_0
   try clear hcz8_1
   try clear hcz8_2
   try clear hcz8_3
   try clear hcz8_4
   try clear hcz8_5
   try clear hcz8_6
   try clear hfz4_0
   try clear hfz4_1
   try clear hfz4_2
   try clear hfz4_3
   try clear hfz4_4
   try clear hfz4_5
   try clear hfz4_6
   try clear hfz8_0
   try clear hfz8_1
   try clear hfz8_2
   try clear hfz8_3
   try clear hfz8_4
   try clear hfz8_5
   try clear hfz8_6
   obtain ⟨x3_1,x4_1,rfl,HA,HK1,HO_3,BK303,HB⟩ := hrel
   cases gk with
   | zero => exact absurd HA.out (by simp [spec_l02Batch.l0])
   | succ k1 =>
    have H := HA.out
    clear HA
    simp only [spec_l02Batch.l0] at H
    by_cases c11 : x4_1 < (l0_6.length : Int)
    ·rw [if_pos c11] at H
     have c11b0 : decide (x4_1 < (l0_6.length : Int)) = true := decide_eq_true c11
     clear c11
     by_cases c12 : 0 ≤ x4_1
     ·rw [if_pos c12] at H
      have c12b0 : decide (0 ≤ x4_1) = true := decide_eq_true c12
      clear c12
      by_cases c13 : x3_1.length < 140737488355328
      ·rw [if_pos c13] at H
       have LMc13 := am_ c13
       clear c13
       obtain ⟨y311,hy311⟩ : ∃ y_ : List Int,y_ = (x3_1 ++ [((rd_T70 l0_6 x4_1).f0) % 256]) := ⟨_,rfl⟩
       replace H : ((spec_l02Number.f k1 ((rd_T70 l0_6 x4_1).f1) 4).bind fun t315 => (if y311.length + t315.length < 140737488355328 then ((some (y311 ++ t315 : List Int)).bind fun y318 => (if y318.length + ((rd_T70 l0_6 x4_1).f2).size < 140737488355328 then (spec_l02Batch.l0 k1 (y318 ++ bytesOf ((rd_T70 l0_6 x4_1).f2)) (wrap64 (x4_1 + 1)) false a0_1 a0_2 a0_3 a0_4 a0_5 l0_6) else (none))) else (none))) = some r := by first | (rw [hy311];with_reducible exact H) | (have H2_ := (Option.bind_some _ _).symm.trans H;rw [hy311];with_reducible exact H2_) | (have H2_ := (Option.bind_some _ _).symm.trans H;with_reducible exact H2_) | with_reducible exact H | (rw [hy311];exact H) | exact H
       have Ny311 := am_ hy311
       clear hy311
       replace H := Option.bind_eq_some_iff.mp H
       obtain ⟨t315,A140,H⟩ := H
       try dsimp only at H
       have A14 := am_ A140
       clear A140
       by_cases c15 : y311.length + t315.length < 140737488355328
       ·rw [if_pos c15] at H
        have LMc15 := am_ c15
        clear c15
        obtain ⟨y318,hy318⟩ : ∃ y_ : List Int,y_ = (y311 ++ t315) := ⟨_,rfl⟩
        replace H : (if y318.length + ((rd_T70 l0_6 x4_1).f2).size < 140737488355328 then (spec_l02Batch.l0 k1 (y318 ++ bytesOf ((rd_T70 l0_6 x4_1).f2)) (wrap64 (x4_1 + 1)) false a0_1 a0_2 a0_3 a0_4 a0_5 l0_6) else (none)) = some r := by first | (rw [hy318];with_reducible exact H) | (have H2_ := (Option.bind_some _ _).symm.trans H;rw [hy318];with_reducible exact H2_) | (have H2_ := (Option.bind_some _ _).symm.trans H;with_reducible exact H2_) | with_reducible exact H | (rw [hy318];exact H) | exact H
        have Ny318 := am_ hy318
        clear hy318
        by_cases c16 : y318.length + ((rd_T70 l0_6 x4_1).f2).size < 140737488355328
        ·rw [if_pos c16] at H
         have LMc16 := am_ c16
         clear c16
         obtain ⟨y322,hy322⟩ : ∃ y_ : List Int,y_ = (y318 ++ bytesOf ((rd_T70 l0_6 x4_1).f2)) := ⟨_,rfl⟩
         replace H : (spec_l02Batch.l0 k1 y322 (wrap64 (x4_1 + 1)) false a0_1 a0_2 a0_3 a0_4 a0_5 l0_6) = some r := by first | (rw [hy322];with_reducible exact H) | (have H2_ := (Option.bind_some _ _).symm.trans H;rw [hy322];with_reducible exact H2_) | (have H2_ := (Option.bind_some _ _).symm.trans H;with_reducible exact H2_) | with_reducible exact H | (rw [hy322];exact H) | exact H
         have Ny322 := am_ hy322
         clear hy322
         have H' := am_ H
         clear H
         obtain ⟨hcz17_0,hcz17_1,hcz17_2,hcz17_3,hcz17_4,hcz17_5,hcz17_6,hfz17_0,hfz17_1,hfz17_2,hfz17_3,hfz17_4,hfz17_5,hfz17_6⟩ := zc7 BK303
         try go_wp2
         replace HO_3 := am_ (Kd.R_drew HO_3.out)
         replace BK303 := am_ (blk_drew BK303.out)
         replace HB := am_ (below_drew1 HB.out)
         have p310 : 0 ≤ (x4_1 : Int) := o1_ (by first | (with_reducible assumption) | assumption)
         have q310 : x4_1 < (l0_6.length : Int) := o1_ (by first | (with_reducible assumption) | assumption)
         obtain ⟨ad310,e310,hx310_0,hx310_1,hx310_2⟩ := at_T70 HR0_6.out x4_1 p310 q310
         have hw310_2 := hx310_2
         have hw310_1 := hx310_1
         have hw310_0 := hx310_0
         cases e310
         replace hx310_0 := (HB.out.cell (World.block_lt_of_cell? w _ hx310_0)).trans hx310_0
         replace hx310_1 := (HB.out.cell (World.block_lt_of_cell? w _ hx310_1)).trans hx310_1
         replace hx310_2 := (HB.out.cell (World.block_lt_of_cell? w _ hx310_2)).trans hx310_2
         replace p310 := eq_true p310
         replace q310 := eq_true q310
         have p314 : 0 ≤ (x4_1 : Int) := o1_ (by first | (with_reducible assumption) | assumption)
         have q314 : x4_1 < (l0_6.length : Int) := o1_ (by first | (with_reducible assumption) | assumption)
         obtain ⟨ad314,e314,hx314_0,hx314_1,hx314_2⟩ := at_T70 HR0_6.out x4_1 p314 q314
         have hw314_2 := hx314_2
         have hw314_1 := hx314_1
         have hw314_0 := hx314_0
         obtain rfl : ad310 = ad314 := (by injection e314)
         replace hx314_0 := (HB.out.cell (World.block_lt_of_cell? w _ hx314_0)).trans hx314_0
         replace hx314_1 := (HB.out.cell (World.block_lt_of_cell? w _ hx314_1)).trans hx314_1
         replace hx314_2 := (HB.out.cell (World.block_lt_of_cell? w _ hx314_2)).trans hx314_2
         replace p314 := eq_true p314
         replace q314 := eq_true q314
         refine start_ (n := 19) (S := fun w' => w'.cell? ⟨gb303,0,none⟩ = some (.bool false) ∧ w'.cell? ⟨gb303,1,none⟩ = some (.int .i64 a0_1) ∧ w'.cell? ⟨gb303,2,none⟩ = some (.int .i64 a0_2) ∧ w'.cell? ⟨gb303,3,none⟩ = some (.int .i64 a0_3) ∧ w'.cell? ⟨gb303,4,none⟩ = some (.int .i64 a0_4) ∧ w'.cell? ⟨gb303,5,none⟩ = some (.string a0_5) ∧ w'.cell? ⟨gb303,6,none⟩ = some (.slice (some ad310) l0_6.length c0_6) ∧ w'.cell? (ad310.add ((x4_1).toNat * 3)) = some (.int .i64 ((rd_T70 l0_6 x4_1).f0)) ∧ w'.cell? ⟨(ad310.add ((x4_1).toNat * 3)).block,(ad310.add ((x4_1).toNat * 3)).off + 1,none⟩ = some (.int .i64 ((rd_T70 l0_6 x4_1).f1)) ∧ w'.cell? ⟨(ad310.add ((x4_1).toNat * 3)).block,(ad310.add ((x4_1).toNat * 3)).off + 2,none⟩ = some (.string ((rd_T70 l0_6 x4_1).f2)) ∧ w'.cell? (ad310.add ((x4_1).toNat * 3)) = some (.int .i64 ((rd_T70 l0_6 x4_1).f0)) ∧ w'.cell? ⟨(ad310.add ((x4_1).toNat * 3)).block,(ad310.add ((x4_1).toNat * 3)).off + 1,none⟩ = some (.int .i64 ((rd_T70 l0_6 x4_1).f1)) ∧ w'.cell? ⟨(ad310.add ((x4_1).toNat * 3)).block,(ad310.add ((x4_1).toNat * 3)).off + 2,none⟩ = some (.string ((rd_T70 l0_6 x4_1).f2))) (ds := []) #[false,false,false,false,false,false,false,false,false,false,false,false,false,false,false,false,false,false,false] (by kernel_rfl) rfl rfl ⟨(blk_cell BK303.out 0).trans rfl,(blk_cell BK303.out 1).trans rfl,(blk_cell BK303.out 2).trans rfl,(blk_cell BK303.out 3).trans rfl,(blk_cell BK303.out 4).trans rfl,(blk_cell BK303.out 5).trans rfl,(blk_cell BK303.out 6).trans rfl,((HB.out.cell (World.block_lt_of_cell? w _ hw310_0)).trans hw310_0),((HB.out.cell (World.block_lt_of_cell? w _ hw310_1)).trans hw310_1),((HB.out.cell (World.block_lt_of_cell? w _ hw310_2)).trans hw310_2),((HB.out.cell (World.block_lt_of_cell? w _ hw314_0)).trans hw314_0),((HB.out.cell (World.block_lt_of_cell? w _ hw314_1)).trans hw314_1),((HB.out.cell (World.block_lt_of_cell? w _ hw314_2)).trans hw314_2)⟩ (fun hHeld => ?_);refine with_tabW spec_l02Batch.tab7 spec_l02Batch.bits7 (fun HT_ HW_ => ?_)
         generalize wr.drew = w18 at HO_3 BK303 HB hx310_0 hx310_1 hx310_2 hx314_0 hx314_1 hx314_2 hHeld ⊢
         refine zpu 0 (N := some 21) #[true,false,false,false,false,false,false,false,false,false,false,false,false,false,false,false,false,false,false] HT_ ?_
         refine zpu 1 (N := some 22) #[true,true,false,false,false,false,false,false,false,false,false,false,false,false,false,false,false,false,false] HT_ ?_
         refine zpu 3 (N := some 24) #[true,true,false,true,false,false,false,false,false,false,false,false,false,false,false,false,false,false,false] HT_ ?_
         refine zpu 10 (N := some 31) #[true,true,false,true,false,false,false,false,false,false,true,false,false,false,false,false,false,false,false] HT_ ?_
         refine zpu 12 (N := some 33) #[true,true,false,true,false,false,false,false,false,false,true,false,true,false,false,false,false,false,false] HT_ ?_
         refine ztk 2 (N := some 23) #[true,true,true,true,false,false,false,false,false,false,true,false,true,false,false,false,false,false,false] HT_ HW_ hHeld ?_
         refine zpu 4 (N := some 25) #[true,true,true,true,true,false,false,false,false,false,true,false,true,false,false,false,false,false,false] HT_ ?_
         refine zpu 5 (N := some 26) #[true,true,true,true,true,true,false,false,false,false,true,false,true,false,false,false,false,false,false] HT_ ?_
         refine ztk 6 (N := some 27) #[true,true,true,true,true,true,true,false,false,false,true,false,true,false,false,false,false,false,false] HT_ HW_ hHeld ?_
         refine zpu 7 (N := some 28) #[true,true,true,true,true,true,true,true,false,false,true,false,true,false,false,false,false,false,false] HT_ ?_
         refine ztk 11 (N := some 32) #[true,true,true,true,true,true,true,true,false,false,true,true,true,false,false,false,false,false,false] HT_ HW_ hHeld ?_
         refine zpu 13 (N := some 34) #[true,true,true,true,true,true,true,true,false,false,true,true,true,true,false,false,false,false,false] HT_ ?_
         refine zpu 14 (N := some 35) #[true,true,true,true,true,true,true,true,false,false,true,true,true,true,true,false,false,false,false] HT_ ?_
         refine ztk 15 (N := some 36) #[true,true,true,true,true,true,true,true,false,false,true,true,true,true,true,true,false,false,false] HT_ HW_ hHeld ?_
         refine one_ (i := 8) (N := some 29) #[true,true,true,true,true,true,true,true,true,false,true,true,true,true,true,true,false,false,false] rfl rfl (one_of HT_.out (by kernel_rfl)) (by decide) (fun K hK => ?_)
         refine value_ (w1 := ?_) (v := ?_) (by rfl) rfl ?_ ?_
         rotate_left 2
         ·go_simp
          constructor
          ·rfl
          ·rfl
         refine hK.out _ _ ⟨(blk_cell (blk_alloc BK303.out _) 0).trans rfl,(blk_cell (blk_alloc BK303.out _) 1).trans rfl,(blk_cell (blk_alloc BK303.out _) 2).trans rfl,(blk_cell (blk_alloc BK303.out _) 3).trans rfl,(blk_cell (blk_alloc BK303.out _) 4).trans rfl,(blk_cell (blk_alloc BK303.out _) 5).trans rfl,(blk_cell (blk_alloc BK303.out _) 6).trans rfl,(World.cell?_alloc_lt _ _ _ (World.block_lt_of_cell? _ _ (((HB.out.cell (World.block_lt_of_cell? w _ hw310_0)).trans hw310_0)))).trans (((HB.out.cell (World.block_lt_of_cell? w _ hw310_0)).trans hw310_0)),(World.cell?_alloc_lt _ _ _ (World.block_lt_of_cell? _ _ (((HB.out.cell (World.block_lt_of_cell? w _ hw310_1)).trans hw310_1)))).trans (((HB.out.cell (World.block_lt_of_cell? w _ hw310_1)).trans hw310_1)),(World.cell?_alloc_lt _ _ _ (World.block_lt_of_cell? _ _ (((HB.out.cell (World.block_lt_of_cell? w _ hw310_2)).trans hw310_2)))).trans (((HB.out.cell (World.block_lt_of_cell? w _ hw310_2)).trans hw310_2)),(World.cell?_alloc_lt _ _ _ (World.block_lt_of_cell? _ _ (((HB.out.cell (World.block_lt_of_cell? w _ hw314_0)).trans hw314_0)))).trans (((HB.out.cell (World.block_lt_of_cell? w _ hw314_0)).trans hw314_0)),(World.cell?_alloc_lt _ _ _ (World.block_lt_of_cell? _ _ (((HB.out.cell (World.block_lt_of_cell? w _ hw314_1)).trans hw314_1)))).trans (((HB.out.cell (World.block_lt_of_cell? w _ hw314_1)).trans hw314_1)),(World.cell?_alloc_lt _ _ _ (World.block_lt_of_cell? _ _ (((HB.out.cell (World.block_lt_of_cell? w _ hw314_2)).trans hw314_2)))).trans (((HB.out.cell (World.block_lt_of_cell? w _ hw314_2)).trans hw314_2))⟩ (fun hHeld => ?_)
         clear hK K
         refine norm_ (a' := ?_) ?_ ?_
         rotate_left
         ·show Act.put _ (some 29) _ = _
          simp only [Act.put,p1_,p2_,p3_,i64_w,i32_w]
          rfl
         refine one_ (i := 9) (N := some 30) #[true,true,true,true,true,true,true,true,true,true,true,true,true,true,true,true,false,false,false] rfl rfl (one_of HT_.out (by kernel_rfl)) (by decide) (fun K hK => ?_)
         refine Kd.R_append_step (Kd.int .u8) (w0 := w) w.heap.size (by rfl) (.tmp 21) (.tmp 29) 22 5 (.int .u8 0) 1 rfl Try.underlying22 info5 rfl (by decide) (by omega) u3 x3_1 (((rd_T70 l0_6 x4_1).f0) % 256) [.int .u8 (((rd_T70 l0_6 x4_1).f0) % 256)] (fun _ => True) (fun _ => False) rfl rfl ?aP (fun _ hk => hk.elim) ?aF ?aO ?aB ?aS ?aL ?_
         (case aP => exact rfl)
         (case aB => exact (zl_ HB))
         (case aF => exact (fun _ _ => trivial))
         (case aO => exact (zr HO_3))
         (case aS => exact (below_size (zl_ HB)))
         (case aL => have := LMc13.out;omega)
         intro v312 w19 ho hb hg hat
         rw [← Ny311.out] at ho
         replace BK303 := am_ (blk_grown (g := gb303) (o := .cells #[.bool false,.int .i64 a0_1,.int .i64 a0_2,.int .i64 a0_3,.int .i64 a0_4,.string a0_5,.slice (some ad310) l0_6.length c0_6] 41 (0,0)) (zk BK303) hg (Kd.R_ne HO_3.out BK303.out (by decide)))
         replace HB := am_ (hb)
         have HO313 := am_ (ho)
         clear HO_3
         clear ho hb hg hat
         refine hK.out _ _ ⟨(blk_cell BK303.out 0).trans rfl,(blk_cell BK303.out 1).trans rfl,(blk_cell BK303.out 2).trans rfl,(blk_cell BK303.out 3).trans rfl,(blk_cell BK303.out 4).trans rfl,(blk_cell BK303.out 5).trans rfl,(blk_cell BK303.out 6).trans rfl,((HB.out.cell (World.block_lt_of_cell? w _ hw310_0)).trans hw310_0),((HB.out.cell (World.block_lt_of_cell? w _ hw310_1)).trans hw310_1),((HB.out.cell (World.block_lt_of_cell? w _ hw310_2)).trans hw310_2),((HB.out.cell (World.block_lt_of_cell? w _ hw314_0)).trans hw314_0),((HB.out.cell (World.block_lt_of_cell? w _ hw314_1)).trans hw314_1),((HB.out.cell (World.block_lt_of_cell? w _ hw314_2)).trans hw314_2)⟩ (fun hHeld => ?_)
         clear hK K
         refine norm_ (a' := ?_) ?_ ?_
         rotate_left
         ·show Act.put _ (some 30) _ = _
          simp only [Act.put,p1_,p2_,p3_,i64_w,i32_w]
          rfl
         refine one_ (i := 16) (N := some 37) #[true,true,true,true,true,true,true,true,true,true,true,true,true,true,true,true,true,false,false] rfl rfl (one_of HT_.out (by kernel_rfl)) (by decide) (fun K hK => ?_)
         refine goes_ Try.func58 (by kernel_rfl) rfl #[.int .i64 ((rd_T70 l0_6 x4_1).f1),.int .i64 4] (by rfl) rfl rfl (by (try simp only [m1_,m2_,m3_]);first | done | rfl | (simp only [d1_,d2_];rfl)) ?_
         with_reducible refine (spec_l02Number.calls k1 ((rd_T70 l0_6 x4_1).f1) 4 t315 _ A14.out).mono ?_
         rintro e w20 ⟨v316,rfl,ho0,hb⟩
         refine ⟨_,rfl,?_⟩
         have HO317 := am_ (Kd.R_lower (Kd.R_new' ho0 (Kd.R_lt (zr HO313))) (below_size (zl_ HB)))
         replace HO313 := am_ (Kd.R_elder' (zr HO313) (Kd.R_base ho0) hb)
         replace BK303 := zb BK303 hb
         replace HB := zs_ HB hb
         (try clear hb)
         (try clear hb2)
         (try clear hk)
         (try clear hi)
         (try clear ho0)
         obtain ⟨Ao22,co22,eo22⟩ := Kd.R_slice HO317.out
         (first | subst eo22 | (injection eo22 with f1_ f2_ f3_;have f4_ := f1_.symm;have f5_ := f3_.symm;clear f1_ f2_ f3_;subst f4_;subst f5_))
         refine hK.out _ _ ⟨(blk_cell BK303.out 0).trans rfl,(blk_cell BK303.out 1).trans rfl,(blk_cell BK303.out 2).trans rfl,(blk_cell BK303.out 3).trans rfl,(blk_cell BK303.out 4).trans rfl,(blk_cell BK303.out 5).trans rfl,(blk_cell BK303.out 6).trans rfl,((HB.out.cell (World.block_lt_of_cell? w _ hw310_0)).trans hw310_0),((HB.out.cell (World.block_lt_of_cell? w _ hw310_1)).trans hw310_1),((HB.out.cell (World.block_lt_of_cell? w _ hw310_2)).trans hw310_2),((HB.out.cell (World.block_lt_of_cell? w _ hw314_0)).trans hw314_0),((HB.out.cell (World.block_lt_of_cell? w _ hw314_1)).trans hw314_1),((HB.out.cell (World.block_lt_of_cell? w _ hw314_2)).trans hw314_2)⟩ (fun hHeld => ?_)
         clear hK K
         refine norm_ (a' := ?_) ?_ ?_
         rotate_left
         ·show Act.put _ (some 37) _ = _
          simp only [Act.put,p1_,p2_,p3_,i64_w,i32_w]
          rfl
         refine one_ (i := 17) (N := some 38) #[true,true,true,true,true,true,true,true,true,true,true,true,true,true,true,true,true,true,false] rfl rfl (one_of HT_.out (by kernel_rfl)) (by decide) (fun K hK => ?_)
         refine Kd.R_append_rows_step (Kd.int .u8) (w0 := w) w.heap.size (by rfl) (.tmp 30) (.tmp 37) 22 5 (.int .u8 0) 1 rfl Try.underlying22 info5 rfl (by decide) (by omega) v312 y311 t315 _ _ _ (fun k_ => some k_ ≠ (.slice Ao22 t315.length co22 : Value).ownBlock) (fun _ => False) rfl rfl ?aO ?aR (fun _ _ h => h) (fun _ h => h.elim) ?aF ?aB ?aS ?aL ?_
         (case aR => repeat (first | exact (Kd.R_reads' HO317.out).2.2 | (with_reducible refine Kd.C_alloc ?_ _) | (with_reducible refine Kd.C_drewN ?_ _) | (with_reducible refine Kd.C_drew ?_)))
         (case aB => exact (zl_ HB))
         (case aF => exact (fun k_ hk => Kd.fresh' (Kd.R_lt (zr HO317)) k_ hk))
         (case aO => exact (by (with_reducible repeat (first | apply r1_ | apply r2_ | apply r3_));exact Kd.R_mono HO313.out (fun _ hk => hk.2)))
         (case aS => exact (below_size (zl_ HB)))
         (case aL => have := LMc15.out;omega)
         intro v319 w21 ho hb hg hat
         rw [← Ny318.out] at ho
         replace BK303 := am_ (blk_grown (g := gb303) (o := .cells #[.bool false,.int .i64 a0_1,.int .i64 a0_2,.int .i64 a0_3,.int .i64 a0_4,.string a0_5,.slice (some ad310) l0_6.length c0_6] 41 (0,0)) (zk BK303) hg (Kd.R_ne HO313.out BK303.out (by decide)))
         replace HO317 := am_ (Kd.R_after (ok := (fun _ => True)) (zr HO317) hg hat)
         replace HB := am_ (hb)
         have HO320 := am_ (ho)
         clear HO313
         clear ho hb hg hat
         refine hK.out _ _ ⟨(blk_cell BK303.out 0).trans rfl,(blk_cell BK303.out 1).trans rfl,(blk_cell BK303.out 2).trans rfl,(blk_cell BK303.out 3).trans rfl,(blk_cell BK303.out 4).trans rfl,(blk_cell BK303.out 5).trans rfl,(blk_cell BK303.out 6).trans rfl,((HB.out.cell (World.block_lt_of_cell? w _ hw310_0)).trans hw310_0),((HB.out.cell (World.block_lt_of_cell? w _ hw310_1)).trans hw310_1),((HB.out.cell (World.block_lt_of_cell? w _ hw310_2)).trans hw310_2),((HB.out.cell (World.block_lt_of_cell? w _ hw314_0)).trans hw314_0),((HB.out.cell (World.block_lt_of_cell? w _ hw314_1)).trans hw314_1),((HB.out.cell (World.block_lt_of_cell? w _ hw314_2)).trans hw314_2)⟩ (fun hHeld => ?_)
         clear hK K
         refine norm_ (a' := ?_) ?_ ?_
         rotate_left
         ·show Act.put _ (some 38) _ = _
          simp only [Act.put,p1_,p2_,p3_,i64_w,i32_w]
          rfl
         refine zpu 18 (N := some 3) #[true,true,true,true,true,true,true,true,true,true,true,true,true,true,true,true,true,true,true] HT_ ?_
         refine done_ (done_of HT_.out (by kernel_rfl)) ?_
         obtain ⟨hcz23_0,hcz23_1,hcz23_2,hcz23_3,hcz23_4,hcz23_5,hcz23_6,hfz23_0,hfz23_1,hfz23_2,hfz23_3,hfz23_4,hfz23_5,hfz23_6⟩ := zc7 BK303
         have p321 : 0 ≤ (x4_1 : Int) := o1_ (by first | (with_reducible assumption) | assumption)
         have q321 : x4_1 < (l0_6.length : Int) := o1_ (by first | (with_reducible assumption) | assumption)
         obtain ⟨ad321,e321,hx321_0,hx321_1,hx321_2⟩ := at_T70 HR0_6.out x4_1 p321 q321
         obtain rfl : ad310 = ad321 := (by injection e321)
         replace hx321_0 := (HB.out.cell (World.block_lt_of_cell? w _ hx321_0)).trans hx321_0
         replace hx321_1 := (HB.out.cell (World.block_lt_of_cell? w _ hx321_1)).trans hx321_1
         replace hx321_2 := (HB.out.cell (World.block_lt_of_cell? w _ hx321_2)).trans hx321_2
         replace p321 := eq_true p321
         replace q321 := eq_true q321
         try go_wp2_with (first | (at_builtin;refine Kd.R_append_str (Kd.int .u8) rfl (w0 := w) w.heap.size rfl (.tmp 39) _ 22 9 5 rfl Try.underlying22 Try.underlying9 info5 v319 y318 ((rd_T70 l0_6 x4_1).f2) (fun k_ => some k_ ≠ (.slice Ao22 t315.length co22 : Value).ownBlock) rfl rfl ?aO ?aF ?aB ?aS ?aL ?_;(case aB => exact (zl_ HB));(case aF => exact (fun k_ hk => Kd.fresh' (Kd.R_lt (zr HO317)) k_ hk));(case aO => exact (zr HO320));(case aS => exact (below_size (zl_ HB)));(case aL => have := LMc16.out;omega);intro v323 w24 ho hb hg hat;rw [← Ny322.out] at ho;replace BK303 := am_ (blk_grown (g := gb303) (o := .cells #[.bool false,.int .i64 a0_1,.int .i64 a0_2,.int .i64 a0_3,.int .i64 a0_4,.string a0_5,.slice (some ad310) l0_6.length c0_6] 41 (0,0)) (zk BK303) hg (Kd.R_ne HO320.out BK303.out (by decide)));replace HB := am_ (hb);have HO324 := am_ (ho);clear HO320;clear ho hb hg hat))
         go_roundg k1
         case measure => have := HK1.out;omega
         case rel => exact ⟨(y322),(wrap64 (x4_1 + 1)),(by first | rfl | (simp;done) | (simp [*];done)),H',⟨by have := HK1.out;omega⟩,⟨by (with_reducible repeat (first | apply r1_ | apply r2_ | apply r3_));exact Kd.R_mono HO324.out (fun _ hk => trivial)⟩,⟨by (with_reducible repeat (first | apply k1_ | apply k2_ | apply k3_));exact BK303.out⟩,⟨zl_ HB⟩⟩
        ·rw [if_neg c16] at H
         exact absurd H (by simp)
       ·rw [if_neg c15] at H
        exact absurd H (by simp)
      ·rw [if_neg c13] at H
       exact absurd H (by simp)
     ·rw [if_neg c12] at H
      exact absurd H (by simp)
    ·rw [if_neg c11] at H
     have c11b0 : decide (x4_1 < (l0_6.length : Int)) = false := decide_eq_false c11
     clear c11
     replace H := Option.bind_eq_some_iff.mp H
     obtain ⟨t325,A250,H⟩ := H
     try dsimp only at H
     have A25 := am_ A250
     clear A250
     by_cases c26 : x3_1.length + t325.length < 140737488355328
     ·rw [if_pos c26] at H
      have LMc26 := am_ c26
      clear c26
      obtain ⟨y328,hy328⟩ : ∃ y_ : List Int,y_ = (x3_1 ++ t325) := ⟨_,rfl⟩
      replace H : (some y328) = some r := by first | (rw [hy328];with_reducible exact H) | (have H2_ := (Option.bind_some _ _).symm.trans H;rw [hy328];with_reducible exact H2_) | (have H2_ := (Option.bind_some _ _).symm.trans H;with_reducible exact H2_) | with_reducible exact H | (rw [hy328];exact H) | exact H
      have Ny328 := am_ hy328
      clear hy328
      obtain rfl := Option.some.inj H
      obtain ⟨hcz27_0,hcz27_1,hcz27_2,hcz27_3,hcz27_4,hcz27_5,hcz27_6,hfz27_0,hfz27_1,hfz27_2,hfz27_3,hfz27_4,hfz27_5,hfz27_6⟩ := zc7 BK303
      go_wp2_with (first | ((with_reducible refine gate_callee (f := 34) rfl ?_);refine zgl (some 50) Try.func34 #[.agg #[.int .i64 a0_1,.int .i64 a0_2,.int .i64 a0_3,.int .i64 a0_4,.string a0_5]] ?_;(with_reducible refine (spec_l02Request.calls k1 a0_1 a0_2 a0_3 a0_4 a0_5 t325 _ A25.out).mono ?_);rintro e w28 ⟨v326,rfl,ho0,hb⟩;refine ⟨_,rfl,?_⟩;have HO327 := am_ (Kd.R_lower (Kd.R_new' ho0 (Kd.R_lt (zr HO_3))) (below_size (zl_ HB)));replace HO_3 := am_ (Kd.R_elder' (zr HO_3) (Kd.R_base ho0) hb);replace HB := zs_ HB hb;(try clear hb);(try clear hb2);(try clear hk);(try clear hi);(try clear ho0);obtain ⟨Ao30,co30,eo30⟩ := Kd.R_slice HO327.out;subst eo30) | ((with_reducible refine gate_builtin (b := .append) (xs := #[.tmp 47,.tmp 50]) rfl ?_);at_builtin;refine Kd.R_append_rows (Kd.int .u8) (w0 := w) w.heap.size rfl (.tmp 47) (.tmp 50) 22 5 (.int .u8 0) 1 rfl Try.underlying22 info5 rfl (by decide) (by omega) u3 x3_1 t325 _ _ _ (fun k_ => some k_ ≠ (.slice Ao30 t325.length co30 : Value).ownBlock) (fun _ => False) rfl rfl ?aO ?aR (fun _ _ h => h) (fun _ h => h.elim) ?aF ?aB ?aS ?aL ?_;(case aR => repeat (first | exact (Kd.R_reads' HO327.out).2.2 | (with_reducible refine Kd.C_alloc ?_ _) | (with_reducible refine Kd.C_drewN ?_ _) | (with_reducible refine Kd.C_drew ?_)));(case aB => exact (zl_ HB));(case aF => exact (fun k_ hk => Kd.fresh' (Kd.R_lt (zr HO327)) k_ hk));(case aO => exact (by (with_reducible repeat (first | apply r1_ | apply r2_ | apply r3_));exact Kd.R_mono HO_3.out (fun _ hk => hk.2)));(case aS => exact (below_size (zl_ HB)));(case aL => have := LMc26.out;omega);intro v329 w29 ho hb hg hat;rw [← Ny328.out] at ho;replace HB := am_ (hb);have HO330 := am_ (ho);clear HO_3;clear ho hb hg hat))
      go_ret
      exact ⟨_,zt_,by (with_reducible repeat (first | apply r1_ | apply r2_ | apply r3_));exact Kd.R_mono HO330.out (fun _ hk => trivial),zl_ HB⟩
     ·rw [if_neg c26] at H
      exact absurd H (by simp)
set_option maxHeartbeats 8000000 in
set_option maxRecDepth 100000 in
theorem spec_l01In.calls (a0 : Int) (a1 : Int) (a2 : Int) (r : Bool) (w : World) (h : spec_l01In.f a0 a1 a2 = some r) :
  Calls Try.prog 49 #[.int .i64 a0,.int .i64 a1,.int .i64 a2] w fun e w' => e = .returned (.bool r) ∧ Drawn0 w w' := by
 have H : (if a0 ≥ a1 then (some (decide (a0 ≤ a2))) else (some false)) = some r := h
 clear h
 by_cases c4 : a0 ≥ a1
 ·rw [if_pos c4] at H
  have c4b0 : decide (a1 ≤ a0) = true := decide_eq_true c4
  clear c4
  obtain rfl := Option.some.inj H
  go_enter Try.func49,Try.ntmps49
  go_wp2
  go_ret
  exact ⟨by first | rfl | (simp;done) | (simp [*];done),by repeat (first | exact Drawn0.refl _ | apply Drawn0.step)⟩
 ·rw [if_neg c4] at H
  have c4b0 : decide (a1 ≤ a0) = false := decide_eq_false c4
  clear c4
  obtain rfl := Option.some.inj H
  go_enter Try.func49,Try.ntmps49
  go_wp2
  go_ret
  exact ⟨by first | rfl | (simp;done) | (simp [*];done),by repeat (first | exact Drawn0.refl _ | apply Drawn0.step)⟩
set_option maxHeartbeats 8000000 in
set_option maxRecDepth 100000 in
theorem spec_l00Digit.calls (a0 : Int) (r : Bool) (w : World) (h : spec_l00Digit.f a0 = some r) :
  Calls Try.prog 72 #[.int .u8 a0] w fun e w' => e = .returned (.bool r) ∧ Drawn0 w w' := by
 have H : (if a0 ≥ 48 then (some (decide (a0 ≤ 57))) else (some false)) = some r := h
 clear h
 by_cases c2 : a0 ≥ 48
 ·rw [if_pos c2] at H
  have c2b0 : decide (48 ≤ a0) = true := decide_eq_true c2
  clear c2
  obtain rfl := Option.some.inj H
  go_enter Try.func72,Try.ntmps72
  go_wp2
  go_ret
  exact ⟨by first | rfl | (simp;done) | (simp [*];done),by repeat (first | exact Drawn0.refl _ | apply Drawn0.step)⟩
 ·rw [if_neg c2] at H
  have c2b0 : decide (48 ≤ a0) = false := decide_eq_false c2
  clear c2
  obtain rfl := Option.some.inj H
  go_enter Try.func72,Try.ntmps72
  go_wp2
  go_ret
  exact ⟨by first | rfl | (simp;done) | (simp [*];done),by repeat (first | exact Drawn0.refl _ | apply Drawn0.step)⟩
set_option maxHeartbeats 8000000 in
set_option maxRecDepth 100000 in
theorem spec_l00Letter.calls (a0 : Int) (r : Bool) (w : World) (h : spec_l00Letter.f a0 = some r) :
  Calls Try.prog 71 #[.int .u8 a0] w fun e w' => e = .returned (.bool r) ∧ Drawn0 w w' := by
 have H : (if a0 ≥ 97 then (if a0 ≤ 122 then (some true) else (if a0 ≥ 65 then (if a0 ≤ 90 then (some true) else (some (a0 == 95))) else (some (a0 == 95)))) else (if a0 ≥ 65 then (if a0 ≤ 90 then (some true) else (some (a0 == 95))) else (some (a0 == 95)))) = some r := h
 clear h
 by_cases c2 : a0 ≥ 97
 ·rw [if_pos c2] at H
  have c2b0 : decide (97 ≤ a0) = true := decide_eq_true c2
  clear c2
  by_cases c3 : a0 ≤ 122
  ·rw [if_pos c3] at H
   have c3b0 : decide (a0 ≤ 122) = true := decide_eq_true c3
   clear c3
   obtain rfl := Option.some.inj H
   go_enter Try.func71,Try.ntmps71
   go_wp2
   go_ret
   exact ⟨by first | rfl | (simp;done) | (simp [*];done),by repeat (first | exact Drawn0.refl _ | apply Drawn0.step)⟩
  ·rw [if_neg c3] at H
   have c3b0 : decide (a0 ≤ 122) = false := decide_eq_false c3
   clear c3
   by_cases c4 : a0 ≥ 65
   ·rw [if_pos c4] at H
    have c4b0 : decide (65 ≤ a0) = true := decide_eq_true c4
    clear c4
    by_cases c5 : a0 ≤ 90
    ·rw [if_pos c5] at H
     have c5b0 : decide (a0 ≤ 90) = true := decide_eq_true c5
     clear c5
     obtain rfl := Option.some.inj H
     go_enter Try.func71,Try.ntmps71
     go_wp2
     go_ret
     exact ⟨by first | rfl | (simp;done) | (simp [*];done),by repeat (first | exact Drawn0.refl _ | apply Drawn0.step)⟩
    ·rw [if_neg c5] at H
     have c5b0 : decide (a0 ≤ 90) = false := decide_eq_false c5
     clear c5
     obtain rfl := Option.some.inj H
     go_enter Try.func71,Try.ntmps71
     go_wp2
     go_ret
     exact ⟨by first | rfl | (simp;done) | (simp [*];done),by repeat (first | exact Drawn0.refl _ | apply Drawn0.step)⟩
   ·rw [if_neg c4] at H
    have c4b0 : decide (65 ≤ a0) = false := decide_eq_false c4
    clear c4
    obtain rfl := Option.some.inj H
    go_enter Try.func71,Try.ntmps71
    go_wp2
    go_ret
    exact ⟨by first | rfl | (simp;done) | (simp [*];done),by repeat (first | exact Drawn0.refl _ | apply Drawn0.step)⟩
 ·rw [if_neg c2] at H
  have c2b0 : decide (97 ≤ a0) = false := decide_eq_false c2
  clear c2
  by_cases c6 : a0 ≥ 65
  ·rw [if_pos c6] at H
   have c6b0 : decide (65 ≤ a0) = true := decide_eq_true c6
   clear c6
   by_cases c7 : a0 ≤ 90
   ·rw [if_pos c7] at H
    have c7b0 : decide (a0 ≤ 90) = true := decide_eq_true c7
    clear c7
    obtain rfl := Option.some.inj H
    go_enter Try.func71,Try.ntmps71
    go_wp2
    go_ret
    exact ⟨by first | rfl | (simp;done) | (simp [*];done),by repeat (first | exact Drawn0.refl _ | apply Drawn0.step)⟩
   ·rw [if_neg c7] at H
    have c7b0 : decide (a0 ≤ 90) = false := decide_eq_false c7
    clear c7
    obtain rfl := Option.some.inj H
    go_enter Try.func71,Try.ntmps71
    go_wp2
    go_ret
    exact ⟨by first | rfl | (simp;done) | (simp [*];done),by repeat (first | exact Drawn0.refl _ | apply Drawn0.step)⟩
  ·rw [if_neg c6] at H
   have c6b0 : decide (65 ≤ a0) = false := decide_eq_false c6
   clear c6
   obtain rfl := Option.some.inj H
   go_enter Try.func71,Try.ntmps71
   go_wp2
   go_ret
   exact ⟨by first | rfl | (simp;done) | (simp [*];done),by repeat (first | exact Drawn0.refl _ | apply Drawn0.step)⟩
set_option maxHeartbeats 8000000 in
set_option maxRecDepth 100000 in
theorem spec_l00Word.calls (k : Nat) (a0 : ByteArray) (r : Bool) (w : World) (h : spec_l00Word.f k a0 = some r) :
  Calls Try.prog 70 #[.string a0] w fun e w' => e = .returned (.bool r) ∧ Drawn0 w w' := by
 have H : (if (a0.size : Int) < 1 then (spec_l00Word.j0 k a0 true) else (if (a0.size : Int) > 40 then (spec_l00Word.j0 k a0 true) else (if 0 < (a0.size : Int) then ((spec_l00Letter.f (bt a0 0)).bind fun t621 => (spec_l00Word.j0 k a0 (!t621))) else (none)))) = some r := h
 clear h
 have HC2 := am_ H
 clear H
 go_enter Try.func70,Try.ntmps70
 go_upto_region 1 with (fail)
 go_cut [17] (fun v17 wc => ∃ (kq : Nat) (x17_1 : Bool),v17 = .bool x17_1 ∧ Aside0 (spec_l00Word.j0 kq a0 x17_1 = some r) ∧ Aside0 (kq ≤ k) ∧ Drawn0 w wc)
 case first =>
  have H := HC2.out
  clear HC2
  by_cases c3 : (a0.size : Int) < 1
  ·rw [if_pos c3] at H
   have c3b0 : decide ((a0.size : Int) < 1) = true := decide_eq_true c3
   have c3b1 : decide (a0.size < 1) = true := decide_eq_true (by omega)
   clear c3
   (first | rw [c3b0] | (simp only [i64_w,i32_w];rw [c3b0]) | skip)
   have H' := am_ H
   clear H
   go_wp2
   go_meet
   case rel => exact ⟨_,(true),(by first | rfl | (simp;done) | (simp [*];done)),H',⟨by first | omega | exact Nat.le_refl _⟩,by repeat (first | exact Drawn0.refl _ | apply Drawn0.step)⟩
  ·rw [if_neg c3] at H
   have c3b0 : decide ((a0.size : Int) < 1) = false := decide_eq_false c3
   have c3b1 : decide (a0.size < 1) = false := decide_eq_false (by omega)
   clear c3
   (first | rw [c3b0] | (simp only [i64_w,i32_w];rw [c3b0]) | skip)
   by_cases c4 : (a0.size : Int) > 40
   ·rw [if_pos c4] at H
    have c4b0 : decide (40 < (a0.size : Int)) = true := decide_eq_true c4
    have c4b1 : decide (40 < a0.size) = true := decide_eq_true (by omega)
    clear c4
    have H' := am_ H
    clear H
    go_wp2
    go_meet
    case rel => exact ⟨_,(true),(by first | rfl | (simp;done) | (simp [*];done)),H',⟨by first | omega | exact Nat.le_refl _⟩,by repeat (first | exact Drawn0.refl _ | apply Drawn0.step)⟩
   ·rw [if_neg c4] at H
    have c4b0 : decide (40 < (a0.size : Int)) = false := decide_eq_false c4
    have c4b1 : decide (40 < a0.size) = false := decide_eq_false (by omega)
    clear c4
    by_cases c5 : 0 < (a0.size : Int)
    ·rw [if_pos c5] at H
     have c5b0 : decide (0 < (a0.size : Int)) = true := decide_eq_true c5
     have c5b1 : decide (0 < a0.size) = true := decide_eq_true (by omega)
     clear c5
     replace H := Option.bind_eq_some_iff.mp H
     obtain ⟨t621,A70,H⟩ := H
     try dsimp only at H
     have A7 := am_ A70
     clear A70
     have H' := am_ H
     clear H
     have p6 : 0 ≤ (0 : Int) := (by omega)
     have q6 : 0 < a0.size := (by have : (0 : Int) < (a0.size : Int) := o1_ (by first | (with_reducible assumption) | assumption);omega)
     have hx6 : ∀ h : 0 < a0.size,((a0[0]'h).toNat : Int) = bt a0 0 := bt_at a0 0
     clear p6
     have qi6 : (0 < (a0.size : Int)) = True := eq_true (o1_ (by first | (with_reducible assumption) | assumption))
     replace q6 := eq_true q6
     go_wp2_with (first | (go_at_call 71;(with_reducible refine (spec_l00Letter.calls (bt a0 0) t621 _ A7.out).mono ?_);rintro e w' ⟨rfl,⟨nd,rfl⟩⟩))
     go_meet
     case rel => exact ⟨_,(!t621),(by first | rfl | (simp;done) | (simp [*];done)),H',⟨by first | omega | exact Nat.le_refl _⟩,by repeat (first | exact Drawn0.refl _ | apply Drawn0.step)⟩
    ·rw [if_neg c5] at H
     exact absurd H (by simp)
 case rest =>
  clear HC2
  try clear p2
  try clear c3
  try clear c3b0
  try clear c3b1
  try clear c4
  try clear c4b0
  try clear c4b1
  try clear c5
  try clear c5b0
  try clear c5b1
  try clear p6
  try clear q6
  try clear hx6
  try clear qi6
  try clear c7
  try clear p6
  try clear q6
  obtain ⟨kq,x17_1,rfl,HA,HJ1,⟨mc1,rfl⟩⟩ := hcut
  cases kq with
  | zero => exact absurd HA.out (by simp [spec_l00Word.j0])
  | succ kj1 =>
   have H := HA.out
   clear HA
   simp only [spec_l00Word.j0] at H
   by_cases c8 : x17_1 = true
   ·subst c8
    have H1 : (some false) = some r := by rw [if_pos rfl] at H;exact H
    clear H
    have H := H1
    clear H1
    obtain rfl := Option.some.inj H
    go_wp2
    go_ret
    exact ⟨by first | rfl | (simp;done) | (simp [*];done),by repeat (first | exact Drawn0.refl _ | apply Drawn0.step)⟩
   ·replace c8 := Bool.eq_false_iff.mpr c8
    subst c8
    have H1 : (spec_l00Word.l0 kj1 a0 1) = some r := by rw [if_neg (show ¬ (false = true) by decide)] at H;exact H
    clear H
    have H := H1
    clear H1
    have H' := am_ H
    clear H
    go_wp2
    go_loopg [3] kj1 (fun kq v3 w' => ∃ (x3_2 : Int),v3 = .int .i64 x3_2 ∧ Aside0 (spec_l00Word.l0 kq a0 x3_2 = some r) ∧ Aside0 (kq ≤ kj1) ∧ Drawn0 w w')
    case atStart => exact ⟨(1),(by first | rfl | (simp;done) | (simp [*];done)),H',⟨Nat.le_refl _⟩,by repeat (first | exact Drawn0.refl _ | apply Drawn0.step)⟩
    case round =>
     clear H'
     try clear c1
     try clear p2
     try clear c3
     try clear c3b0
     try clear c3b1
     try clear c4
     try clear c4b0
     try clear c4b1
     try clear c5
     try clear c5b0
     try clear c5b1
     try clear p6
     try clear q6
     try clear hx6
     try clear qi6
     try clear c7
     try clear c8
     try clear p2
     try clear p6
     try clear q6
     obtain ⟨x3_2,rfl,HA,HK2,⟨m2,rfl⟩⟩ := hrel
     cases gk with
     | zero => exact absurd HA.out (by simp [spec_l00Word.l0])
     | succ k2 =>
      have H := HA.out
      clear HA
      simp only [spec_l00Word.l0] at H
      by_cases c9 : x3_2 < (a0.size : Int)
      ·rw [if_pos c9] at H
       have c9b0 : decide (x3_2 < (a0.size : Int)) = true := decide_eq_true c9
       clear c9
       by_cases c10 : 0 ≤ x3_2
       ·rw [if_pos c10] at H
        have c10b0 : decide (0 ≤ x3_2) = true := decide_eq_true c10
        clear c10
        replace H := Option.bind_eq_some_iff.mp H
        obtain ⟨t622,A120,H⟩ := H
        try dsimp only at H
        have A12 := am_ A120
        clear A120
        by_cases c13 : t622 = true
        ·subst c13
         have H1 : (spec_l00Word.l0 k2 a0 (wrap64 (x3_2 + 1))) = some r := by rw [if_pos rfl] at H;exact H
         clear H
         have H := H1
         clear H1
         have H' := am_ H
         clear H
         have p11 : 0 ≤ (x3_2 : Int) := o1_ (by first | (with_reducible assumption) | assumption)
         have q11 : x3_2 < (a0.size : Int) := o1_ (by first | (with_reducible assumption) | assumption)
         have hx11 := bt_at a0 x3_2
         replace p11 := eq_true p11
         replace q11 := eq_true q11
         go_wp2_with (first | ((with_reducible refine gate_callee (f := 71) rfl ?_);refine zgl (some 27) Try.func71 #[.int .u8 (bt a0 x3_2)] ?_;(with_reducible refine (spec_l00Letter.calls (bt a0 x3_2) true _ A12.out).mono ?_);rintro e w' ⟨rfl,⟨nd,rfl⟩⟩;refine ⟨_,rfl,?_⟩))
         go_roundg k2
         case measure => have := HJ1.out;have := HK2.out;omega
         case rel => exact ⟨(wrap64 (x3_2 + 1)),(by first | rfl | (simp;done) | (simp [*];done)),H',⟨by have := HJ1.out;have := HK2.out;omega⟩,by repeat (first | exact Drawn0.refl _ | apply Drawn0.step)⟩
        ·replace c13 := Bool.eq_false_iff.mpr c13
         subst c13
         have H1 : ((spec_l00Digit.f (bt a0 x3_2)).bind fun t623 => (if t623 = true then (spec_l00Word.l0 k2 a0 (wrap64 (x3_2 + 1))) else (some false))) = some r := by rw [if_neg (show ¬ (false = true) by decide)] at H;exact H
         clear H
         have H := H1
         clear H1
         replace H := Option.bind_eq_some_iff.mp H
         obtain ⟨t623,A150,H⟩ := H
         try dsimp only at H
         have A15 := am_ A150
         clear A150
         by_cases c16 : t623 = true
         ·subst c16
          have H1 : (spec_l00Word.l0 k2 a0 (wrap64 (x3_2 + 1))) = some r := by rw [if_pos rfl] at H;exact H
          clear H
          have H := H1
          clear H1
          have H' := am_ H
          clear H
          have p11 : 0 ≤ (x3_2 : Int) := o1_ (by first | (with_reducible assumption) | assumption)
          have q11 : x3_2 < (a0.size : Int) := o1_ (by first | (with_reducible assumption) | assumption)
          have hx11 := bt_at a0 x3_2
          replace p11 := eq_true p11
          replace q11 := eq_true q11
          go_wp2_with (first | ((with_reducible refine gate_callee (f := 71) rfl ?_);refine zgl (some 27) Try.func71 #[.int .u8 (bt a0 x3_2)] ?_;(with_reducible refine (spec_l00Letter.calls (bt a0 x3_2) false _ A12.out).mono ?_);rintro e w' ⟨rfl,⟨nd,rfl⟩⟩;refine ⟨_,rfl,?_⟩;have p14 : 0 ≤ (x3_2 : Int) := o1_ (by first | (with_reducible assumption) | assumption);have q14 : x3_2 < (a0.size : Int) := o1_ (by first | (with_reducible assumption) | assumption);have hx14 := bt_at a0 x3_2;replace p14 := eq_true p14;replace q14 := eq_true q14) | (go_at_call 72;(with_reducible refine (spec_l00Digit.calls (bt a0 x3_2) true _ A15.out).mono ?_);rintro e w' ⟨rfl,⟨nd,rfl⟩⟩))
          go_roundg k2
          case measure => have := HJ1.out;have := HK2.out;omega
          case rel => exact ⟨(wrap64 (x3_2 + 1)),(by first | rfl | (simp;done) | (simp [*];done)),H',⟨by have := HJ1.out;have := HK2.out;omega⟩,by repeat (first | exact Drawn0.refl _ | apply Drawn0.step)⟩
         ·replace c16 := Bool.eq_false_iff.mpr c16
          subst c16
          have H1 : (some false) = some r := by rw [if_neg (show ¬ (false = true) by decide)] at H;exact H
          clear H
          have H := H1
          clear H1
          obtain rfl := Option.some.inj H
          have p11 : 0 ≤ (x3_2 : Int) := o1_ (by first | (with_reducible assumption) | assumption)
          have q11 : x3_2 < (a0.size : Int) := o1_ (by first | (with_reducible assumption) | assumption)
          have hx11 := bt_at a0 x3_2
          replace p11 := eq_true p11
          replace q11 := eq_true q11
          go_wp2_with (first | ((with_reducible refine gate_callee (f := 71) rfl ?_);refine zgl (some 27) Try.func71 #[.int .u8 (bt a0 x3_2)] ?_;(with_reducible refine (spec_l00Letter.calls (bt a0 x3_2) false _ A12.out).mono ?_);rintro e w' ⟨rfl,⟨nd,rfl⟩⟩;refine ⟨_,rfl,?_⟩;have p14 : 0 ≤ (x3_2 : Int) := o1_ (by first | (with_reducible assumption) | assumption);have q14 : x3_2 < (a0.size : Int) := o1_ (by first | (with_reducible assumption) | assumption);have hx14 := bt_at a0 x3_2;replace p14 := eq_true p14;replace q14 := eq_true q14) | (go_at_call 72;(with_reducible refine (spec_l00Digit.calls (bt a0 x3_2) false _ A15.out).mono ?_);rintro e w' ⟨rfl,⟨nd,rfl⟩⟩))
          go_ret
          exact ⟨by first | rfl | (simp;done) | (simp [*];done),by repeat (first | exact Drawn0.refl _ | apply Drawn0.step)⟩
       ·rw [if_neg c10] at H
        exact absurd H (by simp)
      ·rw [if_neg c9] at H
       have c9b0 : decide (x3_2 < (a0.size : Int)) = false := decide_eq_false c9
       clear c9
       obtain rfl := Option.some.inj H
       go_wp2
       go_ret
       exact ⟨by first | rfl | (simp;done) | (simp [*];done),by repeat (first | exact Drawn0.refl _ | apply Drawn0.step)⟩
set_option maxHeartbeats 8000000 in
set_option maxRecDepth 100000 in
theorem spec_NameOK.calls (k : Nat) (a0 : ByteArray) (r : Bool) (w : World) (h : spec_NameOK.f k a0 = some r) :
  Calls Try.prog 67 #[.string a0] w fun e w' => e = .returned (.bool r) ∧ Drawn0 w w' := by
 have H : ((spec_l00Word.f k a0).bind fun t624 => (some t624)) = some r := h
 clear h
 replace H := Option.bind_eq_some_iff.mp H
 obtain ⟨t624,A20,H⟩ := H
 try dsimp only at H
 have A2 := am_ A20
 clear A20
 obtain rfl := Option.some.inj H
 go_enter Try.func67,Try.ntmps67
 go_wp2_with (first | ((with_reducible refine gate_callee (f := 70) rfl ?_);refine zgl (some 4) Try.func70 #[.string a0] ?_;(with_reducible refine (spec_l00Word.calls k a0 t624 _ A2.out).mono ?_);rintro e w' ⟨rfl,⟨nd,rfl⟩⟩;refine ⟨_,rfl,?_⟩))
 go_ret
 exact ⟨by first | rfl | (simp;done) | (simp [*];done),by repeat (first | exact Drawn0.refl _ | apply Drawn0.step)⟩
set_option maxHeartbeats 8000000 in
set_option maxRecDepth 100000 in
theorem spec_l02Text.calls (k : Nat) (a0 : ByteArray) (a1 : Int) (r : Bool) (w : World) (h : spec_l02Text.f k a0 a1 = some r) :
  Calls Try.prog 57 #[.string a0,.int .i64 a1] w fun e w' => e = .returned (.bool r) ∧ Drawn0 w w' := by
 have H : ((spec_l01In.f (a0.size : Int) 1 a1).bind fun t625 => (if t625 = true then ((spec_NameOK.f k a0).bind fun t626 => (some t626)) else (some false))) = some r := h
 clear h
 replace H := Option.bind_eq_some_iff.mp H
 obtain ⟨t625,A30,H⟩ := H
 try dsimp only at H
 have A3 := am_ A30
 clear A30
 by_cases c4 : t625 = true
 ·subst c4
  have H1 : ((spec_NameOK.f k a0).bind fun t626 => (some t626)) = some r := by rw [if_pos rfl] at H;exact H
  clear H
  have H := H1
  clear H1
  replace H := Option.bind_eq_some_iff.mp H
  obtain ⟨t626,A50,H⟩ := H
  try dsimp only at H
  have A5 := am_ A50
  clear A50
  obtain rfl := Option.some.inj H
  go_enter Try.func57,Try.ntmps57
  go_wp2_with (first | ((with_reducible refine gate_callee (f := 49) rfl ?_);refine zgl (some 8) Try.func49 #[.int .i64 (a0.size : Int),.int .i64 1,.int .i64 a1] ?_;(with_reducible refine (spec_l01In.calls (a0.size : Int) 1 a1 true _ A3.out).mono ?_);rintro e w' ⟨rfl,⟨nd,rfl⟩⟩;refine ⟨_,rfl,?_⟩) | (go_at_call 67;(with_reducible refine (spec_NameOK.calls k a0 t626 _ A5.out).mono ?_);rintro e w' ⟨rfl,⟨nd,rfl⟩⟩))
  go_ret
  exact ⟨by first | rfl | (simp;done) | (simp [*];done),by repeat (first | exact Drawn0.refl _ | apply Drawn0.step)⟩
 ·replace c4 := Bool.eq_false_iff.mpr c4
  subst c4
  have H1 : (some false) = some r := by rw [if_neg (show ¬ (false = true) by decide)] at H;exact H
  clear H
  have H := H1
  clear H1
  obtain rfl := Option.some.inj H
  go_enter Try.func57,Try.ntmps57
  go_wp2_with (first | ((with_reducible refine gate_callee (f := 49) rfl ?_);refine zgl (some 8) Try.func49 #[.int .i64 (a0.size : Int),.int .i64 1,.int .i64 a1] ?_;(with_reducible refine (spec_l01In.calls (a0.size : Int) 1 a1 false _ A3.out).mono ?_);rintro e w' ⟨rfl,⟨nd,rfl⟩⟩;refine ⟨_,rfl,?_⟩))
  go_ret
  exact ⟨by first | rfl | (simp;done) | (simp [*];done),by repeat (first | exact Drawn0.refl _ | apply Drawn0.step)⟩
set_option maxHeartbeats 8000000 in
set_option maxRecDepth 100000 in
theorem spec_RequestOK.calls (k : Nat) (a0_0 : Int) (a0_1 : Int) (a0_2 : Int) (a0_3 : Int) (a0_4 : ByteArray) (r : Bool) (w : World) (h : spec_RequestOK.f k a0_0 a0_1 a0_2 a0_3 a0_4 = some r) :
  Calls Try.prog 33 #[.agg #[.int .i64 a0_0,.int .i64 a0_1,.int .i64 a0_2,.int .i64 a0_3,.string a0_4]] w fun e w' => e = .returned (.bool r) ∧ Below w.heap.size w w' := by
 have hu33 := Try.underlying33
 have HB := am_ (Below.refl w.heap.size w)
 have H : ((spec_l01In.f a0_0 0 255).bind fun t628 => (if t628 = true then ((spec_l01In.f a0_1 1 65535).bind fun t629 => (if t629 = true then ((spec_l01In.f a0_2 1 4).bind fun t630 => (if t630 = true then ((spec_l01In.f a0_3 0 1000).bind fun t631 => (if t631 = true then ((spec_l02Text.f k a0_4 12).bind fun t632 => (if t632 = true then (if a0_2 = 1 then (some ((decide (a0_3 > 0)) == true)) else (some ((decide (a0_3 > 0)) == (a0_2 == 3)))) else (some false))) else (some false))) else (some false))) else (some false))) else (some false))) = some r := h
 clear h
 replace H := Option.bind_eq_some_iff.mp H
 obtain ⟨t628,A20,H⟩ := H
 try dsimp only at H
 have A2 := am_ A20
 clear A20
 by_cases c3 : t628 = true
 ·subst c3
  have H1 : ((spec_l01In.f a0_1 1 65535).bind fun t629 => (if t629 = true then ((spec_l01In.f a0_2 1 4).bind fun t630 => (if t630 = true then ((spec_l01In.f a0_3 0 1000).bind fun t631 => (if t631 = true then ((spec_l02Text.f k a0_4 12).bind fun t632 => (if t632 = true then (if a0_2 = 1 then (some ((decide (a0_3 > 0)) == true)) else (some ((decide (a0_3 > 0)) == (a0_2 == 3)))) else (some false))) else (some false))) else (some false))) else (some false))) = some r := by rw [if_pos rfl] at H;exact H
  clear H
  have H := H1
  clear H1
  replace H := Option.bind_eq_some_iff.mp H
  obtain ⟨t629,A40,H⟩ := H
  try dsimp only at H
  have A4 := am_ A40
  clear A40
  by_cases c5 : t629 = true
  ·subst c5
   have H1 : ((spec_l01In.f a0_2 1 4).bind fun t630 => (if t630 = true then ((spec_l01In.f a0_3 0 1000).bind fun t631 => (if t631 = true then ((spec_l02Text.f k a0_4 12).bind fun t632 => (if t632 = true then (if a0_2 = 1 then (some ((decide (a0_3 > 0)) == true)) else (some ((decide (a0_3 > 0)) == (a0_2 == 3)))) else (some false))) else (some false))) else (some false))) = some r := by rw [if_pos rfl] at H;exact H
   clear H
   have H := H1
   clear H1
   replace H := Option.bind_eq_some_iff.mp H
   obtain ⟨t630,A60,H⟩ := H
   try dsimp only at H
   have A6 := am_ A60
   clear A60
   by_cases c7 : t630 = true
   ·subst c7
    have H1 : ((spec_l01In.f a0_3 0 1000).bind fun t631 => (if t631 = true then ((spec_l02Text.f k a0_4 12).bind fun t632 => (if t632 = true then (if a0_2 = 1 then (some ((decide (a0_3 > 0)) == true)) else (some ((decide (a0_3 > 0)) == (a0_2 == 3)))) else (some false))) else (some false))) = some r := by rw [if_pos rfl] at H;exact H
    clear H
    have H := H1
    clear H1
    replace H := Option.bind_eq_some_iff.mp H
    obtain ⟨t631,A80,H⟩ := H
    try dsimp only at H
    have A8 := am_ A80
    clear A80
    by_cases c9 : t631 = true
    ·subst c9
     have H1 : ((spec_l02Text.f k a0_4 12).bind fun t632 => (if t632 = true then (if a0_2 = 1 then (some ((decide (a0_3 > 0)) == true)) else (some ((decide (a0_3 > 0)) == (a0_2 == 3)))) else (some false))) = some r := by rw [if_pos rfl] at H;exact H
     clear H
     have H := H1
     clear H1
     replace H := Option.bind_eq_some_iff.mp H
     obtain ⟨t632,A100,H⟩ := H
     try dsimp only at H
     have A10 := am_ A100
     clear A100
     by_cases c11 : t632 = true
     ·subst c11
      have H1 : (if a0_2 = 1 then (some ((decide (a0_3 > 0)) == true)) else (some ((decide (a0_3 > 0)) == (a0_2 == 3)))) = some r := by rw [if_pos rfl] at H;exact H
      clear H
      have H := H1
      clear H1
      by_cases c12 : a0_2 = 1
      ·rw [if_pos c12] at H
       have c12b0 : (a0_2 == 1) = true := beq_iff_eq.mpr c12
       have c12b1 : (a0_2 != 1) = false := bne_eq_false_iff_eq.mpr c12
       clear c12
       obtain rfl := Option.some.inj H
       go_enter Try.func33,Try.ntmps33
       go_wp2_with (first | ((with_reducible refine gate_dst (N := 1) rfl ?_);refine zbx (N := 1) (cs := #[.int .i64 a0_0,.int .i64 a0_1,.int .i64 a0_2,.int .i64 a0_3,.string a0_4]) (t := 33) ?_;intro gb627 hg w13 hbox hb;have BK627 := am_ (hbox);have GW627 := zw_ HB hg;have GE627 := zw_ HB hg;replace HB := zs_ HB hb;clear hb hbox hg;obtain ⟨hcz14_0,hcz14_1,hcz14_2,hcz14_3,hcz14_4,hfz14_0,hfz14_1,hfz14_2,hfz14_3,hfz14_4⟩ := zc5 BK627) | ((with_reducible refine gate_callee (f := 49) rfl ?_);refine zgl (some 5) Try.func49 #[.int .i64 a0_0,.int .i64 0,.int .i64 255] ?_;(with_reducible refine (spec_l01In.calls a0_0 0 255 true _ A2.out).mono ?_);rintro e w' ⟨rfl,⟨nd,rfl⟩⟩;refine ⟨_,rfl,?_⟩) | (go_at_call 49;(with_reducible refine (spec_l01In.calls a0_1 1 65535 true _ A4.out).mono ?_);rintro e w' ⟨rfl,⟨nd,rfl⟩⟩) | (go_at_call 49;(with_reducible refine (spec_l01In.calls a0_2 1 4 true _ A6.out).mono ?_);rintro e w' ⟨rfl,⟨nd,rfl⟩⟩) | (go_at_call 49;(with_reducible refine (spec_l01In.calls a0_3 0 1000 true _ A8.out).mono ?_);rintro e w' ⟨rfl,⟨nd,rfl⟩⟩) | (go_at_call 57;(with_reducible refine (spec_l02Text.calls k a0_4 12 true _ A10.out).mono ?_);rintro e w' ⟨rfl,⟨nd,rfl⟩⟩))
       go_ret
       exact ⟨zt_,zl_ HB⟩
      ·rw [if_neg c12] at H
       have c12b0 : (a0_2 == 1) = false := beq_eq_false_iff_ne.mpr c12
       have c12b1 : (a0_2 != 1) = true := bne_iff_ne.mpr c12
       obtain rfl := Option.some.inj H
       go_enter Try.func33,Try.ntmps33
       go_wp2_with (first | ((with_reducible refine gate_dst (N := 1) rfl ?_);refine zbx (N := 1) (cs := #[.int .i64 a0_0,.int .i64 a0_1,.int .i64 a0_2,.int .i64 a0_3,.string a0_4]) (t := 33) ?_;intro gb627 hg w15 hbox hb;have BK627 := am_ (hbox);have GW627 := zw_ HB hg;have GE627 := zw_ HB hg;replace HB := zs_ HB hb;clear hb hbox hg;obtain ⟨hcz16_0,hcz16_1,hcz16_2,hcz16_3,hcz16_4,hfz16_0,hfz16_1,hfz16_2,hfz16_3,hfz16_4⟩ := zc5 BK627) | ((with_reducible refine gate_callee (f := 49) rfl ?_);refine zgl (some 5) Try.func49 #[.int .i64 a0_0,.int .i64 0,.int .i64 255] ?_;(with_reducible refine (spec_l01In.calls a0_0 0 255 true _ A2.out).mono ?_);rintro e w' ⟨rfl,⟨nd,rfl⟩⟩;refine ⟨_,rfl,?_⟩) | (go_at_call 49;(with_reducible refine (spec_l01In.calls a0_1 1 65535 true _ A4.out).mono ?_);rintro e w' ⟨rfl,⟨nd,rfl⟩⟩) | (go_at_call 49;(with_reducible refine (spec_l01In.calls a0_2 1 4 true _ A6.out).mono ?_);rintro e w' ⟨rfl,⟨nd,rfl⟩⟩) | (go_at_call 49;(with_reducible refine (spec_l01In.calls a0_3 0 1000 true _ A8.out).mono ?_);rintro e w' ⟨rfl,⟨nd,rfl⟩⟩) | (go_at_call 57;(with_reducible refine (spec_l02Text.calls k a0_4 12 true _ A10.out).mono ?_);rintro e w' ⟨rfl,⟨nd,rfl⟩⟩))
       go_ret
       exact ⟨zt_,zl_ HB⟩
     ·replace c11 := Bool.eq_false_iff.mpr c11
      subst c11
      have H1 : (some false) = some r := by rw [if_neg (show ¬ (false = true) by decide)] at H;exact H
      clear H
      have H := H1
      clear H1
      obtain rfl := Option.some.inj H
      go_enter Try.func33,Try.ntmps33
      go_wp2_with (first | ((with_reducible refine gate_dst (N := 1) rfl ?_);refine zbx (N := 1) (cs := #[.int .i64 a0_0,.int .i64 a0_1,.int .i64 a0_2,.int .i64 a0_3,.string a0_4]) (t := 33) ?_;intro gb627 hg w17 hbox hb;have BK627 := am_ (hbox);have GW627 := zw_ HB hg;have GE627 := zw_ HB hg;replace HB := zs_ HB hb;clear hb hbox hg;obtain ⟨hcz18_0,hcz18_1,hcz18_2,hcz18_3,hcz18_4,hfz18_0,hfz18_1,hfz18_2,hfz18_3,hfz18_4⟩ := zc5 BK627) | ((with_reducible refine gate_callee (f := 49) rfl ?_);refine zgl (some 5) Try.func49 #[.int .i64 a0_0,.int .i64 0,.int .i64 255] ?_;(with_reducible refine (spec_l01In.calls a0_0 0 255 true _ A2.out).mono ?_);rintro e w' ⟨rfl,⟨nd,rfl⟩⟩;refine ⟨_,rfl,?_⟩) | (go_at_call 49;(with_reducible refine (spec_l01In.calls a0_1 1 65535 true _ A4.out).mono ?_);rintro e w' ⟨rfl,⟨nd,rfl⟩⟩) | (go_at_call 49;(with_reducible refine (spec_l01In.calls a0_2 1 4 true _ A6.out).mono ?_);rintro e w' ⟨rfl,⟨nd,rfl⟩⟩) | (go_at_call 49;(with_reducible refine (spec_l01In.calls a0_3 0 1000 true _ A8.out).mono ?_);rintro e w' ⟨rfl,⟨nd,rfl⟩⟩) | (go_at_call 57;(with_reducible refine (spec_l02Text.calls k a0_4 12 false _ A10.out).mono ?_);rintro e w' ⟨rfl,⟨nd,rfl⟩⟩))
      go_ret
      exact ⟨zt_,zl_ HB⟩
    ·replace c9 := Bool.eq_false_iff.mpr c9
     subst c9
     have H1 : (some false) = some r := by rw [if_neg (show ¬ (false = true) by decide)] at H;exact H
     clear H
     have H := H1
     clear H1
     obtain rfl := Option.some.inj H
     go_enter Try.func33,Try.ntmps33
     go_wp2_with (first | ((with_reducible refine gate_dst (N := 1) rfl ?_);refine zbx (N := 1) (cs := #[.int .i64 a0_0,.int .i64 a0_1,.int .i64 a0_2,.int .i64 a0_3,.string a0_4]) (t := 33) ?_;intro gb627 hg w19 hbox hb;have BK627 := am_ (hbox);have GW627 := zw_ HB hg;have GE627 := zw_ HB hg;replace HB := zs_ HB hb;clear hb hbox hg;obtain ⟨hcz20_0,hcz20_1,hcz20_2,hcz20_3,hcz20_4,hfz20_0,hfz20_1,hfz20_2,hfz20_3,hfz20_4⟩ := zc5 BK627) | ((with_reducible refine gate_callee (f := 49) rfl ?_);refine zgl (some 5) Try.func49 #[.int .i64 a0_0,.int .i64 0,.int .i64 255] ?_;(with_reducible refine (spec_l01In.calls a0_0 0 255 true _ A2.out).mono ?_);rintro e w' ⟨rfl,⟨nd,rfl⟩⟩;refine ⟨_,rfl,?_⟩) | (go_at_call 49;(with_reducible refine (spec_l01In.calls a0_1 1 65535 true _ A4.out).mono ?_);rintro e w' ⟨rfl,⟨nd,rfl⟩⟩) | (go_at_call 49;(with_reducible refine (spec_l01In.calls a0_2 1 4 true _ A6.out).mono ?_);rintro e w' ⟨rfl,⟨nd,rfl⟩⟩) | (go_at_call 49;(with_reducible refine (spec_l01In.calls a0_3 0 1000 false _ A8.out).mono ?_);rintro e w' ⟨rfl,⟨nd,rfl⟩⟩))
     go_ret
     exact ⟨zt_,zl_ HB⟩
   ·replace c7 := Bool.eq_false_iff.mpr c7
    subst c7
    have H1 : (some false) = some r := by rw [if_neg (show ¬ (false = true) by decide)] at H;exact H
    clear H
    have H := H1
    clear H1
    obtain rfl := Option.some.inj H
    go_enter Try.func33,Try.ntmps33
    go_wp2_with (first | ((with_reducible refine gate_dst (N := 1) rfl ?_);refine zbx (N := 1) (cs := #[.int .i64 a0_0,.int .i64 a0_1,.int .i64 a0_2,.int .i64 a0_3,.string a0_4]) (t := 33) ?_;intro gb627 hg w21 hbox hb;have BK627 := am_ (hbox);have GW627 := zw_ HB hg;have GE627 := zw_ HB hg;replace HB := zs_ HB hb;clear hb hbox hg;obtain ⟨hcz22_0,hcz22_1,hcz22_2,hcz22_3,hcz22_4,hfz22_0,hfz22_1,hfz22_2,hfz22_3,hfz22_4⟩ := zc5 BK627) | ((with_reducible refine gate_callee (f := 49) rfl ?_);refine zgl (some 5) Try.func49 #[.int .i64 a0_0,.int .i64 0,.int .i64 255] ?_;(with_reducible refine (spec_l01In.calls a0_0 0 255 true _ A2.out).mono ?_);rintro e w' ⟨rfl,⟨nd,rfl⟩⟩;refine ⟨_,rfl,?_⟩) | (go_at_call 49;(with_reducible refine (spec_l01In.calls a0_1 1 65535 true _ A4.out).mono ?_);rintro e w' ⟨rfl,⟨nd,rfl⟩⟩) | (go_at_call 49;(with_reducible refine (spec_l01In.calls a0_2 1 4 false _ A6.out).mono ?_);rintro e w' ⟨rfl,⟨nd,rfl⟩⟩))
    go_ret
    exact ⟨zt_,zl_ HB⟩
  ·replace c5 := Bool.eq_false_iff.mpr c5
   subst c5
   have H1 : (some false) = some r := by rw [if_neg (show ¬ (false = true) by decide)] at H;exact H
   clear H
   have H := H1
   clear H1
   obtain rfl := Option.some.inj H
   go_enter Try.func33,Try.ntmps33
   go_wp2_with (first | ((with_reducible refine gate_dst (N := 1) rfl ?_);refine zbx (N := 1) (cs := #[.int .i64 a0_0,.int .i64 a0_1,.int .i64 a0_2,.int .i64 a0_3,.string a0_4]) (t := 33) ?_;intro gb627 hg w23 hbox hb;have BK627 := am_ (hbox);have GW627 := zw_ HB hg;have GE627 := zw_ HB hg;replace HB := zs_ HB hb;clear hb hbox hg;obtain ⟨hcz24_0,hcz24_1,hcz24_2,hcz24_3,hcz24_4,hfz24_0,hfz24_1,hfz24_2,hfz24_3,hfz24_4⟩ := zc5 BK627) | ((with_reducible refine gate_callee (f := 49) rfl ?_);refine zgl (some 5) Try.func49 #[.int .i64 a0_0,.int .i64 0,.int .i64 255] ?_;(with_reducible refine (spec_l01In.calls a0_0 0 255 true _ A2.out).mono ?_);rintro e w' ⟨rfl,⟨nd,rfl⟩⟩;refine ⟨_,rfl,?_⟩) | (go_at_call 49;(with_reducible refine (spec_l01In.calls a0_1 1 65535 false _ A4.out).mono ?_);rintro e w' ⟨rfl,⟨nd,rfl⟩⟩))
   go_ret
   exact ⟨zt_,zl_ HB⟩
 ·replace c3 := Bool.eq_false_iff.mpr c3
  subst c3
  have H1 : (some false) = some r := by rw [if_neg (show ¬ (false = true) by decide)] at H;exact H
  clear H
  have H := H1
  clear H1
  obtain rfl := Option.some.inj H
  go_enter Try.func33,Try.ntmps33
  go_wp2_with (first | ((with_reducible refine gate_dst (N := 1) rfl ?_);refine zbx (N := 1) (cs := #[.int .i64 a0_0,.int .i64 a0_1,.int .i64 a0_2,.int .i64 a0_3,.string a0_4]) (t := 33) ?_;intro gb627 hg w25 hbox hb;have BK627 := am_ (hbox);have GW627 := zw_ HB hg;have GE627 := zw_ HB hg;replace HB := zs_ HB hb;clear hb hbox hg;obtain ⟨hcz26_0,hcz26_1,hcz26_2,hcz26_3,hcz26_4,hfz26_0,hfz26_1,hfz26_2,hfz26_3,hfz26_4⟩ := zc5 BK627) | ((with_reducible refine gate_callee (f := 49) rfl ?_);refine zgl (some 5) Try.func49 #[.int .i64 a0_0,.int .i64 0,.int .i64 255] ?_;(with_reducible refine (spec_l01In.calls a0_0 0 255 false _ A2.out).mono ?_);rintro e w' ⟨rfl,⟨nd,rfl⟩⟩;refine ⟨_,rfl,?_⟩))
  go_ret
  exact ⟨zt_,zl_ HB⟩
set_option maxHeartbeats 8000000 in
set_option maxRecDepth 100000 in
theorem spec_l02Reading.calls (a0_0 : Int) (a0_1 : Int) (a0_2 : ByteArray) (r : Bool) (w : World) (h : spec_l02Reading.f a0_0 a0_1 a0_2 = some r) :
  Calls Try.prog 62 #[.agg #[.int .i64 a0_0,.int .i64 a0_1,.string a0_2]] w fun e w' => e = .returned (.bool r) ∧ Below w.heap.size w w' := by
 have hu70 := Try.underlying70
 have HB := am_ (Below.refl w.heap.size w)
 have H : ((spec_l01In.f a0_0 0 6).bind fun t710 => (if t710 = true then ((spec_l01In.f a0_1 0 1000000000).bind fun t711 => (if t711 = true then (some ((a0_2.size : Int) == 8)) else (some false))) else (some false))) = some r := h
 clear h
 replace H := Option.bind_eq_some_iff.mp H
 obtain ⟨t710,A20,H⟩ := H
 try dsimp only at H
 have A2 := am_ A20
 clear A20
 by_cases c3 : t710 = true
 ·subst c3
  have H1 : ((spec_l01In.f a0_1 0 1000000000).bind fun t711 => (if t711 = true then (some ((a0_2.size : Int) == 8)) else (some false))) = some r := by rw [if_pos rfl] at H;exact H
  clear H
  have H := H1
  clear H1
  replace H := Option.bind_eq_some_iff.mp H
  obtain ⟨t711,A40,H⟩ := H
  try dsimp only at H
  have A4 := am_ A40
  clear A40
  by_cases c5 : t711 = true
  ·subst c5
   have H1 : (some ((a0_2.size : Int) == 8)) = some r := by rw [if_pos rfl] at H;exact H
   clear H
   have H := H1
   clear H1
   obtain rfl := Option.some.inj H
   go_enter Try.func62,Try.ntmps62
   go_wp2_with (first | ((with_reducible refine gate_dst (N := 1) rfl ?_);(try (refine gate_guard (by rfl) ?_;dsimp only));refine zbx (N := 1) (cs := #[.int .i64 a0_0,.int .i64 a0_1,.string a0_2]) (t := 70) ?_;intro gb709 hg w6 hbox hb;have BK709 := am_ (hbox);have GW709 := zw_ HB hg;have GE709 := zw_ HB hg;replace HB := zs_ HB hb;clear hb hbox hg;obtain ⟨hcz7_0,hcz7_1,hcz7_2,hfz7_0,hfz7_1,hfz7_2⟩ := zc3 BK709) | ((with_reducible refine gate_callee (f := 49) rfl ?_);refine zgl (some 5) Try.func49 #[.int .i64 a0_0,.int .i64 0,.int .i64 6] ?_;(with_reducible refine (spec_l01In.calls a0_0 0 6 true _ A2.out).mono ?_);rintro e w' ⟨rfl,⟨nd,rfl⟩⟩;refine ⟨_,rfl,?_⟩) | (go_at_call 49;(with_reducible refine (spec_l01In.calls a0_1 0 1000000000 true _ A4.out).mono ?_);rintro e w' ⟨rfl,⟨nd,rfl⟩⟩))
   go_ret
   exact ⟨zt_,zl_ HB⟩
  ·replace c5 := Bool.eq_false_iff.mpr c5
   subst c5
   have H1 : (some false) = some r := by rw [if_neg (show ¬ (false = true) by decide)] at H;exact H
   clear H
   have H := H1
   clear H1
   obtain rfl := Option.some.inj H
   go_enter Try.func62,Try.ntmps62
   go_wp2_with (first | ((with_reducible refine gate_dst (N := 1) rfl ?_);(try (refine gate_guard (by rfl) ?_;dsimp only));refine zbx (N := 1) (cs := #[.int .i64 a0_0,.int .i64 a0_1,.string a0_2]) (t := 70) ?_;intro gb709 hg w8 hbox hb;have BK709 := am_ (hbox);have GW709 := zw_ HB hg;have GE709 := zw_ HB hg;replace HB := zs_ HB hb;clear hb hbox hg;obtain ⟨hcz9_0,hcz9_1,hcz9_2,hfz9_0,hfz9_1,hfz9_2⟩ := zc3 BK709) | ((with_reducible refine gate_callee (f := 49) rfl ?_);refine zgl (some 5) Try.func49 #[.int .i64 a0_0,.int .i64 0,.int .i64 6] ?_;(with_reducible refine (spec_l01In.calls a0_0 0 6 true _ A2.out).mono ?_);rintro e w' ⟨rfl,⟨nd,rfl⟩⟩;refine ⟨_,rfl,?_⟩) | (go_at_call 49;(with_reducible refine (spec_l01In.calls a0_1 0 1000000000 false _ A4.out).mono ?_);rintro e w' ⟨rfl,⟨nd,rfl⟩⟩))
   go_ret
   exact ⟨zt_,zl_ HB⟩
 ·replace c3 := Bool.eq_false_iff.mpr c3
  subst c3
  have H1 : (some false) = some r := by rw [if_neg (show ¬ (false = true) by decide)] at H;exact H
  clear H
  have H := H1
  clear H1
  obtain rfl := Option.some.inj H
  go_enter Try.func62,Try.ntmps62
  go_wp2_with (first | ((with_reducible refine gate_dst (N := 1) rfl ?_);(try (refine gate_guard (by rfl) ?_;dsimp only));refine zbx (N := 1) (cs := #[.int .i64 a0_0,.int .i64 a0_1,.string a0_2]) (t := 70) ?_;intro gb709 hg w10 hbox hb;have BK709 := am_ (hbox);have GW709 := zw_ HB hg;have GE709 := zw_ HB hg;replace HB := zs_ HB hb;clear hb hbox hg;obtain ⟨hcz11_0,hcz11_1,hcz11_2,hfz11_0,hfz11_1,hfz11_2⟩ := zc3 BK709) | ((with_reducible refine gate_callee (f := 49) rfl ?_);refine zgl (some 5) Try.func49 #[.int .i64 a0_0,.int .i64 0,.int .i64 6] ?_;(with_reducible refine (spec_l01In.calls a0_0 0 6 false _ A2.out).mono ?_);rintro e w' ⟨rfl,⟨nd,rfl⟩⟩;refine ⟨_,rfl,?_⟩))
  go_ret
  exact ⟨zt_,zl_ HB⟩
end Go.Proofs.Ytdpdbegglkdgnaa.A
end

section
namespace Go.Proofs.Ytdpdbegglkdgnaa.A
open Go.RowKit Go.Proofs.YtdpdbegglkdgnaaW.PrintWords Go.Proofs.YtdpdbegglkdgnaaW.PrintLast Go.Proofs.YtdpdbegglkdgnaaW.PrintMore
attribute [local go_sem] max2_int min2_int max_two min_two max_three min_three max_four min_four
attribute [local go_sem high] eqA33
def spec_l02BatchOK.T8 : Bool × List (List Nat × List Nat) := (true,[([],[]),([0],[0]),([],[]),([1,2],[1,2]),([3],[3]),([4],[4]),([5],[5]),([6,5],[6]),([7],[7]),([8,7],[7,8]),([9,7,7],[7,9]),([10],[10]),([11,10],[10,11]),([10],[10]),([13,10],[10,13]),([12,14,10],[10,12,14]),([15,10],[10,15]),([16,10],[10,16]),([10],[10]),([18,10],[10,18]),([10],[10]),([19,20,10],[10,19,20]),([21,10],[10,21]),([22,10],[10,22]),([17,23,10],[10,17,23]),([10,24,7],[7,10,24]),([7,25],[7,25])])
def spec_l02BatchOK.B8 : List Nat := [0,1,0,7,15,31,63,127,255,511,1023,2047,4095,2047,10239,32767,65535,131071,2047,264191,2047,1837055,3934207,8128511,16777215,33554431,67108863]
theorem spec_l02BatchOK.tab8 : rtab .any (opsOf Try.f41 8) = spec_l02BatchOK.T8 := by kernel_rfl
theorem spec_l02BatchOK.bits8 : waitsOk spec_l02BatchOK.T8.2 spec_l02BatchOK.B8 = true := by kernel_rfl
set_option maxHeartbeats 8000000 in
set_option maxRecDepth 100000 in
theorem spec_l02BatchOK.calls (k : Nat) (a0_0 : Bool) (a0_1 : Int) (a0_2 : Int) (a0_3 : Int) (a0_4 : Int) (a0_5 : ByteArray) (A0_6 : Option Addr) (c0_6 : Nat) (l0_6 : List (S70)) (r : Bool) (w : World) (hr0_6 : Kd.C k70 w A0_6 l0_6.length l0_6) (hc0_6 : l0_6.length ≤ c0_6) (h : spec_l02BatchOK.f k a0_0 a0_1 a0_2 a0_3 a0_4 a0_5 l0_6 = some r) :
  Calls Try.prog 41 #[.agg #[.bool a0_0,.int .i64 a0_1,.int .i64 a0_2,.int .i64 a0_3,.int .i64 a0_4,.string a0_5,.slice A0_6 l0_6.length c0_6]] w fun e w' => e = .returned (.bool r) ∧ Below w.heap.size w w' := by
 have hu41 := Try.underlying41
 have hu33 := Try.underlying33
 have hu70 := Try.underlying70
 have HR0_6 := am_ hr0_6
 have HC0_6 := am_ hc0_6
 clear hr0_6 hc0_6
 have HB := am_ (Below.refl w.heap.size w)
 have H : (if a0_0 = true then (if (a0_1 == 0 && (a0_2 == 0 && (a0_3 == 0 && (a0_4 == 0 && (a0_5.toList == ([] : List UInt8)))))) = true then (some ((l0_6.length : Int) == 0)) else (some false)) else ((spec_RequestOK.f k a0_1 a0_2 a0_3 a0_4 a0_5).bind fun t713 => (if t713 = true then (spec_l02BatchOK.j0 k (decide ((l0_6.length : Int) > 7)) a0_0 a0_1 a0_2 a0_3 a0_4 a0_5 l0_6) else (spec_l02BatchOK.j0 k true a0_0 a0_1 a0_2 a0_3 a0_4 a0_5 l0_6)))) = some r := h
 clear h
 by_cases c2 : a0_0 = true
 ·subst c2
  have H1 : (if (a0_1 == 0 && (a0_2 == 0 && (a0_3 == 0 && (a0_4 == 0 && (a0_5.toList == ([] : List UInt8)))))) = true then (some ((l0_6.length : Int) == 0)) else (some false)) = some r := by rw [if_pos rfl] at H;exact H
  clear H
  have H := H1
  clear H1
  by_cases c3 : (a0_1 == 0 && (a0_2 == 0 && (a0_3 == 0 && (a0_4 == 0 && (a0_5.toList == ([] : List UInt8)))))) = true
  ·rw [if_pos c3] at H
   have c3k := am_ c3
   have c3b0 : (a0_1 == 0 && (a0_2 == 0 && (a0_3 == 0 && (a0_4 == 0 && (a0_5.toList == ([] : List UInt8)))))) = true := c3k.out
   (try (have c3b1 : decide (a0_1 = 0 && (a0_2 == 0 && (a0_3 == 0 && (a0_4 == 0 && (a0_5.toList == ([] : List UInt8)))))) = true := by simpa using c3k.out))
   (try (have c3b2 : (a0_1 == 0 && (a0_2 == 0 && (a0_3 == 0 && (a0_4 == 0 && (a0_5.toList == ([] : List UInt8)))))) = true := by simpa using c3k.out))
   (try have c3e0 := c3b0;simp only [e3_,e4_] at c3e0)
   (try have c3e1 := c3b1;simp only [e3_,e4_] at c3e1)
   (try have c3e2 := c3b2;simp only [e3_,e4_] at c3e2)
   (try simp only [*,Bool.not_true,Bool.not_false,Bool.false_or,Bool.true_or,Bool.or_false,Bool.or_true,Bool.true_and,Bool.and_true,Bool.false_and,Bool.and_false] at c3)
   have c3bs := c3
   clear c3k
   clear c3
   obtain rfl := Option.some.inj H
   go_enter Try.func41,Try.ntmps41
   go_wp2_with (first | ((with_reducible refine gate_dst (N := 1) rfl ?_);(try (refine gate_guard (by rfl) ?_;dsimp only));refine zbx (N := 1) (cs := #[.bool true,.int .i64 a0_1,.int .i64 a0_2,.int .i64 a0_3,.int .i64 a0_4,.string a0_5,.slice A0_6 l0_6.length c0_6]) (t := 41) ?_;intro gb712 hg w4 hbox hb;have BK712 := am_ (hbox);have GW712 := zw_ HB hg;have GE712 := zw_ HB hg;replace HB := zs_ HB hb;clear hb hbox hg;obtain ⟨hcz5_0,hcz5_1,hcz5_2,hcz5_3,hcz5_4,hcz5_5,hcz5_6,hfz5_0,hfz5_1,hfz5_2,hfz5_3,hfz5_4,hfz5_5,hfz5_6⟩ := zc7 BK712))
   go_ret
   exact ⟨zt_,zl_ HB⟩
  ·rw [if_neg c3] at H
   have c3k := am_ c3
   have c3b0 : (a0_1 == 0 && (a0_2 == 0 && (a0_3 == 0 && (a0_4 == 0 && (a0_5.toList == ([] : List UInt8)))))) = false := by simpa using c3k.out
   (try (have c3b1 : decide (a0_1 = 0 && (a0_2 == 0 && (a0_3 == 0 && (a0_4 == 0 && (a0_5.toList == ([] : List UInt8)))))) = false := by simpa using c3k.out))
   (try (have c3b2 : (a0_1 == 0 && (a0_2 == 0 && (a0_3 == 0 && (a0_4 == 0 && (a0_5.toList == ([] : List UInt8)))))) = false := by simpa using c3k.out))
   (try (have c3b3 : ¬ (a0_1 = 0 && (a0_2 == 0 && (a0_3 == 0 && (a0_4 == 0 && (a0_5.toList == ([] : List UInt8)))))) := by simpa using c3k.out))
   (try have c3e0 := c3b0;simp only [e3_,e4_] at c3e0)
   (try have c3e1 := c3b1;simp only [e3_,e4_] at c3e1)
   (try have c3e2 := c3b2;simp only [e3_,e4_] at c3e2)
   (try have c3e3 := c3b3;simp only [e3_,e4_] at c3e3)
   (try simp only [*,Bool.not_true,Bool.not_false,Bool.false_or,Bool.true_or,Bool.or_false,Bool.or_true,Bool.true_and,Bool.and_true,Bool.false_and,Bool.and_false] at c3)
   have c3bs := c3
   clear c3k
   clear c3
   obtain rfl := Option.some.inj H
   go_enter Try.func41,Try.ntmps41
   go_wp2_with (first | ((with_reducible refine gate_dst (N := 1) rfl ?_);(try (refine gate_guard (by rfl) ?_;dsimp only));refine zbx (N := 1) (cs := #[.bool true,.int .i64 a0_1,.int .i64 a0_2,.int .i64 a0_3,.int .i64 a0_4,.string a0_5,.slice A0_6 l0_6.length c0_6]) (t := 41) ?_;intro gb712 hg w6 hbox hb;have BK712 := am_ (hbox);have GW712 := zw_ HB hg;have GE712 := zw_ HB hg;replace HB := zs_ HB hb;clear hb hbox hg;obtain ⟨hcz7_0,hcz7_1,hcz7_2,hcz7_3,hcz7_4,hcz7_5,hcz7_6,hfz7_0,hfz7_1,hfz7_2,hfz7_3,hfz7_4,hfz7_5,hfz7_6⟩ := zc7 BK712))
   go_ret
   exact ⟨zt_,zl_ HB⟩
 ·replace c2 := Bool.eq_false_iff.mpr c2
  subst c2
  have H1 : ((spec_RequestOK.f k a0_1 a0_2 a0_3 a0_4 a0_5).bind fun t713 => (if t713 = true then (spec_l02BatchOK.j0 k (decide ((l0_6.length : Int) > 7)) false a0_1 a0_2 a0_3 a0_4 a0_5 l0_6) else (spec_l02BatchOK.j0 k true false a0_1 a0_2 a0_3 a0_4 a0_5 l0_6))) = some r := by rw [if_neg (show ¬ (false = true) by decide)] at H;exact H
  clear H
  have H := H1
  clear H1
  have HC8 := am_ H
  clear H
  go_enter Try.func41,Try.ntmps41
  go_upto_region 3 with (first | ((with_reducible refine gate_dst (N := 1) rfl ?_);(try (refine gate_guard (by rfl) ?_;dsimp only));refine zbx (N := 1) (cs := #[.bool false,.int .i64 a0_1,.int .i64 a0_2,.int .i64 a0_3,.int .i64 a0_4,.string a0_5,.slice A0_6 l0_6.length c0_6]) (t := 41) ?_;intro gb712 hg w9 hbox hb;have BK712 := am_ (hbox);have GW712 := zw_ HB hg;have GE712 := zw_ HB hg;replace HB := zs_ HB hb;clear hb hbox hg;obtain ⟨hcz10_0,hcz10_1,hcz10_2,hcz10_3,hcz10_4,hcz10_5,hcz10_6,hfz10_0,hfz10_1,hfz10_2,hfz10_3,hfz10_4,hfz10_5,hfz10_6⟩ := zc7 BK712))
  (try simp only [Act.put,p1_,p2_,p3_])
  go_cut [25] (fun v25 wc => ∃ (kq : Nat) (x25_7 : Bool),v25 = .bool x25_7 ∧ Aside0 (spec_l02BatchOK.j0 kq x25_7 false a0_1 a0_2 a0_3 a0_4 a0_5 l0_6 = some r) ∧ Aside0 (kq ≤ k) ∧ Aside0 (wc.heap[gb712]? = some (.cells #[.bool false,.int .i64 a0_1,.int .i64 a0_2,.int .i64 a0_3,.int .i64 a0_4,.string a0_5,(.slice A0_6 l0_6.length c0_6)] 41 (0,0))) ∧ Aside0 (Below w.heap.size w wc))
  case first =>
   have H := HC8.out
   clear HC8
   replace H := Option.bind_eq_some_iff.mp H
   obtain ⟨t713,A110,H⟩ := H
   try dsimp only at H
   have A11 := am_ A110
   clear A110
   by_cases c12 : t713 = true
   ·subst c12
    have H1 : (spec_l02BatchOK.j0 k (decide ((l0_6.length : Int) > 7)) false a0_1 a0_2 a0_3 a0_4 a0_5 l0_6) = some r := by rw [if_pos rfl] at H;exact H
    clear H
    have H := H1
    clear H1
    have H' := am_ H
    clear H
    obtain ⟨hcz13_0,hcz13_1,hcz13_2,hcz13_3,hcz13_4,hcz13_5,hcz13_6,hfz13_0,hfz13_1,hfz13_2,hfz13_3,hfz13_4,hfz13_5,hfz13_6⟩ := zc7 BK712
    go_wp2_with (first | ((with_reducible refine gate_callee (f := 33) rfl ?_);refine zgl (some 18) Try.func33 #[.agg #[.int .i64 a0_1,.int .i64 a0_2,.int .i64 a0_3,.int .i64 a0_4,.string a0_5]] ?_;(with_reducible refine (spec_RequestOK.calls k a0_1 a0_2 a0_3 a0_4 a0_5 true _ A11.out).mono ?_);rintro e w14 ⟨rfl,hb⟩;refine ⟨_,rfl,?_⟩;replace BK712 := zb BK712 hb;replace HB := zs_ HB hb;(try clear hb);(try clear hb2);(try clear hk);(try clear hi);obtain ⟨hcz15_0,hcz15_1,hcz15_2,hcz15_3,hcz15_4,hcz15_5,hcz15_6,hfz15_0,hfz15_1,hfz15_2,hfz15_3,hfz15_4,hfz15_5,hfz15_6⟩ := zc7 BK712))
    go_meet
    case rel => exact ⟨_,(decide ((l0_6.length : Int) > 7)),(by first | rfl | (simp;done) | (simp [*];done)),H',⟨by first | omega | exact Nat.le_refl _⟩,⟨by (with_reducible repeat (first | apply k1_ | apply k2_ | apply k3_));exact BK712.out⟩,⟨zl_ HB⟩⟩
   ·replace c12 := Bool.eq_false_iff.mpr c12
    subst c12
    have H1 : (spec_l02BatchOK.j0 k true false a0_1 a0_2 a0_3 a0_4 a0_5 l0_6) = some r := by rw [if_neg (show ¬ (false = true) by decide)] at H;exact H
    clear H
    have H := H1
    clear H1
    have H' := am_ H
    clear H
    obtain ⟨hcz16_0,hcz16_1,hcz16_2,hcz16_3,hcz16_4,hcz16_5,hcz16_6,hfz16_0,hfz16_1,hfz16_2,hfz16_3,hfz16_4,hfz16_5,hfz16_6⟩ := zc7 BK712
    go_wp2_with (first | ((with_reducible refine gate_callee (f := 33) rfl ?_);refine zgl (some 18) Try.func33 #[.agg #[.int .i64 a0_1,.int .i64 a0_2,.int .i64 a0_3,.int .i64 a0_4,.string a0_5]] ?_;(with_reducible refine (spec_RequestOK.calls k a0_1 a0_2 a0_3 a0_4 a0_5 false _ A11.out).mono ?_);rintro e w17 ⟨rfl,hb⟩;refine ⟨_,rfl,?_⟩;replace BK712 := zb BK712 hb;replace HB := zs_ HB hb;(try clear hb);(try clear hb2);(try clear hk);(try clear hi)))
    go_meet
    case rel => exact ⟨_,(true),(by first | rfl | (simp;done) | (simp [*];done)),H',⟨by first | omega | exact Nat.le_refl _⟩,⟨by (with_reducible repeat (first | apply k1_ | apply k2_ | apply k3_));exact BK712.out⟩,⟨zl_ HB⟩⟩
  case rest =>
   clear HC8
   try clear c1
   try clear c2
   try clear p2
   try clear c3
   try clear c3b0
   try clear c3b1
   try clear c3b2
   try clear c4
   try clear c12
   try clear hcz10_0
   try clear hcz10_1
   try clear hcz10_2
   try clear hcz10_3
   try clear hcz10_4
   try clear hcz10_5
   try clear hcz10_6
   try clear hcz13_0
   try clear hcz13_1
   try clear hcz13_2
   try clear hcz13_3
   try clear hcz13_4
   try clear hcz13_5
   try clear hcz13_6
   try clear hcz15_0
   try clear hcz15_1
   try clear hcz15_2
   try clear hcz15_3
   try clear hcz15_4
   try clear hcz15_5
   try clear hcz15_6
   try clear hcz16_0
   try clear hcz16_1
   try clear hcz16_2
   try clear hcz16_3
   try clear hcz16_4
   try clear hcz16_5
   try clear hcz16_6
   try clear hcz5_0
   try clear hcz5_1
   try clear hcz5_2
   try clear hcz5_3
   try clear hcz5_4
   try clear hcz5_5
   try clear hcz5_6
   try clear hcz7_0
   try clear hcz7_1
   try clear hcz7_2
   try clear hcz7_3
   try clear hcz7_4
   try clear hcz7_5
   try clear hcz7_6
   try clear hfz10_0
   try clear hfz10_1
   try clear hfz10_2
   try clear hfz10_3
   try clear hfz10_4
   try clear hfz10_5
   try clear hfz10_6
   try clear hfz13_0
   try clear hfz13_1
   try clear hfz13_2
   try clear hfz13_3
   try clear hfz13_4
   try clear hfz13_5
   try clear hfz13_6
   try clear hfz15_0
   try clear hfz15_1
   try clear hfz15_2
   try clear hfz15_3
   try clear hfz15_4
   try clear hfz15_5
   try clear hfz15_6
   try clear hfz16_0
   try clear hfz16_1
   try clear hfz16_2
   try clear hfz16_3
   try clear hfz16_4
   try clear hfz16_5
   try clear hfz16_6
   try clear hfz5_0
   try clear hfz5_1
   try clear hfz5_2
   try clear hfz5_3
   try clear hfz5_4
   try clear hfz5_5
   try clear hfz5_6
   try clear hfz7_0
   try clear hfz7_1
   try clear hfz7_2
   try clear hfz7_3
   try clear hfz7_4
   try clear hfz7_5
   try clear hfz7_6
   obtain ⟨kq,x25_7,rfl,HA,HJ7,BK712,HB⟩ := hcut
   cases kq with
   | zero => exact absurd HA.out (by simp [spec_l02BatchOK.j0])
   | succ kj7 =>
    have H := HA.out
    clear HA
    simp only [spec_l02BatchOK.j0] at H
    by_cases c18 : x25_7 = true
    ·subst c18
     have H1 : (some false) = some r := by rw [if_pos rfl] at H;exact H
     clear H
     have H := H1
     clear H1
     obtain rfl := Option.some.inj H
     go_wp2
     go_ret
     exact ⟨zt_,zl_ HB⟩
    ·replace c18 := Bool.eq_false_iff.mpr c18
     subst c18
     have H1 : (spec_l02BatchOK.l0 kj7 0 false a0_1 a0_2 a0_3 a0_4 a0_5 l0_6) = some r := by rw [if_neg (show ¬ (false = true) by decide)] at H;exact H
     clear H
     have H := H1
     clear H1
     have H' := am_ H
     clear H
     go_wp2
     go_loopg [3] kj7 (fun kq v3 w' => ∃ (x3_2 : Int),v3 = .int .i64 x3_2 ∧ Aside0 (spec_l02BatchOK.l0 kq x3_2 false a0_1 a0_2 a0_3 a0_4 a0_5 l0_6 = some r) ∧ Aside0 (kq ≤ kj7) ∧ Aside0 (w'.heap[gb712]? = some (.cells #[.bool false,.int .i64 a0_1,.int .i64 a0_2,.int .i64 a0_3,.int .i64 a0_4,.string a0_5,(.slice A0_6 l0_6.length c0_6)] 41 (0,0))) ∧ Aside0 (Below w.heap.size w w'))
     case atStart => exact ⟨(0),(by first | rfl | (simp;done) | (simp [*];done)),H',⟨Nat.le_refl _⟩,⟨by (with_reducible repeat (first | apply k1_ | apply k2_ | apply k3_));exact BK712.out⟩,⟨zl_ HB⟩⟩
     case round =>
      clear H'
      try clear c1
      try clear c2
      try clear p2
      try clear c3
      try clear c3b0
      try clear c3b1
      try clear c3b2
      try clear c4
      try clear c12
      try clear c18
      try clear hcz10_0
      try clear hcz10_1
      try clear hcz10_2
      try clear hcz10_3
      try clear hcz10_4
      try clear hcz10_5
      try clear hcz10_6
      try clear hcz13_0
      try clear hcz13_1
      try clear hcz13_2
      try clear hcz13_3
      try clear hcz13_4
      try clear hcz13_5
      try clear hcz13_6
      try clear hcz15_0
      try clear hcz15_1
      try clear hcz15_2
      try clear hcz15_3
      try clear hcz15_4
      try clear hcz15_5
      try clear hcz15_6
      try clear hcz16_0
      try clear hcz16_1
      try clear hcz16_2
      try clear hcz16_3
      try clear hcz16_4
      try clear hcz16_5
      try clear hcz16_6
      try clear hcz5_0
      try clear hcz5_1
      try clear hcz5_2
      try clear hcz5_3
      try clear hcz5_4
      try clear hcz5_5
      try clear hcz5_6
      try clear hcz7_0
      try clear hcz7_1
      try clear hcz7_2
      try clear hcz7_3
      try clear hcz7_4
      try clear hcz7_5
      try clear hcz7_6
      try clear hfz10_0
      try clear hfz10_1
      try clear hfz10_2
      try clear hfz10_3
      try clear hfz10_4
      try clear hfz10_5
      try clear hfz10_6
      try clear hfz13_0
      try clear hfz13_1
      try clear hfz13_2
      try clear hfz13_3
      try clear hfz13_4
      try clear hfz13_5
      try clear hfz13_6
      try clear hfz15_0
      try clear hfz15_1
      try clear hfz15_2
      try clear hfz15_3
      try clear hfz15_4
      try clear hfz15_5
      try clear hfz15_6
      try clear hfz16_0
      try clear hfz16_1
      try clear hfz16_2
      try clear hfz16_3
      try clear hfz16_4
      try clear hfz16_5
      try clear hfz16_6
      try clear hfz5_0
      try clear hfz5_1
      try clear hfz5_2
      try clear hfz5_3
      try clear hfz5_4
      try clear hfz5_5
      try clear hfz5_6
      try clear hfz7_0
      try clear hfz7_1
      try clear hfz7_2
      try clear hfz7_3
      try clear hfz7_4
      try clear hfz7_5
      try clear hfz7_6
      try clear p2
      obtain ⟨x3_2,rfl,HA,HK2,BK712,HB⟩ := hrel
      cases gk with
      | zero => exact absurd HA.out (by simp [spec_l02BatchOK.l0])
      | succ k2 =>
       have H := HA.out
       clear HA
       simp only [spec_l02BatchOK.l0] at H
       by_cases c19 : x3_2 < (l0_6.length : Int)
       ·rw [if_pos c19] at H
        have c19b0 : decide (x3_2 < (l0_6.length : Int)) = true := decide_eq_true c19
        clear c19
        by_cases c20 : 0 ≤ x3_2
        ·rw [if_pos c20] at H
         have c20b0 : decide (0 ≤ x3_2) = true := decide_eq_true c20
         clear c20
         replace H := Option.bind_eq_some_iff.mp H
         obtain ⟨t715,A210,H⟩ := H
         try dsimp only at H
         have A21 := am_ A210
         clear A210
         by_cases c22 : t715 = true
         ·subst c22
          have H1 : (if x3_2 > 0 then (if 0 ≤ (wrap64 (x3_2 - 1)) then (if (wrap64 (x3_2 - 1)) < (l0_6.length : Int) then (if ((rd_T70 l0_6 (wrap64 (x3_2 - 1))).f0) ≥ ((rd_T70 l0_6 x3_2).f0) then (some false) else (spec_l02BatchOK.l0 k2 (wrap64 (x3_2 + 1)) false a0_1 a0_2 a0_3 a0_4 a0_5 l0_6)) else (none)) else (none)) else (spec_l02BatchOK.l0 k2 (wrap64 (x3_2 + 1)) false a0_1 a0_2 a0_3 a0_4 a0_5 l0_6)) = some r := by rw [if_pos rfl] at H;exact H
          clear H
          have H := H1
          clear H1
          by_cases c23 : x3_2 > 0
          ·rw [if_pos c23] at H
           have c23b0 : decide (0 < x3_2) = true := decide_eq_true c23
           clear c23
           obtain ⟨ji24,hji24⟩ : ∃ j_ : Int,(wrap64 (x3_2 - 1)) = j_ := ⟨_,rfl⟩
           replace H : (if 0 ≤ (ji24) then (if (ji24) < (l0_6.length : Int) then (if ((rd_T70 l0_6 (ji24)).f0) ≥ ((rd_T70 l0_6 x3_2).f0) then (some false) else (spec_l02BatchOK.l0 k2 (wrap64 (x3_2 + 1)) false a0_1 a0_2 a0_3 a0_4 a0_5 l0_6)) else (none)) else (none)) = some r := by first | (rw [hji24] at H;exact H) | (simp only [hji24] at H ⊢;exact H)
           (try rw [hji24] at A21)
           have hji24w : (IntKind.i64.wrap (x3_2 - 1)) = ji24 := (i64_w _).trans hji24
           by_cases c25 : 0 ≤ (ji24)
           ·rw [if_pos c25] at H
            have c25b0 : decide (0 ≤ (ji24)) = true := decide_eq_true c25
            clear c25
            by_cases c26 : (ji24) < (l0_6.length : Int)
            ·rw [if_pos c26] at H
             have c26b0 : decide ((ji24) < (l0_6.length : Int)) = true := decide_eq_true c26
             clear c26
             by_cases c27 : ((rd_T70 l0_6 (ji24)).f0) ≥ ((rd_T70 l0_6 x3_2).f0)
             ·rw [if_pos c27] at H
              have c27b0 : decide (((rd_T70 l0_6 x3_2).f0) ≤ ((rd_T70 l0_6 (ji24)).f0)) = true := decide_eq_true c27
              clear c27
              obtain rfl := Option.some.inj H
              obtain ⟨hcz28_0,hcz28_1,hcz28_2,hcz28_3,hcz28_4,hcz28_5,hcz28_6,hfz28_0,hfz28_1,hfz28_2,hfz28_3,hfz28_4,hfz28_5,hfz28_6⟩ := zc7 BK712
              try go_wp2
              replace BK712 := am_ (blk_drew BK712.out)
              replace HB := am_ (below_drew1 HB.out)
              have p714 : 0 ≤ (x3_2 : Int) := o1_ (by first | (with_reducible assumption) | assumption)
              have q714 : x3_2 < (l0_6.length : Int) := o1_ (by first | (with_reducible assumption) | assumption)
              obtain ⟨ad714,e714,hx714_0,hx714_1,hx714_2⟩ := at_T70 HR0_6.out x3_2 p714 q714
              have hw714_2 := hx714_2
              have hw714_1 := hx714_1
              have hw714_0 := hx714_0
              cases e714
              replace hx714_0 := (HB.out.cell (World.block_lt_of_cell? w _ hx714_0)).trans hx714_0
              replace hx714_1 := (HB.out.cell (World.block_lt_of_cell? w _ hx714_1)).trans hx714_1
              replace hx714_2 := (HB.out.cell (World.block_lt_of_cell? w _ hx714_2)).trans hx714_2
              replace p714 := eq_true p714
              replace q714 := eq_true q714
              have p716 : 0 ≤ ((ji24) : Int) := o1_ (by first | (with_reducible assumption) | assumption)
              have q716 : (ji24) < (l0_6.length : Int) := o1_ (by first | (with_reducible assumption) | assumption)
              obtain ⟨ad716,e716,hx716_0,hx716_1,hx716_2⟩ := at_T70 HR0_6.out (ji24) p716 q716
              have hw716_2 := hx716_2
              have hw716_1 := hx716_1
              have hw716_0 := hx716_0
              obtain rfl : ad714 = ad716 := (by injection e716)
              replace hx716_0 := (HB.out.cell (World.block_lt_of_cell? w _ hx716_0)).trans hx716_0
              replace hx716_1 := (HB.out.cell (World.block_lt_of_cell? w _ hx716_1)).trans hx716_1
              replace hx716_2 := (HB.out.cell (World.block_lt_of_cell? w _ hx716_2)).trans hx716_2
              replace p716 := eq_true p716
              replace q716 := eq_true q716
              have p717 : 0 ≤ (x3_2 : Int) := o1_ (by first | (with_reducible assumption) | assumption)
              have q717 : x3_2 < (l0_6.length : Int) := o1_ (by first | (with_reducible assumption) | assumption)
              obtain ⟨ad717,e717,hx717_0,hx717_1,hx717_2⟩ := at_T70 HR0_6.out x3_2 p717 q717
              have hw717_2 := hx717_2
              have hw717_1 := hx717_1
              have hw717_0 := hx717_0
              obtain rfl : ad714 = ad717 := (by injection e717)
              replace hx717_0 := (HB.out.cell (World.block_lt_of_cell? w _ hx717_0)).trans hx717_0
              replace hx717_1 := (HB.out.cell (World.block_lt_of_cell? w _ hx717_1)).trans hx717_1
              replace hx717_2 := (HB.out.cell (World.block_lt_of_cell? w _ hx717_2)).trans hx717_2
              replace p717 := eq_true p717
              replace q717 := eq_true q717
              refine start_ (n := 27) (S := fun w' => w'.cell? ⟨gb712,0,none⟩ = some (.bool false) ∧ w'.cell? ⟨gb712,1,none⟩ = some (.int .i64 a0_1) ∧ w'.cell? ⟨gb712,2,none⟩ = some (.int .i64 a0_2) ∧ w'.cell? ⟨gb712,3,none⟩ = some (.int .i64 a0_3) ∧ w'.cell? ⟨gb712,4,none⟩ = some (.int .i64 a0_4) ∧ w'.cell? ⟨gb712,5,none⟩ = some (.string a0_5) ∧ w'.cell? ⟨gb712,6,none⟩ = some (.slice (some ad714) l0_6.length c0_6) ∧ w'.cell? (ad714.add ((x3_2).toNat * 3)) = some (.int .i64 ((rd_T70 l0_6 x3_2).f0)) ∧ w'.cell? ⟨(ad714.add ((x3_2).toNat * 3)).block,(ad714.add ((x3_2).toNat * 3)).off + 1,none⟩ = some (.int .i64 ((rd_T70 l0_6 x3_2).f1)) ∧ w'.cell? ⟨(ad714.add ((x3_2).toNat * 3)).block,(ad714.add ((x3_2).toNat * 3)).off + 2,none⟩ = some (.string ((rd_T70 l0_6 x3_2).f2)) ∧ w'.cell? (ad714.add (((ji24)).toNat * 3)) = some (.int .i64 ((rd_T70 l0_6 (ji24)).f0)) ∧ w'.cell? ⟨(ad714.add (((ji24)).toNat * 3)).block,(ad714.add (((ji24)).toNat * 3)).off + 1,none⟩ = some (.int .i64 ((rd_T70 l0_6 (ji24)).f1)) ∧ w'.cell? ⟨(ad714.add (((ji24)).toNat * 3)).block,(ad714.add (((ji24)).toNat * 3)).off + 2,none⟩ = some (.string ((rd_T70 l0_6 (ji24)).f2)) ∧ w'.cell? (ad714.add ((x3_2).toNat * 3)) = some (.int .i64 ((rd_T70 l0_6 x3_2).f0)) ∧ w'.cell? ⟨(ad714.add ((x3_2).toNat * 3)).block,(ad714.add ((x3_2).toNat * 3)).off + 1,none⟩ = some (.int .i64 ((rd_T70 l0_6 x3_2).f1)) ∧ w'.cell? ⟨(ad714.add ((x3_2).toNat * 3)).block,(ad714.add ((x3_2).toNat * 3)).off + 2,none⟩ = some (.string ((rd_T70 l0_6 x3_2).f2))) (ds := []) #[false,false,false,false,false,false,false,false,false,false,false,false,false,false,false,false,false,false,false,false,false,false,false,false,false,false,false] (by kernel_rfl) rfl rfl ⟨(blk_cell BK712.out 0).trans rfl,(blk_cell BK712.out 1).trans rfl,(blk_cell BK712.out 2).trans rfl,(blk_cell BK712.out 3).trans rfl,(blk_cell BK712.out 4).trans rfl,(blk_cell BK712.out 5).trans rfl,(blk_cell BK712.out 6).trans rfl,((HB.out.cell (World.block_lt_of_cell? w _ hw714_0)).trans hw714_0),((HB.out.cell (World.block_lt_of_cell? w _ hw714_1)).trans hw714_1),((HB.out.cell (World.block_lt_of_cell? w _ hw714_2)).trans hw714_2),((HB.out.cell (World.block_lt_of_cell? w _ hw716_0)).trans hw716_0),((HB.out.cell (World.block_lt_of_cell? w _ hw716_1)).trans hw716_1),((HB.out.cell (World.block_lt_of_cell? w _ hw716_2)).trans hw716_2),((HB.out.cell (World.block_lt_of_cell? w _ hw717_0)).trans hw717_0),((HB.out.cell (World.block_lt_of_cell? w _ hw717_1)).trans hw717_1),((HB.out.cell (World.block_lt_of_cell? w _ hw717_2)).trans hw717_2)⟩ (fun hHeld => ?_);refine with_tabW spec_l02BatchOK.tab8 spec_l02BatchOK.bits8 (fun HT_ HW_ => ?_)
              generalize wr.drew = w29 at BK712 HB hx714_0 hx714_1 hx714_2 hx716_0 hx716_1 hx716_2 hx717_0 hx717_1 hx717_2 hHeld ⊢
              refine zpu 0 (N := some 33) #[true,false,false,false,false,false,false,false,false,false,false,false,false,false,false,false,false,false,false,false,false,false,false,false,false,false,false] HT_ ?_
              refine zpu 2 (N := some 35) #[true,false,true,false,false,false,false,false,false,false,false,false,false,false,false,false,false,false,false,false,false,false,false,false,false,false,false] HT_ ?_
              refine ztk 1 (N := some 34) #[true,true,true,false,false,false,false,false,false,false,false,false,false,false,false,false,false,false,false,false,false,false,false,false,false,false,false] HT_ HW_ hHeld ?_
              refine zpu 3 (N := some 36) #[true,true,true,true,false,false,false,false,false,false,false,false,false,false,false,false,false,false,false,false,false,false,false,false,false,false,false] HT_ ?_
              refine ztk 4 (N := some 37) #[true,true,true,true,true,false,false,false,false,false,false,false,false,false,false,false,false,false,false,false,false,false,false,false,false,false,false] HT_ HW_ hHeld ?_
              refine one_ (i := 5) (N := some 38) #[true,true,true,true,true,true,false,false,false,false,false,false,false,false,false,false,false,false,false,false,false,false,false,false,false,false,false] rfl rfl (one_of HT_.out (by kernel_rfl)) (by decide) (fun K hK => ?_)
              refine goes_ Try.func62 (by kernel_rfl) rfl #[.agg #[.int .i64 ((rd_T70 l0_6 x3_2).f0),.int .i64 ((rd_T70 l0_6 x3_2).f1),.string ((rd_T70 l0_6 x3_2).f2)]] (by rfl) rfl rfl (by (try simp only [m1_,m2_,m3_]);first | done | rfl | (simp only [d1_,d2_];rfl)) ?_
              with_reducible refine (spec_l02Reading.calls ((rd_T70 l0_6 x3_2).f0) ((rd_T70 l0_6 x3_2).f1) ((rd_T70 l0_6 x3_2).f2) true _ A21.out).mono ?_
              rintro e w30 ⟨rfl,hb⟩
              refine ⟨_,rfl,?_⟩
              replace BK712 := zb BK712 hb
              replace HB := zs_ HB hb
              (try clear hb)
              (try clear hb2)
              (try clear hk)
              (try clear hi)
              refine hK.out _ _ ⟨(blk_cell BK712.out 0).trans rfl,(blk_cell BK712.out 1).trans rfl,(blk_cell BK712.out 2).trans rfl,(blk_cell BK712.out 3).trans rfl,(blk_cell BK712.out 4).trans rfl,(blk_cell BK712.out 5).trans rfl,(blk_cell BK712.out 6).trans rfl,((HB.out.cell (World.block_lt_of_cell? w _ hw714_0)).trans hw714_0),((HB.out.cell (World.block_lt_of_cell? w _ hw714_1)).trans hw714_1),((HB.out.cell (World.block_lt_of_cell? w _ hw714_2)).trans hw714_2),((HB.out.cell (World.block_lt_of_cell? w _ hw716_0)).trans hw716_0),((HB.out.cell (World.block_lt_of_cell? w _ hw716_1)).trans hw716_1),((HB.out.cell (World.block_lt_of_cell? w _ hw716_2)).trans hw716_2),((HB.out.cell (World.block_lt_of_cell? w _ hw717_0)).trans hw717_0),((HB.out.cell (World.block_lt_of_cell? w _ hw717_1)).trans hw717_1),((HB.out.cell (World.block_lt_of_cell? w _ hw717_2)).trans hw717_2)⟩ (fun hHeld => ?_)
              clear hK K
              refine norm_ (a' := ?_) ?_ ?_
              rotate_left
              ·show Act.put _ (some 38) _ = _
               simp only [Act.put,p1_,p2_,p3_,i64_w,i32_w]
               rfl
              refine zpu 6 (N := some 39) #[true,true,true,true,true,true,true,false,false,false,false,false,false,false,false,false,false,false,false,false,false,false,false,false,false,false,false] HT_ ?_
              refine zpu 7 (N := some 40) #[true,true,true,true,true,true,true,true,false,false,false,false,false,false,false,false,false,false,false,false,false,false,false,false,false,false,false] HT_ ?_
              refine zpu 8 (N := some 41) #[true,true,true,true,true,true,true,true,true,false,false,false,false,false,false,false,false,false,false,false,false,false,false,false,false,false,false] HT_ ?_
              refine zpu 9 (N := some 42) #[true,true,true,true,true,true,true,true,true,true,false,false,false,false,false,false,false,false,false,false,false,false,false,false,false,false,false] HT_ ?_
              refine zpu 10 (N := some 43) #[true,true,true,true,true,true,true,true,true,true,true,false,false,false,false,false,false,false,false,false,false,false,false,false,false,false,false] HT_ ?_
              refine zpu 11 (N := some 44) #[true,true,true,true,true,true,true,true,true,true,true,true,false,false,false,false,false,false,false,false,false,false,false,false,false,false,false] HT_ ?_
              refine zpu 13 (N := some 46) #[true,true,true,true,true,true,true,true,true,true,true,true,false,true,false,false,false,false,false,false,false,false,false,false,false,false,false] HT_ ?_
              refine zpu 14 (N := some 47) #[true,true,true,true,true,true,true,true,true,true,true,true,false,true,true,false,false,false,false,false,false,false,false,false,false,false,false] HT_ ?_
              refine zpu 18 (N := some 51) #[true,true,true,true,true,true,true,true,true,true,true,true,false,true,true,false,false,false,true,false,false,false,false,false,false,false,false] HT_ ?_
              refine zpu 20 (N := some 53) #[true,true,true,true,true,true,true,true,true,true,true,true,false,true,true,false,false,false,true,false,true,false,false,false,false,false,false] HT_ ?_
              refine ztk 12 (N := some 45) #[true,true,true,true,true,true,true,true,true,true,true,true,true,true,true,false,false,false,true,false,true,false,false,false,false,false,false] HT_ HW_ hHeld ?_
              refine zpu 15 (N := some 48) #[true,true,true,true,true,true,true,true,true,true,true,true,true,true,true,true,false,false,true,false,true,false,false,false,false,false,false] HT_ ?_
              refine zpu 16 (N := some 49) #[true,true,true,true,true,true,true,true,true,true,true,true,true,true,true,true,true,false,true,false,true,false,false,false,false,false,false] HT_ ?_
              refine ztk 17 (N := some 50) #[true,true,true,true,true,true,true,true,true,true,true,true,true,true,true,true,true,true,true,false,true,false,false,false,false,false,false] HT_ HW_ hHeld ?_
              refine ztk 19 (N := some 52) #[true,true,true,true,true,true,true,true,true,true,true,true,true,true,true,true,true,true,true,true,true,false,false,false,false,false,false] HT_ HW_ hHeld ?_
              refine zpu 21 (N := some 54) #[true,true,true,true,true,true,true,true,true,true,true,true,true,true,true,true,true,true,true,true,true,true,false,false,false,false,false] HT_ ?_
              refine zpu 22 (N := some 55) #[true,true,true,true,true,true,true,true,true,true,true,true,true,true,true,true,true,true,true,true,true,true,true,false,false,false,false] HT_ ?_
              refine ztk 23 (N := some 56) #[true,true,true,true,true,true,true,true,true,true,true,true,true,true,true,true,true,true,true,true,true,true,true,true,false,false,false] HT_ HW_ hHeld ?_
              refine zpu 24 (N := some 57) #[true,true,true,true,true,true,true,true,true,true,true,true,true,true,true,true,true,true,true,true,true,true,true,true,true,false,false] HT_ ?_
              refine zpu 25 (N := some 58) #[true,true,true,true,true,true,true,true,true,true,true,true,true,true,true,true,true,true,true,true,true,true,true,true,true,true,false] HT_ ?_
              refine zpu 26 (N := some 59) #[true,true,true,true,true,true,true,true,true,true,true,true,true,true,true,true,true,true,true,true,true,true,true,true,true,true,true] HT_ ?_
              refine done_ (done_of HT_.out (by kernel_rfl)) ?_
              try go_wp2
              go_ret
              exact ⟨by first | rfl | (simp [e1_,e2_] <;> rfl) | (simp only [← hji24];first | rfl | (simp [e1_,e2_] <;> rfl)) | (simp [*,e1_,e2_] <;> rfl) | (simp [e3_,e4_];done) | (simp [*,e3_,e4_];done),zl_ HB⟩
             ·rw [if_neg c27] at H
              have c27b0 : decide (((rd_T70 l0_6 x3_2).f0) ≤ ((rd_T70 l0_6 (ji24)).f0)) = false := decide_eq_false c27
              clear c27
              have H' := am_ H
              clear H
              obtain ⟨hcz31_0,hcz31_1,hcz31_2,hcz31_3,hcz31_4,hcz31_5,hcz31_6,hfz31_0,hfz31_1,hfz31_2,hfz31_3,hfz31_4,hfz31_5,hfz31_6⟩ := zc7 BK712
              try go_wp2
              replace BK712 := am_ (blk_drew BK712.out)
              replace HB := am_ (below_drew1 HB.out)
              have p714 : 0 ≤ (x3_2 : Int) := o1_ (by first | (with_reducible assumption) | assumption)
              have q714 : x3_2 < (l0_6.length : Int) := o1_ (by first | (with_reducible assumption) | assumption)
              obtain ⟨ad714,e714,hx714_0,hx714_1,hx714_2⟩ := at_T70 HR0_6.out x3_2 p714 q714
              have hw714_2 := hx714_2
              have hw714_1 := hx714_1
              have hw714_0 := hx714_0
              cases e714
              replace hx714_0 := (HB.out.cell (World.block_lt_of_cell? w _ hx714_0)).trans hx714_0
              replace hx714_1 := (HB.out.cell (World.block_lt_of_cell? w _ hx714_1)).trans hx714_1
              replace hx714_2 := (HB.out.cell (World.block_lt_of_cell? w _ hx714_2)).trans hx714_2
              replace p714 := eq_true p714
              replace q714 := eq_true q714
              have p716 : 0 ≤ ((ji24) : Int) := o1_ (by first | (with_reducible assumption) | assumption)
              have q716 : (ji24) < (l0_6.length : Int) := o1_ (by first | (with_reducible assumption) | assumption)
              obtain ⟨ad716,e716,hx716_0,hx716_1,hx716_2⟩ := at_T70 HR0_6.out (ji24) p716 q716
              have hw716_2 := hx716_2
              have hw716_1 := hx716_1
              have hw716_0 := hx716_0
              obtain rfl : ad714 = ad716 := (by injection e716)
              replace hx716_0 := (HB.out.cell (World.block_lt_of_cell? w _ hx716_0)).trans hx716_0
              replace hx716_1 := (HB.out.cell (World.block_lt_of_cell? w _ hx716_1)).trans hx716_1
              replace hx716_2 := (HB.out.cell (World.block_lt_of_cell? w _ hx716_2)).trans hx716_2
              replace p716 := eq_true p716
              replace q716 := eq_true q716
              have p717 : 0 ≤ (x3_2 : Int) := o1_ (by first | (with_reducible assumption) | assumption)
              have q717 : x3_2 < (l0_6.length : Int) := o1_ (by first | (with_reducible assumption) | assumption)
              obtain ⟨ad717,e717,hx717_0,hx717_1,hx717_2⟩ := at_T70 HR0_6.out x3_2 p717 q717
              have hw717_2 := hx717_2
              have hw717_1 := hx717_1
              have hw717_0 := hx717_0
              obtain rfl : ad714 = ad717 := (by injection e717)
              replace hx717_0 := (HB.out.cell (World.block_lt_of_cell? w _ hx717_0)).trans hx717_0
              replace hx717_1 := (HB.out.cell (World.block_lt_of_cell? w _ hx717_1)).trans hx717_1
              replace hx717_2 := (HB.out.cell (World.block_lt_of_cell? w _ hx717_2)).trans hx717_2
              replace p717 := eq_true p717
              replace q717 := eq_true q717
              refine start_ (n := 27) (S := fun w' => w'.cell? ⟨gb712,0,none⟩ = some (.bool false) ∧ w'.cell? ⟨gb712,1,none⟩ = some (.int .i64 a0_1) ∧ w'.cell? ⟨gb712,2,none⟩ = some (.int .i64 a0_2) ∧ w'.cell? ⟨gb712,3,none⟩ = some (.int .i64 a0_3) ∧ w'.cell? ⟨gb712,4,none⟩ = some (.int .i64 a0_4) ∧ w'.cell? ⟨gb712,5,none⟩ = some (.string a0_5) ∧ w'.cell? ⟨gb712,6,none⟩ = some (.slice (some ad714) l0_6.length c0_6) ∧ w'.cell? (ad714.add ((x3_2).toNat * 3)) = some (.int .i64 ((rd_T70 l0_6 x3_2).f0)) ∧ w'.cell? ⟨(ad714.add ((x3_2).toNat * 3)).block,(ad714.add ((x3_2).toNat * 3)).off + 1,none⟩ = some (.int .i64 ((rd_T70 l0_6 x3_2).f1)) ∧ w'.cell? ⟨(ad714.add ((x3_2).toNat * 3)).block,(ad714.add ((x3_2).toNat * 3)).off + 2,none⟩ = some (.string ((rd_T70 l0_6 x3_2).f2)) ∧ w'.cell? (ad714.add (((ji24)).toNat * 3)) = some (.int .i64 ((rd_T70 l0_6 (ji24)).f0)) ∧ w'.cell? ⟨(ad714.add (((ji24)).toNat * 3)).block,(ad714.add (((ji24)).toNat * 3)).off + 1,none⟩ = some (.int .i64 ((rd_T70 l0_6 (ji24)).f1)) ∧ w'.cell? ⟨(ad714.add (((ji24)).toNat * 3)).block,(ad714.add (((ji24)).toNat * 3)).off + 2,none⟩ = some (.string ((rd_T70 l0_6 (ji24)).f2)) ∧ w'.cell? (ad714.add ((x3_2).toNat * 3)) = some (.int .i64 ((rd_T70 l0_6 x3_2).f0)) ∧ w'.cell? ⟨(ad714.add ((x3_2).toNat * 3)).block,(ad714.add ((x3_2).toNat * 3)).off + 1,none⟩ = some (.int .i64 ((rd_T70 l0_6 x3_2).f1)) ∧ w'.cell? ⟨(ad714.add ((x3_2).toNat * 3)).block,(ad714.add ((x3_2).toNat * 3)).off + 2,none⟩ = some (.string ((rd_T70 l0_6 x3_2).f2))) (ds := []) #[false,false,false,false,false,false,false,false,false,false,false,false,false,false,false,false,false,false,false,false,false,false,false,false,false,false,false] (by kernel_rfl) rfl rfl ⟨(blk_cell BK712.out 0).trans rfl,(blk_cell BK712.out 1).trans rfl,(blk_cell BK712.out 2).trans rfl,(blk_cell BK712.out 3).trans rfl,(blk_cell BK712.out 4).trans rfl,(blk_cell BK712.out 5).trans rfl,(blk_cell BK712.out 6).trans rfl,((HB.out.cell (World.block_lt_of_cell? w _ hw714_0)).trans hw714_0),((HB.out.cell (World.block_lt_of_cell? w _ hw714_1)).trans hw714_1),((HB.out.cell (World.block_lt_of_cell? w _ hw714_2)).trans hw714_2),((HB.out.cell (World.block_lt_of_cell? w _ hw716_0)).trans hw716_0),((HB.out.cell (World.block_lt_of_cell? w _ hw716_1)).trans hw716_1),((HB.out.cell (World.block_lt_of_cell? w _ hw716_2)).trans hw716_2),((HB.out.cell (World.block_lt_of_cell? w _ hw717_0)).trans hw717_0),((HB.out.cell (World.block_lt_of_cell? w _ hw717_1)).trans hw717_1),((HB.out.cell (World.block_lt_of_cell? w _ hw717_2)).trans hw717_2)⟩ (fun hHeld => ?_);refine with_tabW spec_l02BatchOK.tab8 spec_l02BatchOK.bits8 (fun HT_ HW_ => ?_)
              generalize wr.drew = w32 at BK712 HB hx714_0 hx714_1 hx714_2 hx716_0 hx716_1 hx716_2 hx717_0 hx717_1 hx717_2 hHeld ⊢
              refine zpu 0 (N := some 33) #[true,false,false,false,false,false,false,false,false,false,false,false,false,false,false,false,false,false,false,false,false,false,false,false,false,false,false] HT_ ?_
              refine zpu 2 (N := some 35) #[true,false,true,false,false,false,false,false,false,false,false,false,false,false,false,false,false,false,false,false,false,false,false,false,false,false,false] HT_ ?_
              refine ztk 1 (N := some 34) #[true,true,true,false,false,false,false,false,false,false,false,false,false,false,false,false,false,false,false,false,false,false,false,false,false,false,false] HT_ HW_ hHeld ?_
              refine zpu 3 (N := some 36) #[true,true,true,true,false,false,false,false,false,false,false,false,false,false,false,false,false,false,false,false,false,false,false,false,false,false,false] HT_ ?_
              refine ztk 4 (N := some 37) #[true,true,true,true,true,false,false,false,false,false,false,false,false,false,false,false,false,false,false,false,false,false,false,false,false,false,false] HT_ HW_ hHeld ?_
              refine one_ (i := 5) (N := some 38) #[true,true,true,true,true,true,false,false,false,false,false,false,false,false,false,false,false,false,false,false,false,false,false,false,false,false,false] rfl rfl (one_of HT_.out (by kernel_rfl)) (by decide) (fun K hK => ?_)
              refine goes_ Try.func62 (by kernel_rfl) rfl #[.agg #[.int .i64 ((rd_T70 l0_6 x3_2).f0),.int .i64 ((rd_T70 l0_6 x3_2).f1),.string ((rd_T70 l0_6 x3_2).f2)]] (by rfl) rfl rfl (by (try simp only [m1_,m2_,m3_]);first | done | rfl | (simp only [d1_,d2_];rfl)) ?_
              with_reducible refine (spec_l02Reading.calls ((rd_T70 l0_6 x3_2).f0) ((rd_T70 l0_6 x3_2).f1) ((rd_T70 l0_6 x3_2).f2) true _ A21.out).mono ?_
              rintro e w33 ⟨rfl,hb⟩
              refine ⟨_,rfl,?_⟩
              replace BK712 := zb BK712 hb
              replace HB := zs_ HB hb
              (try clear hb)
              (try clear hb2)
              (try clear hk)
              (try clear hi)
              refine hK.out _ _ ⟨(blk_cell BK712.out 0).trans rfl,(blk_cell BK712.out 1).trans rfl,(blk_cell BK712.out 2).trans rfl,(blk_cell BK712.out 3).trans rfl,(blk_cell BK712.out 4).trans rfl,(blk_cell BK712.out 5).trans rfl,(blk_cell BK712.out 6).trans rfl,((HB.out.cell (World.block_lt_of_cell? w _ hw714_0)).trans hw714_0),((HB.out.cell (World.block_lt_of_cell? w _ hw714_1)).trans hw714_1),((HB.out.cell (World.block_lt_of_cell? w _ hw714_2)).trans hw714_2),((HB.out.cell (World.block_lt_of_cell? w _ hw716_0)).trans hw716_0),((HB.out.cell (World.block_lt_of_cell? w _ hw716_1)).trans hw716_1),((HB.out.cell (World.block_lt_of_cell? w _ hw716_2)).trans hw716_2),((HB.out.cell (World.block_lt_of_cell? w _ hw717_0)).trans hw717_0),((HB.out.cell (World.block_lt_of_cell? w _ hw717_1)).trans hw717_1),((HB.out.cell (World.block_lt_of_cell? w _ hw717_2)).trans hw717_2)⟩ (fun hHeld => ?_)
              clear hK K
              refine norm_ (a' := ?_) ?_ ?_
              rotate_left
              ·show Act.put _ (some 38) _ = _
               simp only [Act.put,p1_,p2_,p3_,i64_w,i32_w]
               rfl
              refine zpu 6 (N := some 39) #[true,true,true,true,true,true,true,false,false,false,false,false,false,false,false,false,false,false,false,false,false,false,false,false,false,false,false] HT_ ?_
              refine zpu 7 (N := some 40) #[true,true,true,true,true,true,true,true,false,false,false,false,false,false,false,false,false,false,false,false,false,false,false,false,false,false,false] HT_ ?_
              refine zpu 8 (N := some 41) #[true,true,true,true,true,true,true,true,true,false,false,false,false,false,false,false,false,false,false,false,false,false,false,false,false,false,false] HT_ ?_
              refine zpu 9 (N := some 42) #[true,true,true,true,true,true,true,true,true,true,false,false,false,false,false,false,false,false,false,false,false,false,false,false,false,false,false] HT_ ?_
              refine zpu 10 (N := some 43) #[true,true,true,true,true,true,true,true,true,true,true,false,false,false,false,false,false,false,false,false,false,false,false,false,false,false,false] HT_ ?_
              refine zpu 11 (N := some 44) #[true,true,true,true,true,true,true,true,true,true,true,true,false,false,false,false,false,false,false,false,false,false,false,false,false,false,false] HT_ ?_
              refine zpu 13 (N := some 46) #[true,true,true,true,true,true,true,true,true,true,true,true,false,true,false,false,false,false,false,false,false,false,false,false,false,false,false] HT_ ?_
              refine zpu 14 (N := some 47) #[true,true,true,true,true,true,true,true,true,true,true,true,false,true,true,false,false,false,false,false,false,false,false,false,false,false,false] HT_ ?_
              refine zpu 18 (N := some 51) #[true,true,true,true,true,true,true,true,true,true,true,true,false,true,true,false,false,false,true,false,false,false,false,false,false,false,false] HT_ ?_
              refine zpu 20 (N := some 53) #[true,true,true,true,true,true,true,true,true,true,true,true,false,true,true,false,false,false,true,false,true,false,false,false,false,false,false] HT_ ?_
              refine ztk 12 (N := some 45) #[true,true,true,true,true,true,true,true,true,true,true,true,true,true,true,false,false,false,true,false,true,false,false,false,false,false,false] HT_ HW_ hHeld ?_
              refine zpu 15 (N := some 48) #[true,true,true,true,true,true,true,true,true,true,true,true,true,true,true,true,false,false,true,false,true,false,false,false,false,false,false] HT_ ?_
              refine zpu 16 (N := some 49) #[true,true,true,true,true,true,true,true,true,true,true,true,true,true,true,true,true,false,true,false,true,false,false,false,false,false,false] HT_ ?_
              refine ztk 17 (N := some 50) #[true,true,true,true,true,true,true,true,true,true,true,true,true,true,true,true,true,true,true,false,true,false,false,false,false,false,false] HT_ HW_ hHeld ?_
              refine ztk 19 (N := some 52) #[true,true,true,true,true,true,true,true,true,true,true,true,true,true,true,true,true,true,true,true,true,false,false,false,false,false,false] HT_ HW_ hHeld ?_
              refine zpu 21 (N := some 54) #[true,true,true,true,true,true,true,true,true,true,true,true,true,true,true,true,true,true,true,true,true,true,false,false,false,false,false] HT_ ?_
              refine zpu 22 (N := some 55) #[true,true,true,true,true,true,true,true,true,true,true,true,true,true,true,true,true,true,true,true,true,true,true,false,false,false,false] HT_ ?_
              refine ztk 23 (N := some 56) #[true,true,true,true,true,true,true,true,true,true,true,true,true,true,true,true,true,true,true,true,true,true,true,true,false,false,false] HT_ HW_ hHeld ?_
              refine zpu 24 (N := some 57) #[true,true,true,true,true,true,true,true,true,true,true,true,true,true,true,true,true,true,true,true,true,true,true,true,true,false,false] HT_ ?_
              refine zpu 25 (N := some 58) #[true,true,true,true,true,true,true,true,true,true,true,true,true,true,true,true,true,true,true,true,true,true,true,true,true,true,false] HT_ ?_
              refine zpu 26 (N := some 59) #[true,true,true,true,true,true,true,true,true,true,true,true,true,true,true,true,true,true,true,true,true,true,true,true,true,true,true] HT_ ?_
              refine done_ (done_of HT_.out (by kernel_rfl)) ?_
              try go_wp2
              go_roundg k2
              case measure => have := HJ7.out;have := HK2.out;omega
              case rel => exact ⟨(wrap64 (x3_2 + 1)),(by first | rfl | (simp;done) | (simp [*];done)),H',⟨by have := HJ7.out;have := HK2.out;omega⟩,⟨by (with_reducible repeat (first | apply k1_ | apply k2_ | apply k3_));exact BK712.out⟩,⟨zl_ HB⟩⟩
            ·rw [if_neg c26] at H
             exact absurd H (by simp)
           ·rw [if_neg c25] at H
            exact absurd H (by simp)
          ·rw [if_neg c23] at H
           have c23b0 : decide (0 < x3_2) = false := decide_eq_false c23
           clear c23
           have H' := am_ H
           clear H
           obtain ⟨hcz34_0,hcz34_1,hcz34_2,hcz34_3,hcz34_4,hcz34_5,hcz34_6,hfz34_0,hfz34_1,hfz34_2,hfz34_3,hfz34_4,hfz34_5,hfz34_6⟩ := zc7 BK712
           try go_wp2
           replace BK712 := am_ (blk_drew BK712.out)
           replace HB := am_ (below_drew1 HB.out)
           have p714 : 0 ≤ (x3_2 : Int) := o1_ (by first | (with_reducible assumption) | assumption)
           have q714 : x3_2 < (l0_6.length : Int) := o1_ (by first | (with_reducible assumption) | assumption)
           obtain ⟨ad714,e714,hx714_0,hx714_1,hx714_2⟩ := at_T70 HR0_6.out x3_2 p714 q714
           have hw714_2 := hx714_2
           have hw714_1 := hx714_1
           have hw714_0 := hx714_0
           cases e714
           replace hx714_0 := (HB.out.cell (World.block_lt_of_cell? w _ hx714_0)).trans hx714_0
           replace hx714_1 := (HB.out.cell (World.block_lt_of_cell? w _ hx714_1)).trans hx714_1
           replace hx714_2 := (HB.out.cell (World.block_lt_of_cell? w _ hx714_2)).trans hx714_2
           replace p714 := eq_true p714
           replace q714 := eq_true q714
           refine start_ (n := 27) (S := fun w' => w'.cell? ⟨gb712,0,none⟩ = some (.bool false) ∧ w'.cell? ⟨gb712,1,none⟩ = some (.int .i64 a0_1) ∧ w'.cell? ⟨gb712,2,none⟩ = some (.int .i64 a0_2) ∧ w'.cell? ⟨gb712,3,none⟩ = some (.int .i64 a0_3) ∧ w'.cell? ⟨gb712,4,none⟩ = some (.int .i64 a0_4) ∧ w'.cell? ⟨gb712,5,none⟩ = some (.string a0_5) ∧ w'.cell? ⟨gb712,6,none⟩ = some (.slice (some ad714) l0_6.length c0_6) ∧ w'.cell? (ad714.add ((x3_2).toNat * 3)) = some (.int .i64 ((rd_T70 l0_6 x3_2).f0)) ∧ w'.cell? ⟨(ad714.add ((x3_2).toNat * 3)).block,(ad714.add ((x3_2).toNat * 3)).off + 1,none⟩ = some (.int .i64 ((rd_T70 l0_6 x3_2).f1)) ∧ w'.cell? ⟨(ad714.add ((x3_2).toNat * 3)).block,(ad714.add ((x3_2).toNat * 3)).off + 2,none⟩ = some (.string ((rd_T70 l0_6 x3_2).f2))) (ds := []) #[false,false,false,false,false,false,false,false,false,false,false,false,false,false,false,false,false,false,false,false,false,false,false,false,false,false,false] (by kernel_rfl) rfl rfl ⟨(blk_cell BK712.out 0).trans rfl,(blk_cell BK712.out 1).trans rfl,(blk_cell BK712.out 2).trans rfl,(blk_cell BK712.out 3).trans rfl,(blk_cell BK712.out 4).trans rfl,(blk_cell BK712.out 5).trans rfl,(blk_cell BK712.out 6).trans rfl,((HB.out.cell (World.block_lt_of_cell? w _ hw714_0)).trans hw714_0),((HB.out.cell (World.block_lt_of_cell? w _ hw714_1)).trans hw714_1),((HB.out.cell (World.block_lt_of_cell? w _ hw714_2)).trans hw714_2)⟩ (fun hHeld => ?_);refine with_tabW spec_l02BatchOK.tab8 spec_l02BatchOK.bits8 (fun HT_ HW_ => ?_)
           generalize wr.drew = w35 at BK712 HB hx714_0 hx714_1 hx714_2 hHeld ⊢
           refine zpu 0 (N := some 33) #[true,false,false,false,false,false,false,false,false,false,false,false,false,false,false,false,false,false,false,false,false,false,false,false,false,false,false] HT_ ?_
           refine zpu 2 (N := some 35) #[true,false,true,false,false,false,false,false,false,false,false,false,false,false,false,false,false,false,false,false,false,false,false,false,false,false,false] HT_ ?_
           refine ztk 1 (N := some 34) #[true,true,true,false,false,false,false,false,false,false,false,false,false,false,false,false,false,false,false,false,false,false,false,false,false,false,false] HT_ HW_ hHeld ?_
           refine zpu 3 (N := some 36) #[true,true,true,true,false,false,false,false,false,false,false,false,false,false,false,false,false,false,false,false,false,false,false,false,false,false,false] HT_ ?_
           refine ztk 4 (N := some 37) #[true,true,true,true,true,false,false,false,false,false,false,false,false,false,false,false,false,false,false,false,false,false,false,false,false,false,false] HT_ HW_ hHeld ?_
           refine one_ (i := 5) (N := some 38) #[true,true,true,true,true,true,false,false,false,false,false,false,false,false,false,false,false,false,false,false,false,false,false,false,false,false,false] rfl rfl (one_of HT_.out (by kernel_rfl)) (by decide) (fun K hK => ?_)
           refine goes_ Try.func62 (by kernel_rfl) rfl #[.agg #[.int .i64 ((rd_T70 l0_6 x3_2).f0),.int .i64 ((rd_T70 l0_6 x3_2).f1),.string ((rd_T70 l0_6 x3_2).f2)]] (by rfl) rfl rfl (by (try simp only [m1_,m2_,m3_]);first | done | rfl | (simp only [d1_,d2_];rfl)) ?_
           with_reducible refine (spec_l02Reading.calls ((rd_T70 l0_6 x3_2).f0) ((rd_T70 l0_6 x3_2).f1) ((rd_T70 l0_6 x3_2).f2) true _ A21.out).mono ?_
           rintro e w36 ⟨rfl,hb⟩
           refine ⟨_,rfl,?_⟩
           replace BK712 := zb BK712 hb
           replace HB := zs_ HB hb
           (try clear hb)
           (try clear hb2)
           (try clear hk)
           (try clear hi)
           refine hK.out _ _ ⟨(blk_cell BK712.out 0).trans rfl,(blk_cell BK712.out 1).trans rfl,(blk_cell BK712.out 2).trans rfl,(blk_cell BK712.out 3).trans rfl,(blk_cell BK712.out 4).trans rfl,(blk_cell BK712.out 5).trans rfl,(blk_cell BK712.out 6).trans rfl,((HB.out.cell (World.block_lt_of_cell? w _ hw714_0)).trans hw714_0),((HB.out.cell (World.block_lt_of_cell? w _ hw714_1)).trans hw714_1),((HB.out.cell (World.block_lt_of_cell? w _ hw714_2)).trans hw714_2)⟩ (fun hHeld => ?_)
           clear hK K
           refine norm_ (a' := ?_) ?_ ?_
           rotate_left
           ·show Act.put _ (some 38) _ = _
            simp only [Act.put,p1_,p2_,p3_,i64_w,i32_w]
            rfl
           refine zpu 6 (N := some 39) #[true,true,true,true,true,true,true,false,false,false,false,false,false,false,false,false,false,false,false,false,false,false,false,false,false,false,false] HT_ ?_
           refine zpu 7 (N := some 40) #[true,true,true,true,true,true,true,true,false,false,false,false,false,false,false,false,false,false,false,false,false,false,false,false,false,false,false] HT_ ?_
           refine zpu 8 (N := some 41) #[true,true,true,true,true,true,true,true,true,false,false,false,false,false,false,false,false,false,false,false,false,false,false,false,false,false,false] HT_ ?_
           refine zpu 9 (N := some 42) #[true,true,true,true,true,true,true,true,true,true,false,false,false,false,false,false,false,false,false,false,false,false,false,false,false,false,false] HT_ ?_
           refine zpu 10 (N := some 43) #[true,true,true,true,true,true,true,true,true,true,true,false,false,false,false,false,false,false,false,false,false,false,false,false,false,false,false] HT_ ?_
           refine zpx 11 (N := some 44) #[true,true,true,true,true,true,true,true,true,true,true,true,false,false,false,false,false,false,false,false,false,false,false,false,false,false,false] HT_ ?_
           refine zpx 12 (N := some 45) #[true,true,true,true,true,true,true,true,true,true,true,true,true,false,false,false,false,false,false,false,false,false,false,false,false,false,false] HT_ ?_
           refine zpx 13 (N := some 46) #[true,true,true,true,true,true,true,true,true,true,true,true,true,true,false,false,false,false,false,false,false,false,false,false,false,false,false] HT_ ?_
           refine zpx 14 (N := some 47) #[true,true,true,true,true,true,true,true,true,true,true,true,true,true,true,false,false,false,false,false,false,false,false,false,false,false,false] HT_ ?_
           refine zpx 15 (N := some 48) #[true,true,true,true,true,true,true,true,true,true,true,true,true,true,true,true,false,false,false,false,false,false,false,false,false,false,false] HT_ ?_
           refine zpx 16 (N := some 49) #[true,true,true,true,true,true,true,true,true,true,true,true,true,true,true,true,true,false,false,false,false,false,false,false,false,false,false] HT_ ?_
           refine zpx 17 (N := some 50) #[true,true,true,true,true,true,true,true,true,true,true,true,true,true,true,true,true,true,false,false,false,false,false,false,false,false,false] HT_ ?_
           refine zpx 18 (N := some 51) #[true,true,true,true,true,true,true,true,true,true,true,true,true,true,true,true,true,true,true,false,false,false,false,false,false,false,false] HT_ ?_
           refine zpx 19 (N := some 52) #[true,true,true,true,true,true,true,true,true,true,true,true,true,true,true,true,true,true,true,true,false,false,false,false,false,false,false] HT_ ?_
           refine zpx 20 (N := some 53) #[true,true,true,true,true,true,true,true,true,true,true,true,true,true,true,true,true,true,true,true,true,false,false,false,false,false,false] HT_ ?_
           refine zpx 21 (N := some 54) #[true,true,true,true,true,true,true,true,true,true,true,true,true,true,true,true,true,true,true,true,true,true,false,false,false,false,false] HT_ ?_
           refine zpx 22 (N := some 55) #[true,true,true,true,true,true,true,true,true,true,true,true,true,true,true,true,true,true,true,true,true,true,true,false,false,false,false] HT_ ?_
           refine zpx 23 (N := some 56) #[true,true,true,true,true,true,true,true,true,true,true,true,true,true,true,true,true,true,true,true,true,true,true,true,false,false,false] HT_ ?_
           refine zpx 24 (N := some 57) #[true,true,true,true,true,true,true,true,true,true,true,true,true,true,true,true,true,true,true,true,true,true,true,true,true,false,false] HT_ ?_
           refine zpu 25 (N := some 58) #[true,true,true,true,true,true,true,true,true,true,true,true,true,true,true,true,true,true,true,true,true,true,true,true,true,true,false] HT_ ?_
           refine zpu 26 (N := some 59) #[true,true,true,true,true,true,true,true,true,true,true,true,true,true,true,true,true,true,true,true,true,true,true,true,true,true,true] HT_ ?_
           refine done_ (done_of HT_.out (by kernel_rfl)) ?_
           try go_wp2
           go_roundg k2
           case measure => have := HJ7.out;have := HK2.out;omega
           case rel => exact ⟨(wrap64 (x3_2 + 1)),(by first | rfl | (simp;done) | (simp [*];done)),H',⟨by have := HJ7.out;have := HK2.out;omega⟩,⟨by (with_reducible repeat (first | apply k1_ | apply k2_ | apply k3_));exact BK712.out⟩,⟨zl_ HB⟩⟩
         ·replace c22 := Bool.eq_false_iff.mpr c22
          subst c22
          have H1 : (some false) = some r := by rw [if_neg (show ¬ (false = true) by decide)] at H;exact H
          clear H
          have H := H1
          clear H1
          obtain rfl := Option.some.inj H
          obtain ⟨hcz37_0,hcz37_1,hcz37_2,hcz37_3,hcz37_4,hcz37_5,hcz37_6,hfz37_0,hfz37_1,hfz37_2,hfz37_3,hfz37_4,hfz37_5,hfz37_6⟩ := zc7 BK712
          try go_wp2
          replace BK712 := am_ (blk_drew BK712.out)
          replace HB := am_ (below_drew1 HB.out)
          have p714 : 0 ≤ (x3_2 : Int) := o1_ (by first | (with_reducible assumption) | assumption)
          have q714 : x3_2 < (l0_6.length : Int) := o1_ (by first | (with_reducible assumption) | assumption)
          obtain ⟨ad714,e714,hx714_0,hx714_1,hx714_2⟩ := at_T70 HR0_6.out x3_2 p714 q714
          have hw714_2 := hx714_2
          have hw714_1 := hx714_1
          have hw714_0 := hx714_0
          cases e714
          replace hx714_0 := (HB.out.cell (World.block_lt_of_cell? w _ hx714_0)).trans hx714_0
          replace hx714_1 := (HB.out.cell (World.block_lt_of_cell? w _ hx714_1)).trans hx714_1
          replace hx714_2 := (HB.out.cell (World.block_lt_of_cell? w _ hx714_2)).trans hx714_2
          replace p714 := eq_true p714
          replace q714 := eq_true q714
          refine start_ (n := 27) (S := fun w' => w'.cell? ⟨gb712,0,none⟩ = some (.bool false) ∧ w'.cell? ⟨gb712,1,none⟩ = some (.int .i64 a0_1) ∧ w'.cell? ⟨gb712,2,none⟩ = some (.int .i64 a0_2) ∧ w'.cell? ⟨gb712,3,none⟩ = some (.int .i64 a0_3) ∧ w'.cell? ⟨gb712,4,none⟩ = some (.int .i64 a0_4) ∧ w'.cell? ⟨gb712,5,none⟩ = some (.string a0_5) ∧ w'.cell? ⟨gb712,6,none⟩ = some (.slice (some ad714) l0_6.length c0_6) ∧ w'.cell? (ad714.add ((x3_2).toNat * 3)) = some (.int .i64 ((rd_T70 l0_6 x3_2).f0)) ∧ w'.cell? ⟨(ad714.add ((x3_2).toNat * 3)).block,(ad714.add ((x3_2).toNat * 3)).off + 1,none⟩ = some (.int .i64 ((rd_T70 l0_6 x3_2).f1)) ∧ w'.cell? ⟨(ad714.add ((x3_2).toNat * 3)).block,(ad714.add ((x3_2).toNat * 3)).off + 2,none⟩ = some (.string ((rd_T70 l0_6 x3_2).f2))) (ds := []) #[false,false,false,false,false,false,false,false,false,false,false,false,false,false,false,false,false,false,false,false,false,false,false,false,false,false,false] (by kernel_rfl) rfl rfl ⟨(blk_cell BK712.out 0).trans rfl,(blk_cell BK712.out 1).trans rfl,(blk_cell BK712.out 2).trans rfl,(blk_cell BK712.out 3).trans rfl,(blk_cell BK712.out 4).trans rfl,(blk_cell BK712.out 5).trans rfl,(blk_cell BK712.out 6).trans rfl,((HB.out.cell (World.block_lt_of_cell? w _ hw714_0)).trans hw714_0),((HB.out.cell (World.block_lt_of_cell? w _ hw714_1)).trans hw714_1),((HB.out.cell (World.block_lt_of_cell? w _ hw714_2)).trans hw714_2)⟩ (fun hHeld => ?_);refine with_tabW spec_l02BatchOK.tab8 spec_l02BatchOK.bits8 (fun HT_ HW_ => ?_)
          generalize wr.drew = w38 at BK712 HB hx714_0 hx714_1 hx714_2 hHeld ⊢
          refine zpu 0 (N := some 33) #[true,false,false,false,false,false,false,false,false,false,false,false,false,false,false,false,false,false,false,false,false,false,false,false,false,false,false] HT_ ?_
          refine zpu 2 (N := some 35) #[true,false,true,false,false,false,false,false,false,false,false,false,false,false,false,false,false,false,false,false,false,false,false,false,false,false,false] HT_ ?_
          refine ztk 1 (N := some 34) #[true,true,true,false,false,false,false,false,false,false,false,false,false,false,false,false,false,false,false,false,false,false,false,false,false,false,false] HT_ HW_ hHeld ?_
          refine zpu 3 (N := some 36) #[true,true,true,true,false,false,false,false,false,false,false,false,false,false,false,false,false,false,false,false,false,false,false,false,false,false,false] HT_ ?_
          refine ztk 4 (N := some 37) #[true,true,true,true,true,false,false,false,false,false,false,false,false,false,false,false,false,false,false,false,false,false,false,false,false,false,false] HT_ HW_ hHeld ?_
          refine one_ (i := 5) (N := some 38) #[true,true,true,true,true,true,false,false,false,false,false,false,false,false,false,false,false,false,false,false,false,false,false,false,false,false,false] rfl rfl (one_of HT_.out (by kernel_rfl)) (by decide) (fun K hK => ?_)
          refine goes_ Try.func62 (by kernel_rfl) rfl #[.agg #[.int .i64 ((rd_T70 l0_6 x3_2).f0),.int .i64 ((rd_T70 l0_6 x3_2).f1),.string ((rd_T70 l0_6 x3_2).f2)]] (by rfl) rfl rfl (by (try simp only [m1_,m2_,m3_]);first | done | rfl | (simp only [d1_,d2_];rfl)) ?_
          with_reducible refine (spec_l02Reading.calls ((rd_T70 l0_6 x3_2).f0) ((rd_T70 l0_6 x3_2).f1) ((rd_T70 l0_6 x3_2).f2) false _ A21.out).mono ?_
          rintro e w39 ⟨rfl,hb⟩
          refine ⟨_,rfl,?_⟩
          replace BK712 := zb BK712 hb
          replace HB := zs_ HB hb
          (try clear hb)
          (try clear hb2)
          (try clear hk)
          (try clear hi)
          refine hK.out _ _ ⟨(blk_cell BK712.out 0).trans rfl,(blk_cell BK712.out 1).trans rfl,(blk_cell BK712.out 2).trans rfl,(blk_cell BK712.out 3).trans rfl,(blk_cell BK712.out 4).trans rfl,(blk_cell BK712.out 5).trans rfl,(blk_cell BK712.out 6).trans rfl,((HB.out.cell (World.block_lt_of_cell? w _ hw714_0)).trans hw714_0),((HB.out.cell (World.block_lt_of_cell? w _ hw714_1)).trans hw714_1),((HB.out.cell (World.block_lt_of_cell? w _ hw714_2)).trans hw714_2)⟩ (fun hHeld => ?_)
          clear hK K
          refine norm_ (a' := ?_) ?_ ?_
          rotate_left
          ·show Act.put _ (some 38) _ = _
           simp only [Act.put,p1_,p2_,p3_,i64_w,i32_w]
           rfl
          refine zpu 6 (N := some 39) #[true,true,true,true,true,true,true,false,false,false,false,false,false,false,false,false,false,false,false,false,false,false,false,false,false,false,false] HT_ ?_
          refine zpu 7 (N := some 40) #[true,true,true,true,true,true,true,true,false,false,false,false,false,false,false,false,false,false,false,false,false,false,false,false,false,false,false] HT_ ?_
          refine zpx 8 (N := some 41) #[true,true,true,true,true,true,true,true,true,false,false,false,false,false,false,false,false,false,false,false,false,false,false,false,false,false,false] HT_ ?_
          refine zpx 9 (N := some 42) #[true,true,true,true,true,true,true,true,true,true,false,false,false,false,false,false,false,false,false,false,false,false,false,false,false,false,false] HT_ ?_
          refine zpx 10 (N := some 43) #[true,true,true,true,true,true,true,true,true,true,true,false,false,false,false,false,false,false,false,false,false,false,false,false,false,false,false] HT_ ?_
          refine zpx 11 (N := some 44) #[true,true,true,true,true,true,true,true,true,true,true,true,false,false,false,false,false,false,false,false,false,false,false,false,false,false,false] HT_ ?_
          refine zpx 12 (N := some 45) #[true,true,true,true,true,true,true,true,true,true,true,true,true,false,false,false,false,false,false,false,false,false,false,false,false,false,false] HT_ ?_
          refine zpx 13 (N := some 46) #[true,true,true,true,true,true,true,true,true,true,true,true,true,true,false,false,false,false,false,false,false,false,false,false,false,false,false] HT_ ?_
          refine zpx 14 (N := some 47) #[true,true,true,true,true,true,true,true,true,true,true,true,true,true,true,false,false,false,false,false,false,false,false,false,false,false,false] HT_ ?_
          refine zpx 15 (N := some 48) #[true,true,true,true,true,true,true,true,true,true,true,true,true,true,true,true,false,false,false,false,false,false,false,false,false,false,false] HT_ ?_
          refine zpx 16 (N := some 49) #[true,true,true,true,true,true,true,true,true,true,true,true,true,true,true,true,true,false,false,false,false,false,false,false,false,false,false] HT_ ?_
          refine zpx 17 (N := some 50) #[true,true,true,true,true,true,true,true,true,true,true,true,true,true,true,true,true,true,false,false,false,false,false,false,false,false,false] HT_ ?_
          refine zpx 18 (N := some 51) #[true,true,true,true,true,true,true,true,true,true,true,true,true,true,true,true,true,true,true,false,false,false,false,false,false,false,false] HT_ ?_
          refine zpx 19 (N := some 52) #[true,true,true,true,true,true,true,true,true,true,true,true,true,true,true,true,true,true,true,true,false,false,false,false,false,false,false] HT_ ?_
          refine zpx 20 (N := some 53) #[true,true,true,true,true,true,true,true,true,true,true,true,true,true,true,true,true,true,true,true,true,false,false,false,false,false,false] HT_ ?_
          refine zpx 21 (N := some 54) #[true,true,true,true,true,true,true,true,true,true,true,true,true,true,true,true,true,true,true,true,true,true,false,false,false,false,false] HT_ ?_
          refine zpx 22 (N := some 55) #[true,true,true,true,true,true,true,true,true,true,true,true,true,true,true,true,true,true,true,true,true,true,true,false,false,false,false] HT_ ?_
          refine zpx 23 (N := some 56) #[true,true,true,true,true,true,true,true,true,true,true,true,true,true,true,true,true,true,true,true,true,true,true,true,false,false,false] HT_ ?_
          refine zpx 24 (N := some 57) #[true,true,true,true,true,true,true,true,true,true,true,true,true,true,true,true,true,true,true,true,true,true,true,true,true,false,false] HT_ ?_
          refine zpx 25 (N := some 58) #[true,true,true,true,true,true,true,true,true,true,true,true,true,true,true,true,true,true,true,true,true,true,true,true,true,true,false] HT_ ?_
          refine zpu 26 (N := some 59) #[true,true,true,true,true,true,true,true,true,true,true,true,true,true,true,true,true,true,true,true,true,true,true,true,true,true,true] HT_ ?_
          refine done_ (done_of HT_.out (by kernel_rfl)) ?_
          try go_wp2
          go_ret
          exact ⟨zt_,zl_ HB⟩
        ·rw [if_neg c20] at H
         exact absurd H (by simp)
       ·rw [if_neg c19] at H
        have c19b0 : decide (x3_2 < (l0_6.length : Int)) = false := decide_eq_false c19
        clear c19
        obtain rfl := Option.some.inj H
        obtain ⟨hcz40_0,hcz40_1,hcz40_2,hcz40_3,hcz40_4,hcz40_5,hcz40_6,hfz40_0,hfz40_1,hfz40_2,hfz40_3,hfz40_4,hfz40_5,hfz40_6⟩ := zc7 BK712
        go_wp2
        go_ret
        exact ⟨zt_,zl_ HB⟩
end Go.Proofs.Ytdpdbegglkdgnaa.A
end

section
namespace Go.Proofs.Ytdpdbegglkdgnaa.A
open Go.RowKit Go.Proofs.YtdpdbegglkdgnaaW.PrintWords Go.Proofs.YtdpdbegglkdgnaaW.PrintLast Go.Proofs.YtdpdbegglkdgnaaW.PrintMore
attribute [local go_sem] max2_int min2_int max_two min_two max_three min_three max_four min_four
set_option maxHeartbeats 8000000 in
set_option maxRecDepth 100000 in
theorem spec_BatchBytes.calls (k : Nat) (a0_0 : Bool) (a0_1 : Int) (a0_2 : Int) (a0_3 : Int) (a0_4 : Int) (a0_5 : ByteArray) (A0_6 : Option Addr) (c0_6 : Nat) (l0_6 : List (S70)) (r1 : List Int) (r2 : Int) (w : World) (hr0_6 : Kd.C k70 w A0_6 l0_6.length l0_6) (hc0_6 : l0_6.length ≤ c0_6) (h : spec_BatchBytes.f k a0_0 a0_1 a0_2 a0_3 a0_4 a0_5 l0_6 = some (r1,r2)) :
  Calls Try.prog 18 #[.agg #[.bool a0_0,.int .i64 a0_1,.int .i64 a0_2,.int .i64 a0_3,.int .i64 a0_4,.string a0_5,.slice A0_6 l0_6.length c0_6]] w fun e w' => ∃ v0_ : Value,e = .returned (.tuple #[v0_,.int .i64 r2]) ∧ Kd.R (Kd.int .u8) 5 w' w.heap.size (fun _ => True) v0_ r1 ∧ Below w.heap.size w w' := by
 have hu41 := Try.underlying41
 have HR0_6 := am_ hr0_6
 have HC0_6 := am_ hc0_6
 clear hr0_6 hc0_6
 have HB := am_ (Below.refl w.heap.size w)
 have H : ((spec_l02BatchOK.f k a0_0 a0_1 a0_2 a0_3 a0_4 a0_5 l0_6).bind fun t719 => (if t719 = true then ((spec_l02Batch.f k a0_0 a0_1 a0_2 a0_3 a0_4 a0_5 l0_6).bind fun t720 => (some (t720,0))) else (some ((([] : List Int)),1)))) = some (r1,r2) := h
 clear h
 replace H := Option.bind_eq_some_iff.mp H
 obtain ⟨t719,A20,H⟩ := H
 try dsimp only at H
 have A2 := am_ A20
 clear A20
 by_cases c3 : t719 = true
 ·subst c3
  have H1 : ((spec_l02Batch.f k a0_0 a0_1 a0_2 a0_3 a0_4 a0_5 l0_6).bind fun t720 => (some (t720,0))) = some (r1,r2) := by rw [if_pos rfl] at H;exact H
  clear H
  have H := H1
  clear H1
  replace H := Option.bind_eq_some_iff.mp H
  obtain ⟨t720,A40,H⟩ := H
  try dsimp only at H
  have A4 := am_ A40
  clear A40
  simp only [Option.some.injEq,Prod.mk.injEq] at H
  obtain ⟨rfl,rfl⟩ := H
  go_enter Try.func18,Try.ntmps18
  go_wp2_with (first | ((with_reducible refine gate_dst (N := 1) rfl ?_);refine zbx (N := 1) (cs := #[.bool a0_0,.int .i64 a0_1,.int .i64 a0_2,.int .i64 a0_3,.int .i64 a0_4,.string a0_5,.slice A0_6 l0_6.length c0_6]) (t := 41) ?_;intro gb718 hg w5 hbox hb;have BK718 := am_ (hbox);have GW718 := zw_ HB hg;have GE718 := zw_ HB hg;replace HB := zs_ HB hb;clear hb hbox hg;obtain ⟨hcz6_0,hcz6_1,hcz6_2,hcz6_3,hcz6_4,hcz6_5,hcz6_6,hfz6_0,hfz6_1,hfz6_2,hfz6_3,hfz6_4,hfz6_5,hfz6_6⟩ := zc7 BK718) | ((with_reducible refine gate_callee (f := 41) rfl ?_);refine zgl (some 5) Try.func41 #[.agg #[.bool a0_0,.int .i64 a0_1,.int .i64 a0_2,.int .i64 a0_3,.int .i64 a0_4,.string a0_5,.slice A0_6 l0_6.length c0_6]] ?_;(with_reducible refine (spec_l02BatchOK.calls k a0_0 a0_1 a0_2 a0_3 a0_4 a0_5 _ _ l0_6 true _ ?side1 ?side2 A2.out).mono ?_);(case side1 => repeat (first | exact (Kd.C_below HR0_6.out HB.out) | (with_reducible refine Kd.C_alloc ?_ _) | (with_reducible refine Kd.C_drewN ?_ _) | (with_reducible refine Kd.C_drew ?_)));(case side2 => exact HC0_6.out);rintro e w7 ⟨rfl,hb⟩;refine ⟨_,rfl,?_⟩;replace BK718 := zb BK718 hb;replace HB := zs_ HB hb;(try clear hb);(try clear hb2);(try clear hk);(try clear hi);obtain ⟨hcz8_0,hcz8_1,hcz8_2,hcz8_3,hcz8_4,hcz8_5,hcz8_6,hfz8_0,hfz8_1,hfz8_2,hfz8_3,hfz8_4,hfz8_5,hfz8_6⟩ := zc7 BK718) | ((with_reducible refine gate_callee (f := 42) rfl ?_);refine zgl (some 9) Try.func42 #[.agg #[.bool a0_0,.int .i64 a0_1,.int .i64 a0_2,.int .i64 a0_3,.int .i64 a0_4,.string a0_5,.slice A0_6 l0_6.length c0_6]] ?_;(with_reducible refine (spec_l02Batch.calls k a0_0 a0_1 a0_2 a0_3 a0_4 a0_5 _ _ l0_6 t720 _ ?side1 ?side2 A4.out).mono ?_);(case side1 => repeat (first | exact (Kd.C_below HR0_6.out HB.out) | (with_reducible refine Kd.C_alloc ?_ _) | (with_reducible refine Kd.C_drewN ?_ _) | (with_reducible refine Kd.C_drew ?_)));(case side2 => exact HC0_6.out);rintro e w9 ⟨v721,rfl,ho0,hb⟩;refine ⟨_,rfl,?_⟩;have HO722 := am_ (Kd.R_lower ho0 (below_size (zl_ HB)));replace BK718 := zb BK718 hb;replace HB := zs_ HB hb;(try clear hb);(try clear hb2);(try clear hk);(try clear hi);(try clear ho0)))
  go_ret2
  exact ⟨_,zt_,by (with_reducible repeat (first | apply r1_ | apply r2_ | apply r3_));exact HO722.out,zl_ HB⟩
 ·replace c3 := Bool.eq_false_iff.mpr c3
  subst c3
  have H1 : (some ((([] : List Int)),1)) = some (r1,r2) := by rw [if_neg (show ¬ (false = true) by decide)] at H;exact H
  clear H
  have H := H1
  clear H1
  obtain ⟨y723,hy723⟩ : ∃ y_ : List Int,y_ = (([] : List Int)) := ⟨_,rfl⟩
  replace H : (some (y723,1)) = some (r1,r2) := by first | (rw [hy723];with_reducible exact H) | (have H2_ := (Option.bind_some _ _).symm.trans H;rw [hy723];with_reducible exact H2_) | (have H2_ := (Option.bind_some _ _).symm.trans H;with_reducible exact H2_) | with_reducible exact H | (rw [hy723];exact H) | exact H
  have Ny723 := am_ hy723
  clear hy723
  simp only [Option.some.injEq,Prod.mk.injEq] at H
  obtain ⟨rfl,rfl⟩ := H
  go_enter Try.func18,Try.ntmps18
  go_wp2_with (first | ((with_reducible refine gate_dst (N := 1) rfl ?_);refine zbx (N := 1) (cs := #[.bool a0_0,.int .i64 a0_1,.int .i64 a0_2,.int .i64 a0_3,.int .i64 a0_4,.string a0_5,.slice A0_6 l0_6.length c0_6]) (t := 41) ?_;intro gb718 hg w10 hbox hb;have BK718 := am_ (hbox);have GW718 := zw_ HB hg;have GE718 := zw_ HB hg;replace HB := zs_ HB hb;clear hb hbox hg;obtain ⟨hcz11_0,hcz11_1,hcz11_2,hcz11_3,hcz11_4,hcz11_5,hcz11_6,hfz11_0,hfz11_1,hfz11_2,hfz11_3,hfz11_4,hfz11_5,hfz11_6⟩ := zc7 BK718) | ((with_reducible refine gate_callee (f := 41) rfl ?_);refine zgl (some 5) Try.func41 #[.agg #[.bool a0_0,.int .i64 a0_1,.int .i64 a0_2,.int .i64 a0_3,.int .i64 a0_4,.string a0_5,.slice A0_6 l0_6.length c0_6]] ?_;(with_reducible refine (spec_l02BatchOK.calls k a0_0 a0_1 a0_2 a0_3 a0_4 a0_5 _ _ l0_6 false _ ?side1 ?side2 A2.out).mono ?_);(case side1 => repeat (first | exact (Kd.C_below HR0_6.out HB.out) | (with_reducible refine Kd.C_alloc ?_ _) | (with_reducible refine Kd.C_drewN ?_ _) | (with_reducible refine Kd.C_drew ?_)));(case side2 => exact HC0_6.out);rintro e w12 ⟨rfl,hb⟩;refine ⟨_,rfl,?_⟩;replace HB := zs_ HB hb;(try clear hb);(try clear hb2);(try clear hk);(try clear hi)) | ((with_reducible refine gate_dst (N := 7) rfl ?_);refine Kd.R_lit (Kd.int .u8) _ 5 ?hg (N := 7) ?hd (xs := ([] : List Int)) (inner := []) (ok := fun _ => True) (okp := fun _ => True) ?hr ?hp (fun _ hk => hk) trivial (Below.refl _ _) (Nat.le_refl _) (by simp) ?_;(case hd => rfl);(case hg => rfl);(case hr => first | (go_simp;done) | (go_simp;rfl));(case hp => exact (Reps.none _ _));intro v724 w13 ho14 hb hg_ hnew_;clear hg_ hnew_;(first | rw [← Ny723.out] at ho14 | (simp only [Int.reduceToNat] at ho14;rw [← Ny723.out] at ho14));have HO725 := am_ (Kd.R_lower ho14 (below_size (zl_ HB)));replace HB := zs_ HB hb;clear hb ho14))
  go_ret2
  exact ⟨_,zt_,by (with_reducible repeat (first | apply r1_ | apply r2_ | apply r3_));exact HO725.out,zl_ HB⟩
set_option maxHeartbeats 8000000 in
set_option maxRecDepth 100000 in
theorem spec_l00Source.calls (A0 : Option Addr) (c0 : Nat) (l0 : List Int) (r1 : List Int) (r2 : Int) (r3 : Int) (w0 w : World) (hB : Below w0.heap.size w0 w) (hr0 : Kd.C (Kd.int .u8) w0 A0 l0.length l0) (hc0 : l0.length ≤ c0) (h : spec_l00Source.f l0 = some (r1,r2,r3)) :
  Calls Try.prog 22 #[.slice A0 l0.length c0] w fun e w' => ∃ g_ : Nat,e = .returned (.pointer (some ⟨g_,0,none⟩)) ∧ IsS72 w0 w' g_ r1 r2 r3 ∧ Below w0.heap.size w0 w' ∧ Below w.heap.size w w' := by
 have hu72 := Try.underlying72
 have HR0 := am_ hr0
 have HC0 := am_ hc0
 clear hr0 hc0
 have HBW := am_ (Below.refl w.heap.size w)
 have HW0 := am_ hB.size
 have HB := am_ hB
 clear hB
 have H : (some (l0,0,(l0.length : Int) % 1000)) = some (r1,r2,r3) := h
 clear h
 simp only [Option.some.injEq,Prod.mk.injEq] at H
 obtain ⟨rfl,rfl,rfl⟩ := H
 go_enter Try.func22,Try.ntmps22
 go_wp2_with (first | ((with_reducible refine gate_dst (N := 8) rfl ?_);refine zbx (N := 8) (cs := #[.slice A0 l0.length c0,.int .i64 0,.int .i64 ((l0.length : Int) % 1000)]) (t := 72) ?_;intro gb101 hg w2 hbox hb;replace HB := zs_ HB hb;have BK101 := am_ (hbox);have GW101 := am_ ((by rw [hg];exact (below_size (by repeat (first | (with_reducible first | exact HBW.out | apply b1_ | apply b2_ | apply b3_) | exact HBW.out))) : w.heap.size ≤ gb101));have GE101 := am_ ((Nat.le_trans HW0.out (by rw [hg];exact (below_size (by repeat (first | (with_reducible first | exact HBW.out | apply b1_ | apply b2_ | apply b3_) | exact HBW.out))) : w.heap.size ≤ gb101) : w0.heap.size ≤ gb101));replace HBW := am_ (below_step HBW.out hb);clear hb hbox hg))
 go_ret
 exact ⟨_,rfl,(show IsS72 w0 _ gb101 l0 0 ((l0.length : Int) % 1000) from ⟨_,_,by (with_reducible repeat (first | apply k1_ | apply k2_ | apply k3_));exact BK101.out,GE101.out,HR0.out⟩),zl_ HB,by repeat (first | (with_reducible first | exact HBW.out | apply b1_ | apply b2_ | apply b3_ | refine below_set ?_ GW101.out) | exact HBW.out)⟩
def spec_l00Src_byte.T2 : Bool × List (List Nat × List Nat) := (true,[([],[]),([0],[0]),([1],[1]),([2],[2]),([],[]),([4],[4]),([5],[5]),([6],[6]),([7],[7]),([3,8],[3,8])])
def spec_l00Src_byte.B2 : List Nat := [0,1,3,7,0,16,48,112,240,511]
theorem spec_l00Src_byte.tab2 : rtab .any (opsOf Try.f64 2) = spec_l00Src_byte.T2 := by kernel_rfl
theorem spec_l00Src_byte.bits2 : waitsOk spec_l00Src_byte.T2.2 spec_l00Src_byte.B2 = true := by kernel_rfl
def spec_l00Src_byte.T3 : Bool × List (List Nat × List Nat) := (true,[([],[]),([],[]),([1],[1]),([2],[2]),([3],[3]),([4],[4]),([],[]),([6],[6]),([7],[7]),([8],[8]),([],[]),([10],[10]),([11],[11]),([12],[12]),([13],[13]),([9,14],[9,14]),([15],[15]),([16],[16]),([5,17],[5,17]),([18],[18]),([19],[19]),([0,0,1,2,3,4,5,6,7,8,9,10,11,12,13,14,15,16,17,18,19,20],[0]),([21,0,1,2,3,4,5,6,7,8,9,10,11,12,13,14,15,16,17,18,19,20],[21]),([22,20,0,1,2,3,4,5,6,7,8,9,10,11,12,13,14,15,16,17,18,19,20],[20,22])])
def spec_l00Src_byte.B3 : List Nat := [0,0,2,6,14,30,0,64,192,448,0,1024,3072,7168,15360,32704,65472,131008,262142,524286,1048574,2097151,4194303,8388607]
theorem spec_l00Src_byte.tab3 : rtab .any (opsOf Try.f64 3) = spec_l00Src_byte.T3 := by kernel_rfl
theorem spec_l00Src_byte.bits3 : waitsOk spec_l00Src_byte.T3.2 spec_l00Src_byte.B3 = true := by kernel_rfl
def spec_l00Src_byte.T4 : Bool × List (List Nat × List Nat) := (true,[([],[]),([0],[0]),([1],[1]),([2],[2]),([],[]),([4],[4]),([5],[5]),([6],[6]),([7],[7]),([3,8],[3,8]),([9],[9]),([10],[10]),([11,0,1,2,3,4,5,6,7,8,9,10,11],[11])])
def spec_l00Src_byte.B4 : List Nat := [0,1,3,7,0,16,48,112,240,511,1023,2047,4095]
theorem spec_l00Src_byte.tab4 : rtab .any (opsOf Try.f64 4) = spec_l00Src_byte.T4 := by kernel_rfl
theorem spec_l00Src_byte.bits4 : waitsOk spec_l00Src_byte.T4.2 spec_l00Src_byte.B4 = true := by kernel_rfl
set_option maxHeartbeats 8000000 in
set_option maxRecDepth 100000 in
theorem spec_l00Src_byte.calls (g : Nat) (s0_0 : List Int) (s0_1 : Int) (s0_2 : Int) (r1 : Int) (r2 : Int) (r3 : Int) (w0 w : World) (hI : IsS72 w0 w g s0_0 s0_1 s0_2) (hB : Below w0.heap.size w0 w) (h : spec_l00Src_byte.f s0_0 s0_1 s0_2 = some (r1,r2,r3)) :
  Calls Try.prog 64 #[.pointer (some ⟨g,0,none⟩)] w fun e w' => e = .returned (.int .i64 r1) ∧ IsS72 w0 w' g s0_0 r2 r3 ∧ Below w0.heap.size w0 w' ∧ KeepBut w w' g none := by
 have HI0 := am_ hI
 have HK := am_ (KeepBut.refl w g none)
 have HL := am_ hB.size
 clear hI
 have HW0 := am_ hB.size
 have HB := am_ hB
 clear hB
 have H : (if (wrap64 (s0_1 + 1)) ≤ (s0_0.length : Int) then (if 0 ≤ (wrap64 ((wrap64 (s0_1 + 1)) - 1)) then (if (wrap64 ((wrap64 (s0_1 + 1)) - 1)) < (s0_0.length : Int) then (some (wrap64 (rd s0_0 (wrap64 ((wrap64 (s0_1 + 1)) - 1))),wrap64 (s0_1 + 1),Int.tmod (wrap64 ((wrap64 ((wrap64 (s0_2 * 31)) + (wrap64 (rd s0_0 (wrap64 ((wrap64 (s0_1 + 1)) - 1)))))) + 7)) 2147483648)) else (none)) else (none)) else (if (wrap64 (s0_1 + 1)) > 3000 then (some (0,wrap64 (s0_1 + 1),s0_2)) else (some (Int.tmod (wrap64 (Int.tdiv (Int.tmod (wrap64 ((wrap64 (s0_2 * 1103515245)) + 12345)) 2147483648) 65536)) 256,wrap64 (s0_1 + 1),Int.tmod (wrap64 ((wrap64 (s0_2 * 1103515245)) + 12345)) 2147483648)))) = some (r1,r2,r3) := h
 clear h
 by_cases c2 : (wrap64 (s0_1 + 1)) ≤ (s0_0.length : Int)
 ·rw [if_pos c2] at H
  have c2b0 : decide ((wrap64 (s0_1 + 1)) ≤ (s0_0.length : Int)) = true := decide_eq_true c2
  clear c2
  obtain ⟨ji3,hji3⟩ : ∃ j_ : Int,(wrap64 ((wrap64 (s0_1 + 1)) - 1)) = j_ := ⟨_,rfl⟩
  replace H : (if 0 ≤ (ji3) then (if (ji3) < (s0_0.length : Int) then (some (wrap64 (rd s0_0 (ji3)),wrap64 (s0_1 + 1),Int.tmod (wrap64 ((wrap64 ((wrap64 (s0_2 * 31)) + (wrap64 (rd s0_0 (ji3))))) + 7)) 2147483648)) else (none)) else (none)) = some (r1,r2,r3) := by first | (rw [hji3] at H;exact H) | (simp only [hji3] at H ⊢;exact H)
  have hji3w : (IntKind.i64.wrap ((wrap64 (s0_1 + 1)) - 1)) = ji3 := (i64_w _).trans hji3
  by_cases c4 : 0 ≤ (ji3)
  ·rw [if_pos c4] at H
   have c4b0 : decide (0 ≤ (ji3)) = true := decide_eq_true c4
   clear c4
   by_cases c5 : (ji3) < (s0_0.length : Int)
   ·rw [if_pos c5] at H
    have c5b0 : decide ((ji3) < (s0_0.length : Int)) = true := decide_eq_true c5
    clear c5
    simp only [Option.some.injEq,Prod.mk.injEq] at H
    obtain ⟨rfl,rfl,rfl⟩ := H
    obtain ⟨ASz6_0,cSz6_0,HGz6,hgz6,HSz6_0⟩ := HI0.out
    have hcz6_0 := cellS72_0 HGz6
    have hcz6_1 := cellS72_1 HGz6
    have hcz6_2 := cellS72_2 HGz6
    have hfz6_1 := blk_frozen HGz6 1
    have hfz6_2 := blk_frozen HGz6 2
    clear HGz6 hgz6
    go_enter Try.func64,Try.ntmps64
    try go_wp2
    have n0_ : Aside0 (IsS72 w0 (w.setCell ⟨g,1,none⟩ (.int .i64 (wrap64 (s0_1 + 1)))) g s0_0 (wrap64 (s0_1 + 1)) s0_2) := ⟨(zi72 HI0)⟩
    have n1_ : Aside0 (KeepBut w (w.setCell ⟨g,1,none⟩ (.int .i64 (wrap64 (s0_1 + 1)))) g none) := ⟨zh_ HK⟩
    have n2_ : Aside0 (Below w0.heap.size w0 (w.setCell ⟨g,1,none⟩ (.int .i64 (wrap64 (s0_1 + 1))))) := ⟨zl_ HB⟩
    (try clear HI0)
    (try clear HK)
    (try clear HB)
    generalize (w.setCell ⟨g,1,none⟩ (.int .i64 (wrap64 (s0_1 + 1)))) = w7 at n0_ n1_ n2_ ⊢
    have HI0 := n0_
    have HK := n1_
    have HB := n2_
    clear n0_ n1_ n2_
    replace HI0 := am_ (IsS72.drew HI0.out)
    replace HK := am_ (keep_drew HK.out)
    replace HB := am_ (below_drew1 HB.out)
    obtain ⟨ASz9_0,cSz9_0,HGz9,hgz9,HSz9_0⟩ := HI0.out
    have hcz9_0 := cellS72_0 HGz9
    have hcz9_1 := cellS72_1 HGz9
    have hcz9_2 := cellS72_2 HGz9
    have hfz9_1 := blk_frozen HGz9 1
    have hfz9_2 := blk_frozen HGz9 2
    clear HGz9 hgz9
    refine start_ (n := 10) (S := fun w' => w'.cell? ⟨g,0,none⟩ = some (.slice ASz9_0 s0_0.length cSz9_0) ∧ w'.cell? ⟨g,1,none⟩ = some (.int .i64 (wrap64 (s0_1 + 1))) ∧ w'.cell? ⟨g,2,none⟩ = some (.int .i64 s0_2)) (ds := []) #[false,false,false,false,false,false,false,false,false,false] (by kernel_rfl) rfl rfl ⟨hcz9_0,hcz9_1,hcz9_2⟩ (fun hHeld => ?_);refine with_tabW spec_l00Src_byte.tab2 spec_l00Src_byte.bits2 (fun HT_ HW_ => ?_)
    generalize w7.drew = w8 at HI0 HK HB hHeld ⊢
    refine zpu 0 (N := some 10) #[true,false,false,false,false,false,false,false,false,false] HT_ ?_
    refine zpu 1 (N := some 11) #[true,true,false,false,false,false,false,false,false,false] HT_ ?_
    refine zpu 2 (N := some 12) #[true,true,true,false,false,false,false,false,false,false] HT_ ?_
    refine zpu 4 (N := some 14) #[true,true,true,false,true,false,false,false,false,false] HT_ ?_
    refine zpu 5 (N := some 15) #[true,true,true,false,true,true,false,false,false,false] HT_ ?_
    refine zpu 6 (N := some 16) #[true,true,true,false,true,true,true,false,false,false] HT_ ?_
    refine ztk 3 (N := some 13) #[true,true,true,true,true,true,true,false,false,false] HT_ HW_ hHeld ?_
    refine ztk 7 (N := some 17) #[true,true,true,true,true,true,true,true,false,false] HT_ HW_ hHeld ?_
    refine zpu 8 (N := some 18) #[true,true,true,true,true,true,true,true,true,false] HT_ ?_
    refine zpu 9 (N := some 19) #[true,true,true,true,true,true,true,true,true,true] HT_ ?_
    refine done_ (done_of HT_.out (by kernel_rfl)) ?_
    try go_wp2
    replace HI0 := am_ (IsS72.drew HI0.out)
    replace HK := am_ (keep_drew HK.out)
    replace HB := am_ (below_drew1 HB.out)
    obtain ⟨ASz11_0,cSz11_0,HGz11,hgz11,HSz11_0⟩ := HI0.out
    have hcz11_0 := cellS72_0 HGz11
    have hcz11_1 := cellS72_1 HGz11
    have hcz11_2 := cellS72_2 HGz11
    have hfz11_1 := blk_frozen HGz11 1
    have hfz11_2 := blk_frozen HGz11 2
    clear HGz11 hgz11
    have p102 : 0 ≤ ((ji3) : Int) := o1_ (by first | (with_reducible assumption) | assumption)
    have q102 : (ji3) < (s0_0.length : Int) := o1_ (by first | (with_reducible assumption) | assumption)
    obtain ⟨ad102,e102,hx102_0⟩ := Kd.at_int HSz11_0 (ji3) p102 q102
    have hw102_0 := hx102_0
    cases e102
    replace hx102_0 := pw_cell_below HB.out hx102_0
    replace p102 := eq_true p102
    replace q102 := eq_true q102
    refine start_ (n := 24) (S := fun w' => w'.cell? ⟨g,0,none⟩ = some (.slice (some ad102) s0_0.length cSz11_0) ∧ w'.cell? ⟨g,1,none⟩ = some (.int .i64 (wrap64 (s0_1 + 1))) ∧ w'.cell? ⟨g,2,none⟩ = some (.int .i64 s0_2) ∧ w'.cell? (ad102.add ((ji3)).toNat) = some (.int .u8 (rd s0_0 (ji3)))) (ds := [23]) #[false,false,false,false,false,false,false,false,false,false,false,false,false,false,false,false,false,false,false,false,false,false,false,false] (by kernel_rfl) rfl rfl ⟨hcz11_0,hcz11_1,hcz11_2,((HB.out.cell (World.block_lt_of_cell? w0 _ hw102_0)).trans hw102_0)⟩ (fun hHeld => ?_);refine with_tabW spec_l00Src_byte.tab3 spec_l00Src_byte.bits3 (fun HT_ HW_ => ?_)
    generalize w8.drew = w10 at HI0 HK HB hx102_0 hHeld ⊢
    refine zpu 0 (N := some 20) #[true,false,false,false,false,false,false,false,false,false,false,false,false,false,false,false,false,false,false,false,false,false,false,false] HT_ ?_
    refine zpu 1 (N := some 21) #[true,true,false,false,false,false,false,false,false,false,false,false,false,false,false,false,false,false,false,false,false,false,false,false] HT_ ?_
    refine zpu 2 (N := some 22) #[true,true,true,false,false,false,false,false,false,false,false,false,false,false,false,false,false,false,false,false,false,false,false,false] HT_ ?_
    refine zpu 3 (N := some 23) #[true,true,true,true,false,false,false,false,false,false,false,false,false,false,false,false,false,false,false,false,false,false,false,false] HT_ ?_
    refine zpu 6 (N := some 26) #[true,true,true,true,false,false,true,false,false,false,false,false,false,false,false,false,false,false,false,false,false,false,false,false] HT_ ?_
    refine zpu 7 (N := some 27) #[true,true,true,true,false,false,true,true,false,false,false,false,false,false,false,false,false,false,false,false,false,false,false,false] HT_ ?_
    refine zpu 8 (N := some 28) #[true,true,true,true,false,false,true,true,true,false,false,false,false,false,false,false,false,false,false,false,false,false,false,false] HT_ ?_
    refine zpu 10 (N := some 30) #[true,true,true,true,false,false,true,true,true,false,true,false,false,false,false,false,false,false,false,false,false,false,false,false] HT_ ?_
    refine zpu 11 (N := some 31) #[true,true,true,true,false,false,true,true,true,false,true,true,false,false,false,false,false,false,false,false,false,false,false,false] HT_ ?_
    refine zpu 12 (N := some 32) #[true,true,true,true,false,false,true,true,true,false,true,true,true,false,false,false,false,false,false,false,false,false,false,false] HT_ ?_
    refine ztk 4 (N := some 24) #[true,true,true,true,true,false,true,true,true,false,true,true,true,false,false,false,false,false,false,false,false,false,false,false] HT_ HW_ hHeld ?_
    refine zpu 5 (N := some 25) #[true,true,true,true,true,true,true,true,true,false,true,true,true,false,false,false,false,false,false,false,false,false,false,false] HT_ ?_
    refine ztk 9 (N := some 29) #[true,true,true,true,true,true,true,true,true,true,true,true,true,false,false,false,false,false,false,false,false,false,false,false] HT_ HW_ hHeld ?_
    refine ztk 13 (N := some 33) #[true,true,true,true,true,true,true,true,true,true,true,true,true,true,false,false,false,false,false,false,false,false,false,false] HT_ HW_ hHeld ?_
    refine zpu 14 (N := some 34) #[true,true,true,true,true,true,true,true,true,true,true,true,true,true,true,false,false,false,false,false,false,false,false,false] HT_ ?_
    refine zpu 15 (N := some 35) #[true,true,true,true,true,true,true,true,true,true,true,true,true,true,true,true,false,false,false,false,false,false,false,false] HT_ ?_
    refine ztk 16 (N := some 36) #[true,true,true,true,true,true,true,true,true,true,true,true,true,true,true,true,true,false,false,false,false,false,false,false] HT_ HW_ hHeld ?_
    refine zpu 17 (N := some 37) #[true,true,true,true,true,true,true,true,true,true,true,true,true,true,true,true,true,true,false,false,false,false,false,false] HT_ ?_
    refine zpu 18 (N := some 38) #[true,true,true,true,true,true,true,true,true,true,true,true,true,true,true,true,true,true,true,false,false,false,false,false] HT_ ?_
    refine zpu 19 (N := some 39) #[true,true,true,true,true,true,true,true,true,true,true,true,true,true,true,true,true,true,true,true,false,false,false,false] HT_ ?_
    refine zpu 20 (N := some 40) #[true,true,true,true,true,true,true,true,true,true,true,true,true,true,true,true,true,true,true,true,true,false,false,false] HT_ ?_
    refine zpu 21 (N := some 41) #[true,true,true,true,true,true,true,true,true,true,true,true,true,true,true,true,true,true,true,true,true,true,false,false] HT_ ?_
    refine zpu 22 (N := some 42) #[true,true,true,true,true,true,true,true,true,true,true,true,true,true,true,true,true,true,true,true,true,true,true,false] HT_ ?_
    refine last_ (i := 23) (N := none) #[true,true,true,true,true,true,true,true,true,true,true,true,true,true,true,true,true,true,true,true,true,true,true,true] rfl rfl (one_of HT_.out (by kernel_rfl)) (by decide) (fun K hK => ?_)
    obtain ⟨Ars12_0,crs12_0,HGrs12,hgrs12,HSrs12_0⟩ := HI0.out
    have hfrs12 := blk_frozen HGrs12 2
    refine skip_ (w1 := ?_) (by rfl) rfl ?_ ?_
    rotate_left
    ·go_simp
     rfl
    refine hK.out _ _ ?_
    clear hK K
    refine done_ (done_of HT_.out (by kernel_rfl)) ?_
    try go_wp2
    have n0_ : Aside0 (IsS72 w0 (w10.setCell ⟨g,2,none⟩ (.int .i64 (Int.tmod (wrap64 ((wrap64 ((wrap64 (s0_2 * 31)) + (wrap64 (rd s0_0 (ji3))))) + 7)) 2147483648))) g s0_0 (wrap64 (s0_1 + 1)) (Int.tmod (wrap64 ((wrap64 ((wrap64 (s0_2 * 31)) + (wrap64 (rd s0_0 (ji3))))) + 7)) 2147483648)) := ⟨(zi72 HI0)⟩
    have n1_ : Aside0 (KeepBut w (w10.setCell ⟨g,2,none⟩ (.int .i64 (Int.tmod (wrap64 ((wrap64 ((wrap64 (s0_2 * 31)) + (wrap64 (rd s0_0 (ji3))))) + 7)) 2147483648))) g none) := ⟨zh_ HK⟩
    have n2_ : Aside0 (Below w0.heap.size w0 (w10.setCell ⟨g,2,none⟩ (.int .i64 (Int.tmod (wrap64 ((wrap64 ((wrap64 (s0_2 * 31)) + (wrap64 (rd s0_0 (ji3))))) + 7)) 2147483648)))) := ⟨zl_ HB⟩
    (try clear HI0)
    (try clear HK)
    (try clear HB)
    generalize (w10.setCell ⟨g,2,none⟩ (.int .i64 (Int.tmod (wrap64 ((wrap64 ((wrap64 (s0_2 * 31)) + (wrap64 (rd s0_0 (ji3))))) + 7)) 2147483648))) = w13 at n0_ n1_ n2_ ⊢
    have HI0 := n0_
    have HK := n1_
    have HB := n2_
    clear n0_ n1_ n2_
    replace HI0 := am_ (IsS72.drew HI0.out)
    replace HK := am_ (keep_drew HK.out)
    replace HB := am_ (below_drew1 HB.out)
    obtain ⟨ASz15_0,cSz15_0,HGz15,hgz15,HSz15_0⟩ := HI0.out
    have hcz15_0 := cellS72_0 HGz15
    have hcz15_1 := cellS72_1 HGz15
    have hcz15_2 := cellS72_2 HGz15
    have hfz15_1 := blk_frozen HGz15 1
    have hfz15_2 := blk_frozen HGz15 2
    clear HGz15 hgz15
    have p103 : 0 ≤ ((ji3) : Int) := o1_ (by first | (with_reducible assumption) | assumption)
    have q103 : (ji3) < (s0_0.length : Int) := o1_ (by first | (with_reducible assumption) | assumption)
    obtain ⟨ad103,e103,hx103_0⟩ := Kd.at_int HSz15_0 (ji3) p103 q103
    have hw103_0 := hx103_0
    cases e103
    replace hx103_0 := pw_cell_below HB.out hx103_0
    replace p103 := eq_true p103
    replace q103 := eq_true q103
    refine start_ (n := 13) (S := fun w' => w'.cell? ⟨g,0,none⟩ = some (.slice (some ad103) s0_0.length cSz15_0) ∧ w'.cell? ⟨g,1,none⟩ = some (.int .i64 (wrap64 (s0_1 + 1))) ∧ w'.cell? ⟨g,2,none⟩ = some (.int .i64 (Int.tmod (wrap64 ((wrap64 ((wrap64 (s0_2 * 31)) + (wrap64 (rd s0_0 (ji3))))) + 7)) 2147483648)) ∧ w'.cell? (ad103.add ((ji3)).toNat) = some (.int .u8 (rd s0_0 (ji3)))) (ds := []) #[false,false,false,false,false,false,false,false,false,false,false,false,false] (by kernel_rfl) rfl rfl ⟨hcz15_0,hcz15_1,hcz15_2,((HB.out.cell (World.block_lt_of_cell? w0 _ hw103_0)).trans hw103_0)⟩ (fun hHeld => ?_);refine with_tabW spec_l00Src_byte.tab4 spec_l00Src_byte.bits4 (fun HT_ HW_ => ?_)
    generalize w13.drew = w14 at HI0 HK HB hx103_0 hHeld ⊢
    refine zpu 0 (N := some 43) #[true,false,false,false,false,false,false,false,false,false,false,false,false] HT_ ?_
    refine zpu 1 (N := some 44) #[true,true,false,false,false,false,false,false,false,false,false,false,false] HT_ ?_
    refine zpu 2 (N := some 45) #[true,true,true,false,false,false,false,false,false,false,false,false,false] HT_ ?_
    refine zpu 4 (N := some 47) #[true,true,true,false,true,false,false,false,false,false,false,false,false] HT_ ?_
    refine zpu 5 (N := some 48) #[true,true,true,false,true,true,false,false,false,false,false,false,false] HT_ ?_
    refine zpu 6 (N := some 49) #[true,true,true,false,true,true,true,false,false,false,false,false,false] HT_ ?_
    refine ztk 3 (N := some 46) #[true,true,true,true,true,true,true,false,false,false,false,false,false] HT_ HW_ hHeld ?_
    refine ztk 7 (N := some 50) #[true,true,true,true,true,true,true,true,false,false,false,false,false] HT_ HW_ hHeld ?_
    refine zpu 8 (N := some 51) #[true,true,true,true,true,true,true,true,true,false,false,false,false] HT_ ?_
    refine zpu 9 (N := some 52) #[true,true,true,true,true,true,true,true,true,true,false,false,false] HT_ ?_
    refine ztk 10 (N := some 53) #[true,true,true,true,true,true,true,true,true,true,true,false,false] HT_ HW_ hHeld ?_
    refine zpu 11 (N := some 54) #[true,true,true,true,true,true,true,true,true,true,true,true,false] HT_ ?_
    refine zpu 12 (N := some 2) #[true,true,true,true,true,true,true,true,true,true,true,true,true] HT_ ?_
    refine done_ (done_of HT_.out (by kernel_rfl)) ?_
    try go_wp2
    go_ret
    exact ⟨by first | rfl | (simp [e1_,e2_] <;> rfl) | (simp only [← hji3];first | rfl | (simp [e1_,e2_] <;> rfl)) | (simp [*,e1_,e2_] <;> rfl) | (simp [e3_,e4_];done) | (simp [*,e3_,e4_];done),(zi72 HI0),zl_ HB,zh_ HK⟩
   ·rw [if_neg c5] at H
    exact absurd H (by simp)
  ·rw [if_neg c4] at H
   exact absurd H (by simp)
 ·rw [if_neg c2] at H
  have c2b0 : decide ((wrap64 (s0_1 + 1)) ≤ (s0_0.length : Int)) = false := decide_eq_false c2
  clear c2
  by_cases c16 : (wrap64 (s0_1 + 1)) > 3000
  ·rw [if_pos c16] at H
   have c16b0 : decide (3000 < (wrap64 (s0_1 + 1))) = true := decide_eq_true c16
   clear c16
   simp only [Option.some.injEq,Prod.mk.injEq] at H
   obtain ⟨rfl,rfl,rfl⟩ := H
   obtain ⟨ASz17_0,cSz17_0,HGz17,hgz17,HSz17_0⟩ := HI0.out
   have hcz17_0 := cellS72_0 HGz17
   have hcz17_1 := cellS72_1 HGz17
   have hcz17_2 := cellS72_2 HGz17
   have hfz17_1 := blk_frozen HGz17 1
   have hfz17_2 := blk_frozen HGz17 2
   clear HGz17 hgz17
   go_enter Try.func64,Try.ntmps64
   try go_wp2
   have n0_ : Aside0 (IsS72 w0 (w.setCell ⟨g,1,none⟩ (.int .i64 (wrap64 (s0_1 + 1)))) g s0_0 (wrap64 (s0_1 + 1)) s0_2) := ⟨(zi72 HI0)⟩
   have n1_ : Aside0 (KeepBut w (w.setCell ⟨g,1,none⟩ (.int .i64 (wrap64 (s0_1 + 1)))) g none) := ⟨zh_ HK⟩
   have n2_ : Aside0 (Below w0.heap.size w0 (w.setCell ⟨g,1,none⟩ (.int .i64 (wrap64 (s0_1 + 1))))) := ⟨zl_ HB⟩
   (try clear HI0)
   (try clear HK)
   (try clear HB)
   generalize (w.setCell ⟨g,1,none⟩ (.int .i64 (wrap64 (s0_1 + 1)))) = w18 at n0_ n1_ n2_ ⊢
   have HI0 := n0_
   have HK := n1_
   have HB := n2_
   clear n0_ n1_ n2_
   replace HI0 := am_ (IsS72.drew HI0.out)
   replace HK := am_ (keep_drew HK.out)
   replace HB := am_ (below_drew1 HB.out)
   obtain ⟨ASz20_0,cSz20_0,HGz20,hgz20,HSz20_0⟩ := HI0.out
   have hcz20_0 := cellS72_0 HGz20
   have hcz20_1 := cellS72_1 HGz20
   have hcz20_2 := cellS72_2 HGz20
   have hfz20_1 := blk_frozen HGz20 1
   have hfz20_2 := blk_frozen HGz20 2
   clear HGz20 hgz20
   refine start_ (n := 10) (S := fun w' => w'.cell? ⟨g,0,none⟩ = some (.slice ASz20_0 s0_0.length cSz20_0) ∧ w'.cell? ⟨g,1,none⟩ = some (.int .i64 (wrap64 (s0_1 + 1))) ∧ w'.cell? ⟨g,2,none⟩ = some (.int .i64 s0_2)) (ds := []) #[false,false,false,false,false,false,false,false,false,false] (by kernel_rfl) rfl rfl ⟨hcz20_0,hcz20_1,hcz20_2⟩ (fun hHeld => ?_);refine with_tabW spec_l00Src_byte.tab2 spec_l00Src_byte.bits2 (fun HT_ HW_ => ?_)
   generalize w18.drew = w19 at HI0 HK HB hHeld ⊢
   refine zpu 0 (N := some 10) #[true,false,false,false,false,false,false,false,false,false] HT_ ?_
   refine zpu 1 (N := some 11) #[true,true,false,false,false,false,false,false,false,false] HT_ ?_
   refine zpu 2 (N := some 12) #[true,true,true,false,false,false,false,false,false,false] HT_ ?_
   refine zpu 4 (N := some 14) #[true,true,true,false,true,false,false,false,false,false] HT_ ?_
   refine zpu 5 (N := some 15) #[true,true,true,false,true,true,false,false,false,false] HT_ ?_
   refine zpu 6 (N := some 16) #[true,true,true,false,true,true,true,false,false,false] HT_ ?_
   refine ztk 3 (N := some 13) #[true,true,true,true,true,true,true,false,false,false] HT_ HW_ hHeld ?_
   refine ztk 7 (N := some 17) #[true,true,true,true,true,true,true,true,false,false] HT_ HW_ hHeld ?_
   refine zpu 8 (N := some 18) #[true,true,true,true,true,true,true,true,true,false] HT_ ?_
   refine zpu 9 (N := some 19) #[true,true,true,true,true,true,true,true,true,true] HT_ ?_
   refine done_ (done_of HT_.out (by kernel_rfl)) ?_
   obtain ⟨ASz21_0,cSz21_0,HGz21,hgz21,HSz21_0⟩ := HI0.out
   have hcz21_0 := cellS72_0 HGz21
   have hcz21_1 := cellS72_1 HGz21
   have hcz21_2 := cellS72_2 HGz21
   have hfz21_1 := blk_frozen HGz21 1
   have hfz21_2 := blk_frozen HGz21 2
   clear HGz21 hgz21
   try go_wp2
   go_ret
   exact ⟨zt_,(zi72 HI0),zl_ HB,zh_ HK⟩
  ·rw [if_neg c16] at H
   have c16b0 : decide (3000 < (wrap64 (s0_1 + 1))) = false := decide_eq_false c16
   clear c16
   simp only [Option.some.injEq,Prod.mk.injEq] at H
   obtain ⟨rfl,rfl,rfl⟩ := H
   obtain ⟨ASz22_0,cSz22_0,HGz22,hgz22,HSz22_0⟩ := HI0.out
   have hcz22_0 := cellS72_0 HGz22
   have hcz22_1 := cellS72_1 HGz22
   have hcz22_2 := cellS72_2 HGz22
   have hfz22_1 := blk_frozen HGz22 1
   have hfz22_2 := blk_frozen HGz22 2
   clear HGz22 hgz22
   go_enter Try.func64,Try.ntmps64
   try go_wp2
   have n0_ : Aside0 (IsS72 w0 (w.setCell ⟨g,1,none⟩ (.int .i64 (wrap64 (s0_1 + 1)))) g s0_0 (wrap64 (s0_1 + 1)) s0_2) := ⟨(zi72 HI0)⟩
   have n1_ : Aside0 (KeepBut w (w.setCell ⟨g,1,none⟩ (.int .i64 (wrap64 (s0_1 + 1)))) g none) := ⟨zh_ HK⟩
   have n2_ : Aside0 (Below w0.heap.size w0 (w.setCell ⟨g,1,none⟩ (.int .i64 (wrap64 (s0_1 + 1))))) := ⟨zl_ HB⟩
   (try clear HI0)
   (try clear HK)
   (try clear HB)
   generalize (w.setCell ⟨g,1,none⟩ (.int .i64 (wrap64 (s0_1 + 1)))) = w23 at n0_ n1_ n2_ ⊢
   have HI0 := n0_
   have HK := n1_
   have HB := n2_
   clear n0_ n1_ n2_
   replace HI0 := am_ (IsS72.drew HI0.out)
   replace HK := am_ (keep_drew HK.out)
   replace HB := am_ (below_drew1 HB.out)
   obtain ⟨ASz25_0,cSz25_0,HGz25,hgz25,HSz25_0⟩ := HI0.out
   have hcz25_0 := cellS72_0 HGz25
   have hcz25_1 := cellS72_1 HGz25
   have hcz25_2 := cellS72_2 HGz25
   have hfz25_1 := blk_frozen HGz25 1
   have hfz25_2 := blk_frozen HGz25 2
   clear HGz25 hgz25
   refine start_ (n := 10) (S := fun w' => w'.cell? ⟨g,0,none⟩ = some (.slice ASz25_0 s0_0.length cSz25_0) ∧ w'.cell? ⟨g,1,none⟩ = some (.int .i64 (wrap64 (s0_1 + 1))) ∧ w'.cell? ⟨g,2,none⟩ = some (.int .i64 s0_2)) (ds := []) #[false,false,false,false,false,false,false,false,false,false] (by kernel_rfl) rfl rfl ⟨hcz25_0,hcz25_1,hcz25_2⟩ (fun hHeld => ?_);refine with_tabW spec_l00Src_byte.tab2 spec_l00Src_byte.bits2 (fun HT_ HW_ => ?_)
   generalize w23.drew = w24 at HI0 HK HB hHeld ⊢
   refine zpu 0 (N := some 10) #[true,false,false,false,false,false,false,false,false,false] HT_ ?_
   refine zpu 1 (N := some 11) #[true,true,false,false,false,false,false,false,false,false] HT_ ?_
   refine zpu 2 (N := some 12) #[true,true,true,false,false,false,false,false,false,false] HT_ ?_
   refine zpu 4 (N := some 14) #[true,true,true,false,true,false,false,false,false,false] HT_ ?_
   refine zpu 5 (N := some 15) #[true,true,true,false,true,true,false,false,false,false] HT_ ?_
   refine zpu 6 (N := some 16) #[true,true,true,false,true,true,true,false,false,false] HT_ ?_
   refine ztk 3 (N := some 13) #[true,true,true,true,true,true,true,false,false,false] HT_ HW_ hHeld ?_
   refine ztk 7 (N := some 17) #[true,true,true,true,true,true,true,true,false,false] HT_ HW_ hHeld ?_
   refine zpu 8 (N := some 18) #[true,true,true,true,true,true,true,true,true,false] HT_ ?_
   refine zpu 9 (N := some 19) #[true,true,true,true,true,true,true,true,true,true] HT_ ?_
   refine done_ (done_of HT_.out (by kernel_rfl)) ?_
   obtain ⟨ASz26_0,cSz26_0,HGz26,hgz26,HSz26_0⟩ := HI0.out
   have hcz26_0 := cellS72_0 HGz26
   have hcz26_1 := cellS72_1 HGz26
   have hcz26_2 := cellS72_2 HGz26
   have hfz26_1 := blk_frozen HGz26 1
   have hfz26_2 := blk_frozen HGz26 2
   clear HGz26 hgz26
   try go_wp2
   go_ret
   exact ⟨zt_,(zi72 HI0),zl_ HB,zh_ HK⟩
set_option maxHeartbeats 8000000 in
set_option maxRecDepth 100000 in
theorem spec_l00Src_next.calls (g : Nat) (s0_0 : List Int) (s0_1 : Int) (s0_2 : Int) (a1 : Int) (r1 : Int) (r2 : Int) (r3 : Int) (w0 w : World) (hI : IsS72 w0 w g s0_0 s0_1 s0_2) (hB : Below w0.heap.size w0 w) (h : spec_l00Src_next.f s0_0 s0_1 s0_2 a1 = some (r1,r2,r3)) :
  Calls Try.prog 45 #[.pointer (some ⟨g,0,none⟩),.int .i64 a1] w fun e w' => e = .returned (.int .i64 r1) ∧ IsS72 w0 w' g s0_0 r2 r3 ∧ Below w0.heap.size w0 w' ∧ KeepBut w w' g none := by
 have HI0 := am_ hI
 have HK := am_ (KeepBut.refl w g none)
 have HL := am_ hB.size
 clear hI
 have HW0 := am_ hB.size
 have HB := am_ hB
 clear hB
 have H : (if a1 ≤ 1 then (some (0,s0_1,s0_2)) else (if a1 ≤ 256 then ((spec_l00Src_byte.f s0_0 s0_1 s0_2).bind fun bt104 => (if a1 = 0 then (none) else (some (Int.tmod bt104.1 a1,bt104.2.1,bt104.2.2)))) else ((spec_l00Src_byte.f s0_0 s0_1 s0_2).bind fun bt107 => ((spec_l00Src_byte.f s0_0 bt107.2.1 bt107.2.2).bind fun bt110 => ((spec_l00Src_byte.f s0_0 bt110.2.1 bt110.2.2).bind fun bt113 => (if a1 = 0 then (none) else (some (Int.tmod (wrap64 ((wrap64 ((wrap64 (bt107.1 * 65536)) + (wrap64 (bt110.1 * 256)))) + bt113.1)) a1,bt113.2.1,bt113.2.2)))))))) = some (r1,r2,r3) := h
 clear h
 by_cases c3 : a1 ≤ 1
 ·rw [if_pos c3] at H
  have c3b0 : decide (a1 ≤ 1) = true := decide_eq_true c3
  clear c3
  simp only [Option.some.injEq,Prod.mk.injEq] at H
  obtain ⟨rfl,rfl,rfl⟩ := H
  go_enter Try.func45,Try.ntmps45
  go_wp2
  go_ret
  exact ⟨zt_,(zi72 HI0),zl_ HB,zh_ HK⟩
 ·rw [if_neg c3] at H
  have c3b0 : decide (a1 ≤ 1) = false := decide_eq_false c3
  clear c3
  by_cases c4 : a1 ≤ 256
  ·rw [if_pos c4] at H
   have c4b0 : decide (a1 ≤ 256) = true := decide_eq_true c4
   clear c4
   replace H := Option.bind_eq_some_iff.mp H
   obtain ⟨⟨t104,t105,t106⟩,A50,H⟩ := H
   try dsimp only at H
   have A5 := am_ A50
   clear A50
   by_cases c6 : a1 = 0
   ·rw [if_pos c6] at H
    exact absurd H (by simp)
   ·rw [if_neg c6] at H
    have c6b0 : (a1 == 0) = false := beq_eq_false_iff_ne.mpr c6
    have c6b1 : (a1 != 0) = true := bne_iff_ne.mpr c6
    simp only [Option.some.injEq,Prod.mk.injEq] at H
    obtain ⟨rfl,rfl,rfl⟩ := H
    go_enter Try.func45,Try.ntmps45
    go_wp2_with (first | ((with_reducible refine gate_callee (f := 64) rfl ?_);refine zgl (some 13) Try.func64 #[.pointer (some ⟨g,0,none⟩)] ?_;(with_reducible refine (spec_l00Src_byte.calls g s0_0 s0_1 s0_2 t104 t105 t106 w0 _ ?side1 ?side2 A5.out).mono ?_);(case side1 => exact zi72 HI0);(case side2 => exact zl_ HB);rintro e w7 ⟨rfl,hi,hb,hk⟩;refine ⟨_,rfl,?_⟩;replace HK := am_ (KeepBut.trans (zh_ HK) hk (.inl rfl));replace HB := am_ (hb);replace HI0 := am_ (hi);(try clear hb);(try clear hb2);(try clear hk);(try clear hi)))
    go_ret
    exact ⟨zt_,(zi72 HI0),zl_ HB,zh_ HK⟩
  ·rw [if_neg c4] at H
   have c4b0 : decide (a1 ≤ 256) = false := decide_eq_false c4
   clear c4
   replace H := Option.bind_eq_some_iff.mp H
   obtain ⟨⟨t107,t108,t109⟩,A80,H⟩ := H
   try dsimp only at H
   have A8 := am_ A80
   clear A80
   replace H := Option.bind_eq_some_iff.mp H
   obtain ⟨⟨t110,t111,t112⟩,A90,H⟩ := H
   try dsimp only at H
   have A9 := am_ A90
   clear A90
   replace H := Option.bind_eq_some_iff.mp H
   obtain ⟨⟨t113,t114,t115⟩,A100,H⟩ := H
   try dsimp only at H
   have A10 := am_ A100
   clear A100
   by_cases c11 : a1 = 0
   ·rw [if_pos c11] at H
    exact absurd H (by simp)
   ·rw [if_neg c11] at H
    have c11b0 : (a1 == 0) = false := beq_eq_false_iff_ne.mpr c11
    have c11b1 : (a1 != 0) = true := bne_iff_ne.mpr c11
    simp only [Option.some.injEq,Prod.mk.injEq] at H
    obtain ⟨rfl,rfl,rfl⟩ := H
    go_enter Try.func45,Try.ntmps45
    go_wp2_with (first | ((with_reducible refine gate_callee (f := 64) rfl ?_);refine zgl (some 17) Try.func64 #[.pointer (some ⟨g,0,none⟩)] ?_;(with_reducible refine (spec_l00Src_byte.calls g s0_0 s0_1 s0_2 t107 t108 t109 w0 _ ?side1 ?side2 A8.out).mono ?_);(case side1 => exact zi72 HI0);(case side2 => exact zl_ HB);rintro e w12 ⟨rfl,hi,hb,hk⟩;refine ⟨_,rfl,?_⟩;replace HK := am_ (KeepBut.trans (zh_ HK) hk (.inl rfl));replace HB := am_ (hb);replace HI0 := am_ (hi);(try clear hb);(try clear hb2);(try clear hk);(try clear hi)) | ((with_reducible refine gate_callee (f := 64) rfl ?_);refine zgl (some 19) Try.func64 #[.pointer (some ⟨g,0,none⟩)] ?_;(with_reducible refine (spec_l00Src_byte.calls g s0_0 t108 t109 t110 t111 t112 w0 _ ?side1 ?side2 A9.out).mono ?_);(case side1 => exact zi72 HI0);(case side2 => exact zl_ HB);rintro e w13 ⟨rfl,hi,hb,hk⟩;refine ⟨_,rfl,?_⟩;replace HK := am_ (KeepBut.trans (zh_ HK) hk (.inl rfl));replace HB := am_ (hb);replace HI0 := am_ (hi);(try clear hb);(try clear hb2);(try clear hk);(try clear hi)) | ((with_reducible refine gate_callee (f := 64) rfl ?_);refine zgl (some 21) Try.func64 #[.pointer (some ⟨g,0,none⟩)] ?_;(with_reducible refine (spec_l00Src_byte.calls g s0_0 t111 t112 t113 t114 t115 w0 _ ?side1 ?side2 A10.out).mono ?_);(case side1 => exact zi72 HI0);(case side2 => exact zl_ HB);rintro e w14 ⟨rfl,hi,hb,hk⟩;refine ⟨_,rfl,?_⟩;replace HK := am_ (KeepBut.trans (zh_ HK) hk (.inl rfl));replace HB := am_ (hb);replace HI0 := am_ (hi);(try clear hb);(try clear hb2);(try clear hk);(try clear hi)))
    go_ret
    exact ⟨zt_,(zi72 HI0),zl_ HB,zh_ HK⟩
set_option maxHeartbeats 8000000 in
set_option maxRecDepth 100000 in
theorem spec_l00Src_chance.calls (g : Nat) (s0_0 : List Int) (s0_1 : Int) (s0_2 : Int) (a1 : Int) (r1 : Bool) (r2 : Int) (r3 : Int) (w0 w : World) (hI : IsS72 w0 w g s0_0 s0_1 s0_2) (hB : Below w0.heap.size w0 w) (h : spec_l00Src_chance.f s0_0 s0_1 s0_2 a1 = some (r1,r2,r3)) :
  Calls Try.prog 60 #[.pointer (some ⟨g,0,none⟩),.int .i64 a1] w fun e w' => e = .returned (.bool r1) ∧ IsS72 w0 w' g s0_0 r2 r3 ∧ Below w0.heap.size w0 w' ∧ KeepBut w w' g none := by
 have HI0 := am_ hI
 have HK := am_ (KeepBut.refl w g none)
 have HL := am_ hB.size
 clear hI
 have HW0 := am_ hB.size
 have HB := am_ hB
 clear hB
 have H : ((spec_l00Src_next.f s0_0 s0_1 s0_2 a1).bind fun bt238 => (some ((bt238.1 == (wrap64 (a1 - 1))),bt238.2.1,bt238.2.2))) = some (r1,r2,r3) := h
 clear h
 replace H := Option.bind_eq_some_iff.mp H
 obtain ⟨⟨t238,t239,t240⟩,A30,H⟩ := H
 try dsimp only at H
 have A3 := am_ A30
 clear A30
 simp only [Option.some.injEq,Prod.mk.injEq] at H
 obtain ⟨rfl,rfl,rfl⟩ := H
 go_enter Try.func60,Try.ntmps60
 go_wp2_with (first | ((with_reducible refine gate_callee (f := 45) rfl ?_);refine zgl (some 7) Try.func45 #[.pointer (some ⟨g,0,none⟩),.int .i64 a1] ?_;(with_reducible refine (spec_l00Src_next.calls g s0_0 s0_1 s0_2 a1 t238 t239 t240 w0 _ ?side1 ?side2 A3.out).mono ?_);(case side1 => exact zi72 HI0);(case side2 => exact zl_ HB);rintro e w4 ⟨rfl,hi,hb,hk⟩;refine ⟨_,rfl,?_⟩;replace HK := am_ (KeepBut.trans (zh_ HK) hk (.inl rfl));replace HB := am_ (hb);replace HI0 := am_ (hi);(try clear hb);(try clear hb2);(try clear hk);(try clear hi)))
 go_ret
 exact ⟨zt_,(zi72 HI0),zl_ HB,zh_ HK⟩
set_option maxHeartbeats 8000000 in
set_option maxRecDepth 100000 in
theorem spec_l00Src_pick.calls (g : Nat) (s0_0 : List Int) (s0_1 : Int) (s0_2 : Int) (A1 : Option Addr) (c1 : Nat) (l1 : List ByteArray) (r1 : ByteArray) (r2 : Int) (r3 : Int) (w0 w : World) (hI : IsS72 w0 w g s0_0 s0_1 s0_2) (hB : Below w0.heap.size w0 w) (hr1 : Kd.C Kd.string w A1 l1.length l1) (hc1 : l1.length ≤ c1) (hf1 : ∀ ad,A1 = some ad → 0 < l1.length → ad.block ≠ g) (h : spec_l00Src_pick.f s0_0 s0_1 s0_2 l1 = some (r1,r2,r3)) :
  Calls Try.prog 55 #[.pointer (some ⟨g,0,none⟩),.slice A1 l1.length c1] w fun e w' => e = .returned (.string r1) ∧ IsS72 w0 w' g s0_0 r2 r3 ∧ Below w0.heap.size w0 w' ∧ KeepBut w w' g none := by
 have HR1 := am_ hr1
 have HC1 := am_ hc1
 clear hr1 hc1
 have HI0 := am_ hI
 have HK := am_ (KeepBut.refl w g none)
 have HL := am_ hB.size
 clear hI
 have HW0 := am_ hB.size
 have HB := am_ hB
 clear hB
 have H : (if (l1.length : Int) = 0 then (some ((⟨#[]⟩ : ByteArray),s0_1,s0_2)) else ((spec_l00Src_next.f s0_0 s0_1 s0_2 (l1.length : Int)).bind fun bt116 => (if 0 ≤ bt116.1 then (if bt116.1 < (l1.length : Int) then (some (rdOf ByteArray.empty l1 bt116.1,bt116.2.1,bt116.2.2)) else (none)) else (none)))) = some (r1,r2,r3) := h
 clear h
 by_cases c3 : (l1.length : Int) = 0
 ·rw [if_pos c3] at H
  have c3b0 : ((l1.length : Int) == 0) = true := beq_iff_eq.mpr c3
  have c3b1 : ((l1.length : Int) != 0) = false := bne_eq_false_iff_eq.mpr c3
  clear c3
  simp only [Option.some.injEq,Prod.mk.injEq] at H
  obtain ⟨rfl,rfl,rfl⟩ := H
  go_enter Try.func55,Try.ntmps55
  go_wp2
  go_ret
  exact ⟨zt_,(zi72 HI0),zl_ HB,zh_ HK⟩
 ·rw [if_neg c3] at H
  have c3b0 : ((l1.length : Int) == 0) = false := beq_eq_false_iff_ne.mpr c3
  have c3b1 : ((l1.length : Int) != 0) = true := bne_iff_ne.mpr c3
  have c3b2 : ¬ (l1 = []) := fun h_ => c3 (by rw [h_];rfl)
  replace H := Option.bind_eq_some_iff.mp H
  obtain ⟨⟨t116,t117,t118⟩,A40,H⟩ := H
  try dsimp only at H
  have A4 := am_ A40
  clear A40
  by_cases c5 : 0 ≤ t116
  ·rw [if_pos c5] at H
   have c5b0 : decide (0 ≤ t116) = true := decide_eq_true c5
   clear c5
   by_cases c6 : t116 < (l1.length : Int)
   ·rw [if_pos c6] at H
    have c6b0 : decide (t116 < (l1.length : Int)) = true := decide_eq_true c6
    clear c6
    simp only [Option.some.injEq,Prod.mk.injEq] at H
    obtain ⟨rfl,rfl,rfl⟩ := H
    go_enter Try.func55,Try.ntmps55
    go_wp2_with (first | ((with_reducible refine gate_callee (f := 45) rfl ?_);refine zgl (some 12) Try.func45 #[.pointer (some ⟨g,0,none⟩),.int .i64 (l1.length : Int)] ?_;(with_reducible refine (spec_l00Src_next.calls g s0_0 s0_1 s0_2 (l1.length : Int) t116 t117 t118 w0 _ ?side1 ?side2 A4.out).mono ?_);(case side1 => exact zi72 HI0);(case side2 => exact zl_ HB);rintro e w7 ⟨rfl,hi,hb,hk⟩;refine ⟨_,rfl,?_⟩;replace HK := am_ (KeepBut.trans (zh_ HK) hk (.inl rfl));replace HB := am_ (hb);replace HI0 := am_ (hi);(try clear hb);(try clear hb2);(try clear hk);(try clear hi);have p119 : 0 ≤ (t116 : Int) := o1_ (by first | (with_reducible assumption) | assumption);have q119 : t116 < (l1.length : Int) := o1_ (by first | (with_reducible assumption) | assumption);obtain ⟨ad119,e119,hx119_0⟩ := Kd.at_string HR1.out t116 p119 q119;cases e119;replace hx119_0 := keep_cell HK.out hx119_0 (by first | (rw [add_block];exact hf1 _ rfl (by omega)) | exact hf1 _ rfl (by omega) | exact hf1 ad119 rfl (by omega));replace p119 := eq_true p119;replace q119 := eq_true q119))
    go_ret
    exact ⟨zt_,(zi72 HI0),zl_ HB,zh_ HK⟩
   ·rw [if_neg c6] at H
    exact absurd H (by simp)
  ·rw [if_neg c5] at H
   exact absurd H (by simp)
set_option maxHeartbeats 8000000 in
set_option maxRecDepth 100000 in
theorem spec_l00Src_request.calls (g : Nat) (s0_0 : List Int) (s0_1 : Int) (s0_2 : Int) (r1 : Int) (r2 : Int) (r3 : Int) (r4 : Int) (r5 : ByteArray) (r6 : Int) (r7 : Int) (w0 w : World) (hI : IsS72 w0 w g s0_0 s0_1 s0_2) (hB : Below w0.heap.size w0 w) (h : spec_l00Src_request.f s0_0 s0_1 s0_2 = some (r1,r2,r3,r4,r5,r6,r7)) :
  Calls Try.prog 31 #[.pointer (some ⟨g,0,none⟩)] w fun e w' => e = .returned (.agg #[.int .i64 r1,.int .i64 r2,.int .i64 r3,.int .i64 r4,.string r5]) ∧ IsS72 w0 w' g s0_0 r6 r7 ∧ Below w0.heap.size w0 w' ∧ KeepBut w w' g none := by
 have hu33 := Try.underlying33
 have HI0 := am_ hI
 have HK := am_ (KeepBut.refl w g none)
 have HL := am_ hB.size
 clear hI
 have HW0 := am_ hB.size
 have HB := am_ hB
 clear hB
 have H : ((spec_l00Src_next.f s0_0 s0_1 s0_2 3).bind fun bt121 => ((spec_l00Src_next.f s0_0 bt121.2.1 bt121.2.2 5).bind fun bt124 => ((spec_l00Src_next.f s0_0 bt124.2.1 bt124.2.2 4).bind fun bt127 => ((spec_l00Src_pick.f s0_0 bt127.2.1 bt127.2.2 (([(⟨#[97]⟩ : ByteArray),(⟨#[98]⟩ : ByteArray),(⟨#[108,111,99,107]⟩ : ByteArray)] : List ByteArray))).bind fun bt133 => (if (wrap64 (1 + bt127.1)) = 1 then ((spec_l00Src_next.f s0_0 bt133.2.1 bt133.2.2 30).bind fun bt137 => (some (bt121.1,wrap64 (1 + bt124.1),wrap64 (1 + bt127.1),wrap64 (1 + bt137.1),bt133.1,bt137.2.1,bt137.2.2))) else (if (wrap64 (1 + bt127.1)) = 3 then ((spec_l00Src_next.f s0_0 bt133.2.1 bt133.2.2 30).bind fun bt140 => (some (bt121.1,wrap64 (1 + bt124.1),wrap64 (1 + bt127.1),wrap64 (1 + bt140.1),bt133.1,bt140.2.1,bt140.2.2))) else (some (bt121.1,wrap64 (1 + bt124.1),wrap64 (1 + bt127.1),0,bt133.1,bt133.2.1,bt133.2.2)))))))) = some (r1,r2,r3,r4,r5,r6,r7) := h
 clear h
 replace H := Option.bind_eq_some_iff.mp H
 obtain ⟨⟨t121,t122,t123⟩,A20,H⟩ := H
 try dsimp only at H
 have A2 := am_ A20
 clear A20
 replace H := Option.bind_eq_some_iff.mp H
 obtain ⟨⟨t124,t125,t126⟩,A30,H⟩ := H
 try dsimp only at H
 have A3 := am_ A30
 clear A30
 replace H := Option.bind_eq_some_iff.mp H
 obtain ⟨⟨t127,t128,t129⟩,A40,H⟩ := H
 try dsimp only at H
 have A4 := am_ A40
 clear A40
 obtain ⟨y130,hy130⟩ : ∃ y_ : List ByteArray,y_ = (([(⟨#[97]⟩ : ByteArray),(⟨#[98]⟩ : ByteArray),(⟨#[108,111,99,107]⟩ : ByteArray)] : List ByteArray)) := ⟨_,rfl⟩
 replace H : ((spec_l00Src_pick.f s0_0 t128 t129 y130).bind fun bt133 => (if (wrap64 (1 + t127)) = 1 then ((spec_l00Src_next.f s0_0 bt133.2.1 bt133.2.2 30).bind fun bt137 => (some (t121,wrap64 (1 + t124),wrap64 (1 + t127),wrap64 (1 + bt137.1),bt133.1,bt137.2.1,bt137.2.2))) else (if (wrap64 (1 + t127)) = 3 then ((spec_l00Src_next.f s0_0 bt133.2.1 bt133.2.2 30).bind fun bt140 => (some (t121,wrap64 (1 + t124),wrap64 (1 + t127),wrap64 (1 + bt140.1),bt133.1,bt140.2.1,bt140.2.2))) else (some (t121,wrap64 (1 + t124),wrap64 (1 + t127),0,bt133.1,bt133.2.1,bt133.2.2))))) = some (r1,r2,r3,r4,r5,r6,r7) := by first | (rw [hy130];with_reducible exact H) | (have H2_ := (Option.bind_some _ _).symm.trans H;rw [hy130];with_reducible exact H2_) | (have H2_ := (Option.bind_some _ _).symm.trans H;with_reducible exact H2_) | with_reducible exact H | (rw [hy130];exact H) | exact H
 have Ny130 := am_ hy130
 clear hy130
 replace H := Option.bind_eq_some_iff.mp H
 obtain ⟨⟨t133,t134,t135⟩,A50,H⟩ := H
 try dsimp only at H
 have A5 := am_ A50
 clear A50
 by_cases c6 : (wrap64 (1 + t127)) = 1
 ·rw [if_pos c6] at H
  have c6b0 : ((wrap64 (1 + t127)) == 1) = true := beq_iff_eq.mpr c6
  have c6b1 : ((wrap64 (1 + t127)) != 1) = false := bne_eq_false_iff_eq.mpr c6
  clear c6
  replace H := Option.bind_eq_some_iff.mp H
  obtain ⟨⟨t137,t138,t139⟩,A70,H⟩ := H
  try dsimp only at H
  have A7 := am_ A70
  clear A70
  simp only [Option.some.injEq,Prod.mk.injEq] at H
  obtain ⟨rfl,rfl,rfl,rfl,rfl,rfl,rfl⟩ := H
  go_enter Try.func31,Try.ntmps31
  go_wp2_with (first | ((with_reducible refine gate_dst (N := 2) rfl ?_);refine zbx (N := 2) (cs := #[.int .i64 0,.int .i64 0,.int .i64 0,.int .i64 0,.string ⟨#[]⟩]) (t := 33) ?_;intro gb120 hg w8 hbox hb;replace HB := zs_ HB hb;have BK120 := am_ (hbox);have GW120 := am_ ((by rw [hg];exact (keep_size (w := w) (g := g) (row := none) (zh_ HK)) : w.heap.size ≤ gb120));have GE120 := am_ ((Nat.le_trans HW0.out (by rw [hg];exact (keep_size (w := w) (g := g) (row := none) (zh_ HK)) : w.heap.size ≤ gb120) : w0.heap.size ≤ gb120));replace HK := am_ (KeepBut.trans (zh_ HK) (KeepBut.of_below hb g none) (.inl rfl));have NB0_120 := am_ ((by rw [hg];exact Nat.ne_of_lt (IsS72.lt (show IsS72 w0 _ g s0_0 s0_1 s0_2 from (zi72 HI0))) : g ≠ gb120));have NB120_0 := am_ ((by rw [hg];exact Nat.ne_of_gt (IsS72.lt (show IsS72 w0 _ g s0_0 s0_1 s0_2 from (zi72 HI0))) : gb120 ≠ g));replace HI0 := am_ (IsS72.below (zi72 HI0) hb);clear hb hbox hg) | ((with_reducible refine gate_callee (f := 45) rfl ?_);refine zgl (some 5) Try.func45 #[.pointer (some ⟨g,0,none⟩),.int .i64 3] ?_;(with_reducible refine (spec_l00Src_next.calls g s0_0 s0_1 s0_2 3 t121 t122 t123 w0 _ ?side1 ?side2 A2.out).mono ?_);(case side1 => exact zi72 HI0);(case side2 => exact zl_ HB);rintro e w9 ⟨rfl,hi,hb,hk⟩;refine ⟨_,rfl,?_⟩;replace BK120 := zkb hk BK120 NB120_0;replace HK := am_ (KeepBut.trans (zh_ HK) hk (.inl rfl));replace HB := am_ (hb);replace HI0 := am_ (hi);(try clear hb);(try clear hb2);(try clear hk);(try clear hi)) | ((with_reducible refine gate_callee (f := 45) rfl ?_);refine zgl (some 7) Try.func45 #[.pointer (some ⟨g,0,none⟩),.int .i64 5] ?_;(with_reducible refine (spec_l00Src_next.calls g s0_0 t122 t123 5 t124 t125 t126 w0 _ ?side1 ?side2 A3.out).mono ?_);(case side1 => exact zi72 HI0);(case side2 => exact zl_ HB);rintro e w10 ⟨rfl,hi,hb,hk⟩;refine ⟨_,rfl,?_⟩;replace BK120 := zkb hk BK120 NB120_0;replace HK := am_ (KeepBut.trans (zh_ HK) hk (.inl rfl));replace HB := am_ (hb);replace HI0 := am_ (hi);(try clear hb);(try clear hb2);(try clear hk);(try clear hi)) | ((with_reducible refine gate_callee (f := 45) rfl ?_);refine zgl (some 10) Try.func45 #[.pointer (some ⟨g,0,none⟩),.int .i64 4] ?_;(with_reducible refine (spec_l00Src_next.calls g s0_0 t125 t126 4 t127 t128 t129 w0 _ ?side1 ?side2 A4.out).mono ?_);(case side1 => exact zi72 HI0);(case side2 => exact zl_ HB);rintro e w11 ⟨rfl,hi,hb,hk⟩;refine ⟨_,rfl,?_⟩;replace BK120 := zkb hk BK120 NB120_0;replace HK := am_ (KeepBut.trans (zh_ HK) hk (.inl rfl));replace HB := am_ (hb);replace HI0 := am_ (hi);(try clear hb);(try clear hb2);(try clear hk);(try clear hi)) | ((with_reducible refine gate_dst (N := 13) rfl ?_);refine Kd.R_lit Kd.string _ 9 ?hg (N := 13) ?hd (xs := ([(⟨#[97]⟩ : ByteArray),(⟨#[98]⟩ : ByteArray),(⟨#[108,111,99,107]⟩ : ByteArray)] : List ByteArray)) (inner := [.string ⟨#[97]⟩,.string ⟨#[98]⟩,.string ⟨#[108,111,99,107]⟩]) (ok := fun _ => True) (okp := fun _ => True) ?hr ?hp (fun _ hk => hk) trivial (Below.refl _ _) (Nat.le_refl _) (by simp) ?_;(case hd => rfl);(case hg => rfl);(case hr => first | (go_simp;done) | (go_simp;rfl));(case hp => exact (Reps.one (show Kd.M Kd.string _ _ _ (⟨#[97]⟩ : ByteArray) [.string ⟨#[97]⟩] from rfl) (Reps.one (show Kd.M Kd.string _ _ _ (⟨#[98]⟩ : ByteArray) [.string ⟨#[98]⟩] from rfl) (Reps.one (show Kd.M Kd.string _ _ _ (⟨#[108,111,99,107]⟩ : ByteArray) [.string ⟨#[108,111,99,107]⟩] from rfl) (Reps.none _ _)))));intro v131 w12 ho13 hb hg_ hnew_;clear hg_ hnew_;(first | rw [← Ny130.out] at ho13 | (simp only [Int.reduceToNat] at ho13;rw [← Ny130.out] at ho13));have HO132 := am_ (Kd.R_lower ho13 (keep_size (w := w) (g := g) (row := none) (zh_ HK)));replace HI0 := am_ (IsS72.below (zi72 HI0) hb);replace BK120 := zb BK120 hb;replace HK := am_ (KeepBut.trans (zh_ HK) (KeepBut.of_below hb g none) (.inl rfl));replace HB := zs_ HB hb;clear hb ho13;obtain ⟨Ao14,co14,eo14⟩ := Kd.R_slice HO132.out;subst eo14) | ((with_reducible refine gate_callee (f := 55) rfl ?_);refine zgl (some 14) Try.func55 #[.pointer (some ⟨g,0,none⟩),.slice Ao14 y130.length co14] ?_;(with_reducible refine (spec_l00Src_pick.calls g s0_0 t128 t129 _ _ y130 t133 t134 t135 w0 _ ?side1 ?side2 ?side3 ?side4 ?side5 A5.out).mono ?_);(case side1 => exact zi72 HI0);(case side2 => exact zl_ HB);(case side3 => repeat (first | exact (Kd.R_reads' HO132.out).2.2 | (with_reducible refine Kd.C_alloc ?_ _) | (with_reducible refine Kd.C_drewN ?_ _) | (with_reducible refine Kd.C_drew ?_)));(case side4 => exact (Kd.R_reads' HO132.out).2.1);(case side5 => exact far_slice (IsS72.own_ne HI0.out HO132.out (by decide)));rintro e w15 ⟨rfl,hi,hb,hk⟩;refine ⟨_,rfl,?_⟩;replace BK120 := zkb hk BK120 NB120_0;replace HO132 := am_ (Kd.R_mono (Kd.R_keep (IsS72.apart (show IsS72 w0 _ g s0_0 t128 t129 from (zi72 HI0)) (zr HO132) (by decide)) hk (fun _ h => h.2)) (fun _ h => h.1));replace HK := am_ (KeepBut.trans (zh_ HK) hk (.inl rfl));replace HB := am_ (hb);replace HI0 := am_ (hi);(try clear hb);(try clear hb2);(try clear hk);(try clear hi)) | ((with_reducible refine gate_dst (N := 3) rfl ?_);refine zbx (N := 3) (cs := #[.int .i64 0,.int .i64 0,.int .i64 0,.int .i64 0,.string ⟨#[]⟩]) (t := 33) ?_;intro gb136 hg w16 hbox hb;replace HO132 := zrb HO132 hb;replace HB := zs_ HB hb;have BK136 := am_ (hbox);have GW136 := am_ ((by rw [hg];exact (keep_size (w := w) (g := g) (row := none) (zh_ HK)) : w.heap.size ≤ gb136));have GE136 := am_ ((Nat.le_trans HW0.out (by rw [hg];exact (keep_size (w := w) (g := g) (row := none) (zh_ HK)) : w.heap.size ≤ gb136) : w0.heap.size ≤ gb136));replace HK := am_ (KeepBut.trans (zh_ HK) (KeepBut.of_below hb g none) (.inl rfl));have NB120_136 := zl hg BK120;have NB136_120 := zg hg BK120;replace BK120 := zb BK120 hb;have NB0_136 := am_ ((by rw [hg];exact Nat.ne_of_lt (IsS72.lt (show IsS72 w0 _ g s0_0 t134 t135 from (zi72 HI0))) : g ≠ gb136));have NB136_0 := am_ ((by rw [hg];exact Nat.ne_of_gt (IsS72.lt (show IsS72 w0 _ g s0_0 t134 t135 from (zi72 HI0))) : gb136 ≠ g));replace HI0 := am_ (IsS72.below (zi72 HI0) hb);clear hb hbox hg;have hnb17 := NB136_120.out;have hnc17 := NB120_136.out;have hnb18 := NB136_0.out;have hnc18 := NB0_136.out;obtain ⟨hcz19_0,hcz19_1,hcz19_2,hcz19_3,hcz19_4,hfz19_0,hfz19_1,hfz19_2,hfz19_3,hfz19_4⟩ := zc5 BK136) | ((with_reducible refine gate_callee (f := 45) rfl ?_);refine zgl (some 25) Try.func45 #[.pointer (some ⟨g,0,none⟩),.int .i64 30] ?_;(with_reducible refine (spec_l00Src_next.calls g s0_0 t134 t135 30 t137 t138 t139 w0 _ ?side1 ?side2 A7.out).mono ?_);(case side1 => exact zi72 HI0);(case side2 => exact zl_ HB);rintro e w20 ⟨rfl,hi,hb,hk⟩;refine ⟨_,rfl,?_⟩;replace BK120 := am_ (KeepBut.blk hk (g' := gb120) (o := .cells #[.int .i64 0,.int .i64 0,.int .i64 0,.int .i64 0,.string ⟨#[]⟩] 33 (0,0)) (zq BK120) NB120_0.out (by simp));replace HO132 := am_ (Kd.R_mono (Kd.R_keep (IsS72.apart (show IsS72 w0 _ g s0_0 t134 t135 from (zi72 HI0)) (by (with_reducible repeat (first | apply r1_ | apply r2_ | apply r3_));exact (Kd.R_mono (zrf (Kd.R_types HO132.out BK136.out (by decide))) (fun _ h_ => h_.1))) (by decide)) hk (fun _ h => h.2)) (fun _ h => h.1));replace BK136 := am_ (KeepBut.blk hk (g' := gb136) (o := .cells #[.int .i64 t121,.int .i64 (wrap64 (1 + t124)),.int .i64 (wrap64 (1 + t127)),.int .i64 0,.string t133] 33 (0,0)) (zq BK136) NB136_0.out (by simp));replace HK := am_ (KeepBut.trans (zh_ HK) hk (.inl rfl));replace HB := am_ (hb);replace HI0 := am_ (hi);(try clear hb);(try clear hb2);(try clear hk);(try clear hi);obtain ⟨hcz21_0,hcz21_1,hcz21_2,hcz21_3,hcz21_4,hfz21_0,hfz21_1,hfz21_2,hfz21_3,hfz21_4⟩ := zc5 BK136;have hnb22 := NB120_0.out;have hnc22 := NB0_120.out;obtain ⟨hcz23_0,hcz23_1,hcz23_2,hcz23_3,hcz23_4,hfz23_0,hfz23_1,hfz23_2,hfz23_3,hfz23_4⟩ := zc5 BK120))
  refine bodyPost_ret (results_cell_row rfl _ _ gb120 33 #[.int .i64 t121,.int .i64 (wrap64 (1 + t124)),.int .i64 (wrap64 (1 + t127)),.int .i64 (wrap64 (1 + t137)),.string t133] (0,0) _ rfl (zq BK120) Try.underlying33 rfl (by kernel_rfl)) rfl ?_
  exact ⟨zt_,(zi72 HI0),zl_ HB,zh_ HK⟩
 ·rw [if_neg c6] at H
  have c6b0 : ((wrap64 (1 + t127)) == 1) = false := beq_eq_false_iff_ne.mpr c6
  have c6b1 : ((wrap64 (1 + t127)) != 1) = true := bne_iff_ne.mpr c6
  by_cases c24 : (wrap64 (1 + t127)) = 3
  ·rw [if_pos c24] at H
   have c24b0 : ((wrap64 (1 + t127)) == 3) = true := beq_iff_eq.mpr c24
   have c24b1 : ((wrap64 (1 + t127)) != 3) = false := bne_eq_false_iff_eq.mpr c24
   clear c24
   replace H := Option.bind_eq_some_iff.mp H
   obtain ⟨⟨t140,t141,t142⟩,A250,H⟩ := H
   try dsimp only at H
   have A25 := am_ A250
   clear A250
   simp only [Option.some.injEq,Prod.mk.injEq] at H
   obtain ⟨rfl,rfl,rfl,rfl,rfl,rfl,rfl⟩ := H
   go_enter Try.func31,Try.ntmps31
   go_wp2_with (first | ((with_reducible refine gate_dst (N := 2) rfl ?_);refine zbx (N := 2) (cs := #[.int .i64 0,.int .i64 0,.int .i64 0,.int .i64 0,.string ⟨#[]⟩]) (t := 33) ?_;intro gb120 hg w26 hbox hb;replace HB := zs_ HB hb;have BK120 := am_ (hbox);have GW120 := am_ ((by rw [hg];exact (keep_size (w := w) (g := g) (row := none) (zh_ HK)) : w.heap.size ≤ gb120));have GE120 := am_ ((Nat.le_trans HW0.out (by rw [hg];exact (keep_size (w := w) (g := g) (row := none) (zh_ HK)) : w.heap.size ≤ gb120) : w0.heap.size ≤ gb120));replace HK := am_ (KeepBut.trans (zh_ HK) (KeepBut.of_below hb g none) (.inl rfl));have NB0_120 := am_ ((by rw [hg];exact Nat.ne_of_lt (IsS72.lt (show IsS72 w0 _ g s0_0 s0_1 s0_2 from (zi72 HI0))) : g ≠ gb120));have NB120_0 := am_ ((by rw [hg];exact Nat.ne_of_gt (IsS72.lt (show IsS72 w0 _ g s0_0 s0_1 s0_2 from (zi72 HI0))) : gb120 ≠ g));replace HI0 := am_ (IsS72.below (zi72 HI0) hb);clear hb hbox hg) | ((with_reducible refine gate_callee (f := 45) rfl ?_);refine zgl (some 5) Try.func45 #[.pointer (some ⟨g,0,none⟩),.int .i64 3] ?_;(with_reducible refine (spec_l00Src_next.calls g s0_0 s0_1 s0_2 3 t121 t122 t123 w0 _ ?side1 ?side2 A2.out).mono ?_);(case side1 => exact zi72 HI0);(case side2 => exact zl_ HB);rintro e w27 ⟨rfl,hi,hb,hk⟩;refine ⟨_,rfl,?_⟩;replace BK120 := zkb hk BK120 NB120_0;replace HK := am_ (KeepBut.trans (zh_ HK) hk (.inl rfl));replace HB := am_ (hb);replace HI0 := am_ (hi);(try clear hb);(try clear hb2);(try clear hk);(try clear hi)) | ((with_reducible refine gate_callee (f := 45) rfl ?_);refine zgl (some 7) Try.func45 #[.pointer (some ⟨g,0,none⟩),.int .i64 5] ?_;(with_reducible refine (spec_l00Src_next.calls g s0_0 t122 t123 5 t124 t125 t126 w0 _ ?side1 ?side2 A3.out).mono ?_);(case side1 => exact zi72 HI0);(case side2 => exact zl_ HB);rintro e w28 ⟨rfl,hi,hb,hk⟩;refine ⟨_,rfl,?_⟩;replace BK120 := zkb hk BK120 NB120_0;replace HK := am_ (KeepBut.trans (zh_ HK) hk (.inl rfl));replace HB := am_ (hb);replace HI0 := am_ (hi);(try clear hb);(try clear hb2);(try clear hk);(try clear hi)) | ((with_reducible refine gate_callee (f := 45) rfl ?_);refine zgl (some 10) Try.func45 #[.pointer (some ⟨g,0,none⟩),.int .i64 4] ?_;(with_reducible refine (spec_l00Src_next.calls g s0_0 t125 t126 4 t127 t128 t129 w0 _ ?side1 ?side2 A4.out).mono ?_);(case side1 => exact zi72 HI0);(case side2 => exact zl_ HB);rintro e w29 ⟨rfl,hi,hb,hk⟩;refine ⟨_,rfl,?_⟩;replace BK120 := zkb hk BK120 NB120_0;replace HK := am_ (KeepBut.trans (zh_ HK) hk (.inl rfl));replace HB := am_ (hb);replace HI0 := am_ (hi);(try clear hb);(try clear hb2);(try clear hk);(try clear hi)) | ((with_reducible refine gate_dst (N := 13) rfl ?_);refine Kd.R_lit Kd.string _ 9 ?hg (N := 13) ?hd (xs := ([(⟨#[97]⟩ : ByteArray),(⟨#[98]⟩ : ByteArray),(⟨#[108,111,99,107]⟩ : ByteArray)] : List ByteArray)) (inner := [.string ⟨#[97]⟩,.string ⟨#[98]⟩,.string ⟨#[108,111,99,107]⟩]) (ok := fun _ => True) (okp := fun _ => True) ?hr ?hp (fun _ hk => hk) trivial (Below.refl _ _) (Nat.le_refl _) (by simp) ?_;(case hd => rfl);(case hg => rfl);(case hr => first | (go_simp;done) | (go_simp;rfl));(case hp => exact (Reps.one (show Kd.M Kd.string _ _ _ (⟨#[97]⟩ : ByteArray) [.string ⟨#[97]⟩] from rfl) (Reps.one (show Kd.M Kd.string _ _ _ (⟨#[98]⟩ : ByteArray) [.string ⟨#[98]⟩] from rfl) (Reps.one (show Kd.M Kd.string _ _ _ (⟨#[108,111,99,107]⟩ : ByteArray) [.string ⟨#[108,111,99,107]⟩] from rfl) (Reps.none _ _)))));intro v131 w30 ho31 hb hg_ hnew_;clear hg_ hnew_;(first | rw [← Ny130.out] at ho31 | (simp only [Int.reduceToNat] at ho31;rw [← Ny130.out] at ho31));have HO132 := am_ (Kd.R_lower ho31 (keep_size (w := w) (g := g) (row := none) (zh_ HK)));replace HI0 := am_ (IsS72.below (zi72 HI0) hb);replace BK120 := zb BK120 hb;replace HK := am_ (KeepBut.trans (zh_ HK) (KeepBut.of_below hb g none) (.inl rfl));replace HB := zs_ HB hb;clear hb ho31;obtain ⟨Ao32,co32,eo32⟩ := Kd.R_slice HO132.out;subst eo32) | ((with_reducible refine gate_callee (f := 55) rfl ?_);refine zgl (some 14) Try.func55 #[.pointer (some ⟨g,0,none⟩),.slice Ao32 y130.length co32] ?_;(with_reducible refine (spec_l00Src_pick.calls g s0_0 t128 t129 _ _ y130 t133 t134 t135 w0 _ ?side1 ?side2 ?side3 ?side4 ?side5 A5.out).mono ?_);(case side1 => exact zi72 HI0);(case side2 => exact zl_ HB);(case side3 => repeat (first | exact (Kd.R_reads' HO132.out).2.2 | (with_reducible refine Kd.C_alloc ?_ _) | (with_reducible refine Kd.C_drewN ?_ _) | (with_reducible refine Kd.C_drew ?_)));(case side4 => exact (Kd.R_reads' HO132.out).2.1);(case side5 => exact far_slice (IsS72.own_ne HI0.out HO132.out (by decide)));rintro e w33 ⟨rfl,hi,hb,hk⟩;refine ⟨_,rfl,?_⟩;replace BK120 := zkb hk BK120 NB120_0;replace HO132 := am_ (Kd.R_mono (Kd.R_keep (IsS72.apart (show IsS72 w0 _ g s0_0 t128 t129 from (zi72 HI0)) (zr HO132) (by decide)) hk (fun _ h => h.2)) (fun _ h => h.1));replace HK := am_ (KeepBut.trans (zh_ HK) hk (.inl rfl));replace HB := am_ (hb);replace HI0 := am_ (hi);(try clear hb);(try clear hb2);(try clear hk);(try clear hi)) | ((with_reducible refine gate_dst (N := 3) rfl ?_);refine zbx (N := 3) (cs := #[.int .i64 0,.int .i64 0,.int .i64 0,.int .i64 0,.string ⟨#[]⟩]) (t := 33) ?_;intro gb136 hg w34 hbox hb;replace HO132 := zrb HO132 hb;replace HB := zs_ HB hb;have BK136 := am_ (hbox);have GW136 := am_ ((by rw [hg];exact (keep_size (w := w) (g := g) (row := none) (zh_ HK)) : w.heap.size ≤ gb136));have GE136 := am_ ((Nat.le_trans HW0.out (by rw [hg];exact (keep_size (w := w) (g := g) (row := none) (zh_ HK)) : w.heap.size ≤ gb136) : w0.heap.size ≤ gb136));replace HK := am_ (KeepBut.trans (zh_ HK) (KeepBut.of_below hb g none) (.inl rfl));have NB120_136 := zl hg BK120;have NB136_120 := zg hg BK120;replace BK120 := zb BK120 hb;have NB0_136 := am_ ((by rw [hg];exact Nat.ne_of_lt (IsS72.lt (show IsS72 w0 _ g s0_0 t134 t135 from (zi72 HI0))) : g ≠ gb136));have NB136_0 := am_ ((by rw [hg];exact Nat.ne_of_gt (IsS72.lt (show IsS72 w0 _ g s0_0 t134 t135 from (zi72 HI0))) : gb136 ≠ g));replace HI0 := am_ (IsS72.below (zi72 HI0) hb);clear hb hbox hg;have hnb35 := NB136_120.out;have hnc35 := NB120_136.out;have hnb36 := NB136_0.out;have hnc36 := NB0_136.out;obtain ⟨hcz37_0,hcz37_1,hcz37_2,hcz37_3,hcz37_4,hfz37_0,hfz37_1,hfz37_2,hfz37_3,hfz37_4⟩ := zc5 BK136) | ((with_reducible refine gate_callee (f := 45) rfl ?_);refine zgl (some 25) Try.func45 #[.pointer (some ⟨g,0,none⟩),.int .i64 30] ?_;(with_reducible refine (spec_l00Src_next.calls g s0_0 t134 t135 30 t140 t141 t142 w0 _ ?side1 ?side2 A25.out).mono ?_);(case side1 => exact zi72 HI0);(case side2 => exact zl_ HB);rintro e w38 ⟨rfl,hi,hb,hk⟩;refine ⟨_,rfl,?_⟩;replace BK120 := am_ (KeepBut.blk hk (g' := gb120) (o := .cells #[.int .i64 0,.int .i64 0,.int .i64 0,.int .i64 0,.string ⟨#[]⟩] 33 (0,0)) (zq BK120) NB120_0.out (by simp));replace HO132 := am_ (Kd.R_mono (Kd.R_keep (IsS72.apart (show IsS72 w0 _ g s0_0 t134 t135 from (zi72 HI0)) (by (with_reducible repeat (first | apply r1_ | apply r2_ | apply r3_));exact (Kd.R_mono (zrf (Kd.R_types HO132.out BK136.out (by decide))) (fun _ h_ => h_.1))) (by decide)) hk (fun _ h => h.2)) (fun _ h => h.1));replace BK136 := am_ (KeepBut.blk hk (g' := gb136) (o := .cells #[.int .i64 t121,.int .i64 (wrap64 (1 + t124)),.int .i64 (wrap64 (1 + t127)),.int .i64 0,.string t133] 33 (0,0)) (zq BK136) NB136_0.out (by simp));replace HK := am_ (KeepBut.trans (zh_ HK) hk (.inl rfl));replace HB := am_ (hb);replace HI0 := am_ (hi);(try clear hb);(try clear hb2);(try clear hk);(try clear hi);obtain ⟨hcz39_0,hcz39_1,hcz39_2,hcz39_3,hcz39_4,hfz39_0,hfz39_1,hfz39_2,hfz39_3,hfz39_4⟩ := zc5 BK136;have hnb40 := NB120_0.out;have hnc40 := NB0_120.out;obtain ⟨hcz41_0,hcz41_1,hcz41_2,hcz41_3,hcz41_4,hfz41_0,hfz41_1,hfz41_2,hfz41_3,hfz41_4⟩ := zc5 BK120))
   refine bodyPost_ret (results_cell_row rfl _ _ gb120 33 #[.int .i64 t121,.int .i64 (wrap64 (1 + t124)),.int .i64 (wrap64 (1 + t127)),.int .i64 (wrap64 (1 + t140)),.string t133] (0,0) _ rfl (zq BK120) Try.underlying33 rfl (by kernel_rfl)) rfl ?_
   exact ⟨zt_,(zi72 HI0),zl_ HB,zh_ HK⟩
  ·rw [if_neg c24] at H
   have c24b0 : ((wrap64 (1 + t127)) == 3) = false := beq_eq_false_iff_ne.mpr c24
   have c24b1 : ((wrap64 (1 + t127)) != 3) = true := bne_iff_ne.mpr c24
   simp only [Option.some.injEq,Prod.mk.injEq] at H
   obtain ⟨rfl,rfl,rfl,rfl,rfl,rfl,rfl⟩ := H
   go_enter Try.func31,Try.ntmps31
   go_wp2_with (first | ((with_reducible refine gate_dst (N := 2) rfl ?_);refine zbx (N := 2) (cs := #[.int .i64 0,.int .i64 0,.int .i64 0,.int .i64 0,.string ⟨#[]⟩]) (t := 33) ?_;intro gb120 hg w42 hbox hb;replace HB := zs_ HB hb;have BK120 := am_ (hbox);have GW120 := am_ ((by rw [hg];exact (keep_size (w := w) (g := g) (row := none) (zh_ HK)) : w.heap.size ≤ gb120));have GE120 := am_ ((Nat.le_trans HW0.out (by rw [hg];exact (keep_size (w := w) (g := g) (row := none) (zh_ HK)) : w.heap.size ≤ gb120) : w0.heap.size ≤ gb120));replace HK := am_ (KeepBut.trans (zh_ HK) (KeepBut.of_below hb g none) (.inl rfl));have NB0_120 := am_ ((by rw [hg];exact Nat.ne_of_lt (IsS72.lt (show IsS72 w0 _ g s0_0 s0_1 s0_2 from (zi72 HI0))) : g ≠ gb120));have NB120_0 := am_ ((by rw [hg];exact Nat.ne_of_gt (IsS72.lt (show IsS72 w0 _ g s0_0 s0_1 s0_2 from (zi72 HI0))) : gb120 ≠ g));replace HI0 := am_ (IsS72.below (zi72 HI0) hb);clear hb hbox hg) | ((with_reducible refine gate_callee (f := 45) rfl ?_);refine zgl (some 5) Try.func45 #[.pointer (some ⟨g,0,none⟩),.int .i64 3] ?_;(with_reducible refine (spec_l00Src_next.calls g s0_0 s0_1 s0_2 3 t121 t122 t123 w0 _ ?side1 ?side2 A2.out).mono ?_);(case side1 => exact zi72 HI0);(case side2 => exact zl_ HB);rintro e w43 ⟨rfl,hi,hb,hk⟩;refine ⟨_,rfl,?_⟩;replace BK120 := zkb hk BK120 NB120_0;replace HK := am_ (KeepBut.trans (zh_ HK) hk (.inl rfl));replace HB := am_ (hb);replace HI0 := am_ (hi);(try clear hb);(try clear hb2);(try clear hk);(try clear hi)) | ((with_reducible refine gate_callee (f := 45) rfl ?_);refine zgl (some 7) Try.func45 #[.pointer (some ⟨g,0,none⟩),.int .i64 5] ?_;(with_reducible refine (spec_l00Src_next.calls g s0_0 t122 t123 5 t124 t125 t126 w0 _ ?side1 ?side2 A3.out).mono ?_);(case side1 => exact zi72 HI0);(case side2 => exact zl_ HB);rintro e w44 ⟨rfl,hi,hb,hk⟩;refine ⟨_,rfl,?_⟩;replace BK120 := zkb hk BK120 NB120_0;replace HK := am_ (KeepBut.trans (zh_ HK) hk (.inl rfl));replace HB := am_ (hb);replace HI0 := am_ (hi);(try clear hb);(try clear hb2);(try clear hk);(try clear hi)) | ((with_reducible refine gate_callee (f := 45) rfl ?_);refine zgl (some 10) Try.func45 #[.pointer (some ⟨g,0,none⟩),.int .i64 4] ?_;(with_reducible refine (spec_l00Src_next.calls g s0_0 t125 t126 4 t127 t128 t129 w0 _ ?side1 ?side2 A4.out).mono ?_);(case side1 => exact zi72 HI0);(case side2 => exact zl_ HB);rintro e w45 ⟨rfl,hi,hb,hk⟩;refine ⟨_,rfl,?_⟩;replace BK120 := zkb hk BK120 NB120_0;replace HK := am_ (KeepBut.trans (zh_ HK) hk (.inl rfl));replace HB := am_ (hb);replace HI0 := am_ (hi);(try clear hb);(try clear hb2);(try clear hk);(try clear hi)) | ((with_reducible refine gate_dst (N := 13) rfl ?_);refine Kd.R_lit Kd.string _ 9 ?hg (N := 13) ?hd (xs := ([(⟨#[97]⟩ : ByteArray),(⟨#[98]⟩ : ByteArray),(⟨#[108,111,99,107]⟩ : ByteArray)] : List ByteArray)) (inner := [.string ⟨#[97]⟩,.string ⟨#[98]⟩,.string ⟨#[108,111,99,107]⟩]) (ok := fun _ => True) (okp := fun _ => True) ?hr ?hp (fun _ hk => hk) trivial (Below.refl _ _) (Nat.le_refl _) (by simp) ?_;(case hd => rfl);(case hg => rfl);(case hr => first | (go_simp;done) | (go_simp;rfl));(case hp => exact (Reps.one (show Kd.M Kd.string _ _ _ (⟨#[97]⟩ : ByteArray) [.string ⟨#[97]⟩] from rfl) (Reps.one (show Kd.M Kd.string _ _ _ (⟨#[98]⟩ : ByteArray) [.string ⟨#[98]⟩] from rfl) (Reps.one (show Kd.M Kd.string _ _ _ (⟨#[108,111,99,107]⟩ : ByteArray) [.string ⟨#[108,111,99,107]⟩] from rfl) (Reps.none _ _)))));intro v131 w46 ho47 hb hg_ hnew_;clear hg_ hnew_;(first | rw [← Ny130.out] at ho47 | (simp only [Int.reduceToNat] at ho47;rw [← Ny130.out] at ho47));have HO132 := am_ (Kd.R_lower ho47 (keep_size (w := w) (g := g) (row := none) (zh_ HK)));replace HI0 := am_ (IsS72.below (zi72 HI0) hb);replace BK120 := zb BK120 hb;replace HK := am_ (KeepBut.trans (zh_ HK) (KeepBut.of_below hb g none) (.inl rfl));replace HB := zs_ HB hb;clear hb ho47;obtain ⟨Ao48,co48,eo48⟩ := Kd.R_slice HO132.out;subst eo48) | ((with_reducible refine gate_callee (f := 55) rfl ?_);refine zgl (some 14) Try.func55 #[.pointer (some ⟨g,0,none⟩),.slice Ao48 y130.length co48] ?_;(with_reducible refine (spec_l00Src_pick.calls g s0_0 t128 t129 _ _ y130 t133 t134 t135 w0 _ ?side1 ?side2 ?side3 ?side4 ?side5 A5.out).mono ?_);(case side1 => exact zi72 HI0);(case side2 => exact zl_ HB);(case side3 => repeat (first | exact (Kd.R_reads' HO132.out).2.2 | (with_reducible refine Kd.C_alloc ?_ _) | (with_reducible refine Kd.C_drewN ?_ _) | (with_reducible refine Kd.C_drew ?_)));(case side4 => exact (Kd.R_reads' HO132.out).2.1);(case side5 => exact far_slice (IsS72.own_ne HI0.out HO132.out (by decide)));rintro e w49 ⟨rfl,hi,hb,hk⟩;refine ⟨_,rfl,?_⟩;replace BK120 := zkb hk BK120 NB120_0;replace HK := am_ (KeepBut.trans (zh_ HK) hk (.inl rfl));replace HB := am_ (hb);replace HI0 := am_ (hi);(try clear hb);(try clear hb2);(try clear hk);(try clear hi)) | ((with_reducible refine gate_dst (N := 3) rfl ?_);refine zbx (N := 3) (cs := #[.int .i64 0,.int .i64 0,.int .i64 0,.int .i64 0,.string ⟨#[]⟩]) (t := 33) ?_;intro gb136 hg w50 hbox hb;replace HB := zs_ HB hb;have BK136 := am_ (hbox);have GW136 := am_ ((by rw [hg];exact (keep_size (w := w) (g := g) (row := none) (zh_ HK)) : w.heap.size ≤ gb136));have GE136 := am_ ((Nat.le_trans HW0.out (by rw [hg];exact (keep_size (w := w) (g := g) (row := none) (zh_ HK)) : w.heap.size ≤ gb136) : w0.heap.size ≤ gb136));replace HK := am_ (KeepBut.trans (zh_ HK) (KeepBut.of_below hb g none) (.inl rfl));have NB120_136 := zl hg BK120;have NB136_120 := zg hg BK120;replace BK120 := zb BK120 hb;have NB0_136 := am_ ((by rw [hg];exact Nat.ne_of_lt (IsS72.lt (show IsS72 w0 _ g s0_0 t134 t135 from (zi72 HI0))) : g ≠ gb136));have NB136_0 := am_ ((by rw [hg];exact Nat.ne_of_gt (IsS72.lt (show IsS72 w0 _ g s0_0 t134 t135 from (zi72 HI0))) : gb136 ≠ g));replace HI0 := am_ (IsS72.below (zi72 HI0) hb);clear hb hbox hg;have hnb51 := NB136_120.out;have hnc51 := NB120_136.out;have hnb52 := NB136_0.out;have hnc52 := NB0_136.out;obtain ⟨hcz53_0,hcz53_1,hcz53_2,hcz53_3,hcz53_4,hfz53_0,hfz53_1,hfz53_2,hfz53_3,hfz53_4⟩ := zc5 BK136;have hnb54 := NB120_0.out;have hnc54 := NB0_120.out;obtain ⟨hcz55_0,hcz55_1,hcz55_2,hcz55_3,hcz55_4,hfz55_0,hfz55_1,hfz55_2,hfz55_3,hfz55_4⟩ := zc5 BK120))
   refine bodyPost_ret (results_cell_row rfl _ _ gb120 33 #[.int .i64 t121,.int .i64 (wrap64 (1 + t124)),.int .i64 (wrap64 (1 + t127)),.int .i64 0,.string t133] (0,0) _ rfl (zq BK120) Try.underlying33 rfl (by kernel_rfl)) rfl ?_
   exact ⟨zt_,(zi72 HI0),zl_ HB,zh_ HK⟩
end Go.Proofs.Ytdpdbegglkdgnaa.A
end
