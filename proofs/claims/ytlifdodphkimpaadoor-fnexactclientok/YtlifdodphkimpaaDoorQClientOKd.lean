/- A part of the proof that FnExactClientOK returns true at every input: plain functions, contracts and lemmas. No conditions. -/
import Derived.Test.YtlifdodphkimpaaDoorQClientOKc
set_option linter.unusedVariables false
set_option linter.unusedSimpArgs false
set_option linter.unusedSectionVars false
section
namespace Go.Proofs.YtlifdodphkimpaaDoor.B
open Go.RowKit Go.Proofs.YtlifdodphkimpaaDoorW.PrintWords Go.Proofs.YtlifdodphkimpaaDoorW.PrintLast Go.Proofs.YtlifdodphkimpaaDoorW.PrintMore
attribute [local go_sem] max2_int min2_int max_two min_two max_three min_three max_four min_four
set_option maxHeartbeats 8000000 in
set_option maxRecDepth 100000 in
theorem impl_NameOK.calls (k : Nat) (a0 : ByteArray) (r : Bool) (w : World) (h : impl_NameOK.f k a0 = some r) :
  Calls Tryd.prog 156 #[.string a0] w fun e w' => e = .returned (.bool r) ∧ Drawn0 w w' := by
 have H : (if (a0.size : Int) < 1 then (impl_NameOK.j0 k a0 true) else (if (a0.size : Int) > 40 then (impl_NameOK.j0 k a0 true) else (if 0 < (a0.size : Int) then ((impl_isLetter.f (bt a0 0)).bind fun t395 => (impl_NameOK.j0 k a0 (!t395))) else (none)))) = some r := h
 clear h
 have HC2 := am_ H
 clear H
 go_enter Tryd.func156,Tryd.ntmps156
 go_upto_region 1 with (fail)
 go_cut [17] (fun v17 wc => ∃ (kq : Nat) (x17_1 : Bool),v17 = .bool x17_1 ∧ Aside0 (impl_NameOK.j0 kq a0 x17_1 = some r) ∧ Aside0 (kq ≤ k) ∧ Drawn0 w wc)
 case first =>
  have H := HC2.out
  clear HC2
  by_cases c3 : (a0.size : Int) < 1
  ·rw [if_pos c3] at H
   have c3b0 : decide ((a0.size : Int) < 1) = true := decide_eq_true c3
   have c3b1 : decide (a0.size < 1) = true := decide_eq_true (by omega)
   clear c3
   (first | rw [c3b0] | (simp only [i64_w,i32_w];rw [c3b0]) | skip)
   have H' := am_ H
   clear H
   go_wp2
   go_meet
   case rel => exact ⟨_,(true),(by first | rfl | (simp;done) | (simp [*];done)),H',⟨by first | omega | exact Nat.le_refl _⟩,by repeat (first | exact Drawn0.refl _ | apply Drawn0.step)⟩
  ·rw [if_neg c3] at H
   have c3b0 : decide ((a0.size : Int) < 1) = false := decide_eq_false c3
   have c3b1 : decide (a0.size < 1) = false := decide_eq_false (by omega)
   clear c3
   (first | rw [c3b0] | (simp only [i64_w,i32_w];rw [c3b0]) | skip)
   by_cases c4 : (a0.size : Int) > 40
   ·rw [if_pos c4] at H
    have c4b0 : decide (40 < (a0.size : Int)) = true := decide_eq_true c4
    have c4b1 : decide (40 < a0.size) = true := decide_eq_true (by omega)
    clear c4
    have H' := am_ H
    clear H
    go_wp2
    go_meet
    case rel => exact ⟨_,(true),(by first | rfl | (simp;done) | (simp [*];done)),H',⟨by first | omega | exact Nat.le_refl _⟩,by repeat (first | exact Drawn0.refl _ | apply Drawn0.step)⟩
   ·rw [if_neg c4] at H
    have c4b0 : decide (40 < (a0.size : Int)) = false := decide_eq_false c4
    have c4b1 : decide (40 < a0.size) = false := decide_eq_false (by omega)
    clear c4
    by_cases c5 : 0 < (a0.size : Int)
    ·rw [if_pos c5] at H
     have c5b0 : decide (0 < (a0.size : Int)) = true := decide_eq_true c5
     have c5b1 : decide (0 < a0.size) = true := decide_eq_true (by omega)
     clear c5
     replace H := Option.bind_eq_some_iff.mp H
     obtain ⟨t395,A70,H⟩ := H
     try dsimp only at H
     have A7 := am_ A70
     clear A70
     have H' := am_ H
     clear H
     have p6 : 0 ≤ (0 : Int) := (by omega)
     have q6 : 0 < a0.size := (by have : (0 : Int) < (a0.size : Int) := zo_;omega)
     have hx6 : ∀ h : 0 < a0.size,((a0[0]'h).toNat : Int) = bt a0 0 := bt_at a0 0
     clear p6
     have qi6 : (0 < (a0.size : Int)) = True := eq_true (zo_)
     replace q6 := eq_true q6
     go_wp2_with (first | (go_at_call 180;(with_reducible refine (impl_isLetter.calls (bt a0 0) t395 _ A7.out).mono ?_);rintro e w' ⟨rfl,⟨nd,rfl⟩⟩))
     go_meet
     case rel => exact ⟨_,(!t395),(by first | rfl | (simp;done) | (simp [*];done)),H',⟨by first | omega | exact Nat.le_refl _⟩,by repeat (first | exact Drawn0.refl _ | apply Drawn0.step)⟩
    ·rw [if_neg c5] at H
     exact absurd H (by simp)
 case rest =>
  clear HC2
  try clear c1
  try clear p2
  try clear c3
  try clear c3b0
  try clear c3b1
  try clear c4
  try clear c4b0
  try clear c4b1
  try clear c5
  try clear c5b0
  try clear c5b1
  try clear p6
  try clear q6
  try clear hx6
  try clear qi6
  try clear p6
  try clear q6
  obtain ⟨kq,x17_1,rfl,HA,HJ1,⟨mc1,rfl⟩⟩ := hcut
  cases kq with
  | zero => exact absurd HA.out (by simp [impl_NameOK.j0])
  | succ kj1 =>
   have H := HA.out
   clear HA
   simp only [impl_NameOK.j0] at H
   by_cases c8 : x17_1 = true
   ·subst c8
    have H1 : (some false) = some r := by rw [if_pos rfl] at H;exact H
    clear H
    have H := H1
    clear H1
    obtain rfl := Option.some.inj H
    go_wp2
    go_ret
    exact ⟨by first | rfl | (simp;done) | (simp [*];done),by repeat (first | exact Drawn0.refl _ | apply Drawn0.step)⟩
   ·replace c8 := Bool.eq_false_iff.mpr c8
    subst c8
    have H1 : (impl_NameOK.l0 kj1 a0 (a0.size : Int) 0) = some r := by rw [if_neg (show ¬ (false = true) by decide)] at H;exact H
    clear H
    have H := H1
    clear H1
    have H' := am_ H
    clear H
    go_wp2
    go_loopg [20] kj1 (fun kq v20 w' => ∃ (x20_2 : Int),v20 = .int .i64 x20_2 ∧ Aside0 (impl_NameOK.l0 kq a0 (a0.size : Int) x20_2 = some r) ∧ Aside0 (kq ≤ kj1) ∧ Drawn0 w w')
    case atStart => exact ⟨(0),(by first | rfl | (simp;done) | (simp [*];done)),H',⟨Nat.le_refl _⟩,by repeat (first | exact Drawn0.refl _ | apply Drawn0.step)⟩
    case round =>
     clear H'
     try clear c1
     try clear p2
     try clear c3
     try clear c3b0
     try clear c3b1
     try clear c4
     try clear c4b0
     try clear c4b1
     try clear c5
     try clear c5b0
     try clear c5b1
     try clear p6
     try clear q6
     try clear hx6
     try clear qi6
     try clear c8
     try clear p2
     try clear p6
     try clear q6
     obtain ⟨x20_2,rfl,HA,HK2,⟨m2,rfl⟩⟩ := hrel
     cases gk with
     | zero => exact absurd HA.out (by simp [impl_NameOK.l0])
     | succ k2 =>
      have H := HA.out
      clear HA
      simp only [impl_NameOK.l0] at H
      by_cases c9 : x20_2 < (a0.size : Int)
      ·rw [if_pos c9] at H
       have c9b0 : decide (x20_2 < (a0.size : Int)) = true := decide_eq_true c9
       clear c9
       by_cases c10 : 0 ≤ x20_2
       ·rw [if_pos c10] at H
        have c10b0 : decide (0 ≤ x20_2) = true := decide_eq_true c10
        clear c10
        by_cases c11 : x20_2 < (a0.size : Int)
        ·rw [if_pos c11] at H
         have c11b0 : decide (x20_2 < (a0.size : Int)) = true := decide_eq_true c11
         clear c11
         replace H := Option.bind_eq_some_iff.mp H
         obtain ⟨t396,A130,H⟩ := H
         try dsimp only at H
         have A13 := am_ A130
         clear A130
         by_cases c14 : t396 = true
         ·subst c14
          have H1 : (impl_NameOK.l0 k2 a0 (a0.size : Int) (wrap64 (x20_2 + 1))) = some r := by rw [if_pos rfl] at H;exact H
          clear H
          have H := H1
          clear H1
          have H' := am_ H
          clear H
          have p12 : 0 ≤ (x20_2 : Int) := zo_
          have q12 : x20_2 < (a0.size : Int) := zo_
          have hx12 := bt_at a0 x20_2
          replace p12 := eq_true p12
          replace q12 := eq_true q12
          go_wp2_with (first | ((with_reducible refine gate_callee (f := 180) rfl ?_);refine zgl (some 26) Tryd.func180 #[.int .u8 (bt a0 x20_2)] ?_;(with_reducible refine (impl_isLetter.calls (bt a0 x20_2) true _ A13.out).mono ?_);rintro e w' ⟨rfl,⟨nd,rfl⟩⟩;refine ⟨_,rfl,?_⟩))
          go_roundg k2
          case measure => have := HJ1.out;have := HK2.out;omega
          case rel => exact ⟨(wrap64 (x20_2 + 1)),(by first | rfl | (simp;done) | (simp [*];done)),H',⟨by have := HJ1.out;have := HK2.out;omega⟩,by repeat (first | exact Drawn0.refl _ | apply Drawn0.step)⟩
         ·replace c14 := Bool.eq_false_iff.mpr c14
          subst c14
          have H1 : (if (bt a0 x20_2) < 48 then (some false) else (if (bt a0 x20_2) > 57 then (some false) else (impl_NameOK.l0 k2 a0 (a0.size : Int) (wrap64 (x20_2 + 1))))) = some r := by rw [if_neg (show ¬ (false = true) by decide)] at H;exact H
          clear H
          have H := H1
          clear H1
          by_cases c16 : (bt a0 x20_2) < 48
          ·rw [if_pos c16] at H
           have c16b0 : decide ((bt a0 x20_2) < 48) = true := decide_eq_true c16
           clear c16
           obtain rfl := Option.some.inj H
           have p12 : 0 ≤ (x20_2 : Int) := zo_
           have q12 : x20_2 < (a0.size : Int) := zo_
           have hx12 := bt_at a0 x20_2
           replace p12 := eq_true p12
           replace q12 := eq_true q12
           go_wp2_with (first | ((with_reducible refine gate_callee (f := 180) rfl ?_);refine zgl (some 26) Tryd.func180 #[.int .u8 (bt a0 x20_2)] ?_;(with_reducible refine (impl_isLetter.calls (bt a0 x20_2) false _ A13.out).mono ?_);rintro e w' ⟨rfl,⟨nd,rfl⟩⟩;refine ⟨_,rfl,?_⟩;have p15 : 0 ≤ (x20_2 : Int) := zo_;have q15 : x20_2 < (a0.size : Int) := zo_;have hx15 := bt_at a0 x20_2;replace p15 := eq_true p15;replace q15 := eq_true q15))
           go_ret
           exact ⟨by first | rfl | (simp;done) | (simp [*];done),by repeat (first | exact Drawn0.refl _ | apply Drawn0.step)⟩
          ·rw [if_neg c16] at H
           have c16b0 : decide ((bt a0 x20_2) < 48) = false := decide_eq_false c16
           clear c16
           by_cases c18 : (bt a0 x20_2) > 57
           ·rw [if_pos c18] at H
            have c18b0 : decide (57 < (bt a0 x20_2)) = true := decide_eq_true c18
            clear c18
            obtain rfl := Option.some.inj H
            have p12 : 0 ≤ (x20_2 : Int) := zo_
            have q12 : x20_2 < (a0.size : Int) := zo_
            have hx12 := bt_at a0 x20_2
            replace p12 := eq_true p12
            replace q12 := eq_true q12
            go_wp2_with (first | ((with_reducible refine gate_callee (f := 180) rfl ?_);refine zgl (some 26) Tryd.func180 #[.int .u8 (bt a0 x20_2)] ?_;(with_reducible refine (impl_isLetter.calls (bt a0 x20_2) false _ A13.out).mono ?_);rintro e w' ⟨rfl,⟨nd,rfl⟩⟩;refine ⟨_,rfl,?_⟩;have p15 : 0 ≤ (x20_2 : Int) := zo_;have q15 : x20_2 < (a0.size : Int) := zo_;have hx15 := bt_at a0 x20_2;replace p15 := eq_true p15;replace q15 := eq_true q15;have p17 : 0 ≤ (x20_2 : Int) := zo_;have q17 : x20_2 < (a0.size : Int) := zo_;have hx17 := bt_at a0 x20_2;replace p17 := eq_true p17;replace q17 := eq_true q17))
            go_ret
            exact ⟨by first | rfl | (simp;done) | (simp [*];done),by repeat (first | exact Drawn0.refl _ | apply Drawn0.step)⟩
           ·rw [if_neg c18] at H
            have c18b0 : decide (57 < (bt a0 x20_2)) = false := decide_eq_false c18
            clear c18
            have H' := am_ H
            clear H
            have p12 : 0 ≤ (x20_2 : Int) := zo_
            have q12 : x20_2 < (a0.size : Int) := zo_
            have hx12 := bt_at a0 x20_2
            replace p12 := eq_true p12
            replace q12 := eq_true q12
            go_wp2_with (first | ((with_reducible refine gate_callee (f := 180) rfl ?_);refine zgl (some 26) Tryd.func180 #[.int .u8 (bt a0 x20_2)] ?_;(with_reducible refine (impl_isLetter.calls (bt a0 x20_2) false _ A13.out).mono ?_);rintro e w' ⟨rfl,⟨nd,rfl⟩⟩;refine ⟨_,rfl,?_⟩;have p15 : 0 ≤ (x20_2 : Int) := zo_;have q15 : x20_2 < (a0.size : Int) := zo_;have hx15 := bt_at a0 x20_2;replace p15 := eq_true p15;replace q15 := eq_true q15;have p17 : 0 ≤ (x20_2 : Int) := zo_;have q17 : x20_2 < (a0.size : Int) := zo_;have hx17 := bt_at a0 x20_2;replace p17 := eq_true p17;replace q17 := eq_true q17))
            go_roundg k2
            case measure => have := HJ1.out;have := HK2.out;omega
            case rel => exact ⟨(wrap64 (x20_2 + 1)),(by first | rfl | (simp;done) | (simp [*];done)),H',⟨by have := HJ1.out;have := HK2.out;omega⟩,by repeat (first | exact Drawn0.refl _ | apply Drawn0.step)⟩
        ·rw [if_neg c11] at H
         exact absurd H (by simp)
       ·rw [if_neg c10] at H
        exact absurd H (by simp)
      ·rw [if_neg c9] at H
       have c9b0 : decide (x20_2 < (a0.size : Int)) = false := decide_eq_false c9
       clear c9
       obtain rfl := Option.some.inj H
       go_wp2
       go_ret
       exact ⟨by first | rfl | (simp;done) | (simp [*];done),by repeat (first | exact Drawn0.refl _ | apply Drawn0.step)⟩
set_option maxHeartbeats 8000000 in
set_option maxRecDepth 100000 in
theorem impl_isOpName.calls (k : Nat) (a0 : ByteArray) (r : Bool) (w : World) (h : impl_isOpName.f k a0 = some r) :
  Calls Tryd.prog 119 #[.string a0] w fun e w' => e = .returned (.bool r) ∧ Drawn0 w w' := by
 have H : (if (a0.size : Int) ≤ 12 then ((impl_NameOK.f k a0).bind fun t397 => (some t397)) else (some false)) = some r := h
 clear h
 by_cases c2 : (a0.size : Int) ≤ 12
 ·rw [if_pos c2] at H
  have c2b0 : decide ((a0.size : Int) ≤ 12) = true := decide_eq_true c2
  have c2b1 : decide (a0.size ≤ 12) = true := decide_eq_true (by omega)
  clear c2
  replace H := Option.bind_eq_some_iff.mp H
  obtain ⟨t397,A30,H⟩ := H
  try dsimp only at H
  have A3 := am_ A30
  clear A30
  obtain rfl := Option.some.inj H
  go_enter Tryd.func119,Tryd.ntmps119
  go_wp2_with (first | (go_at_call 156;(with_reducible refine (impl_NameOK.calls k a0 t397 _ A3.out).mono ?_);rintro e w' ⟨rfl,⟨nd,rfl⟩⟩))
  go_ret
  exact ⟨by first | rfl | (simp;done) | (simp [*];done),by repeat (first | exact Drawn0.refl _ | apply Drawn0.step)⟩
 ·rw [if_neg c2] at H
  have c2b0 : decide ((a0.size : Int) ≤ 12) = false := decide_eq_false c2
  have c2b1 : decide (a0.size ≤ 12) = false := decide_eq_false (by omega)
  clear c2
  obtain rfl := Option.some.inj H
  go_enter Tryd.func119,Tryd.ntmps119
  go_wp2
  go_ret
  exact ⟨by first | rfl | (simp;done) | (simp [*];done),by repeat (first | exact Drawn0.refl _ | apply Drawn0.step)⟩
set_option maxHeartbeats 8000000 in
set_option maxRecDepth 100000 in
theorem impl_RequestOK.calls (k : Nat) (a0_0 : Int) (a0_1 : Int) (a0_2 : Int) (a0_3 : Int) (a0_4 : ByteArray) (r : Bool) (w : World) (h : impl_RequestOK.f k a0_0 a0_1 a0_2 a0_3 a0_4 = some r) :
  Calls Tryd.prog 145 #[.agg #[.int .i64 a0_0,.int .i64 a0_1,.int .i64 a0_2,.int .i64 a0_3,.string a0_4]] w fun e w' => e = .returned (.bool r) ∧ Below w.heap.size w w' := by
 have hu85 := Tryd.underlying85
 have HB := am_ (Below.refl w.heap.size w)
 have H : (if a0_2 = 1 then (impl_RequestOK.j0 k 0 0 true a0_0 a0_1 a0_2 a0_3 a0_4) else (impl_RequestOK.j0 k 0 0 (a0_2 == 3) a0_0 a0_1 a0_2 a0_3 a0_4)) = some r := h
 clear h
 have HC2 := am_ H
 clear H
 go_enter Tryd.func145,Tryd.ntmps145
 go_upto_region 2 with (first | ((with_reducible refine gate_dst (N := 1) rfl ?_);refine zbx (N := 1) (cs := #[.int .i64 a0_0,.int .i64 a0_1,.int .i64 a0_2,.int .i64 a0_3,.string a0_4]) (t := 85) ?_;intro gb1224 hg w3 hbox hb;have BK1224 := am_ (hbox);have GW1224 := zw_ HB hg;have GE1224 := zw_ HB hg;replace HB := zs_ HB hb;clear hb hbox hg))
 (try simp only [Act.put,p1_,p2_,p3_])
 go_cut [12] (fun v12 wc => ∃ (kq : Nat) (x12_1 : Bool),v12 = .bool x12_1 ∧ Aside0 (impl_RequestOK.j0 kq 0 0 x12_1 a0_0 a0_1 a0_2 a0_3 a0_4 = some r) ∧ Aside0 (kq ≤ k) ∧ Aside0 (wc.heap[gb1224]? = some (.cells #[.int .i64 a0_0,.int .i64 a0_1,.int .i64 a0_2,.int .i64 a0_3,.string a0_4] 85 (0,0))) ∧ Aside0 (Below w.heap.size w wc))
 case first =>
  have H := HC2.out
  clear HC2
  by_cases c4 : a0_2 = 1
  ·rw [if_pos c4] at H
   have c4b0 : (a0_2 == 1) = true := beq_iff_eq.mpr c4
   have c4b1 : (a0_2 != 1) = false := bne_eq_false_iff_eq.mpr c4
   clear c4
   (first | rw [c4b0] | (simp only [i64_w,i32_w];rw [c4b0]) | skip)
   have H' := am_ H
   clear H
   obtain ⟨hcz5_0,hcz5_1,hcz5_2,hcz5_3,hcz5_4,hfz5_0,hfz5_1,hfz5_2,hfz5_3,hfz5_4⟩ := zc5 BK1224
   go_wp2
   go_meet
   case rel => exact ⟨_,(true),(by first | rfl | (simp;done) | (simp [*];done)),H',⟨by first | omega | exact Nat.le_refl _⟩,⟨by (with_reducible repeat (first | apply k1_ | apply k2_ | apply k3_));exact BK1224.out⟩,⟨zl_ HB⟩⟩
  ·rw [if_neg c4] at H
   have c4b0 : (a0_2 == 1) = false := beq_eq_false_iff_ne.mpr c4
   have c4b1 : (a0_2 != 1) = true := bne_iff_ne.mpr c4
   (first | rw [c4b0] | (simp only [i64_w,i32_w];rw [c4b0]) | skip)
   have H' := am_ H
   clear H
   obtain ⟨hcz6_0,hcz6_1,hcz6_2,hcz6_3,hcz6_4,hfz6_0,hfz6_1,hfz6_2,hfz6_3,hfz6_4⟩ := zc5 BK1224
   go_wp2
   go_meet
   case rel => exact ⟨_,((a0_2 == 3)),(by first | rfl | (simp;done) | (simp [*];done)),H',⟨by first | omega | exact Nat.le_refl _⟩,⟨by (with_reducible repeat (first | apply k1_ | apply k2_ | apply k3_));exact BK1224.out⟩,⟨zl_ HB⟩⟩
 case rest =>
  clear HC2
  try clear c1
  try clear p2
  try clear c4
  try clear c4b0
  try clear c4b1
  try clear hcz5_0
  try clear hcz5_1
  try clear hcz5_2
  try clear hcz5_3
  try clear hcz5_4
  try clear hcz6_0
  try clear hcz6_1
  try clear hcz6_2
  try clear hcz6_3
  try clear hcz6_4
  try clear hfz5_0
  try clear hfz5_1
  try clear hfz5_2
  try clear hfz5_3
  try clear hfz5_4
  try clear hfz6_0
  try clear hfz6_1
  try clear hfz6_2
  try clear hfz6_3
  try clear hfz6_4
  obtain ⟨kq,x12_1,rfl,HA,HJ1,BK1224,HB⟩ := hcut
  cases kq with
  | zero => exact absurd HA.out (by simp [impl_RequestOK.j0])
  | succ kj1 =>
   have H := HA.out
   clear HA
   simp only [impl_RequestOK.j0] at H
   have HC7 := am_ H
   clear H
   go_upto_if 12 with (fail)
   go_cut [3,4] (fun v3 v4 wc => ∃ (kq : Nat) (x3_6 : Int) (x4_6 : Int),v3 = .int .i64 x3_6 ∧ v4 = .int .i64 x4_6 ∧ Aside0 (impl_RequestOK.j1 kq x3_6 x4_6 a0_0 a0_1 a0_2 a0_3 a0_4 = some r) ∧ Aside0 (kq ≤ kj1) ∧ Aside0 (wc.heap[gb1224]? = some (.cells #[.int .i64 a0_0,.int .i64 a0_1,.int .i64 a0_2,.int .i64 a0_3,.string a0_4] 85 (0,0))) ∧ Aside0 (Below w.heap.size w wc))
   case first =>
    have H := HC7.out
    clear HC7
    by_cases c8 : x12_1 = true
    ·subst c8
     have H1 : (impl_RequestOK.j1 kj1 1 1000 a0_0 a0_1 a0_2 a0_3 a0_4) = some r := by rw [if_pos rfl] at H;exact H
     clear H
     have H := H1
     clear H1
     have H' := am_ H
     clear H
     go_wp2
     go_meet
     case rel => exact ⟨_,(1),(1000),(by first | rfl | (simp;done) | (simp [*];done)),(by first | rfl | (simp;done) | (simp [*];done)),H',⟨by have := HJ1.out;first | omega | exact Nat.le_refl _⟩,⟨by (with_reducible repeat (first | apply k1_ | apply k2_ | apply k3_));exact BK1224.out⟩,⟨zl_ HB⟩⟩
    ·replace c8 := Bool.eq_false_iff.mpr c8
     subst c8
     have H1 : (impl_RequestOK.j1 kj1 0 0 a0_0 a0_1 a0_2 a0_3 a0_4) = some r := by rw [if_neg (show ¬ (false = true) by decide)] at H;exact H
     clear H
     have H := H1
     clear H1
     have H' := am_ H
     clear H
     go_wp2
     go_meet
     case rel => exact ⟨_,(0),(0),(by first | rfl | (simp;done) | (simp [*];done)),(by first | rfl | (simp;done) | (simp [*];done)),H',⟨by have := HJ1.out;first | omega | exact Nat.le_refl _⟩,⟨by (with_reducible repeat (first | apply k1_ | apply k2_ | apply k3_));exact BK1224.out⟩,⟨zl_ HB⟩⟩
   case rest =>
    clear HC7
    try clear c1
    try clear p2
    try clear c4
    try clear c4b0
    try clear c4b1
    try clear c8
    try clear hcz5_0
    try clear hcz5_1
    try clear hcz5_2
    try clear hcz5_3
    try clear hcz5_4
    try clear hcz6_0
    try clear hcz6_1
    try clear hcz6_2
    try clear hcz6_3
    try clear hcz6_4
    try clear hfz5_0
    try clear hfz5_1
    try clear hfz5_2
    try clear hfz5_3
    try clear hfz5_4
    try clear hfz6_0
    try clear hfz6_1
    try clear hfz6_2
    try clear hfz6_3
    try clear hfz6_4
    try clear p2
    obtain ⟨kq,x3_6,x4_6,rfl,rfl,HA,HJ6,BK1224,HB⟩ := hcut
    cases kq with
    | zero => exact absurd HA.out (by simp [impl_RequestOK.j1])
    | succ kj6 =>
     have H := HA.out
     clear HA
     simp only [impl_RequestOK.j1] at H
     replace H := Option.bind_eq_some_iff.mp H
     obtain ⟨t1225,A90,H⟩ := H
     try dsimp only at H
     have A9 := am_ A90
     clear A90
     by_cases c10 : t1225 = true
     ·subst c10
      have H1 : ((impl_within.f a0_1 1 65535).bind fun t1226 => (if t1226 = true then ((impl_within.f a0_2 1 4).bind fun t1227 => (if t1227 = true then ((impl_within.f a0_3 x3_6 x4_6).bind fun t1228 => (if t1228 = true then ((impl_isOpName.f kj6 a0_4).bind fun t1229 => (some t1229)) else (some false))) else (some false))) else (some false))) = some r := by rw [if_pos rfl] at H;exact H
      clear H
      have H := H1
      clear H1
      replace H := Option.bind_eq_some_iff.mp H
      obtain ⟨t1226,A110,H⟩ := H
      try dsimp only at H
      have A11 := am_ A110
      clear A110
      by_cases c12 : t1226 = true
      ·subst c12
       have H1 : ((impl_within.f a0_2 1 4).bind fun t1227 => (if t1227 = true then ((impl_within.f a0_3 x3_6 x4_6).bind fun t1228 => (if t1228 = true then ((impl_isOpName.f kj6 a0_4).bind fun t1229 => (some t1229)) else (some false))) else (some false))) = some r := by rw [if_pos rfl] at H;exact H
       clear H
       have H := H1
       clear H1
       replace H := Option.bind_eq_some_iff.mp H
       obtain ⟨t1227,A130,H⟩ := H
       try dsimp only at H
       have A13 := am_ A130
       clear A130
       by_cases c14 : t1227 = true
       ·subst c14
        have H1 : ((impl_within.f a0_3 x3_6 x4_6).bind fun t1228 => (if t1228 = true then ((impl_isOpName.f kj6 a0_4).bind fun t1229 => (some t1229)) else (some false))) = some r := by rw [if_pos rfl] at H;exact H
        clear H
        have H := H1
        clear H1
        replace H := Option.bind_eq_some_iff.mp H
        obtain ⟨t1228,A150,H⟩ := H
        try dsimp only at H
        have A15 := am_ A150
        clear A150
        by_cases c16 : t1228 = true
        ·subst c16
         have H1 : ((impl_isOpName.f kj6 a0_4).bind fun t1229 => (some t1229)) = some r := by rw [if_pos rfl] at H;exact H
         clear H
         have H := H1
         clear H1
         replace H := Option.bind_eq_some_iff.mp H
         obtain ⟨t1229,A170,H⟩ := H
         try dsimp only at H
         have A17 := am_ A170
         clear A170
         obtain rfl := Option.some.inj H
         obtain ⟨hcz18_0,hcz18_1,hcz18_2,hcz18_3,hcz18_4,hfz18_0,hfz18_1,hfz18_2,hfz18_3,hfz18_4⟩ := zc5 BK1224
         go_wp2_with (first | ((with_reducible refine gate_callee (f := 80) rfl ?_);refine zgl (some 15) Tryd.func80 #[.int .i64 a0_0,.int .i64 0,.int .i64 255] ?_;(with_reducible refine (impl_within.calls a0_0 0 255 true _ A9.out).mono ?_);rintro e w' ⟨rfl,⟨nd,rfl⟩⟩;refine ⟨_,rfl,?_⟩) | (go_at_call 80;(with_reducible refine (impl_within.calls a0_1 1 65535 true _ A11.out).mono ?_);rintro e w' ⟨rfl,⟨nd,rfl⟩⟩) | (go_at_call 80;(with_reducible refine (impl_within.calls a0_2 1 4 true _ A13.out).mono ?_);rintro e w' ⟨rfl,⟨nd,rfl⟩⟩) | (go_at_call 80;(with_reducible refine (impl_within.calls a0_3 x3_6 x4_6 true _ A15.out).mono ?_);rintro e w' ⟨rfl,⟨nd,rfl⟩⟩) | (go_at_call 119;(with_reducible refine (impl_isOpName.calls kj6 a0_4 t1229 _ A17.out).mono ?_);rintro e w' ⟨rfl,⟨nd,rfl⟩⟩))
         go_ret
         exact ⟨zt_,zl_ HB⟩
        ·replace c16 := Bool.eq_false_iff.mpr c16
         subst c16
         have H1 : (some false) = some r := by rw [if_neg (show ¬ (false = true) by decide)] at H;exact H
         clear H
         have H := H1
         clear H1
         obtain rfl := Option.some.inj H
         obtain ⟨hcz19_0,hcz19_1,hcz19_2,hcz19_3,hcz19_4,hfz19_0,hfz19_1,hfz19_2,hfz19_3,hfz19_4⟩ := zc5 BK1224
         go_wp2_with (first | ((with_reducible refine gate_callee (f := 80) rfl ?_);refine zgl (some 15) Tryd.func80 #[.int .i64 a0_0,.int .i64 0,.int .i64 255] ?_;(with_reducible refine (impl_within.calls a0_0 0 255 true _ A9.out).mono ?_);rintro e w' ⟨rfl,⟨nd,rfl⟩⟩;refine ⟨_,rfl,?_⟩) | (go_at_call 80;(with_reducible refine (impl_within.calls a0_1 1 65535 true _ A11.out).mono ?_);rintro e w' ⟨rfl,⟨nd,rfl⟩⟩) | (go_at_call 80;(with_reducible refine (impl_within.calls a0_2 1 4 true _ A13.out).mono ?_);rintro e w' ⟨rfl,⟨nd,rfl⟩⟩) | (go_at_call 80;(with_reducible refine (impl_within.calls a0_3 x3_6 x4_6 false _ A15.out).mono ?_);rintro e w' ⟨rfl,⟨nd,rfl⟩⟩))
         go_ret
         exact ⟨zt_,zl_ HB⟩
       ·replace c14 := Bool.eq_false_iff.mpr c14
        subst c14
        have H1 : (some false) = some r := by rw [if_neg (show ¬ (false = true) by decide)] at H;exact H
        clear H
        have H := H1
        clear H1
        obtain rfl := Option.some.inj H
        obtain ⟨hcz20_0,hcz20_1,hcz20_2,hcz20_3,hcz20_4,hfz20_0,hfz20_1,hfz20_2,hfz20_3,hfz20_4⟩ := zc5 BK1224
        go_wp2_with (first | ((with_reducible refine gate_callee (f := 80) rfl ?_);refine zgl (some 15) Tryd.func80 #[.int .i64 a0_0,.int .i64 0,.int .i64 255] ?_;(with_reducible refine (impl_within.calls a0_0 0 255 true _ A9.out).mono ?_);rintro e w' ⟨rfl,⟨nd,rfl⟩⟩;refine ⟨_,rfl,?_⟩) | (go_at_call 80;(with_reducible refine (impl_within.calls a0_1 1 65535 true _ A11.out).mono ?_);rintro e w' ⟨rfl,⟨nd,rfl⟩⟩) | (go_at_call 80;(with_reducible refine (impl_within.calls a0_2 1 4 false _ A13.out).mono ?_);rintro e w' ⟨rfl,⟨nd,rfl⟩⟩))
        go_ret
        exact ⟨zt_,zl_ HB⟩
      ·replace c12 := Bool.eq_false_iff.mpr c12
       subst c12
       have H1 : (some false) = some r := by rw [if_neg (show ¬ (false = true) by decide)] at H;exact H
       clear H
       have H := H1
       clear H1
       obtain rfl := Option.some.inj H
       obtain ⟨hcz21_0,hcz21_1,hcz21_2,hcz21_3,hcz21_4,hfz21_0,hfz21_1,hfz21_2,hfz21_3,hfz21_4⟩ := zc5 BK1224
       go_wp2_with (first | ((with_reducible refine gate_callee (f := 80) rfl ?_);refine zgl (some 15) Tryd.func80 #[.int .i64 a0_0,.int .i64 0,.int .i64 255] ?_;(with_reducible refine (impl_within.calls a0_0 0 255 true _ A9.out).mono ?_);rintro e w' ⟨rfl,⟨nd,rfl⟩⟩;refine ⟨_,rfl,?_⟩) | (go_at_call 80;(with_reducible refine (impl_within.calls a0_1 1 65535 false _ A11.out).mono ?_);rintro e w' ⟨rfl,⟨nd,rfl⟩⟩))
       go_ret
       exact ⟨zt_,zl_ HB⟩
     ·replace c10 := Bool.eq_false_iff.mpr c10
      subst c10
      have H1 : (some false) = some r := by rw [if_neg (show ¬ (false = true) by decide)] at H;exact H
      clear H
      have H := H1
      clear H1
      obtain rfl := Option.some.inj H
      obtain ⟨hcz22_0,hcz22_1,hcz22_2,hcz22_3,hcz22_4,hfz22_0,hfz22_1,hfz22_2,hfz22_3,hfz22_4⟩ := zc5 BK1224
      go_wp2_with (first | ((with_reducible refine gate_callee (f := 80) rfl ?_);refine zgl (some 15) Tryd.func80 #[.int .i64 a0_0,.int .i64 0,.int .i64 255] ?_;(with_reducible refine (impl_within.calls a0_0 0 255 false _ A9.out).mono ?_);rintro e w' ⟨rfl,⟨nd,rfl⟩⟩;refine ⟨_,rfl,?_⟩))
      go_ret
      exact ⟨zt_,zl_ HB⟩
set_option maxHeartbeats 8000000 in
set_option maxRecDepth 100000 in
theorem impl_isCall.calls (k : Nat) (a0_0 : Int) (a0_1 : Int) (a0_2 : Int) (a0_3 : Int) (a0_4 : ByteArray) (a1 : Int) (a2 : Int) (r : Bool) (w : World) (h : impl_isCall.f k a0_0 a0_1 a0_2 a0_3 a0_4 a1 a2 = some r) :
  Calls Tryd.prog 103 #[.agg #[.int .i64 a0_0,.int .i64 a0_1,.int .i64 a0_2,.int .i64 a0_3,.string a0_4],.int .i64 a1,.int .i64 a2] w fun e w' => e = .returned (.bool r) ∧ Below w.heap.size w w' := by
 have hu85 := Tryd.underlying85
 have HB := am_ (Below.refl w.heap.size w)
 have H : ((impl_RequestOK.f k a0_0 a0_1 a0_2 a0_3 a0_4).bind fun t1231 => (if t1231 = true then (if a0_0 = a1 then (some (a0_1 == a2)) else (some false)) else (some false))) = some r := h
 clear h
 replace H := Option.bind_eq_some_iff.mp H
 obtain ⟨t1231,A40,H⟩ := H
 try dsimp only at H
 have A4 := am_ A40
 clear A40
 by_cases c5 : t1231 = true
 ·subst c5
  have H1 : (if a0_0 = a1 then (some (a0_1 == a2)) else (some false)) = some r := by rw [if_pos rfl] at H;exact H
  clear H
  have H := H1
  clear H1
  by_cases c6 : a0_0 = a1
  ·rw [if_pos c6] at H
   have c6b0 : (a0_0 == a1) = true := beq_iff_eq.mpr c6
   have c6b1 : (a0_0 != a1) = false := bne_eq_false_iff_eq.mpr c6
   clear c6
   obtain rfl := Option.some.inj H
   go_enter Tryd.func103,Tryd.ntmps103
   go_wp2_with (first | ((with_reducible refine gate_dst (N := 3) rfl ?_);refine zbx (N := 3) (cs := #[.int .i64 a0_0,.int .i64 a0_1,.int .i64 a0_2,.int .i64 a0_3,.string a0_4]) (t := 85) ?_;intro gb1230 hg w7 hbox hb;have BK1230 := am_ (hbox);have GW1230 := zw_ HB hg;have GE1230 := zw_ HB hg;replace HB := zs_ HB hb;clear hb hbox hg;obtain ⟨hcz8_0,hcz8_1,hcz8_2,hcz8_3,hcz8_4,hfz8_0,hfz8_1,hfz8_2,hfz8_3,hfz8_4⟩ := zc5 BK1230) | ((with_reducible refine gate_callee (f := 145) rfl ?_);refine zgl (some 8) Tryd.func145 #[.agg #[.int .i64 a0_0,.int .i64 a0_1,.int .i64 a0_2,.int .i64 a0_3,.string a0_4]] ?_;(with_reducible refine (impl_RequestOK.calls k a0_0 a0_1 a0_2 a0_3 a0_4 true _ A4.out).mono ?_);rintro e w9 ⟨rfl,hb⟩;refine ⟨_,rfl,?_⟩;replace BK1230 := zb BK1230 hb;replace HB := zs_ HB hb;(try clear hb);(try clear hb2);(try clear hk);(try clear hi);obtain ⟨hcz10_0,hcz10_1,hcz10_2,hcz10_3,hcz10_4,hfz10_0,hfz10_1,hfz10_2,hfz10_3,hfz10_4⟩ := zc5 BK1230))
   go_ret
   exact ⟨zt_,zl_ HB⟩
  ·rw [if_neg c6] at H
   have c6b0 : (a0_0 == a1) = false := beq_eq_false_iff_ne.mpr c6
   have c6b1 : (a0_0 != a1) = true := bne_iff_ne.mpr c6
   obtain rfl := Option.some.inj H
   go_enter Tryd.func103,Tryd.ntmps103
   go_wp2_with (first | ((with_reducible refine gate_dst (N := 3) rfl ?_);refine zbx (N := 3) (cs := #[.int .i64 a0_0,.int .i64 a0_1,.int .i64 a0_2,.int .i64 a0_3,.string a0_4]) (t := 85) ?_;intro gb1230 hg w11 hbox hb;have BK1230 := am_ (hbox);have GW1230 := zw_ HB hg;have GE1230 := zw_ HB hg;replace HB := zs_ HB hb;clear hb hbox hg;obtain ⟨hcz12_0,hcz12_1,hcz12_2,hcz12_3,hcz12_4,hfz12_0,hfz12_1,hfz12_2,hfz12_3,hfz12_4⟩ := zc5 BK1230) | ((with_reducible refine gate_callee (f := 145) rfl ?_);refine zgl (some 8) Tryd.func145 #[.agg #[.int .i64 a0_0,.int .i64 a0_1,.int .i64 a0_2,.int .i64 a0_3,.string a0_4]] ?_;(with_reducible refine (impl_RequestOK.calls k a0_0 a0_1 a0_2 a0_3 a0_4 true _ A4.out).mono ?_);rintro e w13 ⟨rfl,hb⟩;refine ⟨_,rfl,?_⟩;replace BK1230 := zb BK1230 hb;replace HB := zs_ HB hb;(try clear hb);(try clear hb2);(try clear hk);(try clear hi);obtain ⟨hcz14_0,hcz14_1,hcz14_2,hcz14_3,hcz14_4,hfz14_0,hfz14_1,hfz14_2,hfz14_3,hfz14_4⟩ := zc5 BK1230))
   go_ret
   exact ⟨zt_,zl_ HB⟩
 ·replace c5 := Bool.eq_false_iff.mpr c5
  subst c5
  have H1 : (some false) = some r := by rw [if_neg (show ¬ (false = true) by decide)] at H;exact H
  clear H
  have H := H1
  clear H1
  obtain rfl := Option.some.inj H
  go_enter Tryd.func103,Tryd.ntmps103
  go_wp2_with (first | ((with_reducible refine gate_dst (N := 3) rfl ?_);refine zbx (N := 3) (cs := #[.int .i64 a0_0,.int .i64 a0_1,.int .i64 a0_2,.int .i64 a0_3,.string a0_4]) (t := 85) ?_;intro gb1230 hg w15 hbox hb;have BK1230 := am_ (hbox);have GW1230 := zw_ HB hg;have GE1230 := zw_ HB hg;replace HB := zs_ HB hb;clear hb hbox hg;obtain ⟨hcz16_0,hcz16_1,hcz16_2,hcz16_3,hcz16_4,hfz16_0,hfz16_1,hfz16_2,hfz16_3,hfz16_4⟩ := zc5 BK1230) | ((with_reducible refine gate_callee (f := 145) rfl ?_);refine zgl (some 8) Tryd.func145 #[.agg #[.int .i64 a0_0,.int .i64 a0_1,.int .i64 a0_2,.int .i64 a0_3,.string a0_4]] ?_;(with_reducible refine (impl_RequestOK.calls k a0_0 a0_1 a0_2 a0_3 a0_4 false _ A4.out).mono ?_);rintro e w17 ⟨rfl,hb⟩;refine ⟨_,rfl,?_⟩;replace HB := zs_ HB hb;(try clear hb);(try clear hb2);(try clear hk);(try clear hi)))
  go_ret
  exact ⟨zt_,zl_ HB⟩
end Go.Proofs.YtlifdodphkimpaaDoor.B
end

section
namespace Go.Proofs.YtlifdodphkimpaaDoor.B
open Go.RowKit Go.Proofs.YtlifdodphkimpaaDoorW.PrintWords Go.Proofs.YtlifdodphkimpaaDoorW.PrintLast Go.Proofs.YtlifdodphkimpaaDoorW.PrintMore
attribute [local go_sem] max2_int min2_int max_two min_two max_three min_three max_four min_four
attribute [local go_sem high] eqA85
set_option maxHeartbeats 8000000 in
set_option maxRecDepth 100000 in
theorem impl_ClientOK.calls (k : Nat) (a0 : Int) (a1_0 : Int) (a1_1 : Int) (a1_2 : Bool) (a1_3 : Int) (a1_4 : Int) (a1_5 : Int) (a1_6 : Int) (a1_7 : ByteArray) (A1_8 : Option Addr) (c1_8 : Nat) (l1_8 : List (S73)) (A1_9 : Option Addr) (c1_9 : Nat) (l1_9 : List (S63)) (r : Bool) (w : World) (hr1_8 : Kd.C k73 w A1_8 l1_8.length l1_8) (hc1_8 : l1_8.length ≤ c1_8) (hr1_9 : Kd.C k63 w A1_9 l1_9.length l1_9) (hc1_9 : l1_9.length ≤ c1_9) (hL : Laid w) (h : impl_ClientOK.f k a0 a1_0 a1_1 a1_2 a1_3 a1_4 a1_5 a1_6 a1_7 l1_8 l1_9 = some r) :
  Calls Tryd.prog 45 #[.int .i64 a0,.agg #[.int .i64 a1_0,.int .i64 a1_1,.bool a1_2,.int .i64 a1_3,.int .i64 a1_4,.int .i64 a1_5,.int .i64 a1_6,.string a1_7,.slice A1_8 l1_8.length c1_8,.slice A1_9 l1_9.length c1_9]] w fun e w' => e = .returned (.bool r) ∧ Below w.heap.size w w' := by
 have hu88 := Tryd.underlying88
 have hu85 := Tryd.underlying85
 have hu73 := Tryd.underlying73
 have hu63 := Tryd.underlying63
 have HR1_8 := am_ hr1_8
 have HC1_8 := am_ hc1_8
 clear hr1_8 hc1_8
 have HR1_9 := am_ hr1_9
 have HC1_9 := am_ hc1_9
 clear hr1_9 hc1_9
 have HLD := am_ hL
 clear hL
 have HB := am_ (Below.refl w.heap.size w)
 have H : ((impl_areNodes.f a0).bind fun t1233 => (if t1233 = true then ((impl_within.f a1_0 0 255).bind fun t1234 => (if t1234 = true then ((impl_within.f a1_1 0 65535).bind fun t1235 => (if t1235 = true then ((contains_impl_ClientOK_1.f l1_9).bind fun t1236 => (impl_ClientOK.j0 k a0 t1236 a1_0 a1_1 a1_2 a1_3 a1_4 a1_5 a1_6 a1_7 l1_8 l1_9)) else (impl_ClientOK.j0 k a0 true a1_0 a1_1 a1_2 a1_3 a1_4 a1_5 a1_6 a1_7 l1_8 l1_9))) else (impl_ClientOK.j0 k a0 true a1_0 a1_1 a1_2 a1_3 a1_4 a1_5 a1_6 a1_7 l1_8 l1_9))) else (impl_ClientOK.j0 k a0 true a1_0 a1_1 a1_2 a1_3 a1_4 a1_5 a1_6 a1_7 l1_8 l1_9))) = some r := h
 clear h
 have HC3 := am_ H
 clear H
 go_enter Tryd.func45,Tryd.ntmps45
 go_upto_region 1 with (first | ((with_reducible refine gate_dst (N := 3) rfl ?_);(try (refine gate_guard (by rfl) ?_;dsimp only));refine zbx (N := 3) (cs := #[.int .i64 a1_0,.int .i64 a1_1,.bool a1_2,.int .i64 a1_3,.int .i64 a1_4,.int .i64 a1_5,.int .i64 a1_6,.string a1_7,.slice A1_8 l1_8.length c1_8,.slice A1_9 l1_9.length c1_9]) (t := 88) ?_;intro gb1232 hg w4 hbox hb;have BK1232 := am_ (hbox);have GW1232 := zw_ HB hg;have GE1232 := zw_ HB hg;replace HB := zs_ HB hb;clear hb hbox hg))
 (try simp only [Act.put,p1_,p2_,p3_])
 go_cut [28] (fun v28 wc => ∃ (kq : Nat) (x28_2 : Bool),v28 = .bool x28_2 ∧ Aside0 (impl_ClientOK.j0 kq a0 x28_2 a1_0 a1_1 a1_2 a1_3 a1_4 a1_5 a1_6 a1_7 l1_8 l1_9 = some r) ∧ Aside0 (kq ≤ k) ∧ Aside0 (wc.heap[gb1232]? = some (.cells #[.int .i64 a1_0,.int .i64 a1_1,.bool a1_2,.int .i64 a1_3,.int .i64 a1_4,.int .i64 a1_5,.int .i64 a1_6,.string a1_7,(.slice A1_8 l1_8.length c1_8),(.slice A1_9 l1_9.length c1_9)] 88 (0,0))) ∧ Aside0 (Below w.heap.size w wc))
 case first =>
  have H := HC3.out
  clear HC3
  replace H := Option.bind_eq_some_iff.mp H
  obtain ⟨t1233,A50,H⟩ := H
  try dsimp only at H
  have A5 := am_ A50
  clear A50
  by_cases c6 : t1233 = true
  ·subst c6
   have H1 : ((impl_within.f a1_0 0 255).bind fun t1234 => (if t1234 = true then ((impl_within.f a1_1 0 65535).bind fun t1235 => (if t1235 = true then ((contains_impl_ClientOK_1.f l1_9).bind fun t1236 => (impl_ClientOK.j0 k a0 t1236 a1_0 a1_1 a1_2 a1_3 a1_4 a1_5 a1_6 a1_7 l1_8 l1_9)) else (impl_ClientOK.j0 k a0 true a1_0 a1_1 a1_2 a1_3 a1_4 a1_5 a1_6 a1_7 l1_8 l1_9))) else (impl_ClientOK.j0 k a0 true a1_0 a1_1 a1_2 a1_3 a1_4 a1_5 a1_6 a1_7 l1_8 l1_9))) = some r := by rw [if_pos rfl] at H;exact H
   clear H
   have H := H1
   clear H1
   replace H := Option.bind_eq_some_iff.mp H
   obtain ⟨t1234,A70,H⟩ := H
   try dsimp only at H
   have A7 := am_ A70
   clear A70
   by_cases c8 : t1234 = true
   ·subst c8
    have H1 : ((impl_within.f a1_1 0 65535).bind fun t1235 => (if t1235 = true then ((contains_impl_ClientOK_1.f l1_9).bind fun t1236 => (impl_ClientOK.j0 k a0 t1236 a1_0 a1_1 a1_2 a1_3 a1_4 a1_5 a1_6 a1_7 l1_8 l1_9)) else (impl_ClientOK.j0 k a0 true a1_0 a1_1 a1_2 a1_3 a1_4 a1_5 a1_6 a1_7 l1_8 l1_9))) = some r := by rw [if_pos rfl] at H;exact H
    clear H
    have H := H1
    clear H1
    replace H := Option.bind_eq_some_iff.mp H
    obtain ⟨t1235,A90,H⟩ := H
    try dsimp only at H
    have A9 := am_ A90
    clear A90
    by_cases c10 : t1235 = true
    ·subst c10
     have H1 : ((contains_impl_ClientOK_1.f l1_9).bind fun t1236 => (impl_ClientOK.j0 k a0 t1236 a1_0 a1_1 a1_2 a1_3 a1_4 a1_5 a1_6 a1_7 l1_8 l1_9)) = some r := by rw [if_pos rfl] at H;exact H
     clear H
     have H := H1
     clear H1
     replace H := Option.bind_eq_some_iff.mp H
     obtain ⟨t1236,A110,H⟩ := H
     try dsimp only at H
     have A11 := am_ A110
     clear A110
     have H' := am_ H
     clear H
     go_wp2_with (first | ((with_reducible refine gate_callee (f := 61) rfl ?_);refine zgl (some 10) Tryd.func61 #[.int .i64 a0] ?_;(with_reducible refine (impl_areNodes.calls a0 true _ A5.out).mono ?_);rintro e w' ⟨rfl,⟨nd,rfl⟩⟩;refine ⟨_,rfl,?_⟩;obtain ⟨hcz12_0,hcz12_1,hcz12_2,hcz12_3,hcz12_4,hcz12_5,hcz12_6,hcz12_7,hcz12_8,hcz12_9,hfz12_0,hfz12_1,hfz12_2,hfz12_3,hfz12_4,hfz12_5,hfz12_6,hfz12_7,hfz12_8,hfz12_9⟩ := zc10 BK1232) | (go_at_call 80;(with_reducible refine (impl_within.calls a1_0 0 255 true _ A7.out).mono ?_);rintro e w' ⟨rfl,⟨nd,rfl⟩⟩) | (go_at_call 80;(with_reducible refine (impl_within.calls a1_1 0 65535 true _ A9.out).mono ?_);rintro e w' ⟨rfl,⟨nd,rfl⟩⟩) | (go_at_call 100;(with_reducible refine (contains_impl_ClientOK_1.calls _ _ l1_9  t1236 _ ?side1 ?side2 A11.out).mono ?_);(case side1 => repeat (first | exact (Kd.C_below HR1_9.out (zl_ HB)) | (with_reducible refine Kd.C_alloc ?_ _) | (with_reducible refine Kd.C_drewN ?_ _) | (with_reducible refine Kd.C_drew ?_)));(case side2 => exact HC1_9.out);rintro e w13 ⟨rfl,hb⟩;replace BK1232 := zb BK1232 hb;replace HB := zs_ HB hb;(try clear hb);(try clear hb2);(try clear hk);(try clear hi)))
     go_meet
     case rel => exact ⟨_,(t1236),(by first | rfl | (simp;done) | (simp [*];done)),H',⟨by first | omega | exact Nat.le_refl _⟩,⟨by (with_reducible repeat (first | apply k1_ | apply k2_ | apply k3_));exact BK1232.out⟩,⟨zl_ HB⟩⟩
    ·replace c10 := Bool.eq_false_iff.mpr c10
     subst c10
     have H1 : (impl_ClientOK.j0 k a0 true a1_0 a1_1 a1_2 a1_3 a1_4 a1_5 a1_6 a1_7 l1_8 l1_9) = some r := by rw [if_neg (show ¬ (false = true) by decide)] at H;exact H
     clear H
     have H := H1
     clear H1
     have H' := am_ H
     clear H
     go_wp2_with (first | ((with_reducible refine gate_callee (f := 61) rfl ?_);refine zgl (some 10) Tryd.func61 #[.int .i64 a0] ?_;(with_reducible refine (impl_areNodes.calls a0 true _ A5.out).mono ?_);rintro e w' ⟨rfl,⟨nd,rfl⟩⟩;refine ⟨_,rfl,?_⟩;obtain ⟨hcz14_0,hcz14_1,hcz14_2,hcz14_3,hcz14_4,hcz14_5,hcz14_6,hcz14_7,hcz14_8,hcz14_9,hfz14_0,hfz14_1,hfz14_2,hfz14_3,hfz14_4,hfz14_5,hfz14_6,hfz14_7,hfz14_8,hfz14_9⟩ := zc10 BK1232) | (go_at_call 80;(with_reducible refine (impl_within.calls a1_0 0 255 true _ A7.out).mono ?_);rintro e w' ⟨rfl,⟨nd,rfl⟩⟩) | (go_at_call 80;(with_reducible refine (impl_within.calls a1_1 0 65535 false _ A9.out).mono ?_);rintro e w' ⟨rfl,⟨nd,rfl⟩⟩))
     go_meet
     case rel => exact ⟨_,(true),(by first | rfl | (simp;done) | (simp [*];done)),H',⟨by first | omega | exact Nat.le_refl _⟩,⟨by (with_reducible repeat (first | apply k1_ | apply k2_ | apply k3_));exact BK1232.out⟩,⟨zl_ HB⟩⟩
   ·replace c8 := Bool.eq_false_iff.mpr c8
    subst c8
    have H1 : (impl_ClientOK.j0 k a0 true a1_0 a1_1 a1_2 a1_3 a1_4 a1_5 a1_6 a1_7 l1_8 l1_9) = some r := by rw [if_neg (show ¬ (false = true) by decide)] at H;exact H
    clear H
    have H := H1
    clear H1
    have H' := am_ H
    clear H
    go_wp2_with (first | ((with_reducible refine gate_callee (f := 61) rfl ?_);refine zgl (some 10) Tryd.func61 #[.int .i64 a0] ?_;(with_reducible refine (impl_areNodes.calls a0 true _ A5.out).mono ?_);rintro e w' ⟨rfl,⟨nd,rfl⟩⟩;refine ⟨_,rfl,?_⟩;obtain ⟨hcz15_0,hcz15_1,hcz15_2,hcz15_3,hcz15_4,hcz15_5,hcz15_6,hcz15_7,hcz15_8,hcz15_9,hfz15_0,hfz15_1,hfz15_2,hfz15_3,hfz15_4,hfz15_5,hfz15_6,hfz15_7,hfz15_8,hfz15_9⟩ := zc10 BK1232) | (go_at_call 80;(with_reducible refine (impl_within.calls a1_0 0 255 false _ A7.out).mono ?_);rintro e w' ⟨rfl,⟨nd,rfl⟩⟩))
    go_meet
    case rel => exact ⟨_,(true),(by first | rfl | (simp;done) | (simp [*];done)),H',⟨by first | omega | exact Nat.le_refl _⟩,⟨by (with_reducible repeat (first | apply k1_ | apply k2_ | apply k3_));exact BK1232.out⟩,⟨zl_ HB⟩⟩
  ·replace c6 := Bool.eq_false_iff.mpr c6
   subst c6
   have H1 : (impl_ClientOK.j0 k a0 true a1_0 a1_1 a1_2 a1_3 a1_4 a1_5 a1_6 a1_7 l1_8 l1_9) = some r := by rw [if_neg (show ¬ (false = true) by decide)] at H;exact H
   clear H
   have H := H1
   clear H1
   have H' := am_ H
   clear H
   go_wp2_with (first | ((with_reducible refine gate_callee (f := 61) rfl ?_);refine zgl (some 10) Tryd.func61 #[.int .i64 a0] ?_;(with_reducible refine (impl_areNodes.calls a0 false _ A5.out).mono ?_);rintro e w' ⟨rfl,⟨nd,rfl⟩⟩;refine ⟨_,rfl,?_⟩))
   go_meet
   case rel => exact ⟨_,(true),(by first | rfl | (simp;done) | (simp [*];done)),H',⟨by first | omega | exact Nat.le_refl _⟩,⟨by (with_reducible repeat (first | apply k1_ | apply k2_ | apply k3_));exact BK1232.out⟩,⟨zl_ HB⟩⟩
 case rest =>
  clear HC3
  try clear c1
  try clear p2
  try clear c4
  try clear c6
  try clear c8
  try clear c10
  try clear hcz12_0
  try clear hcz12_1
  try clear hcz12_2
  try clear hcz12_3
  try clear hcz12_4
  try clear hcz12_5
  try clear hcz12_6
  try clear hcz12_7
  try clear hcz12_8
  try clear hcz12_9
  try clear hcz14_0
  try clear hcz14_1
  try clear hcz14_2
  try clear hcz14_3
  try clear hcz14_4
  try clear hcz14_5
  try clear hcz14_6
  try clear hcz14_7
  try clear hcz14_8
  try clear hcz14_9
  try clear hcz15_0
  try clear hcz15_1
  try clear hcz15_2
  try clear hcz15_3
  try clear hcz15_4
  try clear hcz15_5
  try clear hcz15_6
  try clear hcz15_7
  try clear hcz15_8
  try clear hcz15_9
  try clear hfz12_0
  try clear hfz12_1
  try clear hfz12_2
  try clear hfz12_3
  try clear hfz12_4
  try clear hfz12_5
  try clear hfz12_6
  try clear hfz12_7
  try clear hfz12_8
  try clear hfz12_9
  try clear hfz14_0
  try clear hfz14_1
  try clear hfz14_2
  try clear hfz14_3
  try clear hfz14_4
  try clear hfz14_5
  try clear hfz14_6
  try clear hfz14_7
  try clear hfz14_8
  try clear hfz14_9
  try clear hfz15_0
  try clear hfz15_1
  try clear hfz15_2
  try clear hfz15_3
  try clear hfz15_4
  try clear hfz15_5
  try clear hfz15_6
  try clear hfz15_7
  try clear hfz15_8
  try clear hfz15_9
  obtain ⟨kq,x28_2,rfl,HA,HJ2,BK1232,HB⟩ := hcut
  cases kq with
  | zero => exact absurd HA.out (by simp [impl_ClientOK.j0])
  | succ kj2 =>
   have H := HA.out
   clear HA
   simp only [impl_ClientOK.j0] at H
   by_cases c16 : x28_2 = true
   ·subst c16
    have H1 : (some false) = some r := by rw [if_pos rfl] at H;exact H
    clear H
    have H := H1
    clear H1
    obtain rfl := Option.some.inj H
    go_wp2
    go_ret
    exact ⟨zt_,zl_ HB⟩
   ·replace c16 := Bool.eq_false_iff.mpr c16
    subst c16
    have H1 : (if a1_2 = true then (if (l1_9.length : Int) = (wrap64 (a1_1 - 1)) then ((impl_isCall.f kj2 a1_3 a1_4 a1_5 a1_6 a1_7 a1_0 a1_1).bind fun t1237 => (if t1237 = true then (impl_ClientOK.j1 kj2 a0 (decide ((l1_8.length : Int) > 40)) a1_0 a1_1 a1_2 a1_3 a1_4 a1_5 a1_6 a1_7 l1_8 l1_9) else (impl_ClientOK.j1 kj2 a0 true a1_0 a1_1 a1_2 a1_3 a1_4 a1_5 a1_6 a1_7 l1_8 l1_9))) else (impl_ClientOK.j1 kj2 a0 true a1_0 a1_1 a1_2 a1_3 a1_4 a1_5 a1_6 a1_7 l1_8 l1_9)) else (if (l1_9.length : Int) = a1_1 then (if (a1_3 == 0 && (a1_4 == 0 && (a1_5 == 0 && (a1_6 == 0 && (a1_7.toList == ([] : List UInt8)))))) = true then (some ((l1_8.length : Int) == 0)) else (some false)) else (some false))) = some r := by rw [if_neg (show ¬ (false = true) by decide)] at H;exact H
    clear H
    have H := H1
    clear H1
    by_cases c17 : a1_2 = true
    ·subst c17
     have H1 : (if (l1_9.length : Int) = (wrap64 (a1_1 - 1)) then ((impl_isCall.f kj2 a1_3 a1_4 a1_5 a1_6 a1_7 a1_0 a1_1).bind fun t1237 => (if t1237 = true then (impl_ClientOK.j1 kj2 a0 (decide ((l1_8.length : Int) > 40)) a1_0 a1_1 true a1_3 a1_4 a1_5 a1_6 a1_7 l1_8 l1_9) else (impl_ClientOK.j1 kj2 a0 true a1_0 a1_1 true a1_3 a1_4 a1_5 a1_6 a1_7 l1_8 l1_9))) else (impl_ClientOK.j1 kj2 a0 true a1_0 a1_1 true a1_3 a1_4 a1_5 a1_6 a1_7 l1_8 l1_9)) = some r := by rw [if_pos rfl] at H;exact H
     clear H
     have H := H1
     clear H1
     have HC18 := am_ H
     clear H
     obtain ⟨hcz19_0,hcz19_1,hcz19_2,hcz19_3,hcz19_4,hcz19_5,hcz19_6,hcz19_7,hcz19_8,hcz19_9,hfz19_0,hfz19_1,hfz19_2,hfz19_3,hfz19_4,hfz19_5,hfz19_6,hfz19_7,hfz19_8,hfz19_9⟩ := zc10 BK1232
     go_upto_region 5 with (fail)
     go_cut [72] (fun v72 wc => ∃ (kq : Nat) (x72_17 : Bool),v72 = .bool x72_17 ∧ Aside0 (impl_ClientOK.j1 kq a0 x72_17 a1_0 a1_1 true a1_3 a1_4 a1_5 a1_6 a1_7 l1_8 l1_9 = some r) ∧ Aside0 (kq ≤ kj2) ∧ Aside0 (wc.heap[gb1232]? = some (.cells #[.int .i64 a1_0,.int .i64 a1_1,.bool true,.int .i64 a1_3,.int .i64 a1_4,.int .i64 a1_5,.int .i64 a1_6,.string a1_7,(.slice A1_8 l1_8.length c1_8),(.slice A1_9 l1_9.length c1_9)] 88 (0,0))) ∧ Aside0 (Below w.heap.size w wc))
     case first =>
      have H := HC18.out
      clear HC18
      by_cases c20 : (l1_9.length : Int) = (wrap64 (a1_1 - 1))
      ·rw [if_pos c20] at H
       have c20b0 : ((l1_9.length : Int) == (wrap64 (a1_1 - 1))) = true := beq_iff_eq.mpr c20
       have c20b1 : ((l1_9.length : Int) != (wrap64 (a1_1 - 1))) = false := bne_eq_false_iff_eq.mpr c20
       clear c20
       (first | rw [c20b0] | (simp only [i64_w,i32_w];rw [c20b0]) | skip)
       replace H := Option.bind_eq_some_iff.mp H
       obtain ⟨t1237,A210,H⟩ := H
       try dsimp only at H
       have A21 := am_ A210
       clear A210
       by_cases c22 : t1237 = true
       ·subst c22
        have H1 : (impl_ClientOK.j1 kj2 a0 (decide ((l1_8.length : Int) > 40)) a1_0 a1_1 true a1_3 a1_4 a1_5 a1_6 a1_7 l1_8 l1_9) = some r := by rw [if_pos rfl] at H;exact H
        clear H
        have H := H1
        clear H1
        have H' := am_ H
        clear H
        obtain ⟨hcz23_0,hcz23_1,hcz23_2,hcz23_3,hcz23_4,hcz23_5,hcz23_6,hcz23_7,hcz23_8,hcz23_9,hfz23_0,hfz23_1,hfz23_2,hfz23_3,hfz23_4,hfz23_5,hfz23_6,hfz23_7,hfz23_8,hfz23_9⟩ := zc10 BK1232
        go_wp2_with (first | (go_at_call 103;(with_reducible refine (impl_isCall.calls kj2 a1_3 a1_4 a1_5 a1_6 a1_7 a1_0 a1_1 true _ A21.out).mono ?_);rintro e w24 ⟨rfl,hb⟩;replace BK1232 := zb BK1232 hb;replace HB := zs_ HB hb;(try clear hb);(try clear hb2);(try clear hk);(try clear hi);obtain ⟨hcz25_0,hcz25_1,hcz25_2,hcz25_3,hcz25_4,hcz25_5,hcz25_6,hcz25_7,hcz25_8,hcz25_9,hfz25_0,hfz25_1,hfz25_2,hfz25_3,hfz25_4,hfz25_5,hfz25_6,hfz25_7,hfz25_8,hfz25_9⟩ := zc10 BK1232))
        go_meet
        case rel => exact ⟨_,(decide ((l1_8.length : Int) > 40)),(by first | rfl | (simp;done) | (simp [*];done)),H',⟨by have := HJ2.out;first | omega | exact Nat.le_refl _⟩,⟨by (with_reducible repeat (first | apply k1_ | apply k2_ | apply k3_));exact BK1232.out⟩,⟨zl_ HB⟩⟩
       ·replace c22 := Bool.eq_false_iff.mpr c22
        subst c22
        have H1 : (impl_ClientOK.j1 kj2 a0 true a1_0 a1_1 true a1_3 a1_4 a1_5 a1_6 a1_7 l1_8 l1_9) = some r := by rw [if_neg (show ¬ (false = true) by decide)] at H;exact H
        clear H
        have H := H1
        clear H1
        have H' := am_ H
        clear H
        obtain ⟨hcz26_0,hcz26_1,hcz26_2,hcz26_3,hcz26_4,hcz26_5,hcz26_6,hcz26_7,hcz26_8,hcz26_9,hfz26_0,hfz26_1,hfz26_2,hfz26_3,hfz26_4,hfz26_5,hfz26_6,hfz26_7,hfz26_8,hfz26_9⟩ := zc10 BK1232
        go_wp2_with (first | (go_at_call 103;(with_reducible refine (impl_isCall.calls kj2 a1_3 a1_4 a1_5 a1_6 a1_7 a1_0 a1_1 false _ A21.out).mono ?_);rintro e w27 ⟨rfl,hb⟩;replace BK1232 := zb BK1232 hb;replace HB := zs_ HB hb;(try clear hb);(try clear hb2);(try clear hk);(try clear hi)))
        go_meet
        case rel => exact ⟨_,(true),(by first | rfl | (simp;done) | (simp [*];done)),H',⟨by have := HJ2.out;first | omega | exact Nat.le_refl _⟩,⟨by (with_reducible repeat (first | apply k1_ | apply k2_ | apply k3_));exact BK1232.out⟩,⟨zl_ HB⟩⟩
      ·rw [if_neg c20] at H
       have c20b0 : ((l1_9.length : Int) == (wrap64 (a1_1 - 1))) = false := beq_eq_false_iff_ne.mpr c20
       have c20b1 : ((l1_9.length : Int) != (wrap64 (a1_1 - 1))) = true := bne_iff_ne.mpr c20
       (first | rw [c20b0] | (simp only [i64_w,i32_w];rw [c20b0]) | skip)
       have H' := am_ H
       clear H
       obtain ⟨hcz28_0,hcz28_1,hcz28_2,hcz28_3,hcz28_4,hcz28_5,hcz28_6,hcz28_7,hcz28_8,hcz28_9,hfz28_0,hfz28_1,hfz28_2,hfz28_3,hfz28_4,hfz28_5,hfz28_6,hfz28_7,hfz28_8,hfz28_9⟩ := zc10 BK1232
       go_wp2
       go_meet
       case rel => exact ⟨_,(true),(by first | rfl | (simp;done) | (simp [*];done)),H',⟨by have := HJ2.out;first | omega | exact Nat.le_refl _⟩,⟨by (with_reducible repeat (first | apply k1_ | apply k2_ | apply k3_));exact BK1232.out⟩,⟨zl_ HB⟩⟩
     case rest =>
      clear HC18
      try clear c1
      try clear c2
      try clear p2
      try clear c4
      try clear c6
      try clear p6
      try clear c8
      try clear c10
      try clear c16
      try clear c17
      try clear c20
      try clear c20b0
      try clear c20b1
      try clear c22
      try clear hcz12_0
      try clear hcz12_1
      try clear hcz12_2
      try clear hcz12_3
      try clear hcz12_4
      try clear hcz12_5
      try clear hcz12_6
      try clear hcz12_7
      try clear hcz12_8
      try clear hcz12_9
      try clear hcz14_0
      try clear hcz14_1
      try clear hcz14_2
      try clear hcz14_3
      try clear hcz14_4
      try clear hcz14_5
      try clear hcz14_6
      try clear hcz14_7
      try clear hcz14_8
      try clear hcz14_9
      try clear hcz15_0
      try clear hcz15_1
      try clear hcz15_2
      try clear hcz15_3
      try clear hcz15_4
      try clear hcz15_5
      try clear hcz15_6
      try clear hcz15_7
      try clear hcz15_8
      try clear hcz15_9
      try clear hcz19_0
      try clear hcz19_1
      try clear hcz19_2
      try clear hcz19_3
      try clear hcz19_4
      try clear hcz19_5
      try clear hcz19_6
      try clear hcz19_7
      try clear hcz19_8
      try clear hcz19_9
      try clear hcz23_0
      try clear hcz23_1
      try clear hcz23_2
      try clear hcz23_3
      try clear hcz23_4
      try clear hcz23_5
      try clear hcz23_6
      try clear hcz23_7
      try clear hcz23_8
      try clear hcz23_9
      try clear hcz25_0
      try clear hcz25_1
      try clear hcz25_2
      try clear hcz25_3
      try clear hcz25_4
      try clear hcz25_5
      try clear hcz25_6
      try clear hcz25_7
      try clear hcz25_8
      try clear hcz25_9
      try clear hcz26_0
      try clear hcz26_1
      try clear hcz26_2
      try clear hcz26_3
      try clear hcz26_4
      try clear hcz26_5
      try clear hcz26_6
      try clear hcz26_7
      try clear hcz26_8
      try clear hcz26_9
      try clear hcz28_0
      try clear hcz28_1
      try clear hcz28_2
      try clear hcz28_3
      try clear hcz28_4
      try clear hcz28_5
      try clear hcz28_6
      try clear hcz28_7
      try clear hcz28_8
      try clear hcz28_9
      try clear hfz12_0
      try clear hfz12_1
      try clear hfz12_2
      try clear hfz12_3
      try clear hfz12_4
      try clear hfz12_5
      try clear hfz12_6
      try clear hfz12_7
      try clear hfz12_8
      try clear hfz12_9
      try clear hfz14_0
      try clear hfz14_1
      try clear hfz14_2
      try clear hfz14_3
      try clear hfz14_4
      try clear hfz14_5
      try clear hfz14_6
      try clear hfz14_7
      try clear hfz14_8
      try clear hfz14_9
      try clear hfz15_0
      try clear hfz15_1
      try clear hfz15_2
      try clear hfz15_3
      try clear hfz15_4
      try clear hfz15_5
      try clear hfz15_6
      try clear hfz15_7
      try clear hfz15_8
      try clear hfz15_9
      try clear hfz19_0
      try clear hfz19_1
      try clear hfz19_2
      try clear hfz19_3
      try clear hfz19_4
      try clear hfz19_5
      try clear hfz19_6
      try clear hfz19_7
      try clear hfz19_8
      try clear hfz19_9
      try clear hfz23_0
      try clear hfz23_1
      try clear hfz23_2
      try clear hfz23_3
      try clear hfz23_4
      try clear hfz23_5
      try clear hfz23_6
      try clear hfz23_7
      try clear hfz23_8
      try clear hfz23_9
      try clear hfz25_0
      try clear hfz25_1
      try clear hfz25_2
      try clear hfz25_3
      try clear hfz25_4
      try clear hfz25_5
      try clear hfz25_6
      try clear hfz25_7
      try clear hfz25_8
      try clear hfz25_9
      try clear hfz26_0
      try clear hfz26_1
      try clear hfz26_2
      try clear hfz26_3
      try clear hfz26_4
      try clear hfz26_5
      try clear hfz26_6
      try clear hfz26_7
      try clear hfz26_8
      try clear hfz26_9
      try clear hfz28_0
      try clear hfz28_1
      try clear hfz28_2
      try clear hfz28_3
      try clear hfz28_4
      try clear hfz28_5
      try clear hfz28_6
      try clear hfz28_7
      try clear hfz28_8
      try clear hfz28_9
      try clear p2
      obtain ⟨kq,x72_17,rfl,HA,HJ17,BK1232,HB⟩ := hcut
      cases kq with
      | zero => exact absurd HA.out (by simp [impl_ClientOK.j1])
      | succ kj17 =>
       have H := HA.out
       clear HA
       simp only [impl_ClientOK.j1] at H
       by_cases c29 : x72_17 = true
       ·subst c29
        have H1 : (some false) = some r := by rw [if_pos rfl] at H;exact H
        clear H
        have H := H1
        clear H1
        obtain rfl := Option.some.inj H
        go_wp2
        go_ret
        exact ⟨zt_,zl_ HB⟩
       ·replace c29 := Bool.eq_false_iff.mpr c29
        subst c29
        have H1 : (impl_ClientOK.l0 kj17 a0 l1_8 (l1_8.length : Int) 0 a1_0 a1_1 true a1_3 a1_4 a1_5 a1_6 a1_7 l1_8 l1_9) = some r := by rw [if_neg (show ¬ (false = true) by decide)] at H;exact H
        clear H
        have H := H1
        clear H1
        have H' := am_ H
        clear H
        obtain ⟨hcz30_0,hcz30_1,hcz30_2,hcz30_3,hcz30_4,hcz30_5,hcz30_6,hcz30_7,hcz30_8,hcz30_9,hfz30_0,hfz30_1,hfz30_2,hfz30_3,hfz30_4,hfz30_5,hfz30_6,hfz30_7,hfz30_8,hfz30_9⟩ := zc10 BK1232
        go_wp2
        go_loopg [76] kj17 (fun kq v76 w' => ∃ (x76_3 : Int),v76 = .int .i64 x76_3 ∧ Aside0 (impl_ClientOK.l0 kq a0 l1_8 (l1_8.length : Int) x76_3 a1_0 a1_1 true a1_3 a1_4 a1_5 a1_6 a1_7 l1_8 l1_9 = some r) ∧ Aside0 (kq ≤ kj17) ∧ Aside0 (w'.heap[gb1232]? = some (.cells #[.int .i64 a1_0,.int .i64 a1_1,.bool true,.int .i64 a1_3,.int .i64 a1_4,.int .i64 a1_5,.int .i64 a1_6,.string a1_7,(.slice A1_8 l1_8.length c1_8),(.slice A1_9 l1_9.length c1_9)] 88 (0,0))) ∧ Aside0 (Below w.heap.size w w'))
        case atStart => exact ⟨(0),(by first | rfl | (simp;done) | (simp [*];done)),H',⟨Nat.le_refl _⟩,⟨by (with_reducible repeat (first | apply k1_ | apply k2_ | apply k3_));exact BK1232.out⟩,⟨zl_ HB⟩⟩
        case round =>
         clear H'
         try clear c1
         try clear c2
         try clear p2
         try clear c4
         try clear c6
         try clear p6
         try clear c8
         try clear c10
         try clear c16
         try clear c17
         try clear c20
         try clear c20b0
         try clear c20b1
         try clear c22
         try clear c29
         try clear hcz12_0
         try clear hcz12_1
         try clear hcz12_2
         try clear hcz12_3
         try clear hcz12_4
         try clear hcz12_5
         try clear hcz12_6
         try clear hcz12_7
         try clear hcz12_8
         try clear hcz12_9
         try clear hcz14_0
         try clear hcz14_1
         try clear hcz14_2
         try clear hcz14_3
         try clear hcz14_4
         try clear hcz14_5
         try clear hcz14_6
         try clear hcz14_7
         try clear hcz14_8
         try clear hcz14_9
         try clear hcz15_0
         try clear hcz15_1
         try clear hcz15_2
         try clear hcz15_3
         try clear hcz15_4
         try clear hcz15_5
         try clear hcz15_6
         try clear hcz15_7
         try clear hcz15_8
         try clear hcz15_9
         try clear hcz19_0
         try clear hcz19_1
         try clear hcz19_2
         try clear hcz19_3
         try clear hcz19_4
         try clear hcz19_5
         try clear hcz19_6
         try clear hcz19_7
         try clear hcz19_8
         try clear hcz19_9
         try clear hcz23_0
         try clear hcz23_1
         try clear hcz23_2
         try clear hcz23_3
         try clear hcz23_4
         try clear hcz23_5
         try clear hcz23_6
         try clear hcz23_7
         try clear hcz23_8
         try clear hcz23_9
         try clear hcz25_0
         try clear hcz25_1
         try clear hcz25_2
         try clear hcz25_3
         try clear hcz25_4
         try clear hcz25_5
         try clear hcz25_6
         try clear hcz25_7
         try clear hcz25_8
         try clear hcz25_9
         try clear hcz26_0
         try clear hcz26_1
         try clear hcz26_2
         try clear hcz26_3
         try clear hcz26_4
         try clear hcz26_5
         try clear hcz26_6
         try clear hcz26_7
         try clear hcz26_8
         try clear hcz26_9
         try clear hcz28_0
         try clear hcz28_1
         try clear hcz28_2
         try clear hcz28_3
         try clear hcz28_4
         try clear hcz28_5
         try clear hcz28_6
         try clear hcz28_7
         try clear hcz28_8
         try clear hcz28_9
         try clear hcz30_0
         try clear hcz30_1
         try clear hcz30_2
         try clear hcz30_3
         try clear hcz30_4
         try clear hcz30_5
         try clear hcz30_6
         try clear hcz30_7
         try clear hcz30_8
         try clear hcz30_9
         try clear hfz12_0
         try clear hfz12_1
         try clear hfz12_2
         try clear hfz12_3
         try clear hfz12_4
         try clear hfz12_5
         try clear hfz12_6
         try clear hfz12_7
         try clear hfz12_8
         try clear hfz12_9
         try clear hfz14_0
         try clear hfz14_1
         try clear hfz14_2
         try clear hfz14_3
         try clear hfz14_4
         try clear hfz14_5
         try clear hfz14_6
         try clear hfz14_7
         try clear hfz14_8
         try clear hfz14_9
         try clear hfz15_0
         try clear hfz15_1
         try clear hfz15_2
         try clear hfz15_3
         try clear hfz15_4
         try clear hfz15_5
         try clear hfz15_6
         try clear hfz15_7
         try clear hfz15_8
         try clear hfz15_9
         try clear hfz19_0
         try clear hfz19_1
         try clear hfz19_2
         try clear hfz19_3
         try clear hfz19_4
         try clear hfz19_5
         try clear hfz19_6
         try clear hfz19_7
         try clear hfz19_8
         try clear hfz19_9
         try clear hfz23_0
         try clear hfz23_1
         try clear hfz23_2
         try clear hfz23_3
         try clear hfz23_4
         try clear hfz23_5
         try clear hfz23_6
         try clear hfz23_7
         try clear hfz23_8
         try clear hfz23_9
         try clear hfz25_0
         try clear hfz25_1
         try clear hfz25_2
         try clear hfz25_3
         try clear hfz25_4
         try clear hfz25_5
         try clear hfz25_6
         try clear hfz25_7
         try clear hfz25_8
         try clear hfz25_9
         try clear hfz26_0
         try clear hfz26_1
         try clear hfz26_2
         try clear hfz26_3
         try clear hfz26_4
         try clear hfz26_5
         try clear hfz26_6
         try clear hfz26_7
         try clear hfz26_8
         try clear hfz26_9
         try clear hfz28_0
         try clear hfz28_1
         try clear hfz28_2
         try clear hfz28_3
         try clear hfz28_4
         try clear hfz28_5
         try clear hfz28_6
         try clear hfz28_7
         try clear hfz28_8
         try clear hfz28_9
         try clear hfz30_0
         try clear hfz30_1
         try clear hfz30_2
         try clear hfz30_3
         try clear hfz30_4
         try clear hfz30_5
         try clear hfz30_6
         try clear hfz30_7
         try clear hfz30_8
         try clear hfz30_9
         try clear p2
         try clear p6
         obtain ⟨x76_3,rfl,HA,HK3,BK1232,HB⟩ := hrel
         cases gk with
         | zero => exact absurd HA.out (by simp [impl_ClientOK.l0])
         | succ k3 =>
          have H := HA.out
          clear HA
          simp only [impl_ClientOK.l0] at H
          by_cases c31 : x76_3 < (l1_8.length : Int)
          ·rw [if_pos c31] at H
           have c31b0 : decide (x76_3 < (l1_8.length : Int)) = true := decide_eq_true c31
           clear c31
           by_cases c32 : 0 ≤ x76_3
           ·rw [if_pos c32] at H
            have c32b0 : decide (0 ≤ x76_3) = true := decide_eq_true c32
            clear c32
            by_cases c33 : x76_3 < (l1_8.length : Int)
            ·rw [if_pos c33] at H
             have c33b0 : decide (x76_3 < (l1_8.length : Int)) = true := decide_eq_true c33
             clear c33
             replace H := Option.bind_eq_some_iff.mp H
             obtain ⟨t1240,A340,H⟩ := H
             try dsimp only at H
             have A34 := am_ A340
             clear A340
             by_cases c35 : t1240 = true
             ·subst c35
              have H1 : (if ((rd_T73 l1_8 x76_3).f1) = a1_0 then (if ((rd_T73 l1_8 x76_3).f2) = a1_1 then (impl_ClientOK.l0 k3 a0 l1_8 (l1_8.length : Int) (wrap64 (x76_3 + 1)) a1_0 a1_1 true a1_3 a1_4 a1_5 a1_6 a1_7 l1_8 l1_9) else (some false)) else (some false)) = some r := by rw [if_pos rfl] at H;exact H
              clear H
              have H := H1
              clear H1
              by_cases c36 : ((rd_T73 l1_8 x76_3).f1) = a1_0
              ·rw [if_pos c36] at H
               have c36b0 : (((rd_T73 l1_8 x76_3).f1) == a1_0) = true := beq_iff_eq.mpr c36
               have c36b1 : (((rd_T73 l1_8 x76_3).f1) != a1_0) = false := bne_eq_false_iff_eq.mpr c36
               clear c36
               by_cases c37 : ((rd_T73 l1_8 x76_3).f2) = a1_1
               ·rw [if_pos c37] at H
                have c37b0 : (((rd_T73 l1_8 x76_3).f2) == a1_1) = true := beq_iff_eq.mpr c37
                have c37b1 : (((rd_T73 l1_8 x76_3).f2) != a1_1) = false := bne_eq_false_iff_eq.mpr c37
                clear c37
                have H' := am_ H
                clear H
                have p1238 : 0 ≤ (x76_3 : Int) := zo_
                have q1238 : x76_3 < (l1_8.length : Int) := zo_
                obtain ⟨ad1238,e1238,hx1238_0,hx1238_1,hx1238_2,hx1238_3,hx1238_4,hx1238_5,hx1238_6,hx1238_7⟩ := at_T73 HR1_8.out x76_3 p1238 q1238
                cases e1238
                replace hx1238_0 := zx_ HB hx1238_0
                replace hx1238_1 := zx_ HB hx1238_1
                replace hx1238_2 := zx_ HB hx1238_2
                replace hx1238_3 := zx_ HB hx1238_3
                replace hx1238_4 := zx_ HB hx1238_4
                replace hx1238_5 := zx_ HB hx1238_5
                replace hx1238_6 := zx_ HB hx1238_6
                replace hx1238_7 := zx_ HB hx1238_7
                replace p1238 := eq_true p1238
                replace q1238 := eq_true q1238
                go_wp2_with (first | ((with_reducible refine gate_dst (N := 6) rfl ?_);(try (refine gate_guard (by rfl) ?_;dsimp only));refine zbx (N := 6) (cs := #[.int .i64 0,.int .i64 0,.int .i64 0,.int .i64 0,.int .i64 0,.int .i64 0,.int .i64 0,.string ⟨#[]⟩]) (t := 73) ?_;intro gb1239 hg w38 hbox hb;have BK1239 := am_ (hbox);have GW1239 := zw_ HB hg;have GE1239 := zw_ HB hg;replace HB := zs_ HB hb;have NB1232_1239 := zl hg BK1232;have NB1239_1232 := zg hg BK1232;replace BK1232 := zb BK1232 hb;clear hb hbox hg;have hnb39 := NB1239_1232.out;have hnc39 := NB1232_1239.out;obtain ⟨hcz40_0,hcz40_1,hcz40_2,hcz40_3,hcz40_4,hcz40_5,hcz40_6,hcz40_7,hfz40_0,hfz40_1,hfz40_2,hfz40_3,hfz40_4,hfz40_5,hfz40_6,hfz40_7⟩ := zc8 BK1239) | ((with_reducible refine gate_callee (f := 41) rfl ?_);refine zgl (some 82) Tryd.func41 #[.int .i64 a0,.agg #[.int .i64 ((rd_T73 l1_8 x76_3).f0),.int .i64 ((rd_T73 l1_8 x76_3).f1),.int .i64 ((rd_T73 l1_8 x76_3).f2),.int .i64 ((rd_T73 l1_8 x76_3).f3.f0),.int .i64 ((rd_T73 l1_8 x76_3).f3.f1),.int .i64 ((rd_T73 l1_8 x76_3).f3.f2),.int .i64 ((rd_T73 l1_8 x76_3).f3.f3),.string ((rd_T73 l1_8 x76_3).f4)]] ?_;(with_reducible refine (impl_ReplyOK.calls k3 a0 ((rd_T73 l1_8 x76_3).f0) ((rd_T73 l1_8 x76_3).f1) ((rd_T73 l1_8 x76_3).f2) ((rd_T73 l1_8 x76_3).f3.f0) ((rd_T73 l1_8 x76_3).f3.f1) ((rd_T73 l1_8 x76_3).f3.f2) ((rd_T73 l1_8 x76_3).f3.f3) ((rd_T73 l1_8 x76_3).f4) true _ ?side1 A34.out).mono ?_);(case side1 => exact HLD.out.on (zl_ HB));rintro e w41 ⟨rfl,hb⟩;refine ⟨_,rfl,?_⟩;replace BK1232 := am_ (blk_below (g := gb1232) (o := .cells #[.int .i64 a1_0,.int .i64 a1_1,.bool true,.int .i64 a1_3,.int .i64 a1_4,.int .i64 a1_5,.int .i64 a1_6,.string a1_7,.slice (some ad1238) l1_8.length c1_8,.slice A1_9 l1_9.length c1_9] 88 (0,0)) (zq BK1232) hb);replace BK1239 := am_ (blk_below (g := gb1239) (o := .cells #[.int .i64 ((rd_T73 l1_8 x76_3).f0),.int .i64 ((rd_T73 l1_8 x76_3).f1),.int .i64 ((rd_T73 l1_8 x76_3).f2),.int .i64 ((rd_T73 l1_8 x76_3).f3.f0),.int .i64 ((rd_T73 l1_8 x76_3).f3.f1),.int .i64 ((rd_T73 l1_8 x76_3).f3.f2),.int .i64 ((rd_T73 l1_8 x76_3).f3.f3),.string ((rd_T73 l1_8 x76_3).f4)] 73 (0,0)) (zq BK1239) hb);replace HB := zs_ HB hb;(try clear hb);(try clear hb2);(try clear hk);(try clear hi);obtain ⟨hcz42_0,hcz42_1,hcz42_2,hcz42_3,hcz42_4,hcz42_5,hcz42_6,hcz42_7,hfz42_0,hfz42_1,hfz42_2,hfz42_3,hfz42_4,hfz42_5,hfz42_6,hfz42_7⟩ := zc8 BK1239;obtain ⟨hcz43_0,hcz43_1,hcz43_2,hcz43_3,hcz43_4,hcz43_5,hcz43_6,hcz43_7,hcz43_8,hcz43_9,hfz43_0,hfz43_1,hfz43_2,hfz43_3,hfz43_4,hfz43_5,hfz43_6,hfz43_7,hfz43_8,hfz43_9⟩ := zc10 BK1232))
                go_roundg k3
                case measure => have := HJ2.out;have := HJ17.out;have := HK3.out;omega
                case rel => exact ⟨(wrap64 (x76_3 + 1)),(by first | rfl | (simp;done) | (simp [*];done)),H',⟨by have := HJ2.out;have := HJ17.out;have := HK3.out;omega⟩,⟨by (with_reducible repeat (first | apply k1_ | apply k2_ | apply k3_));exact BK1232.out⟩,⟨zl_ HB⟩⟩
               ·rw [if_neg c37] at H
                have c37b0 : (((rd_T73 l1_8 x76_3).f2) == a1_1) = false := beq_eq_false_iff_ne.mpr c37
                have c37b1 : (((rd_T73 l1_8 x76_3).f2) != a1_1) = true := bne_iff_ne.mpr c37
                obtain rfl := Option.some.inj H
                have p1238 : 0 ≤ (x76_3 : Int) := zo_
                have q1238 : x76_3 < (l1_8.length : Int) := zo_
                obtain ⟨ad1238,e1238,hx1238_0,hx1238_1,hx1238_2,hx1238_3,hx1238_4,hx1238_5,hx1238_6,hx1238_7⟩ := at_T73 HR1_8.out x76_3 p1238 q1238
                cases e1238
                replace hx1238_0 := zx_ HB hx1238_0
                replace hx1238_1 := zx_ HB hx1238_1
                replace hx1238_2 := zx_ HB hx1238_2
                replace hx1238_3 := zx_ HB hx1238_3
                replace hx1238_4 := zx_ HB hx1238_4
                replace hx1238_5 := zx_ HB hx1238_5
                replace hx1238_6 := zx_ HB hx1238_6
                replace hx1238_7 := zx_ HB hx1238_7
                replace p1238 := eq_true p1238
                replace q1238 := eq_true q1238
                go_wp2_with (first | ((with_reducible refine gate_dst (N := 6) rfl ?_);(try (refine gate_guard (by rfl) ?_;dsimp only));refine zbx (N := 6) (cs := #[.int .i64 0,.int .i64 0,.int .i64 0,.int .i64 0,.int .i64 0,.int .i64 0,.int .i64 0,.string ⟨#[]⟩]) (t := 73) ?_;intro gb1239 hg w44 hbox hb;have BK1239 := am_ (hbox);have GW1239 := zw_ HB hg;have GE1239 := zw_ HB hg;replace HB := zs_ HB hb;have NB1232_1239 := zl hg BK1232;have NB1239_1232 := zg hg BK1232;replace BK1232 := zb BK1232 hb;clear hb hbox hg;have hnb45 := NB1239_1232.out;have hnc45 := NB1232_1239.out;obtain ⟨hcz46_0,hcz46_1,hcz46_2,hcz46_3,hcz46_4,hcz46_5,hcz46_6,hcz46_7,hfz46_0,hfz46_1,hfz46_2,hfz46_3,hfz46_4,hfz46_5,hfz46_6,hfz46_7⟩ := zc8 BK1239) | ((with_reducible refine gate_callee (f := 41) rfl ?_);refine zgl (some 82) Tryd.func41 #[.int .i64 a0,.agg #[.int .i64 ((rd_T73 l1_8 x76_3).f0),.int .i64 ((rd_T73 l1_8 x76_3).f1),.int .i64 ((rd_T73 l1_8 x76_3).f2),.int .i64 ((rd_T73 l1_8 x76_3).f3.f0),.int .i64 ((rd_T73 l1_8 x76_3).f3.f1),.int .i64 ((rd_T73 l1_8 x76_3).f3.f2),.int .i64 ((rd_T73 l1_8 x76_3).f3.f3),.string ((rd_T73 l1_8 x76_3).f4)]] ?_;(with_reducible refine (impl_ReplyOK.calls k3 a0 ((rd_T73 l1_8 x76_3).f0) ((rd_T73 l1_8 x76_3).f1) ((rd_T73 l1_8 x76_3).f2) ((rd_T73 l1_8 x76_3).f3.f0) ((rd_T73 l1_8 x76_3).f3.f1) ((rd_T73 l1_8 x76_3).f3.f2) ((rd_T73 l1_8 x76_3).f3.f3) ((rd_T73 l1_8 x76_3).f4) true _ ?side1 A34.out).mono ?_);(case side1 => exact HLD.out.on (zl_ HB));rintro e w47 ⟨rfl,hb⟩;refine ⟨_,rfl,?_⟩;replace BK1232 := am_ (blk_below (g := gb1232) (o := .cells #[.int .i64 a1_0,.int .i64 a1_1,.bool true,.int .i64 a1_3,.int .i64 a1_4,.int .i64 a1_5,.int .i64 a1_6,.string a1_7,.slice (some ad1238) l1_8.length c1_8,.slice A1_9 l1_9.length c1_9] 88 (0,0)) (zq BK1232) hb);replace BK1239 := am_ (blk_below (g := gb1239) (o := .cells #[.int .i64 ((rd_T73 l1_8 x76_3).f0),.int .i64 ((rd_T73 l1_8 x76_3).f1),.int .i64 ((rd_T73 l1_8 x76_3).f2),.int .i64 ((rd_T73 l1_8 x76_3).f3.f0),.int .i64 ((rd_T73 l1_8 x76_3).f3.f1),.int .i64 ((rd_T73 l1_8 x76_3).f3.f2),.int .i64 ((rd_T73 l1_8 x76_3).f3.f3),.string ((rd_T73 l1_8 x76_3).f4)] 73 (0,0)) (zq BK1239) hb);replace HB := zs_ HB hb;(try clear hb);(try clear hb2);(try clear hk);(try clear hi);obtain ⟨hcz48_0,hcz48_1,hcz48_2,hcz48_3,hcz48_4,hcz48_5,hcz48_6,hcz48_7,hfz48_0,hfz48_1,hfz48_2,hfz48_3,hfz48_4,hfz48_5,hfz48_6,hfz48_7⟩ := zc8 BK1239;obtain ⟨hcz49_0,hcz49_1,hcz49_2,hcz49_3,hcz49_4,hcz49_5,hcz49_6,hcz49_7,hcz49_8,hcz49_9,hfz49_0,hfz49_1,hfz49_2,hfz49_3,hfz49_4,hfz49_5,hfz49_6,hfz49_7,hfz49_8,hfz49_9⟩ := zc10 BK1232))
                go_ret
                exact ⟨zt_,zl_ HB⟩
              ·rw [if_neg c36] at H
               have c36b0 : (((rd_T73 l1_8 x76_3).f1) == a1_0) = false := beq_eq_false_iff_ne.mpr c36
               have c36b1 : (((rd_T73 l1_8 x76_3).f1) != a1_0) = true := bne_iff_ne.mpr c36
               obtain rfl := Option.some.inj H
               have p1238 : 0 ≤ (x76_3 : Int) := zo_
               have q1238 : x76_3 < (l1_8.length : Int) := zo_
               obtain ⟨ad1238,e1238,hx1238_0,hx1238_1,hx1238_2,hx1238_3,hx1238_4,hx1238_5,hx1238_6,hx1238_7⟩ := at_T73 HR1_8.out x76_3 p1238 q1238
               cases e1238
               replace hx1238_0 := zx_ HB hx1238_0
               replace hx1238_1 := zx_ HB hx1238_1
               replace hx1238_2 := zx_ HB hx1238_2
               replace hx1238_3 := zx_ HB hx1238_3
               replace hx1238_4 := zx_ HB hx1238_4
               replace hx1238_5 := zx_ HB hx1238_5
               replace hx1238_6 := zx_ HB hx1238_6
               replace hx1238_7 := zx_ HB hx1238_7
               replace p1238 := eq_true p1238
               replace q1238 := eq_true q1238
               go_wp2_with (first | ((with_reducible refine gate_dst (N := 6) rfl ?_);(try (refine gate_guard (by rfl) ?_;dsimp only));refine zbx (N := 6) (cs := #[.int .i64 0,.int .i64 0,.int .i64 0,.int .i64 0,.int .i64 0,.int .i64 0,.int .i64 0,.string ⟨#[]⟩]) (t := 73) ?_;intro gb1239 hg w50 hbox hb;have BK1239 := am_ (hbox);have GW1239 := zw_ HB hg;have GE1239 := zw_ HB hg;replace HB := zs_ HB hb;have NB1232_1239 := zl hg BK1232;have NB1239_1232 := zg hg BK1232;replace BK1232 := zb BK1232 hb;clear hb hbox hg;have hnb51 := NB1239_1232.out;have hnc51 := NB1232_1239.out;obtain ⟨hcz52_0,hcz52_1,hcz52_2,hcz52_3,hcz52_4,hcz52_5,hcz52_6,hcz52_7,hfz52_0,hfz52_1,hfz52_2,hfz52_3,hfz52_4,hfz52_5,hfz52_6,hfz52_7⟩ := zc8 BK1239) | ((with_reducible refine gate_callee (f := 41) rfl ?_);refine zgl (some 82) Tryd.func41 #[.int .i64 a0,.agg #[.int .i64 ((rd_T73 l1_8 x76_3).f0),.int .i64 ((rd_T73 l1_8 x76_3).f1),.int .i64 ((rd_T73 l1_8 x76_3).f2),.int .i64 ((rd_T73 l1_8 x76_3).f3.f0),.int .i64 ((rd_T73 l1_8 x76_3).f3.f1),.int .i64 ((rd_T73 l1_8 x76_3).f3.f2),.int .i64 ((rd_T73 l1_8 x76_3).f3.f3),.string ((rd_T73 l1_8 x76_3).f4)]] ?_;(with_reducible refine (impl_ReplyOK.calls k3 a0 ((rd_T73 l1_8 x76_3).f0) ((rd_T73 l1_8 x76_3).f1) ((rd_T73 l1_8 x76_3).f2) ((rd_T73 l1_8 x76_3).f3.f0) ((rd_T73 l1_8 x76_3).f3.f1) ((rd_T73 l1_8 x76_3).f3.f2) ((rd_T73 l1_8 x76_3).f3.f3) ((rd_T73 l1_8 x76_3).f4) true _ ?side1 A34.out).mono ?_);(case side1 => exact HLD.out.on (zl_ HB));rintro e w53 ⟨rfl,hb⟩;refine ⟨_,rfl,?_⟩;replace BK1232 := am_ (blk_below (g := gb1232) (o := .cells #[.int .i64 a1_0,.int .i64 a1_1,.bool true,.int .i64 a1_3,.int .i64 a1_4,.int .i64 a1_5,.int .i64 a1_6,.string a1_7,.slice (some ad1238) l1_8.length c1_8,.slice A1_9 l1_9.length c1_9] 88 (0,0)) (zq BK1232) hb);replace BK1239 := am_ (blk_below (g := gb1239) (o := .cells #[.int .i64 ((rd_T73 l1_8 x76_3).f0),.int .i64 ((rd_T73 l1_8 x76_3).f1),.int .i64 ((rd_T73 l1_8 x76_3).f2),.int .i64 ((rd_T73 l1_8 x76_3).f3.f0),.int .i64 ((rd_T73 l1_8 x76_3).f3.f1),.int .i64 ((rd_T73 l1_8 x76_3).f3.f2),.int .i64 ((rd_T73 l1_8 x76_3).f3.f3),.string ((rd_T73 l1_8 x76_3).f4)] 73 (0,0)) (zq BK1239) hb);replace HB := zs_ HB hb;(try clear hb);(try clear hb2);(try clear hk);(try clear hi);obtain ⟨hcz54_0,hcz54_1,hcz54_2,hcz54_3,hcz54_4,hcz54_5,hcz54_6,hcz54_7,hfz54_0,hfz54_1,hfz54_2,hfz54_3,hfz54_4,hfz54_5,hfz54_6,hfz54_7⟩ := zc8 BK1239;obtain ⟨hcz55_0,hcz55_1,hcz55_2,hcz55_3,hcz55_4,hcz55_5,hcz55_6,hcz55_7,hcz55_8,hcz55_9,hfz55_0,hfz55_1,hfz55_2,hfz55_3,hfz55_4,hfz55_5,hfz55_6,hfz55_7,hfz55_8,hfz55_9⟩ := zc10 BK1232))
               go_ret
               exact ⟨zt_,zl_ HB⟩
             ·replace c35 := Bool.eq_false_iff.mpr c35
              subst c35
              have H1 : (some false) = some r := by rw [if_neg (show ¬ (false = true) by decide)] at H;exact H
              clear H
              have H := H1
              clear H1
              obtain rfl := Option.some.inj H
              have p1238 : 0 ≤ (x76_3 : Int) := zo_
              have q1238 : x76_3 < (l1_8.length : Int) := zo_
              obtain ⟨ad1238,e1238,hx1238_0,hx1238_1,hx1238_2,hx1238_3,hx1238_4,hx1238_5,hx1238_6,hx1238_7⟩ := at_T73 HR1_8.out x76_3 p1238 q1238
              cases e1238
              replace hx1238_0 := zx_ HB hx1238_0
              replace hx1238_1 := zx_ HB hx1238_1
              replace hx1238_2 := zx_ HB hx1238_2
              replace hx1238_3 := zx_ HB hx1238_3
              replace hx1238_4 := zx_ HB hx1238_4
              replace hx1238_5 := zx_ HB hx1238_5
              replace hx1238_6 := zx_ HB hx1238_6
              replace hx1238_7 := zx_ HB hx1238_7
              replace p1238 := eq_true p1238
              replace q1238 := eq_true q1238
              go_wp2_with (first | ((with_reducible refine gate_dst (N := 6) rfl ?_);(try (refine gate_guard (by rfl) ?_;dsimp only));refine zbx (N := 6) (cs := #[.int .i64 0,.int .i64 0,.int .i64 0,.int .i64 0,.int .i64 0,.int .i64 0,.int .i64 0,.string ⟨#[]⟩]) (t := 73) ?_;intro gb1239 hg w56 hbox hb;have BK1239 := am_ (hbox);have GW1239 := zw_ HB hg;have GE1239 := zw_ HB hg;replace HB := zs_ HB hb;have NB1232_1239 := zl hg BK1232;have NB1239_1232 := zg hg BK1232;clear hb hbox hg;have hnb57 := NB1239_1232.out;have hnc57 := NB1232_1239.out;obtain ⟨hcz58_0,hcz58_1,hcz58_2,hcz58_3,hcz58_4,hcz58_5,hcz58_6,hcz58_7,hfz58_0,hfz58_1,hfz58_2,hfz58_3,hfz58_4,hfz58_5,hfz58_6,hfz58_7⟩ := zc8 BK1239) | ((with_reducible refine gate_callee (f := 41) rfl ?_);refine zgl (some 82) Tryd.func41 #[.int .i64 a0,.agg #[.int .i64 ((rd_T73 l1_8 x76_3).f0),.int .i64 ((rd_T73 l1_8 x76_3).f1),.int .i64 ((rd_T73 l1_8 x76_3).f2),.int .i64 ((rd_T73 l1_8 x76_3).f3.f0),.int .i64 ((rd_T73 l1_8 x76_3).f3.f1),.int .i64 ((rd_T73 l1_8 x76_3).f3.f2),.int .i64 ((rd_T73 l1_8 x76_3).f3.f3),.string ((rd_T73 l1_8 x76_3).f4)]] ?_;(with_reducible refine (impl_ReplyOK.calls k3 a0 ((rd_T73 l1_8 x76_3).f0) ((rd_T73 l1_8 x76_3).f1) ((rd_T73 l1_8 x76_3).f2) ((rd_T73 l1_8 x76_3).f3.f0) ((rd_T73 l1_8 x76_3).f3.f1) ((rd_T73 l1_8 x76_3).f3.f2) ((rd_T73 l1_8 x76_3).f3.f3) ((rd_T73 l1_8 x76_3).f4) false _ ?side1 A34.out).mono ?_);(case side1 => exact HLD.out.on (zl_ HB));rintro e w59 ⟨rfl,hb⟩;refine ⟨_,rfl,?_⟩;replace HB := zs_ HB hb;(try clear hb);(try clear hb2);(try clear hk);(try clear hi)))
              go_ret
              exact ⟨zt_,zl_ HB⟩
            ·rw [if_neg c33] at H
             exact absurd H (by simp)
           ·rw [if_neg c32] at H
            exact absurd H (by simp)
          ·rw [if_neg c31] at H
           have c31b0 : decide (x76_3 < (l1_8.length : Int)) = false := decide_eq_false c31
           clear c31
           replace H := Option.bind_eq_some_iff.mp H
           obtain ⟨⟨t1241,t1242,t1243,t1244,t1245⟩,A600,H⟩ := H
           try dsimp only at H
           have A60 := am_ A600
           clear A600
           obtain rfl := Option.some.inj H
           obtain ⟨hcz61_0,hcz61_1,hcz61_2,hcz61_3,hcz61_4,hcz61_5,hcz61_6,hcz61_7,hcz61_8,hcz61_9,hfz61_0,hfz61_1,hfz61_2,hfz61_3,hfz61_4,hfz61_5,hfz61_6,hfz61_7,hfz61_8,hfz61_9⟩ := zc10 BK1232
           go_wp2_with (first | ((with_reducible refine gate_callee (f := 86) rfl ?_);refine zgl (some 107) Tryd.func86 #[.int .i64 a0,.int .i64 a1_0,.int .i64 a1_1,.slice A1_8 l1_8.length c1_8] ?_;(with_reducible refine (impl_decided.calls k3 a0 a1_0 a1_1 _ _ l1_8 t1241 t1242 t1243 t1244 t1245 _ ?side1 ?side2 ?side3 A60.out).mono ?_);(case side1 => exact zc_ HR1_8 HB);(case side2 => exact HC1_8.out);(case side3 => exact HLD.out.on (zl_ HB));rintro e w62 ⟨rfl,hb⟩;refine ⟨_,rfl,?_⟩;replace BK1232 := zb BK1232 hb;replace HB := zs_ HB hb;(try clear hb);(try clear hb2);(try clear hk);(try clear hi)) | ((with_reducible refine gate_dst (N := 7) rfl ?_);(try (refine gate_guard (by rfl) ?_;dsimp only));refine zbx (N := 7) (cs := #[.int .i64 0,.int .i64 0,.int .i64 0,.int .i64 0]) (t := 63) ?_;intro gb1246 hg w63 hbox hb;have BK1246 := am_ (hbox);have GW1246 := zw_ HB hg;have GE1246 := zw_ HB hg;replace HB := zs_ HB hb;have NB1232_1246 := zl hg BK1232;have NB1246_1232 := zg hg BK1232;clear hb hbox hg;have hnb64 := NB1246_1232.out;have hnc64 := NB1232_1246.out;obtain ⟨hcz65_0,hcz65_1,hcz65_2,hcz65_3,hfz65_0,hfz65_1,hfz65_2,hfz65_3⟩ := zc4 BK1246))
           go_ret
           exact ⟨zt_,zl_ HB⟩
    ·replace c17 := Bool.eq_false_iff.mpr c17
     subst c17
     have H1 : (if (l1_9.length : Int) = a1_1 then (if (a1_3 == 0 && (a1_4 == 0 && (a1_5 == 0 && (a1_6 == 0 && (a1_7.toList == ([] : List UInt8)))))) = true then (some ((l1_8.length : Int) == 0)) else (some false)) else (some false)) = some r := by rw [if_neg (show ¬ (false = true) by decide)] at H;exact H
     clear H
     have H := H1
     clear H1
     by_cases c66 : (l1_9.length : Int) = a1_1
     ·rw [if_pos c66] at H
      have c66b0 : ((l1_9.length : Int) == a1_1) = true := beq_iff_eq.mpr c66
      have c66b1 : ((l1_9.length : Int) != a1_1) = false := bne_eq_false_iff_eq.mpr c66
      clear c66
      by_cases c67 : (a1_3 == 0 && (a1_4 == 0 && (a1_5 == 0 && (a1_6 == 0 && (a1_7.toList == ([] : List UInt8)))))) = true
      ·rw [if_pos c67] at H
       have c67k := am_ c67
       have c67b0 : (a1_3 == 0 && (a1_4 == 0 && (a1_5 == 0 && (a1_6 == 0 && (a1_7.toList == ([] : List UInt8)))))) = true := c67k.out
       (try (have c67b1 : decide (a1_3 = 0 && (a1_4 == 0 && (a1_5 == 0 && (a1_6 == 0 && (a1_7.toList == ([] : List UInt8)))))) = true := by simpa using c67k.out))
       (try (have c67b2 : (a1_3 == 0 && (a1_4 == 0 && (a1_5 == 0 && (a1_6 == 0 && (a1_7.toList == ([] : List UInt8)))))) = true := by simpa using c67k.out))
       (try have c67e0 := c67b0;simp only [e3_,e4_] at c67e0)
       (try have c67e1 := c67b1;simp only [e3_,e4_] at c67e1)
       (try have c67e2 := c67b2;simp only [e3_,e4_] at c67e2)
       (try simp only [*,Bool.not_true,Bool.not_false,Bool.false_or,Bool.true_or,Bool.or_false,Bool.or_true,Bool.true_and,Bool.and_true,Bool.false_and,Bool.and_false] at c67)
       have c67bs := c67
       clear c67k
       clear c67
       obtain rfl := Option.some.inj H
       obtain ⟨hcz68_0,hcz68_1,hcz68_2,hcz68_3,hcz68_4,hcz68_5,hcz68_6,hcz68_7,hcz68_8,hcz68_9,hfz68_0,hfz68_1,hfz68_2,hfz68_3,hfz68_4,hfz68_5,hfz68_6,hfz68_7,hfz68_8,hfz68_9⟩ := zc10 BK1232
       go_wp2
       go_ret
       exact ⟨zt_,zl_ HB⟩
      ·rw [if_neg c67] at H
       have c67k := am_ c67
       have c67b0 : (a1_3 == 0 && (a1_4 == 0 && (a1_5 == 0 && (a1_6 == 0 && (a1_7.toList == ([] : List UInt8)))))) = false := by simpa using c67k.out
       (try (have c67b1 : decide (a1_3 = 0 && (a1_4 == 0 && (a1_5 == 0 && (a1_6 == 0 && (a1_7.toList == ([] : List UInt8)))))) = false := by simpa using c67k.out))
       (try (have c67b2 : (a1_3 == 0 && (a1_4 == 0 && (a1_5 == 0 && (a1_6 == 0 && (a1_7.toList == ([] : List UInt8)))))) = false := by simpa using c67k.out))
       (try (have c67b3 : ¬ (a1_3 = 0 && (a1_4 == 0 && (a1_5 == 0 && (a1_6 == 0 && (a1_7.toList == ([] : List UInt8)))))) := by simpa using c67k.out))
       (try have c67e0 := c67b0;simp only [e3_,e4_] at c67e0)
       (try have c67e1 := c67b1;simp only [e3_,e4_] at c67e1)
       (try have c67e2 := c67b2;simp only [e3_,e4_] at c67e2)
       (try have c67e3 := c67b3;simp only [e3_,e4_] at c67e3)
       (try simp only [*,Bool.not_true,Bool.not_false,Bool.false_or,Bool.true_or,Bool.or_false,Bool.or_true,Bool.true_and,Bool.and_true,Bool.false_and,Bool.and_false] at c67)
       have c67bs := c67
       clear c67k
       clear c67
       obtain rfl := Option.some.inj H
       obtain ⟨hcz69_0,hcz69_1,hcz69_2,hcz69_3,hcz69_4,hcz69_5,hcz69_6,hcz69_7,hcz69_8,hcz69_9,hfz69_0,hfz69_1,hfz69_2,hfz69_3,hfz69_4,hfz69_5,hfz69_6,hfz69_7,hfz69_8,hfz69_9⟩ := zc10 BK1232
       go_wp2
       go_ret
       exact ⟨zt_,zl_ HB⟩
     ·rw [if_neg c66] at H
      have c66b0 : ((l1_9.length : Int) == a1_1) = false := beq_eq_false_iff_ne.mpr c66
      have c66b1 : ((l1_9.length : Int) != a1_1) = true := bne_iff_ne.mpr c66
      obtain rfl := Option.some.inj H
      obtain ⟨hcz70_0,hcz70_1,hcz70_2,hcz70_3,hcz70_4,hcz70_5,hcz70_6,hcz70_7,hcz70_8,hcz70_9,hfz70_0,hfz70_1,hfz70_2,hfz70_3,hfz70_4,hfz70_5,hfz70_6,hfz70_7,hfz70_8,hfz70_9⟩ := zc10 BK1232
      go_wp2
      go_ret
      exact ⟨zt_,zl_ HB⟩
end Go.Proofs.YtlifdodphkimpaaDoor.B
end

section
namespace Go.Proofs.YtlifdodphkimpaaDoor.B
open Go.RowKit Go.Proofs.YtlifdodphkimpaaDoorW.PrintWords Go.Proofs.YtlifdodphkimpaaDoorW.PrintLast Go.Proofs.YtlifdodphkimpaaDoorW.PrintMore
attribute [local go_sem] max2_int min2_int max_two min_two max_three min_three max_four min_four
set_option maxHeartbeats 8000000 in
set_option maxRecDepth 100000 in
theorem laws_eqAnswer.calls (a0_0 : Int) (a0_1 : Int) (a0_2 : Int) (a0_3 : Int) (a1_0 : Int) (a1_1 : Int) (a1_2 : Int) (a1_3 : Int) (r : Bool) (w : World) (h : laws_eqAnswer.f a0_0 a0_1 a0_2 a0_3 a1_0 a1_1 a1_2 a1_3 = some r) :
  Calls Tryd.prog 35 #[.agg #[.int .i64 a0_0,.int .i64 a0_1,.int .i64 a0_2,.int .i64 a0_3],.agg #[.int .i64 a1_0,.int .i64 a1_1,.int .i64 a1_2,.int .i64 a1_3]] w fun e w' => e = .returned (.bool r) ∧ Below w.heap.size w w' := by
 have hu63 := Tryd.underlying63
 have HB := am_ (Below.refl w.heap.size w)
 have H : (if a0_0 = a1_0 then (if a0_1 = a1_1 then (if a0_2 = a1_2 then (if a0_3 = a1_3 then (some true) else (some false)) else (some false)) else (some false)) else (some false)) = some r := h
 clear h
 by_cases c3 : a0_0 = a1_0
 ·rw [if_pos c3] at H
  have c3b0 : (a0_0 == a1_0) = true := beq_iff_eq.mpr c3
  have c3b1 : (a0_0 != a1_0) = false := bne_eq_false_iff_eq.mpr c3
  clear c3
  by_cases c4 : a0_1 = a1_1
  ·rw [if_pos c4] at H
   have c4b0 : (a0_1 == a1_1) = true := beq_iff_eq.mpr c4
   have c4b1 : (a0_1 != a1_1) = false := bne_eq_false_iff_eq.mpr c4
   clear c4
   by_cases c5 : a0_2 = a1_2
   ·rw [if_pos c5] at H
    have c5b0 : (a0_2 == a1_2) = true := beq_iff_eq.mpr c5
    have c5b1 : (a0_2 != a1_2) = false := bne_eq_false_iff_eq.mpr c5
    clear c5
    by_cases c6 : a0_3 = a1_3
    ·rw [if_pos c6] at H
     have c6b0 : (a0_3 == a1_3) = true := beq_iff_eq.mpr c6
     have c6b1 : (a0_3 != a1_3) = false := bne_eq_false_iff_eq.mpr c6
     clear c6
     obtain rfl := Option.some.inj H
     go_enter Tryd.func35,Tryd.ntmps35
     go_wp2_with (first | ((with_reducible refine gate_dst (N := 2) rfl ?_);refine zbx (N := 2) (cs := #[.int .i64 a0_0,.int .i64 a0_1,.int .i64 a0_2,.int .i64 a0_3]) (t := 63) ?_;intro gb1026 hg w7 hbox hb;have BK1026 := am_ (hbox);have GW1026 := zw_ HB hg;have GE1026 := zw_ HB hg;replace HB := zs_ HB hb;clear hb hbox hg) | ((with_reducible refine gate_dst (N := 3) rfl ?_);refine zbx (N := 3) (cs := #[.int .i64 a1_0,.int .i64 a1_1,.int .i64 a1_2,.int .i64 a1_3]) (t := 63) ?_;intro gb1027 hg w8 hbox hb;have BK1027 := am_ (hbox);have GW1027 := zw_ HB hg;have GE1027 := zw_ HB hg;replace HB := zs_ HB hb;have NB1026_1027 := zl hg BK1026;have NB1027_1026 := zg hg BK1026;replace BK1026 := zb BK1026 hb;clear hb hbox hg;have hnb9 := NB1026_1027.out;have hnc9 := NB1027_1026.out;obtain ⟨hcz10_0,hcz10_1,hcz10_2,hcz10_3,hfz10_0,hfz10_1,hfz10_2,hfz10_3⟩ := zc4 BK1026;obtain ⟨hcz11_0,hcz11_1,hcz11_2,hcz11_3,hfz11_0,hfz11_1,hfz11_2,hfz11_3⟩ := zc4 BK1027))
     go_ret
     exact ⟨zt_,zl_ HB⟩
    ·rw [if_neg c6] at H
     have c6b0 : (a0_3 == a1_3) = false := beq_eq_false_iff_ne.mpr c6
     have c6b1 : (a0_3 != a1_3) = true := bne_iff_ne.mpr c6
     obtain rfl := Option.some.inj H
     go_enter Tryd.func35,Tryd.ntmps35
     go_wp2_with (first | ((with_reducible refine gate_dst (N := 2) rfl ?_);refine zbx (N := 2) (cs := #[.int .i64 a0_0,.int .i64 a0_1,.int .i64 a0_2,.int .i64 a0_3]) (t := 63) ?_;intro gb1026 hg w12 hbox hb;have BK1026 := am_ (hbox);have GW1026 := zw_ HB hg;have GE1026 := zw_ HB hg;replace HB := zs_ HB hb;clear hb hbox hg) | ((with_reducible refine gate_dst (N := 3) rfl ?_);refine zbx (N := 3) (cs := #[.int .i64 a1_0,.int .i64 a1_1,.int .i64 a1_2,.int .i64 a1_3]) (t := 63) ?_;intro gb1027 hg w13 hbox hb;have BK1027 := am_ (hbox);have GW1027 := zw_ HB hg;have GE1027 := zw_ HB hg;replace HB := zs_ HB hb;have NB1026_1027 := zl hg BK1026;have NB1027_1026 := zg hg BK1026;replace BK1026 := zb BK1026 hb;clear hb hbox hg;have hnb14 := NB1026_1027.out;have hnc14 := NB1027_1026.out;obtain ⟨hcz15_0,hcz15_1,hcz15_2,hcz15_3,hfz15_0,hfz15_1,hfz15_2,hfz15_3⟩ := zc4 BK1026;obtain ⟨hcz16_0,hcz16_1,hcz16_2,hcz16_3,hfz16_0,hfz16_1,hfz16_2,hfz16_3⟩ := zc4 BK1027))
     go_ret
     exact ⟨zt_,zl_ HB⟩
   ·rw [if_neg c5] at H
    have c5b0 : (a0_2 == a1_2) = false := beq_eq_false_iff_ne.mpr c5
    have c5b1 : (a0_2 != a1_2) = true := bne_iff_ne.mpr c5
    obtain rfl := Option.some.inj H
    go_enter Tryd.func35,Tryd.ntmps35
    go_wp2_with (first | ((with_reducible refine gate_dst (N := 2) rfl ?_);refine zbx (N := 2) (cs := #[.int .i64 a0_0,.int .i64 a0_1,.int .i64 a0_2,.int .i64 a0_3]) (t := 63) ?_;intro gb1026 hg w17 hbox hb;have BK1026 := am_ (hbox);have GW1026 := zw_ HB hg;have GE1026 := zw_ HB hg;replace HB := zs_ HB hb;clear hb hbox hg) | ((with_reducible refine gate_dst (N := 3) rfl ?_);refine zbx (N := 3) (cs := #[.int .i64 a1_0,.int .i64 a1_1,.int .i64 a1_2,.int .i64 a1_3]) (t := 63) ?_;intro gb1027 hg w18 hbox hb;have BK1027 := am_ (hbox);have GW1027 := zw_ HB hg;have GE1027 := zw_ HB hg;replace HB := zs_ HB hb;have NB1026_1027 := zl hg BK1026;have NB1027_1026 := zg hg BK1026;replace BK1026 := zb BK1026 hb;clear hb hbox hg;have hnb19 := NB1026_1027.out;have hnc19 := NB1027_1026.out;obtain ⟨hcz20_0,hcz20_1,hcz20_2,hcz20_3,hfz20_0,hfz20_1,hfz20_2,hfz20_3⟩ := zc4 BK1026;obtain ⟨hcz21_0,hcz21_1,hcz21_2,hcz21_3,hfz21_0,hfz21_1,hfz21_2,hfz21_3⟩ := zc4 BK1027))
    go_ret
    exact ⟨zt_,zl_ HB⟩
  ·rw [if_neg c4] at H
   have c4b0 : (a0_1 == a1_1) = false := beq_eq_false_iff_ne.mpr c4
   have c4b1 : (a0_1 != a1_1) = true := bne_iff_ne.mpr c4
   obtain rfl := Option.some.inj H
   go_enter Tryd.func35,Tryd.ntmps35
   go_wp2_with (first | ((with_reducible refine gate_dst (N := 2) rfl ?_);refine zbx (N := 2) (cs := #[.int .i64 a0_0,.int .i64 a0_1,.int .i64 a0_2,.int .i64 a0_3]) (t := 63) ?_;intro gb1026 hg w22 hbox hb;have BK1026 := am_ (hbox);have GW1026 := zw_ HB hg;have GE1026 := zw_ HB hg;replace HB := zs_ HB hb;clear hb hbox hg) | ((with_reducible refine gate_dst (N := 3) rfl ?_);refine zbx (N := 3) (cs := #[.int .i64 a1_0,.int .i64 a1_1,.int .i64 a1_2,.int .i64 a1_3]) (t := 63) ?_;intro gb1027 hg w23 hbox hb;have BK1027 := am_ (hbox);have GW1027 := zw_ HB hg;have GE1027 := zw_ HB hg;replace HB := zs_ HB hb;have NB1026_1027 := zl hg BK1026;have NB1027_1026 := zg hg BK1026;replace BK1026 := zb BK1026 hb;clear hb hbox hg;have hnb24 := NB1026_1027.out;have hnc24 := NB1027_1026.out;obtain ⟨hcz25_0,hcz25_1,hcz25_2,hcz25_3,hfz25_0,hfz25_1,hfz25_2,hfz25_3⟩ := zc4 BK1026;obtain ⟨hcz26_0,hcz26_1,hcz26_2,hcz26_3,hfz26_0,hfz26_1,hfz26_2,hfz26_3⟩ := zc4 BK1027))
   go_ret
   exact ⟨zt_,zl_ HB⟩
 ·rw [if_neg c3] at H
  have c3b0 : (a0_0 == a1_0) = false := beq_eq_false_iff_ne.mpr c3
  have c3b1 : (a0_0 != a1_0) = true := bne_iff_ne.mpr c3
  obtain rfl := Option.some.inj H
  go_enter Tryd.func35,Tryd.ntmps35
  go_wp2_with (first | ((with_reducible refine gate_dst (N := 2) rfl ?_);refine zbx (N := 2) (cs := #[.int .i64 a0_0,.int .i64 a0_1,.int .i64 a0_2,.int .i64 a0_3]) (t := 63) ?_;intro gb1026 hg w27 hbox hb;have BK1026 := am_ (hbox);have GW1026 := zw_ HB hg;have GE1026 := zw_ HB hg;replace HB := zs_ HB hb;clear hb hbox hg) | ((with_reducible refine gate_dst (N := 3) rfl ?_);refine zbx (N := 3) (cs := #[.int .i64 a1_0,.int .i64 a1_1,.int .i64 a1_2,.int .i64 a1_3]) (t := 63) ?_;intro gb1027 hg w28 hbox hb;have BK1027 := am_ (hbox);have GW1027 := zw_ HB hg;have GE1027 := zw_ HB hg;replace HB := zs_ HB hb;have NB1026_1027 := zl hg BK1026;have NB1027_1026 := zg hg BK1026;replace BK1026 := zb BK1026 hb;clear hb hbox hg;have hnb29 := NB1026_1027.out;have hnc29 := NB1027_1026.out;obtain ⟨hcz30_0,hcz30_1,hcz30_2,hcz30_3,hfz30_0,hfz30_1,hfz30_2,hfz30_3⟩ := zc4 BK1026;obtain ⟨hcz31_0,hcz31_1,hcz31_2,hcz31_3,hfz31_0,hfz31_1,hfz31_2,hfz31_3⟩ := zc4 BK1027))
  go_ret
  exact ⟨zt_,zl_ HB⟩
def laws_eqAnswerS.T6 : Bool × List (List Nat × List Nat) := (true,[([],[]),([],[]),([0,1],[0,1]),([2],[2]),([],[]),([],[]),([4,5],[4,5]),([6],[6]),([3,7],[3,7]),([8],[8])])
def laws_eqAnswerS.B6 : List Nat := [0,0,3,7,0,0,48,112,255,511]
theorem laws_eqAnswerS.tab6 : rtab .any (opsOf Tryd.f105 6) = laws_eqAnswerS.T6 := by kernel_rfl
theorem laws_eqAnswerS.bits6 : waitsOk laws_eqAnswerS.T6.2 laws_eqAnswerS.B6 = true := by kernel_rfl
set_option maxHeartbeats 8000000 in
set_option maxRecDepth 100000 in
theorem laws_eqAnswerS.calls (k : Nat) (A0 : Option Addr) (c0 : Nat) (l0 : List (S63)) (A1 : Option Addr) (c1 : Nat) (l1 : List (S63)) (r : Bool) (w : World) (hr0 : Kd.C k63 w A0 l0.length l0) (hc0 : l0.length ≤ c0) (hr1 : Kd.C k63 w A1 l1.length l1) (hc1 : l1.length ≤ c1) (h : laws_eqAnswerS.f k l0 l1 = some r) :
  Calls Tryd.prog 105 #[.slice A0 l0.length c0,.slice A1 l1.length c1] w fun e w' => e = .returned (.bool r) ∧ Below w.heap.size w w' := by
 have hu63 := Tryd.underlying63
 have HR0 := am_ hr0
 have HC0 := am_ hc0
 clear hr0 hc0
 have HR1 := am_ hr1
 have HC1 := am_ hc1
 clear hr1 hc1
 have HB := am_ (Below.refl w.heap.size w)
 have H : (if (l0.length : Int) = (l1.length : Int) then (laws_eqAnswerS.l0 k l0 l1 0) else (some false)) = some r := h
 clear h
 by_cases c3 : (l0.length : Int) = (l1.length : Int)
 ·rw [if_pos c3] at H
  have c3b0 : ((l0.length : Int) == (l1.length : Int)) = true := beq_iff_eq.mpr c3
  have c3b1 : ((l0.length : Int) != (l1.length : Int)) = false := bne_eq_false_iff_eq.mpr c3
  have c3b2 : (l0.length == l1.length) = true := by first | simpa using c3 | (simp at c3 ⊢;omega)
  clear c3
  have H' := am_ H
  clear H
  go_enter Tryd.func105,Tryd.ntmps105
  go_wp2
  go_loopg [5] k (fun kq v5 w' => ∃ (x5_1 : Int),v5 = .int .i64 x5_1 ∧ Aside0 (laws_eqAnswerS.l0 kq l0 l1 x5_1 = some r) ∧ Aside0 (kq ≤ k) ∧ Aside0 (Below w.heap.size w w'))
  case atStart => exact ⟨(0),(by first | rfl | (simp;done) | (simp [*];done)),H',⟨Nat.le_refl _⟩,⟨zl_ HB⟩⟩
  case round =>
   clear H'
   try clear c1
   try clear p2
   try clear c3
   try clear c3b0
   try clear c3b1
   try clear c3b2
   obtain ⟨x5_1,rfl,HA,HK1,HB⟩ := hrel
   cases gk with
   | zero => exact absurd HA.out (by simp [laws_eqAnswerS.l0])
   | succ k1 =>
    have H := HA.out
    clear HA
    simp only [laws_eqAnswerS.l0] at H
    by_cases c4 : x5_1 < (l0.length : Int)
    ·rw [if_pos c4] at H
     have c4b0 : decide (x5_1 < (l0.length : Int)) = true := decide_eq_true c4
     clear c4
     by_cases c5 : 0 ≤ x5_1
     ·rw [if_pos c5] at H
      have c5b0 : decide (0 ≤ x5_1) = true := decide_eq_true c5
      clear c5
      by_cases c6 : x5_1 < (l1.length : Int)
      ·rw [if_pos c6] at H
       have c6b0 : decide (x5_1 < (l1.length : Int)) = true := decide_eq_true c6
       clear c6
       replace H := Option.bind_eq_some_iff.mp H
       obtain ⟨t1251,A70,H⟩ := H
       try dsimp only at H
       have A7 := am_ A70
       clear A70
       by_cases c8 : t1251 = true
       ·subst c8
        have H1 : (laws_eqAnswerS.l0 k1 l0 l1 (wrap64 (x5_1 + 1))) = some r := by rw [if_pos rfl] at H;exact H
        clear H
        have H := H1
        clear H1
        have H' := am_ H
        clear H
        try go_wp2
        replace HB := am_ (below_drew1 HB.out)
        have p1249 : 0 ≤ (x5_1 : Int) := zo_
        have q1249 : x5_1 < (l0.length : Int) := zo_
        obtain ⟨ad1249,e1249,hx1249_0,hx1249_1,hx1249_2,hx1249_3⟩ := at_T63 HR0.out x5_1 p1249 q1249
        have hw1249_3 := hx1249_3
        have hw1249_2 := hx1249_2
        have hw1249_1 := hx1249_1
        have hw1249_0 := hx1249_0
        cases e1249
        replace hx1249_0 := zx_ HB hx1249_0
        replace hx1249_1 := zx_ HB hx1249_1
        replace hx1249_2 := zx_ HB hx1249_2
        replace hx1249_3 := zx_ HB hx1249_3
        replace p1249 := eq_true p1249
        replace q1249 := eq_true q1249
        have p1250 : 0 ≤ (x5_1 : Int) := zo_
        have q1250 : x5_1 < (l1.length : Int) := zo_
        obtain ⟨ad1250,e1250,hx1250_0,hx1250_1,hx1250_2,hx1250_3⟩ := at_T63 HR1.out x5_1 p1250 q1250
        have hw1250_3 := hx1250_3
        have hw1250_2 := hx1250_2
        have hw1250_1 := hx1250_1
        have hw1250_0 := hx1250_0
        cases e1250
        replace hx1250_0 := zx_ HB hx1250_0
        replace hx1250_1 := zx_ HB hx1250_1
        replace hx1250_2 := zx_ HB hx1250_2
        replace hx1250_3 := zx_ HB hx1250_3
        replace p1250 := eq_true p1250
        replace q1250 := eq_true q1250
        refine start_ (n := 10) (S := fun w' => w'.cell? (ad1249.add ((x5_1).toNat * 4)) = some (.int .i64 ((rd_T63 l0 x5_1).f0)) ∧ w'.cell? ⟨(ad1249.add ((x5_1).toNat * 4)).block,(ad1249.add ((x5_1).toNat * 4)).off + 1,none⟩ = some (.int .i64 ((rd_T63 l0 x5_1).f1)) ∧ w'.cell? ⟨(ad1249.add ((x5_1).toNat * 4)).block,(ad1249.add ((x5_1).toNat * 4)).off + 2,none⟩ = some (.int .i64 ((rd_T63 l0 x5_1).f2)) ∧ w'.cell? ⟨(ad1249.add ((x5_1).toNat * 4)).block,(ad1249.add ((x5_1).toNat * 4)).off + 3,none⟩ = some (.int .i64 ((rd_T63 l0 x5_1).f3)) ∧ w'.cell? (ad1250.add ((x5_1).toNat * 4)) = some (.int .i64 ((rd_T63 l1 x5_1).f0)) ∧ w'.cell? ⟨(ad1250.add ((x5_1).toNat * 4)).block,(ad1250.add ((x5_1).toNat * 4)).off + 1,none⟩ = some (.int .i64 ((rd_T63 l1 x5_1).f1)) ∧ w'.cell? ⟨(ad1250.add ((x5_1).toNat * 4)).block,(ad1250.add ((x5_1).toNat * 4)).off + 2,none⟩ = some (.int .i64 ((rd_T63 l1 x5_1).f2)) ∧ w'.cell? ⟨(ad1250.add ((x5_1).toNat * 4)).block,(ad1250.add ((x5_1).toNat * 4)).off + 3,none⟩ = some (.int .i64 ((rd_T63 l1 x5_1).f3))) (ds := []) #[false,false,false,false,false,false,false,false,false,false] (by kernel_rfl) rfl rfl ⟨(zx_ HB hw1249_0),(zx_ HB hw1249_1),(zx_ HB hw1249_2),(zx_ HB hw1249_3),(zx_ HB hw1250_0),(zx_ HB hw1250_1),(zx_ HB hw1250_2),(zx_ HB hw1250_3)⟩ (fun hHeld => ?_);refine with_tabW laws_eqAnswerS.tab6 laws_eqAnswerS.bits6 (fun HT_ HW_ => ?_)
        generalize wr.drew = w9 at HB hx1249_0 hx1249_1 hx1249_2 hx1249_3 hx1250_0 hx1250_1 hx1250_2 hx1250_3 hHeld ⊢
        refine zpu 0 (N := some 17) HT_ ?_
        refine zpu 1 (N := some 18) HT_ ?_
        refine zpu 2 (N := some 19) HT_ ?_
        refine zpu 4 (N := some 21) HT_ ?_
        refine zpu 5 (N := some 22) HT_ ?_
        refine zpu 6 (N := some 23) HT_ ?_
        refine ztk 3 (N := some 20) HT_ HW_ hHeld ?_
        refine ztk 7 (N := some 24) HT_ HW_ hHeld ?_
        refine zon 8 (N := some 25) HT_ (fun K hK => ?_)
        refine zgo Tryd.func35 #[.agg #[.int .i64 ((rd_T63 l0 x5_1).f0),.int .i64 ((rd_T63 l0 x5_1).f1),.int .i64 ((rd_T63 l0 x5_1).f2),.int .i64 ((rd_T63 l0 x5_1).f3)],.agg #[.int .i64 ((rd_T63 l1 x5_1).f0),.int .i64 ((rd_T63 l1 x5_1).f1),.int .i64 ((rd_T63 l1 x5_1).f2),.int .i64 ((rd_T63 l1 x5_1).f3)]] ?_
        with_reducible refine (laws_eqAnswer.calls ((rd_T63 l0 x5_1).f0) ((rd_T63 l0 x5_1).f1) ((rd_T63 l0 x5_1).f2) ((rd_T63 l0 x5_1).f3) ((rd_T63 l1 x5_1).f0) ((rd_T63 l1 x5_1).f1) ((rd_T63 l1 x5_1).f2) ((rd_T63 l1 x5_1).f3) true _ A7.out).mono ?_
        rintro e w10 ⟨rfl,hb⟩
        refine ⟨_,rfl,?_⟩
        replace HB := zs_ HB hb
        (try clear hb)
        (try clear hb2)
        (try clear hk)
        (try clear hi)
        refine hK.out _ _ ⟨(zx_ HB hw1249_0),(zx_ HB hw1249_1),(zx_ HB hw1249_2),(zx_ HB hw1249_3),(zx_ HB hw1250_0),(zx_ HB hw1250_1),(zx_ HB hw1250_2),(zx_ HB hw1250_3)⟩ (fun hHeld => ?_)
        clear hK K
        refine norm_ (a' := ?_) ?_ ?_
        rotate_left
        ·show Act.put _ (some 25) _ = _
         simp only [Act.put,p1_,p2_,p3_,i64_w,i32_w]
         rfl
        refine zpu 9 (N := some 26) HT_ ?_
        refine done_ (done_of HT_.out (by kernel_rfl)) ?_
        try go_wp2
        go_roundg k1
        case measure => have := HK1.out;omega
        case rel => exact ⟨(wrap64 (x5_1 + 1)),(by first | rfl | (simp;done) | (simp [*];done)),H',⟨by have := HK1.out;omega⟩,⟨zl_ HB⟩⟩
       ·replace c8 := Bool.eq_false_iff.mpr c8
        subst c8
        have H1 : (some false) = some r := by rw [if_neg (show ¬ (false = true) by decide)] at H;exact H
        clear H
        have H := H1
        clear H1
        obtain rfl := Option.some.inj H
        try go_wp2
        replace HB := am_ (below_drew1 HB.out)
        have p1249 : 0 ≤ (x5_1 : Int) := zo_
        have q1249 : x5_1 < (l0.length : Int) := zo_
        obtain ⟨ad1249,e1249,hx1249_0,hx1249_1,hx1249_2,hx1249_3⟩ := at_T63 HR0.out x5_1 p1249 q1249
        have hw1249_3 := hx1249_3
        have hw1249_2 := hx1249_2
        have hw1249_1 := hx1249_1
        have hw1249_0 := hx1249_0
        cases e1249
        replace hx1249_0 := zx_ HB hx1249_0
        replace hx1249_1 := zx_ HB hx1249_1
        replace hx1249_2 := zx_ HB hx1249_2
        replace hx1249_3 := zx_ HB hx1249_3
        replace p1249 := eq_true p1249
        replace q1249 := eq_true q1249
        have p1250 : 0 ≤ (x5_1 : Int) := zo_
        have q1250 : x5_1 < (l1.length : Int) := zo_
        obtain ⟨ad1250,e1250,hx1250_0,hx1250_1,hx1250_2,hx1250_3⟩ := at_T63 HR1.out x5_1 p1250 q1250
        have hw1250_3 := hx1250_3
        have hw1250_2 := hx1250_2
        have hw1250_1 := hx1250_1
        have hw1250_0 := hx1250_0
        cases e1250
        replace hx1250_0 := zx_ HB hx1250_0
        replace hx1250_1 := zx_ HB hx1250_1
        replace hx1250_2 := zx_ HB hx1250_2
        replace hx1250_3 := zx_ HB hx1250_3
        replace p1250 := eq_true p1250
        replace q1250 := eq_true q1250
        refine start_ (n := 10) (S := fun w' => w'.cell? (ad1249.add ((x5_1).toNat * 4)) = some (.int .i64 ((rd_T63 l0 x5_1).f0)) ∧ w'.cell? ⟨(ad1249.add ((x5_1).toNat * 4)).block,(ad1249.add ((x5_1).toNat * 4)).off + 1,none⟩ = some (.int .i64 ((rd_T63 l0 x5_1).f1)) ∧ w'.cell? ⟨(ad1249.add ((x5_1).toNat * 4)).block,(ad1249.add ((x5_1).toNat * 4)).off + 2,none⟩ = some (.int .i64 ((rd_T63 l0 x5_1).f2)) ∧ w'.cell? ⟨(ad1249.add ((x5_1).toNat * 4)).block,(ad1249.add ((x5_1).toNat * 4)).off + 3,none⟩ = some (.int .i64 ((rd_T63 l0 x5_1).f3)) ∧ w'.cell? (ad1250.add ((x5_1).toNat * 4)) = some (.int .i64 ((rd_T63 l1 x5_1).f0)) ∧ w'.cell? ⟨(ad1250.add ((x5_1).toNat * 4)).block,(ad1250.add ((x5_1).toNat * 4)).off + 1,none⟩ = some (.int .i64 ((rd_T63 l1 x5_1).f1)) ∧ w'.cell? ⟨(ad1250.add ((x5_1).toNat * 4)).block,(ad1250.add ((x5_1).toNat * 4)).off + 2,none⟩ = some (.int .i64 ((rd_T63 l1 x5_1).f2)) ∧ w'.cell? ⟨(ad1250.add ((x5_1).toNat * 4)).block,(ad1250.add ((x5_1).toNat * 4)).off + 3,none⟩ = some (.int .i64 ((rd_T63 l1 x5_1).f3))) (ds := []) #[false,false,false,false,false,false,false,false,false,false] (by kernel_rfl) rfl rfl ⟨(zx_ HB hw1249_0),(zx_ HB hw1249_1),(zx_ HB hw1249_2),(zx_ HB hw1249_3),(zx_ HB hw1250_0),(zx_ HB hw1250_1),(zx_ HB hw1250_2),(zx_ HB hw1250_3)⟩ (fun hHeld => ?_);refine with_tabW laws_eqAnswerS.tab6 laws_eqAnswerS.bits6 (fun HT_ HW_ => ?_)
        generalize wr.drew = w11 at HB hx1249_0 hx1249_1 hx1249_2 hx1249_3 hx1250_0 hx1250_1 hx1250_2 hx1250_3 hHeld ⊢
        refine zpu 0 (N := some 17) HT_ ?_
        refine zpu 1 (N := some 18) HT_ ?_
        refine zpu 2 (N := some 19) HT_ ?_
        refine zpu 4 (N := some 21) HT_ ?_
        refine zpu 5 (N := some 22) HT_ ?_
        refine zpu 6 (N := some 23) HT_ ?_
        refine ztk 3 (N := some 20) HT_ HW_ hHeld ?_
        refine ztk 7 (N := some 24) HT_ HW_ hHeld ?_
        refine zon 8 (N := some 25) HT_ (fun K hK => ?_)
        refine zgo Tryd.func35 #[.agg #[.int .i64 ((rd_T63 l0 x5_1).f0),.int .i64 ((rd_T63 l0 x5_1).f1),.int .i64 ((rd_T63 l0 x5_1).f2),.int .i64 ((rd_T63 l0 x5_1).f3)],.agg #[.int .i64 ((rd_T63 l1 x5_1).f0),.int .i64 ((rd_T63 l1 x5_1).f1),.int .i64 ((rd_T63 l1 x5_1).f2),.int .i64 ((rd_T63 l1 x5_1).f3)]] ?_
        with_reducible refine (laws_eqAnswer.calls ((rd_T63 l0 x5_1).f0) ((rd_T63 l0 x5_1).f1) ((rd_T63 l0 x5_1).f2) ((rd_T63 l0 x5_1).f3) ((rd_T63 l1 x5_1).f0) ((rd_T63 l1 x5_1).f1) ((rd_T63 l1 x5_1).f2) ((rd_T63 l1 x5_1).f3) false _ A7.out).mono ?_
        rintro e w12 ⟨rfl,hb⟩
        refine ⟨_,rfl,?_⟩
        replace HB := zs_ HB hb
        (try clear hb)
        (try clear hb2)
        (try clear hk)
        (try clear hi)
        refine hK.out _ _ ⟨(zx_ HB hw1249_0),(zx_ HB hw1249_1),(zx_ HB hw1249_2),(zx_ HB hw1249_3),(zx_ HB hw1250_0),(zx_ HB hw1250_1),(zx_ HB hw1250_2),(zx_ HB hw1250_3)⟩ (fun hHeld => ?_)
        clear hK K
        refine norm_ (a' := ?_) ?_ ?_
        rotate_left
        ·show Act.put _ (some 25) _ = _
         simp only [Act.put,p1_,p2_,p3_,i64_w,i32_w]
         rfl
        refine zpu 9 (N := some 26) HT_ ?_
        refine done_ (done_of HT_.out (by kernel_rfl)) ?_
        try go_wp2
        go_ret
        exact ⟨zt_,zl_ HB⟩
      ·rw [if_neg c6] at H
       exact absurd H (by simp)
     ·rw [if_neg c5] at H
      exact absurd H (by simp)
    ·rw [if_neg c4] at H
     have c4b0 : decide (x5_1 < (l0.length : Int)) = false := decide_eq_false c4
     clear c4
     obtain rfl := Option.some.inj H
     go_wp2
     go_ret
     exact ⟨zt_,zl_ HB⟩
 ·rw [if_neg c3] at H
  have c3b0 : ((l0.length : Int) == (l1.length : Int)) = false := beq_eq_false_iff_ne.mpr c3
  have c3b1 : ((l0.length : Int) != (l1.length : Int)) = true := bne_iff_ne.mpr c3
  have c3b2 : (l0.length == l1.length) = false := by first | simpa using c3 | (simp at c3 ⊢;omega)
  obtain rfl := Option.some.inj H
  go_enter Tryd.func105,Tryd.ntmps105
  go_wp2
  go_ret
  exact ⟨zt_,zl_ HB⟩
set_option maxHeartbeats 8000000 in
set_option maxRecDepth 100000 in
theorem laws_eqReply.calls (a0_0 : Int) (a0_1 : Int) (a0_2 : Int) (a0_3 : Int) (a0_4 : Int) (a0_5 : Int) (a0_6 : Int) (a0_7 : ByteArray) (a1_0 : Int) (a1_1 : Int) (a1_2 : Int) (a1_3 : Int) (a1_4 : Int) (a1_5 : Int) (a1_6 : Int) (a1_7 : ByteArray) (r : Bool) (w : World) (h : laws_eqReply.f a0_0 a0_1 a0_2 a0_3 a0_4 a0_5 a0_6 a0_7 a1_0 a1_1 a1_2 a1_3 a1_4 a1_5 a1_6 a1_7 = some r) :
  Calls Tryd.prog 87 #[.agg #[.int .i64 a0_0,.int .i64 a0_1,.int .i64 a0_2,.int .i64 a0_3,.int .i64 a0_4,.int .i64 a0_5,.int .i64 a0_6,.string a0_7],.agg #[.int .i64 a1_0,.int .i64 a1_1,.int .i64 a1_2,.int .i64 a1_3,.int .i64 a1_4,.int .i64 a1_5,.int .i64 a1_6,.string a1_7]] w fun e w' => e = .returned (.bool r) ∧ Below w.heap.size w w' := by
 have hu73 := Tryd.underlying73
 have hu63 := Tryd.underlying63
 have HB := am_ (Below.refl w.heap.size w)
 have H : (if a0_0 = a1_0 then (if a0_1 = a1_1 then (if a0_2 = a1_2 then ((laws_eqAnswer.f a0_3 a0_4 a0_5 a0_6 a1_3 a1_4 a1_5 a1_6).bind fun t1030 => (if t1030 = true then (if a0_7.toList = a1_7.toList then (some true) else (some false)) else (some false))) else (some false)) else (some false)) else (some false)) = some r := h
 clear h
 by_cases c3 : a0_0 = a1_0
 ·rw [if_pos c3] at H
  have c3b0 : (a0_0 == a1_0) = true := beq_iff_eq.mpr c3
  have c3b1 : (a0_0 != a1_0) = false := bne_eq_false_iff_eq.mpr c3
  clear c3
  by_cases c4 : a0_1 = a1_1
  ·rw [if_pos c4] at H
   have c4b0 : (a0_1 == a1_1) = true := beq_iff_eq.mpr c4
   have c4b1 : (a0_1 != a1_1) = false := bne_eq_false_iff_eq.mpr c4
   clear c4
   by_cases c5 : a0_2 = a1_2
   ·rw [if_pos c5] at H
    have c5b0 : (a0_2 == a1_2) = true := beq_iff_eq.mpr c5
    have c5b1 : (a0_2 != a1_2) = false := bne_eq_false_iff_eq.mpr c5
    clear c5
    replace H := Option.bind_eq_some_iff.mp H
    obtain ⟨t1030,A60,H⟩ := H
    try dsimp only at H
    have A6 := am_ A60
    clear A60
    by_cases c7 : t1030 = true
    ·subst c7
     have H1 : (if a0_7.toList = a1_7.toList then (some true) else (some false)) = some r := by rw [if_pos rfl] at H;exact H
     clear H
     have H := H1
     clear H1
     by_cases c8 : a0_7.toList = a1_7.toList
     ·rw [if_pos c8] at H
      have c8b0 : (a0_7.toList == a1_7.toList) = true := beq_iff_eq.mpr c8
      have c8b1 : (a0_7.toList != a1_7.toList) = false := bne_eq_false_iff_eq.mpr c8
      clear c8
      obtain rfl := Option.some.inj H
      go_enter Tryd.func87,Tryd.ntmps87
      go_wp2_with (first | ((with_reducible refine gate_dst (N := 2) rfl ?_);refine zbx (N := 2) (cs := #[.int .i64 a0_0,.int .i64 a0_1,.int .i64 a0_2,.int .i64 a0_3,.int .i64 a0_4,.int .i64 a0_5,.int .i64 a0_6,.string a0_7]) (t := 73) ?_;intro gb1028 hg w9 hbox hb;have BK1028 := am_ (hbox);have GW1028 := zw_ HB hg;have GE1028 := zw_ HB hg;replace HB := zs_ HB hb;clear hb hbox hg) | ((with_reducible refine gate_dst (N := 3) rfl ?_);refine zbx (N := 3) (cs := #[.int .i64 a1_0,.int .i64 a1_1,.int .i64 a1_2,.int .i64 a1_3,.int .i64 a1_4,.int .i64 a1_5,.int .i64 a1_6,.string a1_7]) (t := 73) ?_;intro gb1029 hg w10 hbox hb;have BK1029 := am_ (hbox);have GW1029 := zw_ HB hg;have GE1029 := zw_ HB hg;replace HB := zs_ HB hb;have NB1028_1029 := zl hg BK1028;have NB1029_1028 := zg hg BK1028;replace BK1028 := zb BK1028 hb;clear hb hbox hg;have hnb11 := NB1028_1029.out;have hnc11 := NB1029_1028.out;obtain ⟨hcz12_0,hcz12_1,hcz12_2,hcz12_3,hcz12_4,hcz12_5,hcz12_6,hcz12_7,hfz12_0,hfz12_1,hfz12_2,hfz12_3,hfz12_4,hfz12_5,hfz12_6,hfz12_7⟩ := zc8 BK1028;obtain ⟨hcz13_0,hcz13_1,hcz13_2,hcz13_3,hcz13_4,hcz13_5,hcz13_6,hcz13_7,hfz13_0,hfz13_1,hfz13_2,hfz13_3,hfz13_4,hfz13_5,hfz13_6,hfz13_7⟩ := zc8 BK1029) | ((with_reducible refine gate_callee (f := 35) rfl ?_);refine zgl (some 24) Tryd.func35 #[.agg #[.int .i64 a0_3,.int .i64 a0_4,.int .i64 a0_5,.int .i64 a0_6],.agg #[.int .i64 a1_3,.int .i64 a1_4,.int .i64 a1_5,.int .i64 a1_6]] ?_;(with_reducible refine (laws_eqAnswer.calls a0_3 a0_4 a0_5 a0_6 a1_3 a1_4 a1_5 a1_6 true _ A6.out).mono ?_);rintro e w14 ⟨rfl,hb⟩;refine ⟨_,rfl,?_⟩;replace BK1028 := zb BK1028 hb;replace BK1029 := zb BK1029 hb;replace HB := zs_ HB hb;(try clear hb);(try clear hb2);(try clear hk);(try clear hi);obtain ⟨hcz15_0,hcz15_1,hcz15_2,hcz15_3,hcz15_4,hcz15_5,hcz15_6,hcz15_7,hfz15_0,hfz15_1,hfz15_2,hfz15_3,hfz15_4,hfz15_5,hfz15_6,hfz15_7⟩ := zc8 BK1028;obtain ⟨hcz16_0,hcz16_1,hcz16_2,hcz16_3,hcz16_4,hcz16_5,hcz16_6,hcz16_7,hfz16_0,hfz16_1,hfz16_2,hfz16_3,hfz16_4,hfz16_5,hfz16_6,hfz16_7⟩ := zc8 BK1029))
      go_ret
      exact ⟨zt_,zl_ HB⟩
     ·rw [if_neg c8] at H
      have c8b0 : (a0_7.toList == a1_7.toList) = false := beq_eq_false_iff_ne.mpr c8
      have c8b1 : (a0_7.toList != a1_7.toList) = true := bne_iff_ne.mpr c8
      obtain rfl := Option.some.inj H
      go_enter Tryd.func87,Tryd.ntmps87
      go_wp2_with (first | ((with_reducible refine gate_dst (N := 2) rfl ?_);refine zbx (N := 2) (cs := #[.int .i64 a0_0,.int .i64 a0_1,.int .i64 a0_2,.int .i64 a0_3,.int .i64 a0_4,.int .i64 a0_5,.int .i64 a0_6,.string a0_7]) (t := 73) ?_;intro gb1028 hg w17 hbox hb;have BK1028 := am_ (hbox);have GW1028 := zw_ HB hg;have GE1028 := zw_ HB hg;replace HB := zs_ HB hb;clear hb hbox hg) | ((with_reducible refine gate_dst (N := 3) rfl ?_);refine zbx (N := 3) (cs := #[.int .i64 a1_0,.int .i64 a1_1,.int .i64 a1_2,.int .i64 a1_3,.int .i64 a1_4,.int .i64 a1_5,.int .i64 a1_6,.string a1_7]) (t := 73) ?_;intro gb1029 hg w18 hbox hb;have BK1029 := am_ (hbox);have GW1029 := zw_ HB hg;have GE1029 := zw_ HB hg;replace HB := zs_ HB hb;have NB1028_1029 := zl hg BK1028;have NB1029_1028 := zg hg BK1028;replace BK1028 := zb BK1028 hb;clear hb hbox hg;have hnb19 := NB1028_1029.out;have hnc19 := NB1029_1028.out;obtain ⟨hcz20_0,hcz20_1,hcz20_2,hcz20_3,hcz20_4,hcz20_5,hcz20_6,hcz20_7,hfz20_0,hfz20_1,hfz20_2,hfz20_3,hfz20_4,hfz20_5,hfz20_6,hfz20_7⟩ := zc8 BK1028;obtain ⟨hcz21_0,hcz21_1,hcz21_2,hcz21_3,hcz21_4,hcz21_5,hcz21_6,hcz21_7,hfz21_0,hfz21_1,hfz21_2,hfz21_3,hfz21_4,hfz21_5,hfz21_6,hfz21_7⟩ := zc8 BK1029) | ((with_reducible refine gate_callee (f := 35) rfl ?_);refine zgl (some 24) Tryd.func35 #[.agg #[.int .i64 a0_3,.int .i64 a0_4,.int .i64 a0_5,.int .i64 a0_6],.agg #[.int .i64 a1_3,.int .i64 a1_4,.int .i64 a1_5,.int .i64 a1_6]] ?_;(with_reducible refine (laws_eqAnswer.calls a0_3 a0_4 a0_5 a0_6 a1_3 a1_4 a1_5 a1_6 true _ A6.out).mono ?_);rintro e w22 ⟨rfl,hb⟩;refine ⟨_,rfl,?_⟩;replace BK1028 := zb BK1028 hb;replace BK1029 := zb BK1029 hb;replace HB := zs_ HB hb;(try clear hb);(try clear hb2);(try clear hk);(try clear hi);obtain ⟨hcz23_0,hcz23_1,hcz23_2,hcz23_3,hcz23_4,hcz23_5,hcz23_6,hcz23_7,hfz23_0,hfz23_1,hfz23_2,hfz23_3,hfz23_4,hfz23_5,hfz23_6,hfz23_7⟩ := zc8 BK1028;obtain ⟨hcz24_0,hcz24_1,hcz24_2,hcz24_3,hcz24_4,hcz24_5,hcz24_6,hcz24_7,hfz24_0,hfz24_1,hfz24_2,hfz24_3,hfz24_4,hfz24_5,hfz24_6,hfz24_7⟩ := zc8 BK1029))
      go_ret
      exact ⟨zt_,zl_ HB⟩
    ·replace c7 := Bool.eq_false_iff.mpr c7
     subst c7
     have H1 : (some false) = some r := by rw [if_neg (show ¬ (false = true) by decide)] at H;exact H
     clear H
     have H := H1
     clear H1
     obtain rfl := Option.some.inj H
     go_enter Tryd.func87,Tryd.ntmps87
     go_wp2_with (first | ((with_reducible refine gate_dst (N := 2) rfl ?_);refine zbx (N := 2) (cs := #[.int .i64 a0_0,.int .i64 a0_1,.int .i64 a0_2,.int .i64 a0_3,.int .i64 a0_4,.int .i64 a0_5,.int .i64 a0_6,.string a0_7]) (t := 73) ?_;intro gb1028 hg w25 hbox hb;have BK1028 := am_ (hbox);have GW1028 := zw_ HB hg;have GE1028 := zw_ HB hg;replace HB := zs_ HB hb;clear hb hbox hg) | ((with_reducible refine gate_dst (N := 3) rfl ?_);refine zbx (N := 3) (cs := #[.int .i64 a1_0,.int .i64 a1_1,.int .i64 a1_2,.int .i64 a1_3,.int .i64 a1_4,.int .i64 a1_5,.int .i64 a1_6,.string a1_7]) (t := 73) ?_;intro gb1029 hg w26 hbox hb;have BK1029 := am_ (hbox);have GW1029 := zw_ HB hg;have GE1029 := zw_ HB hg;replace HB := zs_ HB hb;have NB1028_1029 := zl hg BK1028;have NB1029_1028 := zg hg BK1028;replace BK1028 := zb BK1028 hb;clear hb hbox hg;have hnb27 := NB1028_1029.out;have hnc27 := NB1029_1028.out;obtain ⟨hcz28_0,hcz28_1,hcz28_2,hcz28_3,hcz28_4,hcz28_5,hcz28_6,hcz28_7,hfz28_0,hfz28_1,hfz28_2,hfz28_3,hfz28_4,hfz28_5,hfz28_6,hfz28_7⟩ := zc8 BK1028;obtain ⟨hcz29_0,hcz29_1,hcz29_2,hcz29_3,hcz29_4,hcz29_5,hcz29_6,hcz29_7,hfz29_0,hfz29_1,hfz29_2,hfz29_3,hfz29_4,hfz29_5,hfz29_6,hfz29_7⟩ := zc8 BK1029) | ((with_reducible refine gate_callee (f := 35) rfl ?_);refine zgl (some 24) Tryd.func35 #[.agg #[.int .i64 a0_3,.int .i64 a0_4,.int .i64 a0_5,.int .i64 a0_6],.agg #[.int .i64 a1_3,.int .i64 a1_4,.int .i64 a1_5,.int .i64 a1_6]] ?_;(with_reducible refine (laws_eqAnswer.calls a0_3 a0_4 a0_5 a0_6 a1_3 a1_4 a1_5 a1_6 false _ A6.out).mono ?_);rintro e w30 ⟨rfl,hb⟩;refine ⟨_,rfl,?_⟩;replace HB := zs_ HB hb;(try clear hb);(try clear hb2);(try clear hk);(try clear hi)))
     go_ret
     exact ⟨zt_,zl_ HB⟩
   ·rw [if_neg c5] at H
    have c5b0 : (a0_2 == a1_2) = false := beq_eq_false_iff_ne.mpr c5
    have c5b1 : (a0_2 != a1_2) = true := bne_iff_ne.mpr c5
    obtain rfl := Option.some.inj H
    go_enter Tryd.func87,Tryd.ntmps87
    go_wp2_with (first | ((with_reducible refine gate_dst (N := 2) rfl ?_);refine zbx (N := 2) (cs := #[.int .i64 a0_0,.int .i64 a0_1,.int .i64 a0_2,.int .i64 a0_3,.int .i64 a0_4,.int .i64 a0_5,.int .i64 a0_6,.string a0_7]) (t := 73) ?_;intro gb1028 hg w31 hbox hb;have BK1028 := am_ (hbox);have GW1028 := zw_ HB hg;have GE1028 := zw_ HB hg;replace HB := zs_ HB hb;clear hb hbox hg) | ((with_reducible refine gate_dst (N := 3) rfl ?_);refine zbx (N := 3) (cs := #[.int .i64 a1_0,.int .i64 a1_1,.int .i64 a1_2,.int .i64 a1_3,.int .i64 a1_4,.int .i64 a1_5,.int .i64 a1_6,.string a1_7]) (t := 73) ?_;intro gb1029 hg w32 hbox hb;have BK1029 := am_ (hbox);have GW1029 := zw_ HB hg;have GE1029 := zw_ HB hg;replace HB := zs_ HB hb;have NB1028_1029 := zl hg BK1028;have NB1029_1028 := zg hg BK1028;replace BK1028 := zb BK1028 hb;clear hb hbox hg;have hnb33 := NB1028_1029.out;have hnc33 := NB1029_1028.out;obtain ⟨hcz34_0,hcz34_1,hcz34_2,hcz34_3,hcz34_4,hcz34_5,hcz34_6,hcz34_7,hfz34_0,hfz34_1,hfz34_2,hfz34_3,hfz34_4,hfz34_5,hfz34_6,hfz34_7⟩ := zc8 BK1028;obtain ⟨hcz35_0,hcz35_1,hcz35_2,hcz35_3,hcz35_4,hcz35_5,hcz35_6,hcz35_7,hfz35_0,hfz35_1,hfz35_2,hfz35_3,hfz35_4,hfz35_5,hfz35_6,hfz35_7⟩ := zc8 BK1029))
    go_ret
    exact ⟨zt_,zl_ HB⟩
  ·rw [if_neg c4] at H
   have c4b0 : (a0_1 == a1_1) = false := beq_eq_false_iff_ne.mpr c4
   have c4b1 : (a0_1 != a1_1) = true := bne_iff_ne.mpr c4
   obtain rfl := Option.some.inj H
   go_enter Tryd.func87,Tryd.ntmps87
   go_wp2_with (first | ((with_reducible refine gate_dst (N := 2) rfl ?_);refine zbx (N := 2) (cs := #[.int .i64 a0_0,.int .i64 a0_1,.int .i64 a0_2,.int .i64 a0_3,.int .i64 a0_4,.int .i64 a0_5,.int .i64 a0_6,.string a0_7]) (t := 73) ?_;intro gb1028 hg w36 hbox hb;have BK1028 := am_ (hbox);have GW1028 := zw_ HB hg;have GE1028 := zw_ HB hg;replace HB := zs_ HB hb;clear hb hbox hg) | ((with_reducible refine gate_dst (N := 3) rfl ?_);refine zbx (N := 3) (cs := #[.int .i64 a1_0,.int .i64 a1_1,.int .i64 a1_2,.int .i64 a1_3,.int .i64 a1_4,.int .i64 a1_5,.int .i64 a1_6,.string a1_7]) (t := 73) ?_;intro gb1029 hg w37 hbox hb;have BK1029 := am_ (hbox);have GW1029 := zw_ HB hg;have GE1029 := zw_ HB hg;replace HB := zs_ HB hb;have NB1028_1029 := zl hg BK1028;have NB1029_1028 := zg hg BK1028;replace BK1028 := zb BK1028 hb;clear hb hbox hg;have hnb38 := NB1028_1029.out;have hnc38 := NB1029_1028.out;obtain ⟨hcz39_0,hcz39_1,hcz39_2,hcz39_3,hcz39_4,hcz39_5,hcz39_6,hcz39_7,hfz39_0,hfz39_1,hfz39_2,hfz39_3,hfz39_4,hfz39_5,hfz39_6,hfz39_7⟩ := zc8 BK1028;obtain ⟨hcz40_0,hcz40_1,hcz40_2,hcz40_3,hcz40_4,hcz40_5,hcz40_6,hcz40_7,hfz40_0,hfz40_1,hfz40_2,hfz40_3,hfz40_4,hfz40_5,hfz40_6,hfz40_7⟩ := zc8 BK1029))
   go_ret
   exact ⟨zt_,zl_ HB⟩
 ·rw [if_neg c3] at H
  have c3b0 : (a0_0 == a1_0) = false := beq_eq_false_iff_ne.mpr c3
  have c3b1 : (a0_0 != a1_0) = true := bne_iff_ne.mpr c3
  obtain rfl := Option.some.inj H
  go_enter Tryd.func87,Tryd.ntmps87
  go_wp2_with (first | ((with_reducible refine gate_dst (N := 2) rfl ?_);refine zbx (N := 2) (cs := #[.int .i64 a0_0,.int .i64 a0_1,.int .i64 a0_2,.int .i64 a0_3,.int .i64 a0_4,.int .i64 a0_5,.int .i64 a0_6,.string a0_7]) (t := 73) ?_;intro gb1028 hg w41 hbox hb;have BK1028 := am_ (hbox);have GW1028 := zw_ HB hg;have GE1028 := zw_ HB hg;replace HB := zs_ HB hb;clear hb hbox hg) | ((with_reducible refine gate_dst (N := 3) rfl ?_);refine zbx (N := 3) (cs := #[.int .i64 a1_0,.int .i64 a1_1,.int .i64 a1_2,.int .i64 a1_3,.int .i64 a1_4,.int .i64 a1_5,.int .i64 a1_6,.string a1_7]) (t := 73) ?_;intro gb1029 hg w42 hbox hb;have BK1029 := am_ (hbox);have GW1029 := zw_ HB hg;have GE1029 := zw_ HB hg;replace HB := zs_ HB hb;have NB1028_1029 := zl hg BK1028;have NB1029_1028 := zg hg BK1028;replace BK1028 := zb BK1028 hb;clear hb hbox hg;have hnb43 := NB1028_1029.out;have hnc43 := NB1029_1028.out;obtain ⟨hcz44_0,hcz44_1,hcz44_2,hcz44_3,hcz44_4,hcz44_5,hcz44_6,hcz44_7,hfz44_0,hfz44_1,hfz44_2,hfz44_3,hfz44_4,hfz44_5,hfz44_6,hfz44_7⟩ := zc8 BK1028;obtain ⟨hcz45_0,hcz45_1,hcz45_2,hcz45_3,hcz45_4,hcz45_5,hcz45_6,hcz45_7,hfz45_0,hfz45_1,hfz45_2,hfz45_3,hfz45_4,hfz45_5,hfz45_6,hfz45_7⟩ := zc8 BK1029))
  go_ret
  exact ⟨zt_,zl_ HB⟩
def laws_eqReplyS.T6 : Bool × List (List Nat × List Nat) := (true,[([],[]),([],[]),([0,1],[0,1]),([2],[2]),([],[]),([],[]),([4,5],[4,5]),([6],[6]),([3,7],[3,7]),([8],[8])])
def laws_eqReplyS.B6 : List Nat := [0,0,3,7,0,0,48,112,255,511]
theorem laws_eqReplyS.tab6 : rtab .any (opsOf Tryd.f36 6) = laws_eqReplyS.T6 := by kernel_rfl
theorem laws_eqReplyS.bits6 : waitsOk laws_eqReplyS.T6.2 laws_eqReplyS.B6 = true := by kernel_rfl
set_option maxHeartbeats 8000000 in
set_option maxRecDepth 100000 in
theorem laws_eqReplyS.calls (k : Nat) (A0 : Option Addr) (c0 : Nat) (l0 : List (S73)) (A1 : Option Addr) (c1 : Nat) (l1 : List (S73)) (r : Bool) (w : World) (hr0 : Kd.C k73 w A0 l0.length l0) (hc0 : l0.length ≤ c0) (hr1 : Kd.C k73 w A1 l1.length l1) (hc1 : l1.length ≤ c1) (h : laws_eqReplyS.f k l0 l1 = some r) :
  Calls Tryd.prog 36 #[.slice A0 l0.length c0,.slice A1 l1.length c1] w fun e w' => e = .returned (.bool r) ∧ Below w.heap.size w w' := by
 have hu73 := Tryd.underlying73
 have HR0 := am_ hr0
 have HC0 := am_ hc0
 clear hr0 hc0
 have HR1 := am_ hr1
 have HC1 := am_ hc1
 clear hr1 hc1
 have HB := am_ (Below.refl w.heap.size w)
 have H : (if (l0.length : Int) = (l1.length : Int) then (laws_eqReplyS.l0 k l0 l1 0) else (some false)) = some r := h
 clear h
 by_cases c3 : (l0.length : Int) = (l1.length : Int)
 ·rw [if_pos c3] at H
  have c3b0 : ((l0.length : Int) == (l1.length : Int)) = true := beq_iff_eq.mpr c3
  have c3b1 : ((l0.length : Int) != (l1.length : Int)) = false := bne_eq_false_iff_eq.mpr c3
  have c3b2 : (l0.length == l1.length) = true := by first | simpa using c3 | (simp at c3 ⊢;omega)
  clear c3
  have H' := am_ H
  clear H
  go_enter Tryd.func36,Tryd.ntmps36
  go_wp2
  go_loopg [5] k (fun kq v5 w' => ∃ (x5_1 : Int),v5 = .int .i64 x5_1 ∧ Aside0 (laws_eqReplyS.l0 kq l0 l1 x5_1 = some r) ∧ Aside0 (kq ≤ k) ∧ Aside0 (Below w.heap.size w w'))
  case atStart => exact ⟨(0),(by first | rfl | (simp;done) | (simp [*];done)),H',⟨Nat.le_refl _⟩,⟨zl_ HB⟩⟩
  case round =>
   clear H'
   try clear c1
   try clear p2
   try clear c3
   try clear c3b0
   try clear c3b1
   try clear c3b2
   obtain ⟨x5_1,rfl,HA,HK1,HB⟩ := hrel
   cases gk with
   | zero => exact absurd HA.out (by simp [laws_eqReplyS.l0])
   | succ k1 =>
    have H := HA.out
    clear HA
    simp only [laws_eqReplyS.l0] at H
    by_cases c4 : x5_1 < (l0.length : Int)
    ·rw [if_pos c4] at H
     have c4b0 : decide (x5_1 < (l0.length : Int)) = true := decide_eq_true c4
     clear c4
     by_cases c5 : 0 ≤ x5_1
     ·rw [if_pos c5] at H
      have c5b0 : decide (0 ≤ x5_1) = true := decide_eq_true c5
      clear c5
      by_cases c6 : x5_1 < (l1.length : Int)
      ·rw [if_pos c6] at H
       have c6b0 : decide (x5_1 < (l1.length : Int)) = true := decide_eq_true c6
       clear c6
       replace H := Option.bind_eq_some_iff.mp H
       obtain ⟨t1033,A70,H⟩ := H
       try dsimp only at H
       have A7 := am_ A70
       clear A70
       by_cases c8 : t1033 = true
       ·subst c8
        have H1 : (laws_eqReplyS.l0 k1 l0 l1 (wrap64 (x5_1 + 1))) = some r := by rw [if_pos rfl] at H;exact H
        clear H
        have H := H1
        clear H1
        have H' := am_ H
        clear H
        try go_wp2
        replace HB := am_ (below_drew1 HB.out)
        have p1031 : 0 ≤ (x5_1 : Int) := zo_
        have q1031 : x5_1 < (l0.length : Int) := zo_
        obtain ⟨ad1031,e1031,hx1031_0,hx1031_1,hx1031_2,hx1031_3,hx1031_4,hx1031_5,hx1031_6,hx1031_7⟩ := at_T73 HR0.out x5_1 p1031 q1031
        have hw1031_7 := hx1031_7
        have hw1031_6 := hx1031_6
        have hw1031_5 := hx1031_5
        have hw1031_4 := hx1031_4
        have hw1031_3 := hx1031_3
        have hw1031_2 := hx1031_2
        have hw1031_1 := hx1031_1
        have hw1031_0 := hx1031_0
        cases e1031
        replace hx1031_0 := zx_ HB hx1031_0
        replace hx1031_1 := zx_ HB hx1031_1
        replace hx1031_2 := zx_ HB hx1031_2
        replace hx1031_3 := zx_ HB hx1031_3
        replace hx1031_4 := zx_ HB hx1031_4
        replace hx1031_5 := zx_ HB hx1031_5
        replace hx1031_6 := zx_ HB hx1031_6
        replace hx1031_7 := zx_ HB hx1031_7
        replace p1031 := eq_true p1031
        replace q1031 := eq_true q1031
        have p1032 : 0 ≤ (x5_1 : Int) := zo_
        have q1032 : x5_1 < (l1.length : Int) := zo_
        obtain ⟨ad1032,e1032,hx1032_0,hx1032_1,hx1032_2,hx1032_3,hx1032_4,hx1032_5,hx1032_6,hx1032_7⟩ := at_T73 HR1.out x5_1 p1032 q1032
        have hw1032_7 := hx1032_7
        have hw1032_6 := hx1032_6
        have hw1032_5 := hx1032_5
        have hw1032_4 := hx1032_4
        have hw1032_3 := hx1032_3
        have hw1032_2 := hx1032_2
        have hw1032_1 := hx1032_1
        have hw1032_0 := hx1032_0
        cases e1032
        replace hx1032_0 := zx_ HB hx1032_0
        replace hx1032_1 := zx_ HB hx1032_1
        replace hx1032_2 := zx_ HB hx1032_2
        replace hx1032_3 := zx_ HB hx1032_3
        replace hx1032_4 := zx_ HB hx1032_4
        replace hx1032_5 := zx_ HB hx1032_5
        replace hx1032_6 := zx_ HB hx1032_6
        replace hx1032_7 := zx_ HB hx1032_7
        replace p1032 := eq_true p1032
        replace q1032 := eq_true q1032
        refine start_ (n := 10) (S := fun w' => w'.cell? (ad1031.add ((x5_1).toNat * 8)) = some (.int .i64 ((rd_T73 l0 x5_1).f0)) ∧ w'.cell? ⟨(ad1031.add ((x5_1).toNat * 8)).block,(ad1031.add ((x5_1).toNat * 8)).off + 1,none⟩ = some (.int .i64 ((rd_T73 l0 x5_1).f1)) ∧ w'.cell? ⟨(ad1031.add ((x5_1).toNat * 8)).block,(ad1031.add ((x5_1).toNat * 8)).off + 2,none⟩ = some (.int .i64 ((rd_T73 l0 x5_1).f2)) ∧ w'.cell? ⟨(ad1031.add ((x5_1).toNat * 8)).block,(ad1031.add ((x5_1).toNat * 8)).off + 3,none⟩ = some (.int .i64 ((rd_T73 l0 x5_1).f3.f0)) ∧ w'.cell? ⟨(ad1031.add ((x5_1).toNat * 8)).block,(ad1031.add ((x5_1).toNat * 8)).off + 4,none⟩ = some (.int .i64 ((rd_T73 l0 x5_1).f3.f1)) ∧ w'.cell? ⟨(ad1031.add ((x5_1).toNat * 8)).block,(ad1031.add ((x5_1).toNat * 8)).off + 5,none⟩ = some (.int .i64 ((rd_T73 l0 x5_1).f3.f2)) ∧ w'.cell? ⟨(ad1031.add ((x5_1).toNat * 8)).block,(ad1031.add ((x5_1).toNat * 8)).off + 6,none⟩ = some (.int .i64 ((rd_T73 l0 x5_1).f3.f3)) ∧ w'.cell? ⟨(ad1031.add ((x5_1).toNat * 8)).block,(ad1031.add ((x5_1).toNat * 8)).off + 7,none⟩ = some (.string ((rd_T73 l0 x5_1).f4)) ∧ w'.cell? (ad1032.add ((x5_1).toNat * 8)) = some (.int .i64 ((rd_T73 l1 x5_1).f0)) ∧ w'.cell? ⟨(ad1032.add ((x5_1).toNat * 8)).block,(ad1032.add ((x5_1).toNat * 8)).off + 1,none⟩ = some (.int .i64 ((rd_T73 l1 x5_1).f1)) ∧ w'.cell? ⟨(ad1032.add ((x5_1).toNat * 8)).block,(ad1032.add ((x5_1).toNat * 8)).off + 2,none⟩ = some (.int .i64 ((rd_T73 l1 x5_1).f2)) ∧ w'.cell? ⟨(ad1032.add ((x5_1).toNat * 8)).block,(ad1032.add ((x5_1).toNat * 8)).off + 3,none⟩ = some (.int .i64 ((rd_T73 l1 x5_1).f3.f0)) ∧ w'.cell? ⟨(ad1032.add ((x5_1).toNat * 8)).block,(ad1032.add ((x5_1).toNat * 8)).off + 4,none⟩ = some (.int .i64 ((rd_T73 l1 x5_1).f3.f1)) ∧ w'.cell? ⟨(ad1032.add ((x5_1).toNat * 8)).block,(ad1032.add ((x5_1).toNat * 8)).off + 5,none⟩ = some (.int .i64 ((rd_T73 l1 x5_1).f3.f2)) ∧ w'.cell? ⟨(ad1032.add ((x5_1).toNat * 8)).block,(ad1032.add ((x5_1).toNat * 8)).off + 6,none⟩ = some (.int .i64 ((rd_T73 l1 x5_1).f3.f3)) ∧ w'.cell? ⟨(ad1032.add ((x5_1).toNat * 8)).block,(ad1032.add ((x5_1).toNat * 8)).off + 7,none⟩ = some (.string ((rd_T73 l1 x5_1).f4))) (ds := []) #[false,false,false,false,false,false,false,false,false,false] (by kernel_rfl) rfl rfl ⟨(zx_ HB hw1031_0),(zx_ HB hw1031_1),(zx_ HB hw1031_2),(zx_ HB hw1031_3),(zx_ HB hw1031_4),(zx_ HB hw1031_5),(zx_ HB hw1031_6),(zx_ HB hw1031_7),(zx_ HB hw1032_0),(zx_ HB hw1032_1),(zx_ HB hw1032_2),(zx_ HB hw1032_3),(zx_ HB hw1032_4),(zx_ HB hw1032_5),(zx_ HB hw1032_6),(zx_ HB hw1032_7)⟩ (fun hHeld => ?_);refine with_tabW laws_eqReplyS.tab6 laws_eqReplyS.bits6 (fun HT_ HW_ => ?_)
        generalize wr.drew = w9 at HB hx1031_0 hx1031_1 hx1031_2 hx1031_3 hx1031_4 hx1031_5 hx1031_6 hx1031_7 hx1032_0 hx1032_1 hx1032_2 hx1032_3 hx1032_4 hx1032_5 hx1032_6 hx1032_7 hHeld ⊢
        refine zpu 0 (N := some 17) HT_ ?_
        refine zpu 1 (N := some 18) HT_ ?_
        refine zpu 2 (N := some 19) HT_ ?_
        refine zpu 4 (N := some 21) HT_ ?_
        refine zpu 5 (N := some 22) HT_ ?_
        refine zpu 6 (N := some 23) HT_ ?_
        refine ztk 3 (N := some 20) HT_ HW_ hHeld ?_
        refine ztk 7 (N := some 24) HT_ HW_ hHeld ?_
        refine zon 8 (N := some 25) HT_ (fun K hK => ?_)
        refine zgo Tryd.func87 #[.agg #[.int .i64 ((rd_T73 l0 x5_1).f0),.int .i64 ((rd_T73 l0 x5_1).f1),.int .i64 ((rd_T73 l0 x5_1).f2),.int .i64 ((rd_T73 l0 x5_1).f3.f0),.int .i64 ((rd_T73 l0 x5_1).f3.f1),.int .i64 ((rd_T73 l0 x5_1).f3.f2),.int .i64 ((rd_T73 l0 x5_1).f3.f3),.string ((rd_T73 l0 x5_1).f4)],.agg #[.int .i64 ((rd_T73 l1 x5_1).f0),.int .i64 ((rd_T73 l1 x5_1).f1),.int .i64 ((rd_T73 l1 x5_1).f2),.int .i64 ((rd_T73 l1 x5_1).f3.f0),.int .i64 ((rd_T73 l1 x5_1).f3.f1),.int .i64 ((rd_T73 l1 x5_1).f3.f2),.int .i64 ((rd_T73 l1 x5_1).f3.f3),.string ((rd_T73 l1 x5_1).f4)]] ?_
        with_reducible refine (laws_eqReply.calls ((rd_T73 l0 x5_1).f0) ((rd_T73 l0 x5_1).f1) ((rd_T73 l0 x5_1).f2) ((rd_T73 l0 x5_1).f3.f0) ((rd_T73 l0 x5_1).f3.f1) ((rd_T73 l0 x5_1).f3.f2) ((rd_T73 l0 x5_1).f3.f3) ((rd_T73 l0 x5_1).f4) ((rd_T73 l1 x5_1).f0) ((rd_T73 l1 x5_1).f1) ((rd_T73 l1 x5_1).f2) ((rd_T73 l1 x5_1).f3.f0) ((rd_T73 l1 x5_1).f3.f1) ((rd_T73 l1 x5_1).f3.f2) ((rd_T73 l1 x5_1).f3.f3) ((rd_T73 l1 x5_1).f4) true _ A7.out).mono ?_
        rintro e w10 ⟨rfl,hb⟩
        refine ⟨_,rfl,?_⟩
        replace HB := zs_ HB hb
        (try clear hb)
        (try clear hb2)
        (try clear hk)
        (try clear hi)
        refine hK.out _ _ ⟨(zx_ HB hw1031_0),(zx_ HB hw1031_1),(zx_ HB hw1031_2),(zx_ HB hw1031_3),(zx_ HB hw1031_4),(zx_ HB hw1031_5),(zx_ HB hw1031_6),(zx_ HB hw1031_7),(zx_ HB hw1032_0),(zx_ HB hw1032_1),(zx_ HB hw1032_2),(zx_ HB hw1032_3),(zx_ HB hw1032_4),(zx_ HB hw1032_5),(zx_ HB hw1032_6),(zx_ HB hw1032_7)⟩ (fun hHeld => ?_)
        clear hK K
        refine norm_ (a' := ?_) ?_ ?_
        rotate_left
        ·show Act.put _ (some 25) _ = _
         simp only [Act.put,p1_,p2_,p3_,i64_w,i32_w]
         rfl
        refine zpu 9 (N := some 26) HT_ ?_
        refine done_ (done_of HT_.out (by kernel_rfl)) ?_
        try go_wp2
        go_roundg k1
        case measure => have := HK1.out;omega
        case rel => exact ⟨(wrap64 (x5_1 + 1)),(by first | rfl | (simp;done) | (simp [*];done)),H',⟨by have := HK1.out;omega⟩,⟨zl_ HB⟩⟩
       ·replace c8 := Bool.eq_false_iff.mpr c8
        subst c8
        have H1 : (some false) = some r := by rw [if_neg (show ¬ (false = true) by decide)] at H;exact H
        clear H
        have H := H1
        clear H1
        obtain rfl := Option.some.inj H
        try go_wp2
        replace HB := am_ (below_drew1 HB.out)
        have p1031 : 0 ≤ (x5_1 : Int) := zo_
        have q1031 : x5_1 < (l0.length : Int) := zo_
        obtain ⟨ad1031,e1031,hx1031_0,hx1031_1,hx1031_2,hx1031_3,hx1031_4,hx1031_5,hx1031_6,hx1031_7⟩ := at_T73 HR0.out x5_1 p1031 q1031
        have hw1031_7 := hx1031_7
        have hw1031_6 := hx1031_6
        have hw1031_5 := hx1031_5
        have hw1031_4 := hx1031_4
        have hw1031_3 := hx1031_3
        have hw1031_2 := hx1031_2
        have hw1031_1 := hx1031_1
        have hw1031_0 := hx1031_0
        cases e1031
        replace hx1031_0 := zx_ HB hx1031_0
        replace hx1031_1 := zx_ HB hx1031_1
        replace hx1031_2 := zx_ HB hx1031_2
        replace hx1031_3 := zx_ HB hx1031_3
        replace hx1031_4 := zx_ HB hx1031_4
        replace hx1031_5 := zx_ HB hx1031_5
        replace hx1031_6 := zx_ HB hx1031_6
        replace hx1031_7 := zx_ HB hx1031_7
        replace p1031 := eq_true p1031
        replace q1031 := eq_true q1031
        have p1032 : 0 ≤ (x5_1 : Int) := zo_
        have q1032 : x5_1 < (l1.length : Int) := zo_
        obtain ⟨ad1032,e1032,hx1032_0,hx1032_1,hx1032_2,hx1032_3,hx1032_4,hx1032_5,hx1032_6,hx1032_7⟩ := at_T73 HR1.out x5_1 p1032 q1032
        have hw1032_7 := hx1032_7
        have hw1032_6 := hx1032_6
        have hw1032_5 := hx1032_5
        have hw1032_4 := hx1032_4
        have hw1032_3 := hx1032_3
        have hw1032_2 := hx1032_2
        have hw1032_1 := hx1032_1
        have hw1032_0 := hx1032_0
        cases e1032
        replace hx1032_0 := zx_ HB hx1032_0
        replace hx1032_1 := zx_ HB hx1032_1
        replace hx1032_2 := zx_ HB hx1032_2
        replace hx1032_3 := zx_ HB hx1032_3
        replace hx1032_4 := zx_ HB hx1032_4
        replace hx1032_5 := zx_ HB hx1032_5
        replace hx1032_6 := zx_ HB hx1032_6
        replace hx1032_7 := zx_ HB hx1032_7
        replace p1032 := eq_true p1032
        replace q1032 := eq_true q1032
        refine start_ (n := 10) (S := fun w' => w'.cell? (ad1031.add ((x5_1).toNat * 8)) = some (.int .i64 ((rd_T73 l0 x5_1).f0)) ∧ w'.cell? ⟨(ad1031.add ((x5_1).toNat * 8)).block,(ad1031.add ((x5_1).toNat * 8)).off + 1,none⟩ = some (.int .i64 ((rd_T73 l0 x5_1).f1)) ∧ w'.cell? ⟨(ad1031.add ((x5_1).toNat * 8)).block,(ad1031.add ((x5_1).toNat * 8)).off + 2,none⟩ = some (.int .i64 ((rd_T73 l0 x5_1).f2)) ∧ w'.cell? ⟨(ad1031.add ((x5_1).toNat * 8)).block,(ad1031.add ((x5_1).toNat * 8)).off + 3,none⟩ = some (.int .i64 ((rd_T73 l0 x5_1).f3.f0)) ∧ w'.cell? ⟨(ad1031.add ((x5_1).toNat * 8)).block,(ad1031.add ((x5_1).toNat * 8)).off + 4,none⟩ = some (.int .i64 ((rd_T73 l0 x5_1).f3.f1)) ∧ w'.cell? ⟨(ad1031.add ((x5_1).toNat * 8)).block,(ad1031.add ((x5_1).toNat * 8)).off + 5,none⟩ = some (.int .i64 ((rd_T73 l0 x5_1).f3.f2)) ∧ w'.cell? ⟨(ad1031.add ((x5_1).toNat * 8)).block,(ad1031.add ((x5_1).toNat * 8)).off + 6,none⟩ = some (.int .i64 ((rd_T73 l0 x5_1).f3.f3)) ∧ w'.cell? ⟨(ad1031.add ((x5_1).toNat * 8)).block,(ad1031.add ((x5_1).toNat * 8)).off + 7,none⟩ = some (.string ((rd_T73 l0 x5_1).f4)) ∧ w'.cell? (ad1032.add ((x5_1).toNat * 8)) = some (.int .i64 ((rd_T73 l1 x5_1).f0)) ∧ w'.cell? ⟨(ad1032.add ((x5_1).toNat * 8)).block,(ad1032.add ((x5_1).toNat * 8)).off + 1,none⟩ = some (.int .i64 ((rd_T73 l1 x5_1).f1)) ∧ w'.cell? ⟨(ad1032.add ((x5_1).toNat * 8)).block,(ad1032.add ((x5_1).toNat * 8)).off + 2,none⟩ = some (.int .i64 ((rd_T73 l1 x5_1).f2)) ∧ w'.cell? ⟨(ad1032.add ((x5_1).toNat * 8)).block,(ad1032.add ((x5_1).toNat * 8)).off + 3,none⟩ = some (.int .i64 ((rd_T73 l1 x5_1).f3.f0)) ∧ w'.cell? ⟨(ad1032.add ((x5_1).toNat * 8)).block,(ad1032.add ((x5_1).toNat * 8)).off + 4,none⟩ = some (.int .i64 ((rd_T73 l1 x5_1).f3.f1)) ∧ w'.cell? ⟨(ad1032.add ((x5_1).toNat * 8)).block,(ad1032.add ((x5_1).toNat * 8)).off + 5,none⟩ = some (.int .i64 ((rd_T73 l1 x5_1).f3.f2)) ∧ w'.cell? ⟨(ad1032.add ((x5_1).toNat * 8)).block,(ad1032.add ((x5_1).toNat * 8)).off + 6,none⟩ = some (.int .i64 ((rd_T73 l1 x5_1).f3.f3)) ∧ w'.cell? ⟨(ad1032.add ((x5_1).toNat * 8)).block,(ad1032.add ((x5_1).toNat * 8)).off + 7,none⟩ = some (.string ((rd_T73 l1 x5_1).f4))) (ds := []) #[false,false,false,false,false,false,false,false,false,false] (by kernel_rfl) rfl rfl ⟨(zx_ HB hw1031_0),(zx_ HB hw1031_1),(zx_ HB hw1031_2),(zx_ HB hw1031_3),(zx_ HB hw1031_4),(zx_ HB hw1031_5),(zx_ HB hw1031_6),(zx_ HB hw1031_7),(zx_ HB hw1032_0),(zx_ HB hw1032_1),(zx_ HB hw1032_2),(zx_ HB hw1032_3),(zx_ HB hw1032_4),(zx_ HB hw1032_5),(zx_ HB hw1032_6),(zx_ HB hw1032_7)⟩ (fun hHeld => ?_);refine with_tabW laws_eqReplyS.tab6 laws_eqReplyS.bits6 (fun HT_ HW_ => ?_)
        generalize wr.drew = w11 at HB hx1031_0 hx1031_1 hx1031_2 hx1031_3 hx1031_4 hx1031_5 hx1031_6 hx1031_7 hx1032_0 hx1032_1 hx1032_2 hx1032_3 hx1032_4 hx1032_5 hx1032_6 hx1032_7 hHeld ⊢
        refine zpu 0 (N := some 17) HT_ ?_
        refine zpu 1 (N := some 18) HT_ ?_
        refine zpu 2 (N := some 19) HT_ ?_
        refine zpu 4 (N := some 21) HT_ ?_
        refine zpu 5 (N := some 22) HT_ ?_
        refine zpu 6 (N := some 23) HT_ ?_
        refine ztk 3 (N := some 20) HT_ HW_ hHeld ?_
        refine ztk 7 (N := some 24) HT_ HW_ hHeld ?_
        refine zon 8 (N := some 25) HT_ (fun K hK => ?_)
        refine zgo Tryd.func87 #[.agg #[.int .i64 ((rd_T73 l0 x5_1).f0),.int .i64 ((rd_T73 l0 x5_1).f1),.int .i64 ((rd_T73 l0 x5_1).f2),.int .i64 ((rd_T73 l0 x5_1).f3.f0),.int .i64 ((rd_T73 l0 x5_1).f3.f1),.int .i64 ((rd_T73 l0 x5_1).f3.f2),.int .i64 ((rd_T73 l0 x5_1).f3.f3),.string ((rd_T73 l0 x5_1).f4)],.agg #[.int .i64 ((rd_T73 l1 x5_1).f0),.int .i64 ((rd_T73 l1 x5_1).f1),.int .i64 ((rd_T73 l1 x5_1).f2),.int .i64 ((rd_T73 l1 x5_1).f3.f0),.int .i64 ((rd_T73 l1 x5_1).f3.f1),.int .i64 ((rd_T73 l1 x5_1).f3.f2),.int .i64 ((rd_T73 l1 x5_1).f3.f3),.string ((rd_T73 l1 x5_1).f4)]] ?_
        with_reducible refine (laws_eqReply.calls ((rd_T73 l0 x5_1).f0) ((rd_T73 l0 x5_1).f1) ((rd_T73 l0 x5_1).f2) ((rd_T73 l0 x5_1).f3.f0) ((rd_T73 l0 x5_1).f3.f1) ((rd_T73 l0 x5_1).f3.f2) ((rd_T73 l0 x5_1).f3.f3) ((rd_T73 l0 x5_1).f4) ((rd_T73 l1 x5_1).f0) ((rd_T73 l1 x5_1).f1) ((rd_T73 l1 x5_1).f2) ((rd_T73 l1 x5_1).f3.f0) ((rd_T73 l1 x5_1).f3.f1) ((rd_T73 l1 x5_1).f3.f2) ((rd_T73 l1 x5_1).f3.f3) ((rd_T73 l1 x5_1).f4) false _ A7.out).mono ?_
        rintro e w12 ⟨rfl,hb⟩
        refine ⟨_,rfl,?_⟩
        replace HB := zs_ HB hb
        (try clear hb)
        (try clear hb2)
        (try clear hk)
        (try clear hi)
        refine hK.out _ _ ⟨(zx_ HB hw1031_0),(zx_ HB hw1031_1),(zx_ HB hw1031_2),(zx_ HB hw1031_3),(zx_ HB hw1031_4),(zx_ HB hw1031_5),(zx_ HB hw1031_6),(zx_ HB hw1031_7),(zx_ HB hw1032_0),(zx_ HB hw1032_1),(zx_ HB hw1032_2),(zx_ HB hw1032_3),(zx_ HB hw1032_4),(zx_ HB hw1032_5),(zx_ HB hw1032_6),(zx_ HB hw1032_7)⟩ (fun hHeld => ?_)
        clear hK K
        refine norm_ (a' := ?_) ?_ ?_
        rotate_left
        ·show Act.put _ (some 25) _ = _
         simp only [Act.put,p1_,p2_,p3_,i64_w,i32_w]
         rfl
        refine zpu 9 (N := some 26) HT_ ?_
        refine done_ (done_of HT_.out (by kernel_rfl)) ?_
        try go_wp2
        go_ret
        exact ⟨zt_,zl_ HB⟩
      ·rw [if_neg c6] at H
       exact absurd H (by simp)
     ·rw [if_neg c5] at H
      exact absurd H (by simp)
    ·rw [if_neg c4] at H
     have c4b0 : decide (x5_1 < (l0.length : Int)) = false := decide_eq_false c4
     clear c4
     obtain rfl := Option.some.inj H
     go_wp2
     go_ret
     exact ⟨zt_,zl_ HB⟩
 ·rw [if_neg c3] at H
  have c3b0 : ((l0.length : Int) == (l1.length : Int)) = false := beq_eq_false_iff_ne.mpr c3
  have c3b1 : ((l0.length : Int) != (l1.length : Int)) = true := bne_iff_ne.mpr c3
  have c3b2 : (l0.length == l1.length) = false := by first | simpa using c3 | (simp at c3 ⊢;omega)
  obtain rfl := Option.some.inj H
  go_enter Tryd.func36,Tryd.ntmps36
  go_wp2
  go_ret
  exact ⟨zt_,zl_ HB⟩
set_option maxHeartbeats 8000000 in
set_option maxRecDepth 100000 in
theorem laws_eqRequest.calls (a0_0 : Int) (a0_1 : Int) (a0_2 : Int) (a0_3 : Int) (a0_4 : ByteArray) (a1_0 : Int) (a1_1 : Int) (a1_2 : Int) (a1_3 : Int) (a1_4 : ByteArray) (r : Bool) (w : World) (h : laws_eqRequest.f a0_0 a0_1 a0_2 a0_3 a0_4 a1_0 a1_1 a1_2 a1_3 a1_4 = some r) :
  Calls Tryd.prog 104 #[.agg #[.int .i64 a0_0,.int .i64 a0_1,.int .i64 a0_2,.int .i64 a0_3,.string a0_4],.agg #[.int .i64 a1_0,.int .i64 a1_1,.int .i64 a1_2,.int .i64 a1_3,.string a1_4]] w fun e w' => e = .returned (.bool r) ∧ Below w.heap.size w w' := by
 have hu85 := Tryd.underlying85
 have HB := am_ (Below.refl w.heap.size w)
 have H : (if a0_0 = a1_0 then (if a0_1 = a1_1 then (if a0_2 = a1_2 then (if a0_3 = a1_3 then (if a0_4.toList = a1_4.toList then (some true) else (some false)) else (some false)) else (some false)) else (some false)) else (some false)) = some r := h
 clear h
 by_cases c3 : a0_0 = a1_0
 ·rw [if_pos c3] at H
  have c3b0 : (a0_0 == a1_0) = true := beq_iff_eq.mpr c3
  have c3b1 : (a0_0 != a1_0) = false := bne_eq_false_iff_eq.mpr c3
  clear c3
  by_cases c4 : a0_1 = a1_1
  ·rw [if_pos c4] at H
   have c4b0 : (a0_1 == a1_1) = true := beq_iff_eq.mpr c4
   have c4b1 : (a0_1 != a1_1) = false := bne_eq_false_iff_eq.mpr c4
   clear c4
   by_cases c5 : a0_2 = a1_2
   ·rw [if_pos c5] at H
    have c5b0 : (a0_2 == a1_2) = true := beq_iff_eq.mpr c5
    have c5b1 : (a0_2 != a1_2) = false := bne_eq_false_iff_eq.mpr c5
    clear c5
    by_cases c6 : a0_3 = a1_3
    ·rw [if_pos c6] at H
     have c6b0 : (a0_3 == a1_3) = true := beq_iff_eq.mpr c6
     have c6b1 : (a0_3 != a1_3) = false := bne_eq_false_iff_eq.mpr c6
     clear c6
     by_cases c7 : a0_4.toList = a1_4.toList
     ·rw [if_pos c7] at H
      have c7b0 : (a0_4.toList == a1_4.toList) = true := beq_iff_eq.mpr c7
      have c7b1 : (a0_4.toList != a1_4.toList) = false := bne_eq_false_iff_eq.mpr c7
      clear c7
      obtain rfl := Option.some.inj H
      go_enter Tryd.func104,Tryd.ntmps104
      go_wp2_with (first | ((with_reducible refine gate_dst (N := 2) rfl ?_);refine zbx (N := 2) (cs := #[.int .i64 a0_0,.int .i64 a0_1,.int .i64 a0_2,.int .i64 a0_3,.string a0_4]) (t := 85) ?_;intro gb1247 hg w8 hbox hb;have BK1247 := am_ (hbox);have GW1247 := zw_ HB hg;have GE1247 := zw_ HB hg;replace HB := zs_ HB hb;clear hb hbox hg) | ((with_reducible refine gate_dst (N := 3) rfl ?_);refine zbx (N := 3) (cs := #[.int .i64 a1_0,.int .i64 a1_1,.int .i64 a1_2,.int .i64 a1_3,.string a1_4]) (t := 85) ?_;intro gb1248 hg w9 hbox hb;have BK1248 := am_ (hbox);have GW1248 := zw_ HB hg;have GE1248 := zw_ HB hg;replace HB := zs_ HB hb;have NB1247_1248 := zl hg BK1247;have NB1248_1247 := zg hg BK1247;replace BK1247 := zb BK1247 hb;clear hb hbox hg;have hnb10 := NB1247_1248.out;have hnc10 := NB1248_1247.out;obtain ⟨hcz11_0,hcz11_1,hcz11_2,hcz11_3,hcz11_4,hfz11_0,hfz11_1,hfz11_2,hfz11_3,hfz11_4⟩ := zc5 BK1247;obtain ⟨hcz12_0,hcz12_1,hcz12_2,hcz12_3,hcz12_4,hfz12_0,hfz12_1,hfz12_2,hfz12_3,hfz12_4⟩ := zc5 BK1248))
      go_ret
      exact ⟨zt_,zl_ HB⟩
     ·rw [if_neg c7] at H
      have c7b0 : (a0_4.toList == a1_4.toList) = false := beq_eq_false_iff_ne.mpr c7
      have c7b1 : (a0_4.toList != a1_4.toList) = true := bne_iff_ne.mpr c7
      obtain rfl := Option.some.inj H
      go_enter Tryd.func104,Tryd.ntmps104
      go_wp2_with (first | ((with_reducible refine gate_dst (N := 2) rfl ?_);refine zbx (N := 2) (cs := #[.int .i64 a0_0,.int .i64 a0_1,.int .i64 a0_2,.int .i64 a0_3,.string a0_4]) (t := 85) ?_;intro gb1247 hg w13 hbox hb;have BK1247 := am_ (hbox);have GW1247 := zw_ HB hg;have GE1247 := zw_ HB hg;replace HB := zs_ HB hb;clear hb hbox hg) | ((with_reducible refine gate_dst (N := 3) rfl ?_);refine zbx (N := 3) (cs := #[.int .i64 a1_0,.int .i64 a1_1,.int .i64 a1_2,.int .i64 a1_3,.string a1_4]) (t := 85) ?_;intro gb1248 hg w14 hbox hb;have BK1248 := am_ (hbox);have GW1248 := zw_ HB hg;have GE1248 := zw_ HB hg;replace HB := zs_ HB hb;have NB1247_1248 := zl hg BK1247;have NB1248_1247 := zg hg BK1247;replace BK1247 := zb BK1247 hb;clear hb hbox hg;have hnb15 := NB1247_1248.out;have hnc15 := NB1248_1247.out;obtain ⟨hcz16_0,hcz16_1,hcz16_2,hcz16_3,hcz16_4,hfz16_0,hfz16_1,hfz16_2,hfz16_3,hfz16_4⟩ := zc5 BK1247;obtain ⟨hcz17_0,hcz17_1,hcz17_2,hcz17_3,hcz17_4,hfz17_0,hfz17_1,hfz17_2,hfz17_3,hfz17_4⟩ := zc5 BK1248))
      go_ret
      exact ⟨zt_,zl_ HB⟩
    ·rw [if_neg c6] at H
     have c6b0 : (a0_3 == a1_3) = false := beq_eq_false_iff_ne.mpr c6
     have c6b1 : (a0_3 != a1_3) = true := bne_iff_ne.mpr c6
     obtain rfl := Option.some.inj H
     go_enter Tryd.func104,Tryd.ntmps104
     go_wp2_with (first | ((with_reducible refine gate_dst (N := 2) rfl ?_);refine zbx (N := 2) (cs := #[.int .i64 a0_0,.int .i64 a0_1,.int .i64 a0_2,.int .i64 a0_3,.string a0_4]) (t := 85) ?_;intro gb1247 hg w18 hbox hb;have BK1247 := am_ (hbox);have GW1247 := zw_ HB hg;have GE1247 := zw_ HB hg;replace HB := zs_ HB hb;clear hb hbox hg) | ((with_reducible refine gate_dst (N := 3) rfl ?_);refine zbx (N := 3) (cs := #[.int .i64 a1_0,.int .i64 a1_1,.int .i64 a1_2,.int .i64 a1_3,.string a1_4]) (t := 85) ?_;intro gb1248 hg w19 hbox hb;have BK1248 := am_ (hbox);have GW1248 := zw_ HB hg;have GE1248 := zw_ HB hg;replace HB := zs_ HB hb;have NB1247_1248 := zl hg BK1247;have NB1248_1247 := zg hg BK1247;replace BK1247 := zb BK1247 hb;clear hb hbox hg;have hnb20 := NB1247_1248.out;have hnc20 := NB1248_1247.out;obtain ⟨hcz21_0,hcz21_1,hcz21_2,hcz21_3,hcz21_4,hfz21_0,hfz21_1,hfz21_2,hfz21_3,hfz21_4⟩ := zc5 BK1247;obtain ⟨hcz22_0,hcz22_1,hcz22_2,hcz22_3,hcz22_4,hfz22_0,hfz22_1,hfz22_2,hfz22_3,hfz22_4⟩ := zc5 BK1248))
     go_ret
     exact ⟨zt_,zl_ HB⟩
   ·rw [if_neg c5] at H
    have c5b0 : (a0_2 == a1_2) = false := beq_eq_false_iff_ne.mpr c5
    have c5b1 : (a0_2 != a1_2) = true := bne_iff_ne.mpr c5
    obtain rfl := Option.some.inj H
    go_enter Tryd.func104,Tryd.ntmps104
    go_wp2_with (first | ((with_reducible refine gate_dst (N := 2) rfl ?_);refine zbx (N := 2) (cs := #[.int .i64 a0_0,.int .i64 a0_1,.int .i64 a0_2,.int .i64 a0_3,.string a0_4]) (t := 85) ?_;intro gb1247 hg w23 hbox hb;have BK1247 := am_ (hbox);have GW1247 := zw_ HB hg;have GE1247 := zw_ HB hg;replace HB := zs_ HB hb;clear hb hbox hg) | ((with_reducible refine gate_dst (N := 3) rfl ?_);refine zbx (N := 3) (cs := #[.int .i64 a1_0,.int .i64 a1_1,.int .i64 a1_2,.int .i64 a1_3,.string a1_4]) (t := 85) ?_;intro gb1248 hg w24 hbox hb;have BK1248 := am_ (hbox);have GW1248 := zw_ HB hg;have GE1248 := zw_ HB hg;replace HB := zs_ HB hb;have NB1247_1248 := zl hg BK1247;have NB1248_1247 := zg hg BK1247;replace BK1247 := zb BK1247 hb;clear hb hbox hg;have hnb25 := NB1247_1248.out;have hnc25 := NB1248_1247.out;obtain ⟨hcz26_0,hcz26_1,hcz26_2,hcz26_3,hcz26_4,hfz26_0,hfz26_1,hfz26_2,hfz26_3,hfz26_4⟩ := zc5 BK1247;obtain ⟨hcz27_0,hcz27_1,hcz27_2,hcz27_3,hcz27_4,hfz27_0,hfz27_1,hfz27_2,hfz27_3,hfz27_4⟩ := zc5 BK1248))
    go_ret
    exact ⟨zt_,zl_ HB⟩
  ·rw [if_neg c4] at H
   have c4b0 : (a0_1 == a1_1) = false := beq_eq_false_iff_ne.mpr c4
   have c4b1 : (a0_1 != a1_1) = true := bne_iff_ne.mpr c4
   obtain rfl := Option.some.inj H
   go_enter Tryd.func104,Tryd.ntmps104
   go_wp2_with (first | ((with_reducible refine gate_dst (N := 2) rfl ?_);refine zbx (N := 2) (cs := #[.int .i64 a0_0,.int .i64 a0_1,.int .i64 a0_2,.int .i64 a0_3,.string a0_4]) (t := 85) ?_;intro gb1247 hg w28 hbox hb;have BK1247 := am_ (hbox);have GW1247 := zw_ HB hg;have GE1247 := zw_ HB hg;replace HB := zs_ HB hb;clear hb hbox hg) | ((with_reducible refine gate_dst (N := 3) rfl ?_);refine zbx (N := 3) (cs := #[.int .i64 a1_0,.int .i64 a1_1,.int .i64 a1_2,.int .i64 a1_3,.string a1_4]) (t := 85) ?_;intro gb1248 hg w29 hbox hb;have BK1248 := am_ (hbox);have GW1248 := zw_ HB hg;have GE1248 := zw_ HB hg;replace HB := zs_ HB hb;have NB1247_1248 := zl hg BK1247;have NB1248_1247 := zg hg BK1247;replace BK1247 := zb BK1247 hb;clear hb hbox hg;have hnb30 := NB1247_1248.out;have hnc30 := NB1248_1247.out;obtain ⟨hcz31_0,hcz31_1,hcz31_2,hcz31_3,hcz31_4,hfz31_0,hfz31_1,hfz31_2,hfz31_3,hfz31_4⟩ := zc5 BK1247;obtain ⟨hcz32_0,hcz32_1,hcz32_2,hcz32_3,hcz32_4,hfz32_0,hfz32_1,hfz32_2,hfz32_3,hfz32_4⟩ := zc5 BK1248))
   go_ret
   exact ⟨zt_,zl_ HB⟩
 ·rw [if_neg c3] at H
  have c3b0 : (a0_0 == a1_0) = false := beq_eq_false_iff_ne.mpr c3
  have c3b1 : (a0_0 != a1_0) = true := bne_iff_ne.mpr c3
  obtain rfl := Option.some.inj H
  go_enter Tryd.func104,Tryd.ntmps104
  go_wp2_with (first | ((with_reducible refine gate_dst (N := 2) rfl ?_);refine zbx (N := 2) (cs := #[.int .i64 a0_0,.int .i64 a0_1,.int .i64 a0_2,.int .i64 a0_3,.string a0_4]) (t := 85) ?_;intro gb1247 hg w33 hbox hb;have BK1247 := am_ (hbox);have GW1247 := zw_ HB hg;have GE1247 := zw_ HB hg;replace HB := zs_ HB hb;clear hb hbox hg) | ((with_reducible refine gate_dst (N := 3) rfl ?_);refine zbx (N := 3) (cs := #[.int .i64 a1_0,.int .i64 a1_1,.int .i64 a1_2,.int .i64 a1_3,.string a1_4]) (t := 85) ?_;intro gb1248 hg w34 hbox hb;have BK1248 := am_ (hbox);have GW1248 := zw_ HB hg;have GE1248 := zw_ HB hg;replace HB := zs_ HB hb;have NB1247_1248 := zl hg BK1247;have NB1248_1247 := zg hg BK1247;replace BK1247 := zb BK1247 hb;clear hb hbox hg;have hnb35 := NB1247_1248.out;have hnc35 := NB1248_1247.out;obtain ⟨hcz36_0,hcz36_1,hcz36_2,hcz36_3,hcz36_4,hfz36_0,hfz36_1,hfz36_2,hfz36_3,hfz36_4⟩ := zc5 BK1247;obtain ⟨hcz37_0,hcz37_1,hcz37_2,hcz37_3,hcz37_4,hfz37_0,hfz37_1,hfz37_2,hfz37_3,hfz37_4⟩ := zc5 BK1248))
  go_ret
  exact ⟨zt_,zl_ HB⟩
set_option maxHeartbeats 8000000 in
set_option maxRecDepth 100000 in
theorem laws_eqClient.calls (k : Nat) (a0_0 : Int) (a0_1 : Int) (a0_2 : Bool) (a0_3 : Int) (a0_4 : Int) (a0_5 : Int) (a0_6 : Int) (a0_7 : ByteArray) (A0_8 : Option Addr) (c0_8 : Nat) (l0_8 : List (S73)) (A0_9 : Option Addr) (c0_9 : Nat) (l0_9 : List (S63)) (a1_0 : Int) (a1_1 : Int) (a1_2 : Bool) (a1_3 : Int) (a1_4 : Int) (a1_5 : Int) (a1_6 : Int) (a1_7 : ByteArray) (A1_8 : Option Addr) (c1_8 : Nat) (l1_8 : List (S73)) (A1_9 : Option Addr) (c1_9 : Nat) (l1_9 : List (S63)) (r : Bool) (w : World) (hr0_8 : Kd.C k73 w A0_8 l0_8.length l0_8) (hc0_8 : l0_8.length ≤ c0_8) (hr0_9 : Kd.C k63 w A0_9 l0_9.length l0_9) (hc0_9 : l0_9.length ≤ c0_9) (hr1_8 : Kd.C k73 w A1_8 l1_8.length l1_8) (hc1_8 : l1_8.length ≤ c1_8) (hr1_9 : Kd.C k63 w A1_9 l1_9.length l1_9) (hc1_9 : l1_9.length ≤ c1_9) (h : laws_eqClient.f k a0_0 a0_1 a0_2 a0_3 a0_4 a0_5 a0_6 a0_7 l0_8 l0_9 a1_0 a1_1 a1_2 a1_3 a1_4 a1_5 a1_6 a1_7 l1_8 l1_9 = some r) :
  Calls Tryd.prog 46 #[.agg #[.int .i64 a0_0,.int .i64 a0_1,.bool a0_2,.int .i64 a0_3,.int .i64 a0_4,.int .i64 a0_5,.int .i64 a0_6,.string a0_7,.slice A0_8 l0_8.length c0_8,.slice A0_9 l0_9.length c0_9],.agg #[.int .i64 a1_0,.int .i64 a1_1,.bool a1_2,.int .i64 a1_3,.int .i64 a1_4,.int .i64 a1_5,.int .i64 a1_6,.string a1_7,.slice A1_8 l1_8.length c1_8,.slice A1_9 l1_9.length c1_9]] w fun e w' => e = .returned (.bool r) ∧ Below w.heap.size w w' := by
 have hu88 := Tryd.underlying88
 have hu85 := Tryd.underlying85
 have HR0_8 := am_ hr0_8
 have HC0_8 := am_ hc0_8
 clear hr0_8 hc0_8
 have HR0_9 := am_ hr0_9
 have HC0_9 := am_ hc0_9
 clear hr0_9 hc0_9
 have HR1_8 := am_ hr1_8
 have HC1_8 := am_ hc1_8
 clear hr1_8 hc1_8
 have HR1_9 := am_ hr1_9
 have HC1_9 := am_ hc1_9
 clear hr1_9 hc1_9
 have HB := am_ (Below.refl w.heap.size w)
 have H : (if a0_0 = a1_0 then (if a0_1 = a1_1 then (if (a0_2 != a1_2) = true then (some false) else ((laws_eqRequest.f a0_3 a0_4 a0_5 a0_6 a0_7 a1_3 a1_4 a1_5 a1_6 a1_7).bind fun t1254 => (if t1254 = true then ((laws_eqReplyS.f k l0_8 l1_8).bind fun t1255 => (if t1255 = true then ((laws_eqAnswerS.f k l0_9 l1_9).bind fun t1256 => (if t1256 = true then (some true) else (some false))) else (some false))) else (some false)))) else (some false)) else (some false)) = some r := h
 clear h
 by_cases c3 : a0_0 = a1_0
 ·rw [if_pos c3] at H
  have c3b0 : (a0_0 == a1_0) = true := beq_iff_eq.mpr c3
  have c3b1 : (a0_0 != a1_0) = false := bne_eq_false_iff_eq.mpr c3
  clear c3
  by_cases c4 : a0_1 = a1_1
  ·rw [if_pos c4] at H
   have c4b0 : (a0_1 == a1_1) = true := beq_iff_eq.mpr c4
   have c4b1 : (a0_1 != a1_1) = false := bne_eq_false_iff_eq.mpr c4
   clear c4
   by_cases c5 : (a0_2 != a1_2) = true
   ·rw [if_pos c5] at H
    have c5b0 : (a0_2 != a1_2) = true := c5
    (try (have c5b1 : decide (a0_2 = a1_2) = false := by simpa using c5))
    (try (have c5b2 : (a0_2 == a1_2) = false := by simpa using c5))
    (try (have c5b3 : ¬ (a0_2 = a1_2) := by simpa using c5))
    clear c5
    obtain rfl := Option.some.inj H
    go_enter Tryd.func46,Tryd.ntmps46
    go_wp2_with (first | ((with_reducible refine gate_dst (N := 2) rfl ?_);refine zbx (N := 2) (cs := #[.int .i64 a0_0,.int .i64 a0_1,.bool a0_2,.int .i64 a0_3,.int .i64 a0_4,.int .i64 a0_5,.int .i64 a0_6,.string a0_7,.slice A0_8 l0_8.length c0_8,.slice A0_9 l0_9.length c0_9]) (t := 88) ?_;intro gb1252 hg w6 hbox hb;have BK1252 := am_ (hbox);have GW1252 := zw_ HB hg;have GE1252 := zw_ HB hg;replace HB := zs_ HB hb;clear hb hbox hg) | ((with_reducible refine gate_dst (N := 3) rfl ?_);refine zbx (N := 3) (cs := #[.int .i64 a1_0,.int .i64 a1_1,.bool a1_2,.int .i64 a1_3,.int .i64 a1_4,.int .i64 a1_5,.int .i64 a1_6,.string a1_7,.slice A1_8 l1_8.length c1_8,.slice A1_9 l1_9.length c1_9]) (t := 88) ?_;intro gb1253 hg w7 hbox hb;have BK1253 := am_ (hbox);have GW1253 := zw_ HB hg;have GE1253 := zw_ HB hg;replace HB := zs_ HB hb;have NB1252_1253 := zl hg BK1252;have NB1253_1252 := zg hg BK1252;replace BK1252 := zb BK1252 hb;clear hb hbox hg;have hnb8 := NB1252_1253.out;have hnc8 := NB1253_1252.out;obtain ⟨hcz9_0,hcz9_1,hcz9_2,hcz9_3,hcz9_4,hcz9_5,hcz9_6,hcz9_7,hcz9_8,hcz9_9,hfz9_0,hfz9_1,hfz9_2,hfz9_3,hfz9_4,hfz9_5,hfz9_6,hfz9_7,hfz9_8,hfz9_9⟩ := zc10 BK1252;obtain ⟨hcz10_0,hcz10_1,hcz10_2,hcz10_3,hcz10_4,hcz10_5,hcz10_6,hcz10_7,hcz10_8,hcz10_9,hfz10_0,hfz10_1,hfz10_2,hfz10_3,hfz10_4,hfz10_5,hfz10_6,hfz10_7,hfz10_8,hfz10_9⟩ := zc10 BK1253))
    go_ret
    exact ⟨zt_,zl_ HB⟩
   ·rw [if_neg c5] at H
    have c5b0 : (a0_2 != a1_2) = false := by simpa using c5
    (try (have c5b1 : decide (a0_2 = a1_2) = true := by simpa using c5))
    (try (have c5b2 : (a0_2 == a1_2) = true := by simpa using c5))
    clear c5
    replace H := Option.bind_eq_some_iff.mp H
    obtain ⟨t1254,A110,H⟩ := H
    try dsimp only at H
    have A11 := am_ A110
    clear A110
    by_cases c12 : t1254 = true
    ·subst c12
     have H1 : ((laws_eqReplyS.f k l0_8 l1_8).bind fun t1255 => (if t1255 = true then ((laws_eqAnswerS.f k l0_9 l1_9).bind fun t1256 => (if t1256 = true then (some true) else (some false))) else (some false))) = some r := by rw [if_pos rfl] at H;exact H
     clear H
     have H := H1
     clear H1
     replace H := Option.bind_eq_some_iff.mp H
     obtain ⟨t1255,A130,H⟩ := H
     try dsimp only at H
     have A13 := am_ A130
     clear A130
     by_cases c14 : t1255 = true
     ·subst c14
      have H1 : ((laws_eqAnswerS.f k l0_9 l1_9).bind fun t1256 => (if t1256 = true then (some true) else (some false))) = some r := by rw [if_pos rfl] at H;exact H
      clear H
      have H := H1
      clear H1
      replace H := Option.bind_eq_some_iff.mp H
      obtain ⟨t1256,A150,H⟩ := H
      try dsimp only at H
      have A15 := am_ A150
      clear A150
      by_cases c16 : t1256 = true
      ·subst c16
       have H1 : (some true) = some r := by rw [if_pos rfl] at H;exact H
       clear H
       have H := H1
       clear H1
       obtain rfl := Option.some.inj H
       go_enter Tryd.func46,Tryd.ntmps46
       go_wp2_with (first | ((with_reducible refine gate_dst (N := 2) rfl ?_);refine zbx (N := 2) (cs := #[.int .i64 a0_0,.int .i64 a0_1,.bool a0_2,.int .i64 a0_3,.int .i64 a0_4,.int .i64 a0_5,.int .i64 a0_6,.string a0_7,.slice A0_8 l0_8.length c0_8,.slice A0_9 l0_9.length c0_9]) (t := 88) ?_;intro gb1252 hg w17 hbox hb;have BK1252 := am_ (hbox);have GW1252 := zw_ HB hg;have GE1252 := zw_ HB hg;replace HB := zs_ HB hb;clear hb hbox hg) | ((with_reducible refine gate_dst (N := 3) rfl ?_);refine zbx (N := 3) (cs := #[.int .i64 a1_0,.int .i64 a1_1,.bool a1_2,.int .i64 a1_3,.int .i64 a1_4,.int .i64 a1_5,.int .i64 a1_6,.string a1_7,.slice A1_8 l1_8.length c1_8,.slice A1_9 l1_9.length c1_9]) (t := 88) ?_;intro gb1253 hg w18 hbox hb;have BK1253 := am_ (hbox);have GW1253 := zw_ HB hg;have GE1253 := zw_ HB hg;replace HB := zs_ HB hb;have NB1252_1253 := zl hg BK1252;have NB1253_1252 := zg hg BK1252;replace BK1252 := zb BK1252 hb;clear hb hbox hg;have hnb19 := NB1252_1253.out;have hnc19 := NB1253_1252.out;obtain ⟨hcz20_0,hcz20_1,hcz20_2,hcz20_3,hcz20_4,hcz20_5,hcz20_6,hcz20_7,hcz20_8,hcz20_9,hfz20_0,hfz20_1,hfz20_2,hfz20_3,hfz20_4,hfz20_5,hfz20_6,hfz20_7,hfz20_8,hfz20_9⟩ := zc10 BK1252;obtain ⟨hcz21_0,hcz21_1,hcz21_2,hcz21_3,hcz21_4,hcz21_5,hcz21_6,hcz21_7,hcz21_8,hcz21_9,hfz21_0,hfz21_1,hfz21_2,hfz21_3,hfz21_4,hfz21_5,hfz21_6,hfz21_7,hfz21_8,hfz21_9⟩ := zc10 BK1253) | ((with_reducible refine gate_callee (f := 104) rfl ?_);refine zgl (some 24) Tryd.func104 #[.agg #[.int .i64 a0_3,.int .i64 a0_4,.int .i64 a0_5,.int .i64 a0_6,.string a0_7],.agg #[.int .i64 a1_3,.int .i64 a1_4,.int .i64 a1_5,.int .i64 a1_6,.string a1_7]] ?_;(with_reducible refine (laws_eqRequest.calls a0_3 a0_4 a0_5 a0_6 a0_7 a1_3 a1_4 a1_5 a1_6 a1_7 true _ A11.out).mono ?_);rintro e w22 ⟨rfl,hb⟩;refine ⟨_,rfl,?_⟩;replace BK1252 := zb BK1252 hb;replace BK1253 := zb BK1253 hb;replace HB := zs_ HB hb;(try clear hb);(try clear hb2);(try clear hk);(try clear hi);obtain ⟨hcz23_0,hcz23_1,hcz23_2,hcz23_3,hcz23_4,hcz23_5,hcz23_6,hcz23_7,hcz23_8,hcz23_9,hfz23_0,hfz23_1,hfz23_2,hfz23_3,hfz23_4,hfz23_5,hfz23_6,hfz23_7,hfz23_8,hfz23_9⟩ := zc10 BK1252;obtain ⟨hcz24_0,hcz24_1,hcz24_2,hcz24_3,hcz24_4,hcz24_5,hcz24_6,hcz24_7,hcz24_8,hcz24_9,hfz24_0,hfz24_1,hfz24_2,hfz24_3,hfz24_4,hfz24_5,hfz24_6,hfz24_7,hfz24_8,hfz24_9⟩ := zc10 BK1253) | ((with_reducible refine gate_callee (f := 36) rfl ?_);refine zgl (some 30) Tryd.func36 #[.slice A0_8 l0_8.length c0_8,.slice A1_8 l1_8.length c1_8] ?_;(with_reducible refine (laws_eqReplyS.calls k _ _ l0_8 _ _ l1_8 true _ ?side1 ?side2 ?side3 ?side4 A13.out).mono ?_);(case side1 => exact zc_ HR0_8 HB);(case side2 => exact HC0_8.out);(case side3 => exact zc_ HR1_8 HB);(case side4 => exact HC1_8.out);rintro e w25 ⟨rfl,hb⟩;refine ⟨_,rfl,?_⟩;replace BK1252 := zb BK1252 hb;replace BK1253 := zb BK1253 hb;replace HB := zs_ HB hb;(try clear hb);(try clear hb2);(try clear hk);(try clear hi);obtain ⟨hcz26_0,hcz26_1,hcz26_2,hcz26_3,hcz26_4,hcz26_5,hcz26_6,hcz26_7,hcz26_8,hcz26_9,hfz26_0,hfz26_1,hfz26_2,hfz26_3,hfz26_4,hfz26_5,hfz26_6,hfz26_7,hfz26_8,hfz26_9⟩ := zc10 BK1252;obtain ⟨hcz27_0,hcz27_1,hcz27_2,hcz27_3,hcz27_4,hcz27_5,hcz27_6,hcz27_7,hcz27_8,hcz27_9,hfz27_0,hfz27_1,hfz27_2,hfz27_3,hfz27_4,hfz27_5,hfz27_6,hfz27_7,hfz27_8,hfz27_9⟩ := zc10 BK1253) | ((with_reducible refine gate_callee (f := 105) rfl ?_);refine zgl (some 36) Tryd.func105 #[.slice A0_9 l0_9.length c0_9,.slice A1_9 l1_9.length c1_9] ?_;(with_reducible refine (laws_eqAnswerS.calls k _ _ l0_9 _ _ l1_9 true _ ?side1 ?side2 ?side3 ?side4 A15.out).mono ?_);(case side1 => exact zc_ HR0_9 HB);(case side2 => exact HC0_9.out);(case side3 => exact zc_ HR1_9 HB);(case side4 => exact HC1_9.out);rintro e w28 ⟨rfl,hb⟩;refine ⟨_,rfl,?_⟩;replace BK1252 := zb BK1252 hb;replace BK1253 := zb BK1253 hb;replace HB := zs_ HB hb;(try clear hb);(try clear hb2);(try clear hk);(try clear hi)))
       go_ret
       exact ⟨zt_,zl_ HB⟩
      ·replace c16 := Bool.eq_false_iff.mpr c16
       subst c16
       have H1 : (some false) = some r := by rw [if_neg (show ¬ (false = true) by decide)] at H;exact H
       clear H
       have H := H1
       clear H1
       obtain rfl := Option.some.inj H
       go_enter Tryd.func46,Tryd.ntmps46
       go_wp2_with (first | ((with_reducible refine gate_dst (N := 2) rfl ?_);refine zbx (N := 2) (cs := #[.int .i64 a0_0,.int .i64 a0_1,.bool a0_2,.int .i64 a0_3,.int .i64 a0_4,.int .i64 a0_5,.int .i64 a0_6,.string a0_7,.slice A0_8 l0_8.length c0_8,.slice A0_9 l0_9.length c0_9]) (t := 88) ?_;intro gb1252 hg w29 hbox hb;have BK1252 := am_ (hbox);have GW1252 := zw_ HB hg;have GE1252 := zw_ HB hg;replace HB := zs_ HB hb;clear hb hbox hg) | ((with_reducible refine gate_dst (N := 3) rfl ?_);refine zbx (N := 3) (cs := #[.int .i64 a1_0,.int .i64 a1_1,.bool a1_2,.int .i64 a1_3,.int .i64 a1_4,.int .i64 a1_5,.int .i64 a1_6,.string a1_7,.slice A1_8 l1_8.length c1_8,.slice A1_9 l1_9.length c1_9]) (t := 88) ?_;intro gb1253 hg w30 hbox hb;have BK1253 := am_ (hbox);have GW1253 := zw_ HB hg;have GE1253 := zw_ HB hg;replace HB := zs_ HB hb;have NB1252_1253 := zl hg BK1252;have NB1253_1252 := zg hg BK1252;replace BK1252 := zb BK1252 hb;clear hb hbox hg;have hnb31 := NB1252_1253.out;have hnc31 := NB1253_1252.out;obtain ⟨hcz32_0,hcz32_1,hcz32_2,hcz32_3,hcz32_4,hcz32_5,hcz32_6,hcz32_7,hcz32_8,hcz32_9,hfz32_0,hfz32_1,hfz32_2,hfz32_3,hfz32_4,hfz32_5,hfz32_6,hfz32_7,hfz32_8,hfz32_9⟩ := zc10 BK1252;obtain ⟨hcz33_0,hcz33_1,hcz33_2,hcz33_3,hcz33_4,hcz33_5,hcz33_6,hcz33_7,hcz33_8,hcz33_9,hfz33_0,hfz33_1,hfz33_2,hfz33_3,hfz33_4,hfz33_5,hfz33_6,hfz33_7,hfz33_8,hfz33_9⟩ := zc10 BK1253) | ((with_reducible refine gate_callee (f := 104) rfl ?_);refine zgl (some 24) Tryd.func104 #[.agg #[.int .i64 a0_3,.int .i64 a0_4,.int .i64 a0_5,.int .i64 a0_6,.string a0_7],.agg #[.int .i64 a1_3,.int .i64 a1_4,.int .i64 a1_5,.int .i64 a1_6,.string a1_7]] ?_;(with_reducible refine (laws_eqRequest.calls a0_3 a0_4 a0_5 a0_6 a0_7 a1_3 a1_4 a1_5 a1_6 a1_7 true _ A11.out).mono ?_);rintro e w34 ⟨rfl,hb⟩;refine ⟨_,rfl,?_⟩;replace BK1252 := zb BK1252 hb;replace BK1253 := zb BK1253 hb;replace HB := zs_ HB hb;(try clear hb);(try clear hb2);(try clear hk);(try clear hi);obtain ⟨hcz35_0,hcz35_1,hcz35_2,hcz35_3,hcz35_4,hcz35_5,hcz35_6,hcz35_7,hcz35_8,hcz35_9,hfz35_0,hfz35_1,hfz35_2,hfz35_3,hfz35_4,hfz35_5,hfz35_6,hfz35_7,hfz35_8,hfz35_9⟩ := zc10 BK1252;obtain ⟨hcz36_0,hcz36_1,hcz36_2,hcz36_3,hcz36_4,hcz36_5,hcz36_6,hcz36_7,hcz36_8,hcz36_9,hfz36_0,hfz36_1,hfz36_2,hfz36_3,hfz36_4,hfz36_5,hfz36_6,hfz36_7,hfz36_8,hfz36_9⟩ := zc10 BK1253) | ((with_reducible refine gate_callee (f := 36) rfl ?_);refine zgl (some 30) Tryd.func36 #[.slice A0_8 l0_8.length c0_8,.slice A1_8 l1_8.length c1_8] ?_;(with_reducible refine (laws_eqReplyS.calls k _ _ l0_8 _ _ l1_8 true _ ?side1 ?side2 ?side3 ?side4 A13.out).mono ?_);(case side1 => exact zc_ HR0_8 HB);(case side2 => exact HC0_8.out);(case side3 => exact zc_ HR1_8 HB);(case side4 => exact HC1_8.out);rintro e w37 ⟨rfl,hb⟩;refine ⟨_,rfl,?_⟩;replace BK1252 := zb BK1252 hb;replace BK1253 := zb BK1253 hb;replace HB := zs_ HB hb;(try clear hb);(try clear hb2);(try clear hk);(try clear hi);obtain ⟨hcz38_0,hcz38_1,hcz38_2,hcz38_3,hcz38_4,hcz38_5,hcz38_6,hcz38_7,hcz38_8,hcz38_9,hfz38_0,hfz38_1,hfz38_2,hfz38_3,hfz38_4,hfz38_5,hfz38_6,hfz38_7,hfz38_8,hfz38_9⟩ := zc10 BK1252;obtain ⟨hcz39_0,hcz39_1,hcz39_2,hcz39_3,hcz39_4,hcz39_5,hcz39_6,hcz39_7,hcz39_8,hcz39_9,hfz39_0,hfz39_1,hfz39_2,hfz39_3,hfz39_4,hfz39_5,hfz39_6,hfz39_7,hfz39_8,hfz39_9⟩ := zc10 BK1253) | ((with_reducible refine gate_callee (f := 105) rfl ?_);refine zgl (some 36) Tryd.func105 #[.slice A0_9 l0_9.length c0_9,.slice A1_9 l1_9.length c1_9] ?_;(with_reducible refine (laws_eqAnswerS.calls k _ _ l0_9 _ _ l1_9 false _ ?side1 ?side2 ?side3 ?side4 A15.out).mono ?_);(case side1 => exact zc_ HR0_9 HB);(case side2 => exact HC0_9.out);(case side3 => exact zc_ HR1_9 HB);(case side4 => exact HC1_9.out);rintro e w40 ⟨rfl,hb⟩;refine ⟨_,rfl,?_⟩;replace HB := zs_ HB hb;(try clear hb);(try clear hb2);(try clear hk);(try clear hi)))
       go_ret
       exact ⟨zt_,zl_ HB⟩
     ·replace c14 := Bool.eq_false_iff.mpr c14
      subst c14
      have H1 : (some false) = some r := by rw [if_neg (show ¬ (false = true) by decide)] at H;exact H
      clear H
      have H := H1
      clear H1
      obtain rfl := Option.some.inj H
      go_enter Tryd.func46,Tryd.ntmps46
      go_wp2_with (first | ((with_reducible refine gate_dst (N := 2) rfl ?_);refine zbx (N := 2) (cs := #[.int .i64 a0_0,.int .i64 a0_1,.bool a0_2,.int .i64 a0_3,.int .i64 a0_4,.int .i64 a0_5,.int .i64 a0_6,.string a0_7,.slice A0_8 l0_8.length c0_8,.slice A0_9 l0_9.length c0_9]) (t := 88) ?_;intro gb1252 hg w41 hbox hb;have BK1252 := am_ (hbox);have GW1252 := zw_ HB hg;have GE1252 := zw_ HB hg;replace HB := zs_ HB hb;clear hb hbox hg) | ((with_reducible refine gate_dst (N := 3) rfl ?_);refine zbx (N := 3) (cs := #[.int .i64 a1_0,.int .i64 a1_1,.bool a1_2,.int .i64 a1_3,.int .i64 a1_4,.int .i64 a1_5,.int .i64 a1_6,.string a1_7,.slice A1_8 l1_8.length c1_8,.slice A1_9 l1_9.length c1_9]) (t := 88) ?_;intro gb1253 hg w42 hbox hb;have BK1253 := am_ (hbox);have GW1253 := zw_ HB hg;have GE1253 := zw_ HB hg;replace HB := zs_ HB hb;have NB1252_1253 := zl hg BK1252;have NB1253_1252 := zg hg BK1252;replace BK1252 := zb BK1252 hb;clear hb hbox hg;have hnb43 := NB1252_1253.out;have hnc43 := NB1253_1252.out;obtain ⟨hcz44_0,hcz44_1,hcz44_2,hcz44_3,hcz44_4,hcz44_5,hcz44_6,hcz44_7,hcz44_8,hcz44_9,hfz44_0,hfz44_1,hfz44_2,hfz44_3,hfz44_4,hfz44_5,hfz44_6,hfz44_7,hfz44_8,hfz44_9⟩ := zc10 BK1252;obtain ⟨hcz45_0,hcz45_1,hcz45_2,hcz45_3,hcz45_4,hcz45_5,hcz45_6,hcz45_7,hcz45_8,hcz45_9,hfz45_0,hfz45_1,hfz45_2,hfz45_3,hfz45_4,hfz45_5,hfz45_6,hfz45_7,hfz45_8,hfz45_9⟩ := zc10 BK1253) | ((with_reducible refine gate_callee (f := 104) rfl ?_);refine zgl (some 24) Tryd.func104 #[.agg #[.int .i64 a0_3,.int .i64 a0_4,.int .i64 a0_5,.int .i64 a0_6,.string a0_7],.agg #[.int .i64 a1_3,.int .i64 a1_4,.int .i64 a1_5,.int .i64 a1_6,.string a1_7]] ?_;(with_reducible refine (laws_eqRequest.calls a0_3 a0_4 a0_5 a0_6 a0_7 a1_3 a1_4 a1_5 a1_6 a1_7 true _ A11.out).mono ?_);rintro e w46 ⟨rfl,hb⟩;refine ⟨_,rfl,?_⟩;replace BK1252 := zb BK1252 hb;replace BK1253 := zb BK1253 hb;replace HB := zs_ HB hb;(try clear hb);(try clear hb2);(try clear hk);(try clear hi);obtain ⟨hcz47_0,hcz47_1,hcz47_2,hcz47_3,hcz47_4,hcz47_5,hcz47_6,hcz47_7,hcz47_8,hcz47_9,hfz47_0,hfz47_1,hfz47_2,hfz47_3,hfz47_4,hfz47_5,hfz47_6,hfz47_7,hfz47_8,hfz47_9⟩ := zc10 BK1252;obtain ⟨hcz48_0,hcz48_1,hcz48_2,hcz48_3,hcz48_4,hcz48_5,hcz48_6,hcz48_7,hcz48_8,hcz48_9,hfz48_0,hfz48_1,hfz48_2,hfz48_3,hfz48_4,hfz48_5,hfz48_6,hfz48_7,hfz48_8,hfz48_9⟩ := zc10 BK1253) | ((with_reducible refine gate_callee (f := 36) rfl ?_);refine zgl (some 30) Tryd.func36 #[.slice A0_8 l0_8.length c0_8,.slice A1_8 l1_8.length c1_8] ?_;(with_reducible refine (laws_eqReplyS.calls k _ _ l0_8 _ _ l1_8 false _ ?side1 ?side2 ?side3 ?side4 A13.out).mono ?_);(case side1 => exact zc_ HR0_8 HB);(case side2 => exact HC0_8.out);(case side3 => exact zc_ HR1_8 HB);(case side4 => exact HC1_8.out);rintro e w49 ⟨rfl,hb⟩;refine ⟨_,rfl,?_⟩;replace HB := zs_ HB hb;(try clear hb);(try clear hb2);(try clear hk);(try clear hi)))
      go_ret
      exact ⟨zt_,zl_ HB⟩
    ·replace c12 := Bool.eq_false_iff.mpr c12
     subst c12
     have H1 : (some false) = some r := by rw [if_neg (show ¬ (false = true) by decide)] at H;exact H
     clear H
     have H := H1
     clear H1
     obtain rfl := Option.some.inj H
     go_enter Tryd.func46,Tryd.ntmps46
     go_wp2_with (first | ((with_reducible refine gate_dst (N := 2) rfl ?_);refine zbx (N := 2) (cs := #[.int .i64 a0_0,.int .i64 a0_1,.bool a0_2,.int .i64 a0_3,.int .i64 a0_4,.int .i64 a0_5,.int .i64 a0_6,.string a0_7,.slice A0_8 l0_8.length c0_8,.slice A0_9 l0_9.length c0_9]) (t := 88) ?_;intro gb1252 hg w50 hbox hb;have BK1252 := am_ (hbox);have GW1252 := zw_ HB hg;have GE1252 := zw_ HB hg;replace HB := zs_ HB hb;clear hb hbox hg) | ((with_reducible refine gate_dst (N := 3) rfl ?_);refine zbx (N := 3) (cs := #[.int .i64 a1_0,.int .i64 a1_1,.bool a1_2,.int .i64 a1_3,.int .i64 a1_4,.int .i64 a1_5,.int .i64 a1_6,.string a1_7,.slice A1_8 l1_8.length c1_8,.slice A1_9 l1_9.length c1_9]) (t := 88) ?_;intro gb1253 hg w51 hbox hb;have BK1253 := am_ (hbox);have GW1253 := zw_ HB hg;have GE1253 := zw_ HB hg;replace HB := zs_ HB hb;have NB1252_1253 := zl hg BK1252;have NB1253_1252 := zg hg BK1252;replace BK1252 := zb BK1252 hb;clear hb hbox hg;have hnb52 := NB1252_1253.out;have hnc52 := NB1253_1252.out;obtain ⟨hcz53_0,hcz53_1,hcz53_2,hcz53_3,hcz53_4,hcz53_5,hcz53_6,hcz53_7,hcz53_8,hcz53_9,hfz53_0,hfz53_1,hfz53_2,hfz53_3,hfz53_4,hfz53_5,hfz53_6,hfz53_7,hfz53_8,hfz53_9⟩ := zc10 BK1252;obtain ⟨hcz54_0,hcz54_1,hcz54_2,hcz54_3,hcz54_4,hcz54_5,hcz54_6,hcz54_7,hcz54_8,hcz54_9,hfz54_0,hfz54_1,hfz54_2,hfz54_3,hfz54_4,hfz54_5,hfz54_6,hfz54_7,hfz54_8,hfz54_9⟩ := zc10 BK1253) | ((with_reducible refine gate_callee (f := 104) rfl ?_);refine zgl (some 24) Tryd.func104 #[.agg #[.int .i64 a0_3,.int .i64 a0_4,.int .i64 a0_5,.int .i64 a0_6,.string a0_7],.agg #[.int .i64 a1_3,.int .i64 a1_4,.int .i64 a1_5,.int .i64 a1_6,.string a1_7]] ?_;(with_reducible refine (laws_eqRequest.calls a0_3 a0_4 a0_5 a0_6 a0_7 a1_3 a1_4 a1_5 a1_6 a1_7 false _ A11.out).mono ?_);rintro e w55 ⟨rfl,hb⟩;refine ⟨_,rfl,?_⟩;replace HB := zs_ HB hb;(try clear hb);(try clear hb2);(try clear hk);(try clear hi)))
     go_ret
     exact ⟨zt_,zl_ HB⟩
  ·rw [if_neg c4] at H
   have c4b0 : (a0_1 == a1_1) = false := beq_eq_false_iff_ne.mpr c4
   have c4b1 : (a0_1 != a1_1) = true := bne_iff_ne.mpr c4
   obtain rfl := Option.some.inj H
   go_enter Tryd.func46,Tryd.ntmps46
   go_wp2_with (first | ((with_reducible refine gate_dst (N := 2) rfl ?_);refine zbx (N := 2) (cs := #[.int .i64 a0_0,.int .i64 a0_1,.bool a0_2,.int .i64 a0_3,.int .i64 a0_4,.int .i64 a0_5,.int .i64 a0_6,.string a0_7,.slice A0_8 l0_8.length c0_8,.slice A0_9 l0_9.length c0_9]) (t := 88) ?_;intro gb1252 hg w56 hbox hb;have BK1252 := am_ (hbox);have GW1252 := zw_ HB hg;have GE1252 := zw_ HB hg;replace HB := zs_ HB hb;clear hb hbox hg) | ((with_reducible refine gate_dst (N := 3) rfl ?_);refine zbx (N := 3) (cs := #[.int .i64 a1_0,.int .i64 a1_1,.bool a1_2,.int .i64 a1_3,.int .i64 a1_4,.int .i64 a1_5,.int .i64 a1_6,.string a1_7,.slice A1_8 l1_8.length c1_8,.slice A1_9 l1_9.length c1_9]) (t := 88) ?_;intro gb1253 hg w57 hbox hb;have BK1253 := am_ (hbox);have GW1253 := zw_ HB hg;have GE1253 := zw_ HB hg;replace HB := zs_ HB hb;have NB1252_1253 := zl hg BK1252;have NB1253_1252 := zg hg BK1252;replace BK1252 := zb BK1252 hb;clear hb hbox hg;have hnb58 := NB1252_1253.out;have hnc58 := NB1253_1252.out;obtain ⟨hcz59_0,hcz59_1,hcz59_2,hcz59_3,hcz59_4,hcz59_5,hcz59_6,hcz59_7,hcz59_8,hcz59_9,hfz59_0,hfz59_1,hfz59_2,hfz59_3,hfz59_4,hfz59_5,hfz59_6,hfz59_7,hfz59_8,hfz59_9⟩ := zc10 BK1252;obtain ⟨hcz60_0,hcz60_1,hcz60_2,hcz60_3,hcz60_4,hcz60_5,hcz60_6,hcz60_7,hcz60_8,hcz60_9,hfz60_0,hfz60_1,hfz60_2,hfz60_3,hfz60_4,hfz60_5,hfz60_6,hfz60_7,hfz60_8,hfz60_9⟩ := zc10 BK1253))
   go_ret
   exact ⟨zt_,zl_ HB⟩
 ·rw [if_neg c3] at H
  have c3b0 : (a0_0 == a1_0) = false := beq_eq_false_iff_ne.mpr c3
  have c3b1 : (a0_0 != a1_0) = true := bne_iff_ne.mpr c3
  obtain rfl := Option.some.inj H
  go_enter Tryd.func46,Tryd.ntmps46
  go_wp2_with (first | ((with_reducible refine gate_dst (N := 2) rfl ?_);refine zbx (N := 2) (cs := #[.int .i64 a0_0,.int .i64 a0_1,.bool a0_2,.int .i64 a0_3,.int .i64 a0_4,.int .i64 a0_5,.int .i64 a0_6,.string a0_7,.slice A0_8 l0_8.length c0_8,.slice A0_9 l0_9.length c0_9]) (t := 88) ?_;intro gb1252 hg w61 hbox hb;have BK1252 := am_ (hbox);have GW1252 := zw_ HB hg;have GE1252 := zw_ HB hg;replace HB := zs_ HB hb;clear hb hbox hg) | ((with_reducible refine gate_dst (N := 3) rfl ?_);refine zbx (N := 3) (cs := #[.int .i64 a1_0,.int .i64 a1_1,.bool a1_2,.int .i64 a1_3,.int .i64 a1_4,.int .i64 a1_5,.int .i64 a1_6,.string a1_7,.slice A1_8 l1_8.length c1_8,.slice A1_9 l1_9.length c1_9]) (t := 88) ?_;intro gb1253 hg w62 hbox hb;have BK1253 := am_ (hbox);have GW1253 := zw_ HB hg;have GE1253 := zw_ HB hg;replace HB := zs_ HB hb;have NB1252_1253 := zl hg BK1252;have NB1253_1252 := zg hg BK1252;replace BK1252 := zb BK1252 hb;clear hb hbox hg;have hnb63 := NB1252_1253.out;have hnc63 := NB1253_1252.out;obtain ⟨hcz64_0,hcz64_1,hcz64_2,hcz64_3,hcz64_4,hcz64_5,hcz64_6,hcz64_7,hcz64_8,hcz64_9,hfz64_0,hfz64_1,hfz64_2,hfz64_3,hfz64_4,hfz64_5,hfz64_6,hfz64_7,hfz64_8,hfz64_9⟩ := zc10 BK1252;obtain ⟨hcz65_0,hcz65_1,hcz65_2,hcz65_3,hcz65_4,hcz65_5,hcz65_6,hcz65_7,hcz65_8,hcz65_9,hfz65_0,hfz65_1,hfz65_2,hfz65_3,hfz65_4,hfz65_5,hfz65_6,hfz65_7,hfz65_8,hfz65_9⟩ := zc10 BK1253))
  go_ret
  exact ⟨zt_,zl_ HB⟩
set_option maxHeartbeats 8000000 in
set_option maxRecDepth 100000 in
theorem laws_szAnswerS.calls (A0 : Option Addr) (c0 : Nat) (l0 : List (S115)) (a1 : Int) (r : Int) (w : World) (hr0 : Kd.C k115 w A0 l0.length l0) (hc0 : l0.length ≤ c0) (h : laws_szAnswerS.f l0 a1 = some r) :
  Calls Tryd.prog 94 #[.slice A0 l0.length c0,.int .i64 a1] w fun e w' => e = .returned (.int .i64 r) ∧ Drawn0 w w' := by
 have HR0 := am_ hr0
 have HC0 := am_ hc0
 clear hr0 hc0
 have H : (if (wrap64 (a1 - (l0.length : Int))) < 0 then (some (-1)) else (some (wrap64 (a1 - (l0.length : Int))))) = some r := h
 clear h
 by_cases c3 : (wrap64 (a1 - (l0.length : Int))) < 0
 ·rw [if_pos c3] at H
  have c3b0 : decide ((wrap64 (a1 - (l0.length : Int))) < 0) = true := decide_eq_true c3
  clear c3
  obtain rfl := Option.some.inj H
  go_enter Tryd.func94,Tryd.ntmps94
  go_wp2
  go_ret
  exact ⟨by first | rfl | (simp;done) | (simp [*];done),by repeat (first | exact Drawn0.refl _ | apply Drawn0.step)⟩
 ·rw [if_neg c3] at H
  have c3b0 : decide ((wrap64 (a1 - (l0.length : Int))) < 0) = false := decide_eq_false c3
  clear c3
  obtain rfl := Option.some.inj H
  go_enter Tryd.func94,Tryd.ntmps94
  go_wp2
  go_ret
  exact ⟨by first | rfl | (simp;done) | (simp [*];done),by repeat (first | exact Drawn0.refl _ | apply Drawn0.step)⟩
set_option maxHeartbeats 8000000 in
set_option maxRecDepth 100000 in
theorem laws_szReply.calls (a0_0 : Int) (a0_1 : Int) (a0_2 : Int) (a0_3 : Int) (a0_4 : Int) (a0_5 : Int) (a0_6 : Int) (a0_7 : ByteArray) (a1 : Int) (r : Int) (w : World) (h : laws_szReply.f a0_0 a0_1 a0_2 a0_3 a0_4 a0_5 a0_6 a0_7 a1 = some r) :
  Calls Tryd.prog 82 #[.agg #[.int .i64 a0_0,.int .i64 a0_1,.int .i64 a0_2,.int .i64 a0_3,.int .i64 a0_4,.int .i64 a0_5,.int .i64 a0_6,.string a0_7],.int .i64 a1] w fun e w' => e = .returned (.int .i64 r) ∧ Below w.heap.size w w' := by
 have hu117 := Tryd.underlying117
 have HB := am_ (Below.refl w.heap.size w)
 have H : (if (wrap64 (a1 - (a0_7.size : Int))) < 0 then (some (-1)) else (some (wrap64 (a1 - (a0_7.size : Int))))) = some r := h
 clear h
 by_cases c3 : (wrap64 (a1 - (a0_7.size : Int))) < 0
 ·rw [if_pos c3] at H
  have c3b0 : decide ((wrap64 (a1 - (a0_7.size : Int))) < 0) = true := decide_eq_true c3
  clear c3
  obtain rfl := Option.some.inj H
  go_enter Tryd.func82,Tryd.ntmps82
  go_wp2_with (first | ((with_reducible refine gate_dst (N := 2) rfl ?_);refine zbx (N := 2) (cs := #[.int .i64 a0_0,.int .i64 a0_1,.int .i64 a0_2,.int .i64 a0_3,.int .i64 a0_4,.int .i64 a0_5,.int .i64 a0_6,.string a0_7]) (t := 117) ?_;intro gb863 hg w4 hbox hb;have BK863 := am_ (hbox);have GW863 := zw_ HB hg;have GE863 := zw_ HB hg;replace HB := zs_ HB hb;clear hb hbox hg;obtain ⟨hcz5_0,hcz5_1,hcz5_2,hcz5_3,hcz5_4,hcz5_5,hcz5_6,hcz5_7,hfz5_0,hfz5_1,hfz5_2,hfz5_3,hfz5_4,hfz5_5,hfz5_6,hfz5_7⟩ := zc8 BK863))
  go_ret
  exact ⟨zt_,zl_ HB⟩
 ·rw [if_neg c3] at H
  have c3b0 : decide ((wrap64 (a1 - (a0_7.size : Int))) < 0) = false := decide_eq_false c3
  clear c3
  obtain rfl := Option.some.inj H
  go_enter Tryd.func82,Tryd.ntmps82
  go_wp2_with (first | ((with_reducible refine gate_dst (N := 2) rfl ?_);refine zbx (N := 2) (cs := #[.int .i64 a0_0,.int .i64 a0_1,.int .i64 a0_2,.int .i64 a0_3,.int .i64 a0_4,.int .i64 a0_5,.int .i64 a0_6,.string a0_7]) (t := 117) ?_;intro gb863 hg w6 hbox hb;have BK863 := am_ (hbox);have GW863 := zw_ HB hg;have GE863 := zw_ HB hg;replace HB := zs_ HB hb;clear hb hbox hg;obtain ⟨hcz7_0,hcz7_1,hcz7_2,hcz7_3,hcz7_4,hcz7_5,hcz7_6,hcz7_7,hfz7_0,hfz7_1,hfz7_2,hfz7_3,hfz7_4,hfz7_5,hfz7_6,hfz7_7⟩ := zc8 BK863))
  go_ret
  exact ⟨zt_,zl_ HB⟩
set_option maxHeartbeats 8000000 in
set_option maxRecDepth 100000 in
theorem laws_szReplyS.calls (k : Nat) (A0 : Option Addr) (c0 : Nat) (l0 : List (S117)) (a1 : Int) (r : Int) (w : World) (hr0 : Kd.C k117 w A0 l0.length l0) (hc0 : l0.length ≤ c0) (h : laws_szReplyS.f k l0 a1 = some r) :
  Calls Tryd.prog 31 #[.slice A0 l0.length c0,.int .i64 a1] w fun e w' => e = .returned (.int .i64 r) ∧ Below w.heap.size w w' := by
 have hu117 := Tryd.underlying117
 have HR0 := am_ hr0
 have HC0 := am_ hc0
 clear hr0 hc0
 have HB := am_ (Below.refl w.heap.size w)
 have H : (if (wrap64 (a1 - (l0.length : Int))) < 0 then (some (-1)) else (laws_szReplyS.l0 k l0 (wrap64 (a1 - (l0.length : Int))) 0)) = some r := h
 clear h
 by_cases c3 : (wrap64 (a1 - (l0.length : Int))) < 0
 ·rw [if_pos c3] at H
  have c3b0 : decide ((wrap64 (a1 - (l0.length : Int))) < 0) = true := decide_eq_true c3
  clear c3
  obtain rfl := Option.some.inj H
  go_enter Tryd.func31,Tryd.ntmps31
  go_wp2
  go_ret
  exact ⟨zt_,zl_ HB⟩
 ·rw [if_neg c3] at H
  have c3b0 : decide ((wrap64 (a1 - (l0.length : Int))) < 0) = false := decide_eq_false c3
  clear c3
  have H' := am_ H
  clear H
  go_enter Tryd.func31,Tryd.ntmps31
  go_wp2
  go_loopg [1,5] k (fun kq v1 v5 w' => ∃ (x1_1 : Int) (x5_1 : Int),v1 = .int .i64 x1_1 ∧ v5 = .int .i64 x5_1 ∧ Aside0 (laws_szReplyS.l0 kq l0 x1_1 x5_1 = some r) ∧ Aside0 (kq ≤ k) ∧ Aside0 (Below w.heap.size w w'))
  case atStart => exact ⟨(wrap64 (a1 - (l0.length : Int))),(0),(by first | rfl | (simp;done) | (simp [*];done)),(by first | rfl | (simp;done) | (simp [*];done)),H',⟨Nat.le_refl _⟩,⟨zl_ HB⟩⟩
  case round =>
   clear H'
   try clear p2
   try clear c3
   try clear c3b0
   obtain ⟨x1_1,x5_1,rfl,rfl,HA,HK1,HB⟩ := hrel
   cases gk with
   | zero => exact absurd HA.out (by simp [laws_szReplyS.l0])
   | succ k1 =>
    have H := HA.out
    clear HA
    simp only [laws_szReplyS.l0] at H
    by_cases c4 : x5_1 < (l0.length : Int)
    ·rw [if_pos c4] at H
     have c4b0 : decide (x5_1 < (l0.length : Int)) = true := decide_eq_true c4
     clear c4
     by_cases c5 : 0 ≤ x5_1
     ·rw [if_pos c5] at H
      have c5b0 : decide (0 ≤ x5_1) = true := decide_eq_true c5
      clear c5
      replace H := Option.bind_eq_some_iff.mp H
      obtain ⟨t865,A60,H⟩ := H
      try dsimp only at H
      have A6 := am_ A60
      clear A60
      by_cases c7 : t865 < 0
      ·rw [if_pos c7] at H
       have c7b0 : decide (t865 < 0) = true := decide_eq_true c7
       clear c7
       obtain rfl := Option.some.inj H
       have p864 : 0 ≤ (x5_1 : Int) := zo_
       have q864 : x5_1 < (l0.length : Int) := zo_
       obtain ⟨ad864,e864,hx864_0,hx864_1,hx864_2,hx864_3,hx864_4,hx864_5,hx864_6,hx864_7⟩ := at_T117 HR0.out x5_1 p864 q864
       cases e864
       replace hx864_0 := zx_ HB hx864_0
       replace hx864_1 := zx_ HB hx864_1
       replace hx864_2 := zx_ HB hx864_2
       replace hx864_3 := zx_ HB hx864_3
       replace hx864_4 := zx_ HB hx864_4
       replace hx864_5 := zx_ HB hx864_5
       replace hx864_6 := zx_ HB hx864_6
       replace hx864_7 := zx_ HB hx864_7
       replace p864 := eq_true p864
       replace q864 := eq_true q864
       go_wp2_with (first | ((with_reducible refine gate_callee (f := 82) rfl ?_);refine zgl (some 23) Tryd.func82 #[.agg #[.int .i64 ((rd_T117 l0 x5_1).f0),.int .i64 ((rd_T117 l0 x5_1).f1),.int .i64 ((rd_T117 l0 x5_1).f2),.int .i64 ((rd_T117 l0 x5_1).f3.f0),.int .i64 ((rd_T117 l0 x5_1).f3.f1),.int .i64 ((rd_T117 l0 x5_1).f3.f2),.int .i64 ((rd_T117 l0 x5_1).f3.f3),.string ((rd_T117 l0 x5_1).f4)],.int .i64 x1_1] ?_;(with_reducible refine (laws_szReply.calls ((rd_T117 l0 x5_1).f0) ((rd_T117 l0 x5_1).f1) ((rd_T117 l0 x5_1).f2) ((rd_T117 l0 x5_1).f3.f0) ((rd_T117 l0 x5_1).f3.f1) ((rd_T117 l0 x5_1).f3.f2) ((rd_T117 l0 x5_1).f3.f3) ((rd_T117 l0 x5_1).f4) x1_1 t865 _ A6.out).mono ?_);rintro e w8 ⟨rfl,hb⟩;refine ⟨_,rfl,?_⟩;replace HB := zs_ HB hb;(try clear hb);(try clear hb2);(try clear hk);(try clear hi)))
       go_ret
       exact ⟨zt_,zl_ HB⟩
      ·rw [if_neg c7] at H
       have c7b0 : decide (t865 < 0) = false := decide_eq_false c7
       clear c7
       have H' := am_ H
       clear H
       have p864 : 0 ≤ (x5_1 : Int) := zo_
       have q864 : x5_1 < (l0.length : Int) := zo_
       obtain ⟨ad864,e864,hx864_0,hx864_1,hx864_2,hx864_3,hx864_4,hx864_5,hx864_6,hx864_7⟩ := at_T117 HR0.out x5_1 p864 q864
       cases e864
       replace hx864_0 := zx_ HB hx864_0
       replace hx864_1 := zx_ HB hx864_1
       replace hx864_2 := zx_ HB hx864_2
       replace hx864_3 := zx_ HB hx864_3
       replace hx864_4 := zx_ HB hx864_4
       replace hx864_5 := zx_ HB hx864_5
       replace hx864_6 := zx_ HB hx864_6
       replace hx864_7 := zx_ HB hx864_7
       replace p864 := eq_true p864
       replace q864 := eq_true q864
       go_wp2_with (first | ((with_reducible refine gate_callee (f := 82) rfl ?_);refine zgl (some 23) Tryd.func82 #[.agg #[.int .i64 ((rd_T117 l0 x5_1).f0),.int .i64 ((rd_T117 l0 x5_1).f1),.int .i64 ((rd_T117 l0 x5_1).f2),.int .i64 ((rd_T117 l0 x5_1).f3.f0),.int .i64 ((rd_T117 l0 x5_1).f3.f1),.int .i64 ((rd_T117 l0 x5_1).f3.f2),.int .i64 ((rd_T117 l0 x5_1).f3.f3),.string ((rd_T117 l0 x5_1).f4)],.int .i64 x1_1] ?_;(with_reducible refine (laws_szReply.calls ((rd_T117 l0 x5_1).f0) ((rd_T117 l0 x5_1).f1) ((rd_T117 l0 x5_1).f2) ((rd_T117 l0 x5_1).f3.f0) ((rd_T117 l0 x5_1).f3.f1) ((rd_T117 l0 x5_1).f3.f2) ((rd_T117 l0 x5_1).f3.f3) ((rd_T117 l0 x5_1).f4) x1_1 t865 _ A6.out).mono ?_);rintro e w9 ⟨rfl,hb⟩;refine ⟨_,rfl,?_⟩;replace HB := zs_ HB hb;(try clear hb);(try clear hb2);(try clear hk);(try clear hi)))
       go_roundg k1
       case measure => have := HK1.out;omega
       case rel => exact ⟨(t865),(wrap64 (x5_1 + 1)),(by first | rfl | (simp;done) | (simp [*];done)),(by first | rfl | (simp;done) | (simp [*];done)),H',⟨by have := HK1.out;omega⟩,⟨zl_ HB⟩⟩
     ·rw [if_neg c5] at H
      exact absurd H (by simp)
    ·rw [if_neg c4] at H
     have c4b0 : decide (x5_1 < (l0.length : Int)) = false := decide_eq_false c4
     clear c4
     obtain rfl := Option.some.inj H
     go_wp2
     go_ret
     exact ⟨zt_,zl_ HB⟩
set_option maxHeartbeats 8000000 in
set_option maxRecDepth 100000 in
theorem laws_szRequest.calls (a0_0 : Int) (a0_1 : Int) (a0_2 : Int) (a0_3 : Int) (a0_4 : ByteArray) (a1 : Int) (r : Int) (w : World) (h : laws_szRequest.f a0_0 a0_1 a0_2 a0_3 a0_4 a1 = some r) :
  Calls Tryd.prog 93 #[.agg #[.int .i64 a0_0,.int .i64 a0_1,.int .i64 a0_2,.int .i64 a0_3,.string a0_4],.int .i64 a1] w fun e w' => e = .returned (.int .i64 r) ∧ Below w.heap.size w w' := by
 have hu79 := Tryd.underlying79
 have HB := am_ (Below.refl w.heap.size w)
 have H : (if (wrap64 (a1 - (a0_4.size : Int))) < 0 then (some (-1)) else (some (wrap64 (a1 - (a0_4.size : Int))))) = some r := h
 clear h
 by_cases c3 : (wrap64 (a1 - (a0_4.size : Int))) < 0
 ·rw [if_pos c3] at H
  have c3b0 : decide ((wrap64 (a1 - (a0_4.size : Int))) < 0) = true := decide_eq_true c3
  clear c3
  obtain rfl := Option.some.inj H
  go_enter Tryd.func93,Tryd.ntmps93
  go_wp2_with (first | ((with_reducible refine gate_dst (N := 2) rfl ?_);refine zbx (N := 2) (cs := #[.int .i64 a0_0,.int .i64 a0_1,.int .i64 a0_2,.int .i64 a0_3,.string a0_4]) (t := 79) ?_;intro gb1169 hg w4 hbox hb;have BK1169 := am_ (hbox);have GW1169 := zw_ HB hg;have GE1169 := zw_ HB hg;replace HB := zs_ HB hb;clear hb hbox hg;obtain ⟨hcz5_0,hcz5_1,hcz5_2,hcz5_3,hcz5_4,hfz5_0,hfz5_1,hfz5_2,hfz5_3,hfz5_4⟩ := zc5 BK1169))
  go_ret
  exact ⟨zt_,zl_ HB⟩
 ·rw [if_neg c3] at H
  have c3b0 : decide ((wrap64 (a1 - (a0_4.size : Int))) < 0) = false := decide_eq_false c3
  clear c3
  obtain rfl := Option.some.inj H
  go_enter Tryd.func93,Tryd.ntmps93
  go_wp2_with (first | ((with_reducible refine gate_dst (N := 2) rfl ?_);refine zbx (N := 2) (cs := #[.int .i64 a0_0,.int .i64 a0_1,.int .i64 a0_2,.int .i64 a0_3,.string a0_4]) (t := 79) ?_;intro gb1169 hg w6 hbox hb;have BK1169 := am_ (hbox);have GW1169 := zw_ HB hg;have GE1169 := zw_ HB hg;replace HB := zs_ HB hb;clear hb hbox hg;obtain ⟨hcz7_0,hcz7_1,hcz7_2,hcz7_3,hcz7_4,hfz7_0,hfz7_1,hfz7_2,hfz7_3,hfz7_4⟩ := zc5 BK1169))
  go_ret
  exact ⟨zt_,zl_ HB⟩
set_option maxHeartbeats 8000000 in
set_option maxRecDepth 100000 in
theorem laws_szClient.calls (k : Nat) (a0_0 : Int) (a0_1 : Int) (a0_2 : Bool) (a0_3 : Int) (a0_4 : Int) (a0_5 : Int) (a0_6 : Int) (a0_7 : ByteArray) (A0_8 : Option Addr) (c0_8 : Nat) (l0_8 : List (S117)) (A0_9 : Option Addr) (c0_9 : Nat) (l0_9 : List (S115)) (a1 : Int) (r : Int) (w : World) (hr0_8 : Kd.C k117 w A0_8 l0_8.length l0_8) (hc0_8 : l0_8.length ≤ c0_8) (hr0_9 : Kd.C k115 w A0_9 l0_9.length l0_9) (hc0_9 : l0_9.length ≤ c0_9) (h : laws_szClient.f k a0_0 a0_1 a0_2 a0_3 a0_4 a0_5 a0_6 a0_7 l0_8 l0_9 a1 = some r) :
  Calls Tryd.prog 42 #[.agg #[.int .i64 a0_0,.int .i64 a0_1,.bool a0_2,.int .i64 a0_3,.int .i64 a0_4,.int .i64 a0_5,.int .i64 a0_6,.string a0_7,.slice A0_8 l0_8.length c0_8,.slice A0_9 l0_9.length c0_9],.int .i64 a1] w fun e w' => e = .returned (.int .i64 r) ∧ Below w.heap.size w w' := by
 have hu82 := Tryd.underlying82
 have hu79 := Tryd.underlying79
 have HR0_8 := am_ hr0_8
 have HC0_8 := am_ hc0_8
 clear hr0_8 hc0_8
 have HR0_9 := am_ hr0_9
 have HC0_9 := am_ hc0_9
 clear hr0_9 hc0_9
 have HB := am_ (Below.refl w.heap.size w)
 have H : ((laws_szRequest.f a0_3 a0_4 a0_5 a0_6 a0_7 a1).bind fun t1171 => (if t1171 < 0 then (some (-1)) else ((laws_szReplyS.f k l0_8 t1171).bind fun t1172 => (if t1172 < 0 then (some (-1)) else ((laws_szAnswerS.f l0_9 t1172).bind fun t1173 => (if t1173 < 0 then (some (-1)) else (some t1173))))))) = some r := h
 clear h
 replace H := Option.bind_eq_some_iff.mp H
 obtain ⟨t1171,A30,H⟩ := H
 try dsimp only at H
 have A3 := am_ A30
 clear A30
 by_cases c4 : t1171 < 0
 ·rw [if_pos c4] at H
  have c4b0 : decide (t1171 < 0) = true := decide_eq_true c4
  clear c4
  obtain rfl := Option.some.inj H
  go_enter Tryd.func42,Tryd.ntmps42
  go_wp2_with (first | ((with_reducible refine gate_dst (N := 2) rfl ?_);refine zbx (N := 2) (cs := #[.int .i64 a0_0,.int .i64 a0_1,.bool a0_2,.int .i64 a0_3,.int .i64 a0_4,.int .i64 a0_5,.int .i64 a0_6,.string a0_7,.slice A0_8 l0_8.length c0_8,.slice A0_9 l0_9.length c0_9]) (t := 82) ?_;intro gb1170 hg w5 hbox hb;have BK1170 := am_ (hbox);have GW1170 := zw_ HB hg;have GE1170 := zw_ HB hg;replace HB := zs_ HB hb;clear hb hbox hg;obtain ⟨hcz6_0,hcz6_1,hcz6_2,hcz6_3,hcz6_4,hcz6_5,hcz6_6,hcz6_7,hcz6_8,hcz6_9,hfz6_0,hfz6_1,hfz6_2,hfz6_3,hfz6_4,hfz6_5,hfz6_6,hfz6_7,hfz6_8,hfz6_9⟩ := zc10 BK1170) | ((with_reducible refine gate_callee (f := 93) rfl ?_);refine zgl (some 8) Tryd.func93 #[.agg #[.int .i64 a0_3,.int .i64 a0_4,.int .i64 a0_5,.int .i64 a0_6,.string a0_7],.int .i64 a1] ?_;(with_reducible refine (laws_szRequest.calls a0_3 a0_4 a0_5 a0_6 a0_7 a1 t1171 _ A3.out).mono ?_);rintro e w7 ⟨rfl,hb⟩;refine ⟨_,rfl,?_⟩;replace BK1170 := zb BK1170 hb;replace HB := zs_ HB hb;(try clear hb);(try clear hb2);(try clear hk);(try clear hi)))
  go_ret
  exact ⟨zt_,zl_ HB⟩
 ·rw [if_neg c4] at H
  have c4b0 : decide (t1171 < 0) = false := decide_eq_false c4
  clear c4
  replace H := Option.bind_eq_some_iff.mp H
  obtain ⟨t1172,A80,H⟩ := H
  try dsimp only at H
  have A8 := am_ A80
  clear A80
  by_cases c9 : t1172 < 0
  ·rw [if_pos c9] at H
   have c9b0 : decide (t1172 < 0) = true := decide_eq_true c9
   clear c9
   obtain rfl := Option.some.inj H
   go_enter Tryd.func42,Tryd.ntmps42
   go_wp2_with (first | ((with_reducible refine gate_dst (N := 2) rfl ?_);refine zbx (N := 2) (cs := #[.int .i64 a0_0,.int .i64 a0_1,.bool a0_2,.int .i64 a0_3,.int .i64 a0_4,.int .i64 a0_5,.int .i64 a0_6,.string a0_7,.slice A0_8 l0_8.length c0_8,.slice A0_9 l0_9.length c0_9]) (t := 82) ?_;intro gb1170 hg w10 hbox hb;have BK1170 := am_ (hbox);have GW1170 := zw_ HB hg;have GE1170 := zw_ HB hg;replace HB := zs_ HB hb;clear hb hbox hg;obtain ⟨hcz11_0,hcz11_1,hcz11_2,hcz11_3,hcz11_4,hcz11_5,hcz11_6,hcz11_7,hcz11_8,hcz11_9,hfz11_0,hfz11_1,hfz11_2,hfz11_3,hfz11_4,hfz11_5,hfz11_6,hfz11_7,hfz11_8,hfz11_9⟩ := zc10 BK1170) | ((with_reducible refine gate_callee (f := 93) rfl ?_);refine zgl (some 8) Tryd.func93 #[.agg #[.int .i64 a0_3,.int .i64 a0_4,.int .i64 a0_5,.int .i64 a0_6,.string a0_7],.int .i64 a1] ?_;(with_reducible refine (laws_szRequest.calls a0_3 a0_4 a0_5 a0_6 a0_7 a1 t1171 _ A3.out).mono ?_);rintro e w12 ⟨rfl,hb⟩;refine ⟨_,rfl,?_⟩;replace BK1170 := zb BK1170 hb;replace HB := zs_ HB hb;(try clear hb);(try clear hb2);(try clear hk);(try clear hi);obtain ⟨hcz13_0,hcz13_1,hcz13_2,hcz13_3,hcz13_4,hcz13_5,hcz13_6,hcz13_7,hcz13_8,hcz13_9,hfz13_0,hfz13_1,hfz13_2,hfz13_3,hfz13_4,hfz13_5,hfz13_6,hfz13_7,hfz13_8,hfz13_9⟩ := zc10 BK1170) | ((with_reducible refine gate_callee (f := 31) rfl ?_);refine zgl (some 14) Tryd.func31 #[.slice A0_8 l0_8.length c0_8,.int .i64 t1171] ?_;(with_reducible refine (laws_szReplyS.calls k _ _ l0_8 t1171 t1172 _ ?side1 ?side2 A8.out).mono ?_);(case side1 => exact zc_ HR0_8 HB);(case side2 => exact HC0_8.out);rintro e w14 ⟨rfl,hb⟩;refine ⟨_,rfl,?_⟩;replace BK1170 := zb BK1170 hb;replace HB := zs_ HB hb;(try clear hb);(try clear hb2);(try clear hk);(try clear hi)))
   go_ret
   exact ⟨zt_,zl_ HB⟩
  ·rw [if_neg c9] at H
   have c9b0 : decide (t1172 < 0) = false := decide_eq_false c9
   clear c9
   replace H := Option.bind_eq_some_iff.mp H
   obtain ⟨t1173,A150,H⟩ := H
   try dsimp only at H
   have A15 := am_ A150
   clear A150
   by_cases c16 : t1173 < 0
   ·rw [if_pos c16] at H
    have c16b0 : decide (t1173 < 0) = true := decide_eq_true c16
    clear c16
    obtain rfl := Option.some.inj H
    go_enter Tryd.func42,Tryd.ntmps42
    go_wp2_with (first | ((with_reducible refine gate_dst (N := 2) rfl ?_);refine zbx (N := 2) (cs := #[.int .i64 a0_0,.int .i64 a0_1,.bool a0_2,.int .i64 a0_3,.int .i64 a0_4,.int .i64 a0_5,.int .i64 a0_6,.string a0_7,.slice A0_8 l0_8.length c0_8,.slice A0_9 l0_9.length c0_9]) (t := 82) ?_;intro gb1170 hg w17 hbox hb;have BK1170 := am_ (hbox);have GW1170 := zw_ HB hg;have GE1170 := zw_ HB hg;replace HB := zs_ HB hb;clear hb hbox hg;obtain ⟨hcz18_0,hcz18_1,hcz18_2,hcz18_3,hcz18_4,hcz18_5,hcz18_6,hcz18_7,hcz18_8,hcz18_9,hfz18_0,hfz18_1,hfz18_2,hfz18_3,hfz18_4,hfz18_5,hfz18_6,hfz18_7,hfz18_8,hfz18_9⟩ := zc10 BK1170) | ((with_reducible refine gate_callee (f := 93) rfl ?_);refine zgl (some 8) Tryd.func93 #[.agg #[.int .i64 a0_3,.int .i64 a0_4,.int .i64 a0_5,.int .i64 a0_6,.string a0_7],.int .i64 a1] ?_;(with_reducible refine (laws_szRequest.calls a0_3 a0_4 a0_5 a0_6 a0_7 a1 t1171 _ A3.out).mono ?_);rintro e w19 ⟨rfl,hb⟩;refine ⟨_,rfl,?_⟩;replace BK1170 := zb BK1170 hb;replace HB := zs_ HB hb;(try clear hb);(try clear hb2);(try clear hk);(try clear hi);obtain ⟨hcz20_0,hcz20_1,hcz20_2,hcz20_3,hcz20_4,hcz20_5,hcz20_6,hcz20_7,hcz20_8,hcz20_9,hfz20_0,hfz20_1,hfz20_2,hfz20_3,hfz20_4,hfz20_5,hfz20_6,hfz20_7,hfz20_8,hfz20_9⟩ := zc10 BK1170) | ((with_reducible refine gate_callee (f := 31) rfl ?_);refine zgl (some 14) Tryd.func31 #[.slice A0_8 l0_8.length c0_8,.int .i64 t1171] ?_;(with_reducible refine (laws_szReplyS.calls k _ _ l0_8 t1171 t1172 _ ?side1 ?side2 A8.out).mono ?_);(case side1 => exact zc_ HR0_8 HB);(case side2 => exact HC0_8.out);rintro e w21 ⟨rfl,hb⟩;refine ⟨_,rfl,?_⟩;replace BK1170 := zb BK1170 hb;replace HB := zs_ HB hb;(try clear hb);(try clear hb2);(try clear hk);(try clear hi);obtain ⟨hcz22_0,hcz22_1,hcz22_2,hcz22_3,hcz22_4,hcz22_5,hcz22_6,hcz22_7,hcz22_8,hcz22_9,hfz22_0,hfz22_1,hfz22_2,hfz22_3,hfz22_4,hfz22_5,hfz22_6,hfz22_7,hfz22_8,hfz22_9⟩ := zc10 BK1170) | ((with_reducible refine gate_callee (f := 94) rfl ?_);refine zgl (some 20) Tryd.func94 #[.slice A0_9 l0_9.length c0_9,.int .i64 t1172] ?_;(with_reducible refine (laws_szAnswerS.calls _ _ l0_9 t1172 t1173 _ ?side1 ?side2 A15.out).mono ?_);(case side1 => exact zc_ HR0_9 HB);(case side2 => exact HC0_9.out);rintro e w' ⟨rfl,⟨nd,rfl⟩⟩;refine ⟨_,rfl,?_⟩))
    go_ret
    exact ⟨zt_,zl_ HB⟩
   ·rw [if_neg c16] at H
    have c16b0 : decide (t1173 < 0) = false := decide_eq_false c16
    clear c16
    obtain rfl := Option.some.inj H
    go_enter Tryd.func42,Tryd.ntmps42
    go_wp2_with (first | ((with_reducible refine gate_dst (N := 2) rfl ?_);refine zbx (N := 2) (cs := #[.int .i64 a0_0,.int .i64 a0_1,.bool a0_2,.int .i64 a0_3,.int .i64 a0_4,.int .i64 a0_5,.int .i64 a0_6,.string a0_7,.slice A0_8 l0_8.length c0_8,.slice A0_9 l0_9.length c0_9]) (t := 82) ?_;intro gb1170 hg w23 hbox hb;have BK1170 := am_ (hbox);have GW1170 := zw_ HB hg;have GE1170 := zw_ HB hg;replace HB := zs_ HB hb;clear hb hbox hg;obtain ⟨hcz24_0,hcz24_1,hcz24_2,hcz24_3,hcz24_4,hcz24_5,hcz24_6,hcz24_7,hcz24_8,hcz24_9,hfz24_0,hfz24_1,hfz24_2,hfz24_3,hfz24_4,hfz24_5,hfz24_6,hfz24_7,hfz24_8,hfz24_9⟩ := zc10 BK1170) | ((with_reducible refine gate_callee (f := 93) rfl ?_);refine zgl (some 8) Tryd.func93 #[.agg #[.int .i64 a0_3,.int .i64 a0_4,.int .i64 a0_5,.int .i64 a0_6,.string a0_7],.int .i64 a1] ?_;(with_reducible refine (laws_szRequest.calls a0_3 a0_4 a0_5 a0_6 a0_7 a1 t1171 _ A3.out).mono ?_);rintro e w25 ⟨rfl,hb⟩;refine ⟨_,rfl,?_⟩;replace BK1170 := zb BK1170 hb;replace HB := zs_ HB hb;(try clear hb);(try clear hb2);(try clear hk);(try clear hi);obtain ⟨hcz26_0,hcz26_1,hcz26_2,hcz26_3,hcz26_4,hcz26_5,hcz26_6,hcz26_7,hcz26_8,hcz26_9,hfz26_0,hfz26_1,hfz26_2,hfz26_3,hfz26_4,hfz26_5,hfz26_6,hfz26_7,hfz26_8,hfz26_9⟩ := zc10 BK1170) | ((with_reducible refine gate_callee (f := 31) rfl ?_);refine zgl (some 14) Tryd.func31 #[.slice A0_8 l0_8.length c0_8,.int .i64 t1171] ?_;(with_reducible refine (laws_szReplyS.calls k _ _ l0_8 t1171 t1172 _ ?side1 ?side2 A8.out).mono ?_);(case side1 => exact zc_ HR0_8 HB);(case side2 => exact HC0_8.out);rintro e w27 ⟨rfl,hb⟩;refine ⟨_,rfl,?_⟩;replace BK1170 := zb BK1170 hb;replace HB := zs_ HB hb;(try clear hb);(try clear hb2);(try clear hk);(try clear hi);obtain ⟨hcz28_0,hcz28_1,hcz28_2,hcz28_3,hcz28_4,hcz28_5,hcz28_6,hcz28_7,hcz28_8,hcz28_9,hfz28_0,hfz28_1,hfz28_2,hfz28_3,hfz28_4,hfz28_5,hfz28_6,hfz28_7,hfz28_8,hfz28_9⟩ := zc10 BK1170) | ((with_reducible refine gate_callee (f := 94) rfl ?_);refine zgl (some 20) Tryd.func94 #[.slice A0_9 l0_9.length c0_9,.int .i64 t1172] ?_;(with_reducible refine (laws_szAnswerS.calls _ _ l0_9 t1172 t1173 _ ?side1 ?side2 A15.out).mono ?_);(case side1 => exact zc_ HR0_9 HB);(case side2 => exact HC0_9.out);rintro e w' ⟨rfl,⟨nd,rfl⟩⟩;refine ⟨_,rfl,?_⟩))
    go_ret
    exact ⟨zt_,zl_ HB⟩
set_option maxHeartbeats 8000000 in
set_option maxRecDepth 100000 in
theorem laws_toAnswer.calls (a0_0 : Int) (a0_1 : Int) (a0_2 : Int) (a0_3 : Int) (r1 : Int) (r2 : Int) (r3 : Int) (r4 : Int) (w : World) (h : laws_toAnswer.f a0_0 a0_1 a0_2 a0_3 = some (r1,r2,r3,r4)) :
  Calls Tryd.prog 139 #[.agg #[.int .i64 a0_0,.int .i64 a0_1,.int .i64 a0_2,.int .i64 a0_3]] w fun e w' => e = .returned (.agg #[.int .i64 r1,.int .i64 r2,.int .i64 r3,.int .i64 r4]) ∧ Below w.heap.size w w' := by
 have hu115 := Tryd.underlying115
 have hu63 := Tryd.underlying63
 have HB := am_ (Below.refl w.heap.size w)
 have H : (some (a0_0,a0_1,a0_2,a0_3)) = some (r1,r2,r3,r4) := h
 clear h
 simp only [Option.some.injEq,Prod.mk.injEq] at H
 obtain ⟨rfl,rfl,rfl,rfl⟩ := H
 go_enter Tryd.func139,Tryd.ntmps139
 go_wp2_with (first | ((with_reducible refine gate_dst (N := 1) rfl ?_);refine zbx (N := 1) (cs := #[.int .i64 a0_0,.int .i64 a0_1,.int .i64 a0_2,.int .i64 a0_3]) (t := 115) ?_;intro gb953 hg w2 hbox hb;have BK953 := am_ (hbox);have GW953 := zw_ HB hg;have GE953 := zw_ HB hg;replace HB := zs_ HB hb;clear hb hbox hg) | ((with_reducible refine gate_dst (N := 2) rfl ?_);refine zbx (N := 2) (cs := #[.int .i64 0,.int .i64 0,.int .i64 0,.int .i64 0]) (t := 63) ?_;intro gb954 hg w3 hbox hb;have BK954 := am_ (hbox);have GW954 := zw_ HB hg;have GE954 := zw_ HB hg;replace HB := zs_ HB hb;have NB953_954 := zl hg BK953;have NB954_953 := zg hg BK953;replace BK953 := zb BK953 hb;clear hb hbox hg) | ((with_reducible refine gate_dst (N := 3) rfl ?_);refine zbx (N := 3) (cs := #[.int .i64 0,.int .i64 0,.int .i64 0,.int .i64 0]) (t := 63) ?_;intro gb955 hg w4 hbox hb;have BK955 := am_ (hbox);have GW955 := zw_ HB hg;have GE955 := zw_ HB hg;replace HB := zs_ HB hb;have NB953_955 := zl hg BK953;have NB955_953 := zg hg BK953;replace BK953 := zb BK953 hb;have NB954_955 := zl hg BK954;have NB955_954 := zg hg BK954;replace BK954 := zb BK954 hb;clear hb hbox hg;have hnb5 := NB953_954.out;have hnc5 := NB954_953.out;have hnb6 := NB953_955.out;have hnc6 := NB955_953.out;obtain ⟨hcz7_0,hcz7_1,hcz7_2,hcz7_3,hfz7_0,hfz7_1,hfz7_2,hfz7_3⟩ := zc4 BK953;have hnb8 := NB955_954.out;have hnc8 := NB954_955.out;obtain ⟨hcz9_0,hcz9_1,hcz9_2,hcz9_3,hfz9_0,hfz9_1,hfz9_2,hfz9_3⟩ := zc4 BK955;obtain ⟨hcz10_0,hcz10_1,hcz10_2,hcz10_3,hfz10_0,hfz10_1,hfz10_2,hfz10_3⟩ := zc4 BK954))
 refine bodyPost_ret (results_cell_row rfl _ _ gb954 63 #[.int .i64 a0_0,.int .i64 a0_1,.int .i64 a0_2,.int .i64 a0_3] (0,0) _ rfl (zq BK954) Tryd.underlying63 rfl (by kernel_rfl)) rfl ?_
 exact ⟨zt_,zl_ HB⟩
set_option maxHeartbeats 8000000 in
set_option maxRecDepth 100000 in
theorem laws_toAnswerS.calls (k : Nat) (A0 : Option Addr) (c0 : Nat) (l0 : List (S115)) (r : List (S63)) (w : World) (hr0 : Kd.C k115 w A0 l0.length l0) (hc0 : l0.length ≤ c0) (h : laws_toAnswerS.f k l0 = some r) :
  Calls Tryd.prog 99 #[.slice A0 l0.length c0] w fun e w' => ∃ v0_ : Value,e = .returned (v0_) ∧ Kd.R k63 63 w' w.heap.size (fun _ => True) v0_ r ∧ Below w.heap.size w w' := by
 have hu115 := Tryd.underlying115
 have hu63 := Tryd.underlying63
 have HR0 := am_ hr0
 have HC0 := am_ hc0
 clear hr0 hc0
 have HB := am_ (Below.refl w.heap.size w)
 have H : (if 0 ≤ (l0.length : Int) then (if ((l0.length : Int) : Int).toNat ≤ 8796093022208 then (laws_toAnswerS.l0 k l0 (List.replicate ((l0.length : Int) : Int).toNat z63) 0) else (none)) else (none)) = some r := h
 clear h
 by_cases c2 : 0 ≤ (l0.length : Int)
 ·rw [if_pos c2] at H
  have c2b0 := eq_true c2
  have c2b1 : decide (0 ≤ (l0.length : Int)) = true := decide_eq_true c2
  clear c2
  by_cases c3 : ((l0.length : Int) : Int).toNat ≤ 8796093022208
  ·rw [if_pos c3] at H
   have c3b0 := eq_true c3
   have c3b1 : decide (((l0.length : Int) : Int).toNat ≤ 8796093022208) = true := decide_eq_true c3
   clear c3
   obtain ⟨y1199,hy1199⟩ : ∃ y_ : List (S63),y_ = (List.replicate ((l0.length : Int) : Int).toNat z63) := ⟨_,rfl⟩
   replace H : (laws_toAnswerS.l0 k l0 y1199 0) = some r := by first | (rw [hy1199];with_reducible exact H) | (have H2_ := (Option.bind_some _ _).symm.trans H;rw [hy1199];with_reducible exact H2_) | (have H2_ := (Option.bind_some _ _).symm.trans H;with_reducible exact H2_) | with_reducible exact H | (rw [hy1199];exact H) | exact H
   have Ny1199 := am_ hy1199
   clear hy1199
   have H' := am_ H
   clear H
   go_enter Tryd.func99,Tryd.ntmps99
   go_wp2_with (first | ((with_reducible refine gate_dst (N := 7) rfl ?_);refine Kd.R_make k63 _ 63 rfl (N := 7) rfl 86 _ _ rfl (l0.length : Int) rfl rfl Tryd.underlying86 (.agg #[(.int .i64 0),(.int .i64 0),(.int .i64 0),(.int .i64 0)]) 32 info63 rfl (by decide) (by omega) z63 (ok := fun _ => True) (okp := fun _ => True) (k63_mkM _ _ _ z63 ) (fun _ hk => hk) trivial (zo_) (Nat.le_trans (Nat.mul_le_mul_right _ (zo_ : (l0.length : Int).toNat ≤ 8796093022208)) (by omega)) (Below.refl _ _) (Nat.le_refl _) ?_;intro v1200 w4 ho5 hb hg_ hnew_;clear hg_ hnew_;(first | rw [← Ny1199.out] at ho5 | (simp only [Int.reduceToNat] at ho5;rw [← Ny1199.out] at ho5));have HO1201 := am_ (Kd.R_lower ho5 (below_size (zl_ HB)));replace HB := zs_ HB hb;clear hb ho5))
   go_loopg [4] k (fun kq v4 w' => ∃ (x3_1 : List (S63)) (x4_1 : Int),v4 = .int .i64 x4_1 ∧ Aside0 (laws_toAnswerS.l0 kq l0 x3_1 x4_1 = some r) ∧ Aside0 (kq ≤ k) ∧ Aside0 (Kd.R k63 63 w' w.heap.size (fun _ => True) v1200 x3_1) ∧ Aside0 (Below w.heap.size w w'))
   case atStart => exact ⟨(y1199),(0),(by first | rfl | (simp;done) | (simp [*];done)),H',⟨Nat.le_refl _⟩,⟨zr HO1201⟩,⟨zl_ HB⟩⟩
   case round =>
    clear H'
    try clear c2
    try clear c2b0
    try clear c2b1
    try clear p2
    try clear c3
    try clear c3b0
    try clear c3b1
    obtain ⟨x3_1,x4_1,rfl,HA,HK1,HO_3,HB⟩ := hrel
    cases gk with
    | zero => exact absurd HA.out (by simp [laws_toAnswerS.l0])
    | succ k1 =>
     have H := HA.out
     clear HA
     simp only [laws_toAnswerS.l0] at H
     by_cases c6 : x4_1 < (l0.length : Int)
     ·rw [if_pos c6] at H
      have c6b0 : decide (x4_1 < (l0.length : Int)) = true := decide_eq_true c6
      clear c6
      by_cases c7 : 0 ≤ x4_1
      ·rw [if_pos c7] at H
       have c7b0 : decide (0 ≤ x4_1) = true := decide_eq_true c7
       clear c7
       replace H := Option.bind_eq_some_iff.mp H
       obtain ⟨⟨t1203,t1204,t1205,t1206⟩,A80,H⟩ := H
       try dsimp only at H
       have A8 := am_ A80
       clear A80
       by_cases c9 : x4_1 < (x3_1.length : Int)
       ·rw [if_pos c9] at H
        have c9b0 : decide (x4_1 < (x3_1.length : Int)) = true := decide_eq_true c9
        clear c9
        obtain ⟨y1207,hy1207⟩ : ∃ y_ : List (S63),y_ = (x3_1.set (x4_1 : Int).toNat (⟨t1203,t1204,t1205,t1206⟩ : S63)) := ⟨_,rfl⟩
        replace H : (laws_toAnswerS.l0 k1 l0 y1207 (wrap64 (x4_1 + 1))) = some r := by first | (rw [hy1207];with_reducible exact H) | (have H2_ := (Option.bind_some _ _).symm.trans H;rw [hy1207];with_reducible exact H2_) | (have H2_ := (Option.bind_some _ _).symm.trans H;with_reducible exact H2_) | with_reducible exact H | (rw [hy1207];exact H) | exact H
        have Ny1207 := am_ hy1207
        clear hy1207
        have H' := am_ H
        clear H
        have p1202 : 0 ≤ (x4_1 : Int) := zo_
        have q1202 : x4_1 < (l0.length : Int) := zo_
        obtain ⟨ad1202,e1202,hx1202_0,hx1202_1,hx1202_2,hx1202_3⟩ := at_T115 HR0.out x4_1 p1202 q1202
        cases e1202
        replace hx1202_0 := zx_ HB hx1202_0
        replace hx1202_1 := zx_ HB hx1202_1
        replace hx1202_2 := zx_ HB hx1202_2
        replace hx1202_3 := zx_ HB hx1202_3
        replace p1202 := eq_true p1202
        replace q1202 := eq_true q1202
        go_wp2_with (first | ((with_reducible refine gate_callee (f := 139) rfl ?_);refine zgl (some 20) Tryd.func139 #[.agg #[.int .i64 ((rd_T115 l0 x4_1).f0),.int .i64 ((rd_T115 l0 x4_1).f1),.int .i64 ((rd_T115 l0 x4_1).f2),.int .i64 ((rd_T115 l0 x4_1).f3)]] ?_;(with_reducible refine (laws_toAnswer.calls ((rd_T115 l0 x4_1).f0) ((rd_T115 l0 x4_1).f1) ((rd_T115 l0 x4_1).f2) ((rd_T115 l0 x4_1).f3) t1203 t1204 t1205 t1206 _ A8.out).mono ?_);rintro e w11 ⟨rfl,hb⟩;refine ⟨_,rfl,?_⟩;replace HO_3 := zrb HO_3 hb;replace HB := zs_ HB hb;(try clear hb);(try clear hb2);(try clear hk);(try clear hi);have p10 : 0 ≤ (x4_1 : Int) := zo_;have q10 : (x4_1 : Int) < ((x3_1.length : Int) : Int) := zo_;obtain ⟨go10,co10,eo10,gb10,gl10,cl10,HG10⟩ := Kd.R_form HO_3.out (by omega);(first | cases eo10 | (injection eo10 with ea_ en_ ec_;(first | subst ea_ | (injection ea_ with ea_;subst ea_));subst ec_;clear en_));have GB10 := am_ gb10;have GG10 := am_ HG10;clear gb10 gl10 HG10;obtain ⟨ce10,hcl10,hM10,hcc10,hfr10⟩ := Kd.R_elem HO_3.out z63 (x4_1 : Int) p10 q10;obtain rfl := k63_openM hM10;have hx10_0 : w11.cell? ⟨go10,(x4_1 : Int).toNat * 4,none⟩ = some (.int .i64 ((rd_T63 x3_1 x4_1).f0)) := hcc10 0 _ rfl;have hx10_1 : w11.cell? ⟨go10,(x4_1 : Int).toNat * 4 + 1,none⟩ = some (.int .i64 ((rd_T63 x3_1 x4_1).f1)) := hcc10 1 _ rfl;have hx10_2 : w11.cell? ⟨go10,(x4_1 : Int).toNat * 4 + 2,none⟩ = some (.int .i64 ((rd_T63 x3_1 x4_1).f2)) := hcc10 2 _ rfl;have hx10_3 : w11.cell? ⟨go10,(x4_1 : Int).toNat * 4 + 3,none⟩ = some (.int .i64 ((rd_T63 x3_1 x4_1).f3)) := hcc10 3 _ rfl;have hf10_0 : w11.frozen? ⟨go10,(x4_1 : Int).toNat * 4,none⟩ = false := hfr10 0;have hf10_1 : w11.frozen? ⟨go10,(x4_1 : Int).toNat * 4 + 1,none⟩ = false := hfr10 1;have hf10_2 : w11.frozen? ⟨go10,(x4_1 : Int).toNat * 4 + 2,none⟩ = false := hfr10 2;have hf10_3 : w11.frozen? ⟨go10,(x4_1 : Int).toNat * 4 + 3,none⟩ = false := hfr10 3;clear hcl10 hcc10 hfr10 hM10;replace p10 := eq_true p10;replace q10 := eq_true q10;have HX12 := am_ (show Kd.R k63 63 w11 w.heap.size (fun _ => True) (.slice (some ⟨go10,0,none⟩) x3_1.length co10) x3_1 from (zr HO_3));obtain ⟨ce12,hcl12,hM12,hcc12,hfr12⟩ := Kd.R_elem HX12.out z63 (x4_1 : Int) (zo_) (by have h_ : (x4_1 : Int) < ((x3_1.length : Int) : Int) := zo_;first | exact h_ | (have e_ := (Kd.R_reads' HO_3.out).1;omega) | simpa using h_);obtain rfl := k63_openM hM12;have HP12 := Kd.R_seg HX12.out (x4_1 : Int) (zo_) (by have h_ : (x4_1 : Int) < ((x3_1.length : Int) : Int) := zo_;first | exact h_ | (have e_ := (Kd.R_reads' HO_3.out).1;omega) | simpa using h_) (seg := [.int .i64 t1203,.int .i64 t1204,.int .i64 t1205,.int .i64 t1206]) (j := 0) hcl12 hcc12 (show 4 ≤ 4 from by decide) (x' := (⟨t1203,t1204,t1205,t1206⟩ : S63)) (k63_mkM _ _ _ (⟨t1203,t1204,t1205,t1206⟩ : S63) ) (fun _ hk => hk);have hx12_0 := hcc12 0 _ rfl;(try simp only [show (k63).sz = 4 from rfl,Nat.mul_one,Nat.add_zero] at hx12_0);have hf12_0 := hfr12 0;(try simp only [show (k63).sz = 4 from rfl,Nat.mul_one,Nat.add_zero] at hf12_0);have hx12_1 := hcc12 1 _ rfl;(try simp only [show (k63).sz = 4 from rfl,Nat.mul_one,Nat.add_zero] at hx12_1);have hf12_1 := hfr12 1;(try simp only [show (k63).sz = 4 from rfl,Nat.mul_one,Nat.add_zero] at hf12_1);have hx12_2 := hcc12 2 _ rfl;(try simp only [show (k63).sz = 4 from rfl,Nat.mul_one,Nat.add_zero] at hx12_2);have hf12_2 := hfr12 2;(try simp only [show (k63).sz = 4 from rfl,Nat.mul_one,Nat.add_zero] at hf12_2);have hx12_3 := hcc12 3 _ rfl;(try simp only [show (k63).sz = 4 from rfl,Nat.mul_one,Nat.add_zero] at hx12_3);have hf12_3 := hfr12 3;(try simp only [show (k63).sz = 4 from rfl,Nat.mul_one,Nat.add_zero] at hf12_3);clear hcl12 hcc12 hfr12 hM12) | ((with_reducible refine gate_store (t := 63) (p := 21) rfl ?_);refine store_event (t := 63) (p := 21) (v := ?vo_w13) (w1 := ((((w11.setCell ⟨go10,(x4_1 : Int).toNat * 4,none⟩ (.int .i64 t1203)).setCell ⟨go10,(x4_1 : Int).toNat * 4 + 1,none⟩ (.int .i64 t1204)).setCell ⟨go10,(x4_1 : Int).toNat * 4 + 2,none⟩ (.int .i64 t1205)).setCell ⟨go10,(x4_1 : Int).toNat * 4 + 3,none⟩ (.int .i64 t1206))) ?hg ?ho ?hn ?hr ?_;(case ho => rfl);(case hg => rfl);(case hn => rfl);(case hr => first | (go_simp;done) | (go_simp;rfl));intro w13 hw;have hg : w11.grownBy w13 (some go10) := (by rw [hw];exact HP12.2);have hp_ : Kd.R k63 63 w13 w.heap.size (fun _ => True) (.slice (some ⟨go10,0,none⟩) x3_1.length co10) y1207 := (by rw [hw,Ny1207.out];exact HP12.1);clear HP12;replace HO_3 := am_ (hp_);replace HB := am_ ((by rw [hw];exact below_set (below_set (below_set (below_set (HB.out) GB10.out) GB10.out) GB10.out) GB10.out : Below w.heap.size w w13));clear hg hw hp_))
        go_roundg k1
        case measure => have := HK1.out;omega
        case rel => exact ⟨(y1207),(wrap64 (x4_1 + 1)),(by first | rfl | (simp;done) | (simp [*];done)),H',⟨by have := HK1.out;omega⟩,⟨zr HO_3⟩,⟨zl_ HB⟩⟩
       ·rw [if_neg c9] at H
        exact absurd H (by simp)
      ·rw [if_neg c7] at H
       exact absurd H (by simp)
     ·rw [if_neg c6] at H
      have c6b0 : decide (x4_1 < (l0.length : Int)) = false := decide_eq_false c6
      clear c6
      obtain rfl := Option.some.inj H
      go_wp2
      go_ret
      exact ⟨_,zt_,zr HO_3,zl_ HB⟩
  ·rw [if_neg c3] at H
   exact absurd H (by simp)
 ·rw [if_neg c2] at H
  exact absurd H (by simp)
set_option maxHeartbeats 8000000 in
set_option maxRecDepth 100000 in
theorem laws_toReply.calls (a0_0 : Int) (a0_1 : Int) (a0_2 : Int) (a0_3 : Int) (a0_4 : Int) (a0_5 : Int) (a0_6 : Int) (a0_7 : ByteArray) (r1 : Int) (r2 : Int) (r3 : Int) (r4 : Int) (r5 : Int) (r6 : Int) (r7 : Int) (r8 : ByteArray) (w : World) (h : laws_toReply.f a0_0 a0_1 a0_2 a0_3 a0_4 a0_5 a0_6 a0_7 = some (r1,r2,r3,r4,r5,r6,r7,r8)) :
  Calls Tryd.prog 84 #[.agg #[.int .i64 a0_0,.int .i64 a0_1,.int .i64 a0_2,.int .i64 a0_3,.int .i64 a0_4,.int .i64 a0_5,.int .i64 a0_6,.string a0_7]] w fun e w' => e = .returned (.agg #[.int .i64 r1,.int .i64 r2,.int .i64 r3,.int .i64 r4,.int .i64 r5,.int .i64 r6,.int .i64 r7,.string r8]) ∧ Below w.heap.size w w' := by
 have hu117 := Tryd.underlying117
 have hu73 := Tryd.underlying73
 have hu115 := Tryd.underlying115
 have hu63 := Tryd.underlying63
 have HB := am_ (Below.refl w.heap.size w)
 have H : ((laws_toAnswer.f a0_3 a0_4 a0_5 a0_6).bind fun bt959 => (some (a0_0,a0_1,a0_2,bt959.1,bt959.2.1,bt959.2.2.1,bt959.2.2.2,a0_7))) = some (r1,r2,r3,r4,r5,r6,r7,r8) := h
 clear h
 replace H := Option.bind_eq_some_iff.mp H
 obtain ⟨⟨t959,t960,t961,t962⟩,A20,H⟩ := H
 try dsimp only at H
 have A2 := am_ A20
 clear A20
 simp only [Option.some.injEq,Prod.mk.injEq] at H
 obtain ⟨rfl,rfl,rfl,rfl,rfl,rfl,rfl,rfl⟩ := H
 go_enter Tryd.func84,Tryd.ntmps84
 go_wp2_with (first | ((with_reducible refine gate_dst (N := 1) rfl ?_);refine zbx (N := 1) (cs := #[.int .i64 a0_0,.int .i64 a0_1,.int .i64 a0_2,.int .i64 a0_3,.int .i64 a0_4,.int .i64 a0_5,.int .i64 a0_6,.string a0_7]) (t := 117) ?_;intro gb956 hg w3 hbox hb;have BK956 := am_ (hbox);have GW956 := zw_ HB hg;have GE956 := zw_ HB hg;replace HB := zs_ HB hb;clear hb hbox hg) | ((with_reducible refine gate_dst (N := 2) rfl ?_);refine zbx (N := 2) (cs := #[.int .i64 0,.int .i64 0,.int .i64 0,.int .i64 0,.int .i64 0,.int .i64 0,.int .i64 0,.string ⟨#[]⟩]) (t := 73) ?_;intro gb957 hg w4 hbox hb;have BK957 := am_ (hbox);have GW957 := zw_ HB hg;have GE957 := zw_ HB hg;replace HB := zs_ HB hb;have NB956_957 := zl hg BK956;have NB957_956 := zg hg BK956;replace BK956 := zb BK956 hb;clear hb hbox hg) | ((with_reducible refine gate_dst (N := 3) rfl ?_);refine zbx (N := 3) (cs := #[.int .i64 0,.int .i64 0,.int .i64 0,.int .i64 0,.int .i64 0,.int .i64 0,.int .i64 0,.string ⟨#[]⟩]) (t := 73) ?_;intro gb958 hg w5 hbox hb;have BK958 := am_ (hbox);have GW958 := zw_ HB hg;have GE958 := zw_ HB hg;replace HB := zs_ HB hb;have NB956_958 := zl hg BK956;have NB958_956 := zg hg BK956;replace BK956 := zb BK956 hb;have NB957_958 := zl hg BK957;have NB958_957 := zg hg BK957;replace BK957 := zb BK957 hb;clear hb hbox hg;have hnb6 := NB956_957.out;have hnc6 := NB957_956.out;have hnb7 := NB956_958.out;have hnc7 := NB958_956.out;obtain ⟨hcz8_0,hcz8_1,hcz8_2,hcz8_3,hcz8_4,hcz8_5,hcz8_6,hcz8_7,hfz8_0,hfz8_1,hfz8_2,hfz8_3,hfz8_4,hfz8_5,hfz8_6,hfz8_7⟩ := zc8 BK956;have hnb9 := NB958_957.out;have hnc9 := NB957_958.out;obtain ⟨hcz10_0,hcz10_1,hcz10_2,hcz10_3,hcz10_4,hcz10_5,hcz10_6,hcz10_7,hfz10_0,hfz10_1,hfz10_2,hfz10_3,hfz10_4,hfz10_5,hfz10_6,hfz10_7⟩ := zc8 BK958) | ((with_reducible refine gate_callee (f := 139) rfl ?_);refine zgl (some 15) Tryd.func139 #[.agg #[.int .i64 a0_3,.int .i64 a0_4,.int .i64 a0_5,.int .i64 a0_6]] ?_;(with_reducible refine (laws_toAnswer.calls a0_3 a0_4 a0_5 a0_6 t959 t960 t961 t962 _ A2.out).mono ?_);rintro e w11 ⟨rfl,hb⟩;refine ⟨_,rfl,?_⟩;replace BK956 := am_ (blk_below (g := gb956) (o := .cells #[.int .i64 a0_0,.int .i64 a0_1,.int .i64 a0_2,.int .i64 a0_3,.int .i64 a0_4,.int .i64 a0_5,.int .i64 a0_6,.string a0_7] 117 (0,0)) (zq BK956) hb);replace BK957 := am_ (blk_below (g := gb957) (o := .cells #[.int .i64 0,.int .i64 0,.int .i64 0,.int .i64 0,.int .i64 0,.int .i64 0,.int .i64 0,.string ⟨#[]⟩] 73 (0,0)) (zq BK957) hb);replace BK958 := am_ (blk_below (g := gb958) (o := .cells #[.int .i64 a0_0,.int .i64 a0_1,.int .i64 a0_2,.int .i64 0,.int .i64 0,.int .i64 0,.int .i64 0,.string ⟨#[]⟩] 73 (0,0)) (zq BK958) hb);replace HB := zs_ HB hb;(try clear hb);(try clear hb2);(try clear hk);(try clear hi);obtain ⟨hcz12_0,hcz12_1,hcz12_2,hcz12_3,hcz12_4,hcz12_5,hcz12_6,hcz12_7,hfz12_0,hfz12_1,hfz12_2,hfz12_3,hfz12_4,hfz12_5,hfz12_6,hfz12_7⟩ := zc8 BK958;obtain ⟨hcz13_0,hcz13_1,hcz13_2,hcz13_3,hcz13_4,hcz13_5,hcz13_6,hcz13_7,hfz13_0,hfz13_1,hfz13_2,hfz13_3,hfz13_4,hfz13_5,hfz13_6,hfz13_7⟩ := zc8 BK956;obtain ⟨hcz14_0,hcz14_1,hcz14_2,hcz14_3,hcz14_4,hcz14_5,hcz14_6,hcz14_7,hfz14_0,hfz14_1,hfz14_2,hfz14_3,hfz14_4,hfz14_5,hfz14_6,hfz14_7⟩ := zc8 BK957))
 refine bodyPost_ret (results_cell_row rfl _ _ gb957 73 #[.int .i64 a0_0,.int .i64 a0_1,.int .i64 a0_2,.int .i64 t959,.int .i64 t960,.int .i64 t961,.int .i64 t962,.string a0_7] (0,0) _ rfl (zq BK957) Tryd.underlying73 rfl (by kernel_rfl)) rfl ?_
 exact ⟨zt_,zl_ HB⟩
set_option maxHeartbeats 8000000 in
set_option maxRecDepth 100000 in
theorem laws_toReplyS.calls (k : Nat) (A0 : Option Addr) (c0 : Nat) (l0 : List (S117)) (r : List (S73)) (w : World) (hr0 : Kd.C k117 w A0 l0.length l0) (hc0 : l0.length ≤ c0) (h : laws_toReplyS.f k l0 = some r) :
  Calls Tryd.prog 33 #[.slice A0 l0.length c0] w fun e w' => ∃ v0_ : Value,e = .returned (v0_) ∧ Kd.R k73 73 w' w.heap.size (fun _ => True) v0_ r ∧ Below w.heap.size w w' := by
 have hu117 := Tryd.underlying117
 have hu73 := Tryd.underlying73
 have HR0 := am_ hr0
 have HC0 := am_ hc0
 clear hr0 hc0
 have HB := am_ (Below.refl w.heap.size w)
 have H : (if 0 ≤ (l0.length : Int) then (if ((l0.length : Int) : Int).toNat ≤ 3909374676536 then (laws_toReplyS.l0 k l0 (List.replicate ((l0.length : Int) : Int).toNat z73) 0) else (none)) else (none)) = some r := h
 clear h
 by_cases c2 : 0 ≤ (l0.length : Int)
 ·rw [if_pos c2] at H
  have c2b0 := eq_true c2
  have c2b1 : decide (0 ≤ (l0.length : Int)) = true := decide_eq_true c2
  clear c2
  by_cases c3 : ((l0.length : Int) : Int).toNat ≤ 3909374676536
  ·rw [if_pos c3] at H
   have c3b0 := eq_true c3
   have c3b1 : decide (((l0.length : Int) : Int).toNat ≤ 3909374676536) = true := decide_eq_true c3
   clear c3
   obtain ⟨y963,hy963⟩ : ∃ y_ : List (S73),y_ = (List.replicate ((l0.length : Int) : Int).toNat z73) := ⟨_,rfl⟩
   replace H : (laws_toReplyS.l0 k l0 y963 0) = some r := by first | (rw [hy963];with_reducible exact H) | (have H2_ := (Option.bind_some _ _).symm.trans H;rw [hy963];with_reducible exact H2_) | (have H2_ := (Option.bind_some _ _).symm.trans H;with_reducible exact H2_) | with_reducible exact H | (rw [hy963];exact H) | exact H
   have Ny963 := am_ hy963
   clear hy963
   have H' := am_ H
   clear H
   go_enter Tryd.func33,Tryd.ntmps33
   go_wp2_with (first | ((with_reducible refine gate_dst (N := 7) rfl ?_);refine Kd.R_make k73 _ 73 rfl (N := 7) rfl 66 _ _ rfl (l0.length : Int) rfl rfl Tryd.underlying66 (.agg #[(.int .i64 0),(.int .i64 0),(.int .i64 0),(.int .i64 0),(.int .i64 0),(.int .i64 0),(.int .i64 0),(.string ⟨#[]⟩)]) 72 info73 rfl (by decide) (by omega) z73 (ok := fun _ => True) (okp := fun _ => True) (k73_mkM _ _ _ z73 ) (fun _ hk => hk) trivial (zo_) (Nat.le_trans (Nat.mul_le_mul_right _ (zo_ : (l0.length : Int).toNat ≤ 3909374676536)) (by omega)) (Below.refl _ _) (Nat.le_refl _) ?_;intro v964 w4 ho5 hb hg_ hnew_;clear hg_ hnew_;(first | rw [← Ny963.out] at ho5 | (simp only [Int.reduceToNat] at ho5;rw [← Ny963.out] at ho5));have HO965 := am_ (Kd.R_lower ho5 (below_size (zl_ HB)));replace HB := zs_ HB hb;clear hb ho5))
   go_loopg [4] k (fun kq v4 w' => ∃ (x3_1 : List (S73)) (x4_1 : Int),v4 = .int .i64 x4_1 ∧ Aside0 (laws_toReplyS.l0 kq l0 x3_1 x4_1 = some r) ∧ Aside0 (kq ≤ k) ∧ Aside0 (Kd.R k73 73 w' w.heap.size (fun _ => True) v964 x3_1) ∧ Aside0 (Below w.heap.size w w'))
   case atStart => exact ⟨(y963),(0),(by first | rfl | (simp;done) | (simp [*];done)),H',⟨Nat.le_refl _⟩,⟨zr HO965⟩,⟨zl_ HB⟩⟩
   case round =>
    clear H'
    try clear c2
    try clear c2b0
    try clear c2b1
    try clear p2
    try clear c3
    try clear c3b0
    try clear c3b1
    obtain ⟨x3_1,x4_1,rfl,HA,HK1,HO_3,HB⟩ := hrel
    cases gk with
    | zero => exact absurd HA.out (by simp [laws_toReplyS.l0])
    | succ k1 =>
     have H := HA.out
     clear HA
     simp only [laws_toReplyS.l0] at H
     by_cases c6 : x4_1 < (l0.length : Int)
     ·rw [if_pos c6] at H
      have c6b0 : decide (x4_1 < (l0.length : Int)) = true := decide_eq_true c6
      clear c6
      by_cases c7 : 0 ≤ x4_1
      ·rw [if_pos c7] at H
       have c7b0 : decide (0 ≤ x4_1) = true := decide_eq_true c7
       clear c7
       replace H := Option.bind_eq_some_iff.mp H
       obtain ⟨⟨t967,t968,t969,t970,t971,t972,t973,t974⟩,A80,H⟩ := H
       try dsimp only at H
       have A8 := am_ A80
       clear A80
       by_cases c9 : x4_1 < (x3_1.length : Int)
       ·rw [if_pos c9] at H
        have c9b0 : decide (x4_1 < (x3_1.length : Int)) = true := decide_eq_true c9
        clear c9
        obtain ⟨y975,hy975⟩ : ∃ y_ : List (S73),y_ = (x3_1.set (x4_1 : Int).toNat (⟨t967,t968,t969,(⟨t970,t971,t972,t973⟩ : S63),t974⟩ : S73)) := ⟨_,rfl⟩
        replace H : (laws_toReplyS.l0 k1 l0 y975 (wrap64 (x4_1 + 1))) = some r := by first | (rw [hy975];with_reducible exact H) | (have H2_ := (Option.bind_some _ _).symm.trans H;rw [hy975];with_reducible exact H2_) | (have H2_ := (Option.bind_some _ _).symm.trans H;with_reducible exact H2_) | with_reducible exact H | (rw [hy975];exact H) | exact H
        have Ny975 := am_ hy975
        clear hy975
        have H' := am_ H
        clear H
        have p966 : 0 ≤ (x4_1 : Int) := zo_
        have q966 : x4_1 < (l0.length : Int) := zo_
        obtain ⟨ad966,e966,hx966_0,hx966_1,hx966_2,hx966_3,hx966_4,hx966_5,hx966_6,hx966_7⟩ := at_T117 HR0.out x4_1 p966 q966
        cases e966
        replace hx966_0 := zx_ HB hx966_0
        replace hx966_1 := zx_ HB hx966_1
        replace hx966_2 := zx_ HB hx966_2
        replace hx966_3 := zx_ HB hx966_3
        replace hx966_4 := zx_ HB hx966_4
        replace hx966_5 := zx_ HB hx966_5
        replace hx966_6 := zx_ HB hx966_6
        replace hx966_7 := zx_ HB hx966_7
        replace p966 := eq_true p966
        replace q966 := eq_true q966
        go_wp2_with (first | ((with_reducible refine gate_callee (f := 84) rfl ?_);refine zgl (some 20) Tryd.func84 #[.agg #[.int .i64 ((rd_T117 l0 x4_1).f0),.int .i64 ((rd_T117 l0 x4_1).f1),.int .i64 ((rd_T117 l0 x4_1).f2),.int .i64 ((rd_T117 l0 x4_1).f3.f0),.int .i64 ((rd_T117 l0 x4_1).f3.f1),.int .i64 ((rd_T117 l0 x4_1).f3.f2),.int .i64 ((rd_T117 l0 x4_1).f3.f3),.string ((rd_T117 l0 x4_1).f4)]] ?_;(with_reducible refine (laws_toReply.calls ((rd_T117 l0 x4_1).f0) ((rd_T117 l0 x4_1).f1) ((rd_T117 l0 x4_1).f2) ((rd_T117 l0 x4_1).f3.f0) ((rd_T117 l0 x4_1).f3.f1) ((rd_T117 l0 x4_1).f3.f2) ((rd_T117 l0 x4_1).f3.f3) ((rd_T117 l0 x4_1).f4) t967 t968 t969 t970 t971 t972 t973 t974 _ A8.out).mono ?_);rintro e w11 ⟨rfl,hb⟩;refine ⟨_,rfl,?_⟩;replace HO_3 := zrb HO_3 hb;replace HB := zs_ HB hb;(try clear hb);(try clear hb2);(try clear hk);(try clear hi);have p10 : 0 ≤ (x4_1 : Int) := zo_;have q10 : (x4_1 : Int) < ((x3_1.length : Int) : Int) := zo_;obtain ⟨go10,co10,eo10,gb10,gl10,cl10,HG10⟩ := Kd.R_form HO_3.out (by omega);(first | cases eo10 | (injection eo10 with ea_ en_ ec_;(first | subst ea_ | (injection ea_ with ea_;subst ea_));subst ec_;clear en_));have GB10 := am_ gb10;have GG10 := am_ HG10;clear gb10 gl10 HG10;obtain ⟨ce10,hcl10,hM10,hcc10,hfr10⟩ := Kd.R_elem HO_3.out z73 (x4_1 : Int) p10 q10;obtain rfl := k73_openM hM10;have hx10_0 : w11.cell? ⟨go10,(x4_1 : Int).toNat * 8,none⟩ = some (.int .i64 ((rd_T73 x3_1 x4_1).f0)) := hcc10 0 _ rfl;have hx10_1 : w11.cell? ⟨go10,(x4_1 : Int).toNat * 8 + 1,none⟩ = some (.int .i64 ((rd_T73 x3_1 x4_1).f1)) := hcc10 1 _ rfl;have hx10_2 : w11.cell? ⟨go10,(x4_1 : Int).toNat * 8 + 2,none⟩ = some (.int .i64 ((rd_T73 x3_1 x4_1).f2)) := hcc10 2 _ rfl;have hx10_3 : w11.cell? ⟨go10,(x4_1 : Int).toNat * 8 + 3,none⟩ = some (.int .i64 ((rd_T73 x3_1 x4_1).f3.f0)) := hcc10 3 _ rfl;have hx10_4 : w11.cell? ⟨go10,(x4_1 : Int).toNat * 8 + 4,none⟩ = some (.int .i64 ((rd_T73 x3_1 x4_1).f3.f1)) := hcc10 4 _ rfl;have hx10_5 : w11.cell? ⟨go10,(x4_1 : Int).toNat * 8 + 5,none⟩ = some (.int .i64 ((rd_T73 x3_1 x4_1).f3.f2)) := hcc10 5 _ rfl;have hx10_6 : w11.cell? ⟨go10,(x4_1 : Int).toNat * 8 + 6,none⟩ = some (.int .i64 ((rd_T73 x3_1 x4_1).f3.f3)) := hcc10 6 _ rfl;have hx10_7 : w11.cell? ⟨go10,(x4_1 : Int).toNat * 8 + 7,none⟩ = some (.string ((rd_T73 x3_1 x4_1).f4)) := hcc10 7 _ rfl;have hf10_0 : w11.frozen? ⟨go10,(x4_1 : Int).toNat * 8,none⟩ = false := hfr10 0;have hf10_1 : w11.frozen? ⟨go10,(x4_1 : Int).toNat * 8 + 1,none⟩ = false := hfr10 1;have hf10_2 : w11.frozen? ⟨go10,(x4_1 : Int).toNat * 8 + 2,none⟩ = false := hfr10 2;have hf10_3 : w11.frozen? ⟨go10,(x4_1 : Int).toNat * 8 + 3,none⟩ = false := hfr10 3;have hf10_4 : w11.frozen? ⟨go10,(x4_1 : Int).toNat * 8 + 4,none⟩ = false := hfr10 4;have hf10_5 : w11.frozen? ⟨go10,(x4_1 : Int).toNat * 8 + 5,none⟩ = false := hfr10 5;have hf10_6 : w11.frozen? ⟨go10,(x4_1 : Int).toNat * 8 + 6,none⟩ = false := hfr10 6;have hf10_7 : w11.frozen? ⟨go10,(x4_1 : Int).toNat * 8 + 7,none⟩ = false := hfr10 7;clear hcl10 hcc10 hfr10 hM10;replace p10 := eq_true p10;replace q10 := eq_true q10;have HX12 := am_ (show Kd.R k73 73 w11 w.heap.size (fun _ => True) (.slice (some ⟨go10,0,none⟩) x3_1.length co10) x3_1 from (zr HO_3));obtain ⟨ce12,hcl12,hM12,hcc12,hfr12⟩ := Kd.R_elem HX12.out z73 (x4_1 : Int) (zo_) (by have h_ : (x4_1 : Int) < ((x3_1.length : Int) : Int) := zo_;first | exact h_ | (have e_ := (Kd.R_reads' HO_3.out).1;omega) | simpa using h_);obtain rfl := k73_openM hM12;have HP12 := Kd.R_seg HX12.out (x4_1 : Int) (zo_) (by have h_ : (x4_1 : Int) < ((x3_1.length : Int) : Int) := zo_;first | exact h_ | (have e_ := (Kd.R_reads' HO_3.out).1;omega) | simpa using h_) (seg := [.int .i64 t967,.int .i64 t968,.int .i64 t969,.int .i64 t970,.int .i64 t971,.int .i64 t972,.int .i64 t973,.string t974]) (j := 0) hcl12 hcc12 (show 8 ≤ 8 from by decide) (x' := (⟨t967,t968,t969,(⟨t970,t971,t972,t973⟩ : S63),t974⟩ : S73)) (k73_mkM _ _ _ (⟨t967,t968,t969,(⟨t970,t971,t972,t973⟩ : S63),t974⟩ : S73) ) (fun _ hk => hk);have hx12_0 := hcc12 0 _ rfl;(try simp only [show (k73).sz = 8 from rfl,Nat.mul_one,Nat.add_zero] at hx12_0);have hf12_0 := hfr12 0;(try simp only [show (k73).sz = 8 from rfl,Nat.mul_one,Nat.add_zero] at hf12_0);have hx12_1 := hcc12 1 _ rfl;(try simp only [show (k73).sz = 8 from rfl,Nat.mul_one,Nat.add_zero] at hx12_1);have hf12_1 := hfr12 1;(try simp only [show (k73).sz = 8 from rfl,Nat.mul_one,Nat.add_zero] at hf12_1);have hx12_2 := hcc12 2 _ rfl;(try simp only [show (k73).sz = 8 from rfl,Nat.mul_one,Nat.add_zero] at hx12_2);have hf12_2 := hfr12 2;(try simp only [show (k73).sz = 8 from rfl,Nat.mul_one,Nat.add_zero] at hf12_2);have hx12_3 := hcc12 3 _ rfl;(try simp only [show (k73).sz = 8 from rfl,Nat.mul_one,Nat.add_zero] at hx12_3);have hf12_3 := hfr12 3;(try simp only [show (k73).sz = 8 from rfl,Nat.mul_one,Nat.add_zero] at hf12_3);have hx12_4 := hcc12 4 _ rfl;(try simp only [show (k73).sz = 8 from rfl,Nat.mul_one,Nat.add_zero] at hx12_4);have hf12_4 := hfr12 4;(try simp only [show (k73).sz = 8 from rfl,Nat.mul_one,Nat.add_zero] at hf12_4);have hx12_5 := hcc12 5 _ rfl;(try simp only [show (k73).sz = 8 from rfl,Nat.mul_one,Nat.add_zero] at hx12_5);have hf12_5 := hfr12 5;(try simp only [show (k73).sz = 8 from rfl,Nat.mul_one,Nat.add_zero] at hf12_5);have hx12_6 := hcc12 6 _ rfl;(try simp only [show (k73).sz = 8 from rfl,Nat.mul_one,Nat.add_zero] at hx12_6);have hf12_6 := hfr12 6;(try simp only [show (k73).sz = 8 from rfl,Nat.mul_one,Nat.add_zero] at hf12_6);have hx12_7 := hcc12 7 _ rfl;(try simp only [show (k73).sz = 8 from rfl,Nat.mul_one,Nat.add_zero] at hx12_7);have hf12_7 := hfr12 7;(try simp only [show (k73).sz = 8 from rfl,Nat.mul_one,Nat.add_zero] at hf12_7);clear hcl12 hcc12 hfr12 hM12) | ((with_reducible refine gate_store (t := 73) (p := 21) rfl ?_);refine store_event (t := 73) (p := 21) (v := ?vo_w13) (w1 := ((((((((w11.setCell ⟨go10,(x4_1 : Int).toNat * 8,none⟩ (.int .i64 t967)).setCell ⟨go10,(x4_1 : Int).toNat * 8 + 1,none⟩ (.int .i64 t968)).setCell ⟨go10,(x4_1 : Int).toNat * 8 + 2,none⟩ (.int .i64 t969)).setCell ⟨go10,(x4_1 : Int).toNat * 8 + 3,none⟩ (.int .i64 t970)).setCell ⟨go10,(x4_1 : Int).toNat * 8 + 4,none⟩ (.int .i64 t971)).setCell ⟨go10,(x4_1 : Int).toNat * 8 + 5,none⟩ (.int .i64 t972)).setCell ⟨go10,(x4_1 : Int).toNat * 8 + 6,none⟩ (.int .i64 t973)).setCell ⟨go10,(x4_1 : Int).toNat * 8 + 7,none⟩ (.string t974))) ?hg ?ho ?hn ?hr ?_;(case ho => rfl);(case hg => rfl);(case hn => rfl);(case hr => first | (go_simp;done) | (go_simp;rfl));intro w13 hw;have hg : w11.grownBy w13 (some go10) := (by rw [hw];exact HP12.2);have hp_ : Kd.R k73 73 w13 w.heap.size (fun _ => True) (.slice (some ⟨go10,0,none⟩) x3_1.length co10) y975 := (by rw [hw,Ny975.out];exact HP12.1);clear HP12;replace HO_3 := am_ (hp_);replace HB := am_ ((by rw [hw];exact below_set (below_set (below_set (below_set (below_set (below_set (below_set (below_set (HB.out) GB10.out) GB10.out) GB10.out) GB10.out) GB10.out) GB10.out) GB10.out) GB10.out : Below w.heap.size w w13));clear hg hw hp_))
        go_roundg k1
        case measure => have := HK1.out;omega
        case rel => exact ⟨(y975),(wrap64 (x4_1 + 1)),(by first | rfl | (simp;done) | (simp [*];done)),H',⟨by have := HK1.out;omega⟩,⟨zr HO_3⟩,⟨zl_ HB⟩⟩
       ·rw [if_neg c9] at H
        exact absurd H (by simp)
      ·rw [if_neg c7] at H
       exact absurd H (by simp)
     ·rw [if_neg c6] at H
      have c6b0 : decide (x4_1 < (l0.length : Int)) = false := decide_eq_false c6
      clear c6
      obtain rfl := Option.some.inj H
      go_wp2
      go_ret
      exact ⟨_,zt_,zr HO_3,zl_ HB⟩
  ·rw [if_neg c3] at H
   exact absurd H (by simp)
 ·rw [if_neg c2] at H
  exact absurd H (by simp)
set_option maxHeartbeats 8000000 in
set_option maxRecDepth 100000 in
theorem laws_toRequest.calls (a0_0 : Int) (a0_1 : Int) (a0_2 : Int) (a0_3 : Int) (a0_4 : ByteArray) (r1 : Int) (r2 : Int) (r3 : Int) (r4 : Int) (r5 : ByteArray) (w : World) (h : laws_toRequest.f a0_0 a0_1 a0_2 a0_3 a0_4 = some (r1,r2,r3,r4,r5)) :
  Calls Tryd.prog 98 #[.agg #[.int .i64 a0_0,.int .i64 a0_1,.int .i64 a0_2,.int .i64 a0_3,.string a0_4]] w fun e w' => e = .returned (.agg #[.int .i64 r1,.int .i64 r2,.int .i64 r3,.int .i64 r4,.string r5]) ∧ Below w.heap.size w w' := by
 have hu79 := Tryd.underlying79
 have hu85 := Tryd.underlying85
 have HB := am_ (Below.refl w.heap.size w)
 have H : (some (a0_0,a0_1,a0_2,a0_3,a0_4)) = some (r1,r2,r3,r4,r5) := h
 clear h
 simp only [Option.some.injEq,Prod.mk.injEq] at H
 obtain ⟨rfl,rfl,rfl,rfl,rfl⟩ := H
 go_enter Tryd.func98,Tryd.ntmps98
 go_wp2_with (first | ((with_reducible refine gate_dst (N := 1) rfl ?_);refine zbx (N := 1) (cs := #[.int .i64 a0_0,.int .i64 a0_1,.int .i64 a0_2,.int .i64 a0_3,.string a0_4]) (t := 79) ?_;intro gb1196 hg w2 hbox hb;have BK1196 := am_ (hbox);have GW1196 := zw_ HB hg;have GE1196 := zw_ HB hg;replace HB := zs_ HB hb;clear hb hbox hg) | ((with_reducible refine gate_dst (N := 2) rfl ?_);refine zbx (N := 2) (cs := #[.int .i64 0,.int .i64 0,.int .i64 0,.int .i64 0,.string ⟨#[]⟩]) (t := 85) ?_;intro gb1197 hg w3 hbox hb;have BK1197 := am_ (hbox);have GW1197 := zw_ HB hg;have GE1197 := zw_ HB hg;replace HB := zs_ HB hb;have NB1196_1197 := zl hg BK1196;have NB1197_1196 := zg hg BK1196;replace BK1196 := zb BK1196 hb;clear hb hbox hg) | ((with_reducible refine gate_dst (N := 3) rfl ?_);refine zbx (N := 3) (cs := #[.int .i64 0,.int .i64 0,.int .i64 0,.int .i64 0,.string ⟨#[]⟩]) (t := 85) ?_;intro gb1198 hg w4 hbox hb;have BK1198 := am_ (hbox);have GW1198 := zw_ HB hg;have GE1198 := zw_ HB hg;replace HB := zs_ HB hb;have NB1196_1198 := zl hg BK1196;have NB1198_1196 := zg hg BK1196;replace BK1196 := zb BK1196 hb;have NB1197_1198 := zl hg BK1197;have NB1198_1197 := zg hg BK1197;replace BK1197 := zb BK1197 hb;clear hb hbox hg;have hnb5 := NB1196_1197.out;have hnc5 := NB1197_1196.out;have hnb6 := NB1196_1198.out;have hnc6 := NB1198_1196.out;obtain ⟨hcz7_0,hcz7_1,hcz7_2,hcz7_3,hcz7_4,hfz7_0,hfz7_1,hfz7_2,hfz7_3,hfz7_4⟩ := zc5 BK1196;have hnb8 := NB1198_1197.out;have hnc8 := NB1197_1198.out;obtain ⟨hcz9_0,hcz9_1,hcz9_2,hcz9_3,hcz9_4,hfz9_0,hfz9_1,hfz9_2,hfz9_3,hfz9_4⟩ := zc5 BK1198;obtain ⟨hcz10_0,hcz10_1,hcz10_2,hcz10_3,hcz10_4,hfz10_0,hfz10_1,hfz10_2,hfz10_3,hfz10_4⟩ := zc5 BK1197))
 refine bodyPost_ret (results_cell_row rfl _ _ gb1197 85 #[.int .i64 a0_0,.int .i64 a0_1,.int .i64 a0_2,.int .i64 a0_3,.string a0_4] (0,0) _ rfl (zq BK1197) Tryd.underlying85 rfl (by kernel_rfl)) rfl ?_
 exact ⟨zt_,zl_ HB⟩
set_option maxHeartbeats 8000000 in
set_option maxRecDepth 100000 in
theorem laws_toClient.calls (k : Nat) (a0_0 : Int) (a0_1 : Int) (a0_2 : Bool) (a0_3 : Int) (a0_4 : Int) (a0_5 : Int) (a0_6 : Int) (a0_7 : ByteArray) (A0_8 : Option Addr) (c0_8 : Nat) (l0_8 : List (S117)) (A0_9 : Option Addr) (c0_9 : Nat) (l0_9 : List (S115)) (r1 : Int) (r2 : Int) (r3 : Bool) (r4 : Int) (r5 : Int) (r6 : Int) (r7 : Int) (r8 : ByteArray) (r9 : List (S73)) (r10 : List (S63)) (w : World) (hr0_8 : Kd.C k117 w A0_8 l0_8.length l0_8) (hc0_8 : l0_8.length ≤ c0_8) (hr0_9 : Kd.C k115 w A0_9 l0_9.length l0_9) (hc0_9 : l0_9.length ≤ c0_9) (h : laws_toClient.f k a0_0 a0_1 a0_2 a0_3 a0_4 a0_5 a0_6 a0_7 l0_8 l0_9 = some (r1,r2,r3,r4,r5,r6,r7,r8,r9,r10)) :
  Calls Tryd.prog 44 #[.agg #[.int .i64 a0_0,.int .i64 a0_1,.bool a0_2,.int .i64 a0_3,.int .i64 a0_4,.int .i64 a0_5,.int .i64 a0_6,.string a0_7,.slice A0_8 l0_8.length c0_8,.slice A0_9 l0_9.length c0_9]] w fun e w' => ∃ v8_ v9_ : Value,e = .returned (.agg #[.int .i64 r1,.int .i64 r2,.bool r3,.int .i64 r4,.int .i64 r5,.int .i64 r6,.int .i64 r7,.string r8,v8_,v9_]) ∧ Kd.R k73 73 w' w.heap.size (fun _ => True) v8_ r9 ∧ Kd.R k63 63 w' w.heap.size (fun _ => True) v9_ r10 ∧ Below w.heap.size w w' := by
 have hu82 := Tryd.underlying82
 have hu88 := Tryd.underlying88
 have hu79 := Tryd.underlying79
 have hu85 := Tryd.underlying85
 have HR0_8 := am_ hr0_8
 have HC0_8 := am_ hc0_8
 clear hr0_8 hc0_8
 have HR0_9 := am_ hr0_9
 have HC0_9 := am_ hc0_9
 clear hr0_9 hc0_9
 have HB := am_ (Below.refl w.heap.size w)
 have H : ((laws_toRequest.f a0_3 a0_4 a0_5 a0_6 a0_7).bind fun bt1211 => ((laws_toReplyS.f k l0_8).bind fun t1216 => ((laws_toAnswerS.f k l0_9).bind fun t1219 => (some (a0_0,a0_1,a0_2,bt1211.1,bt1211.2.1,bt1211.2.2.1,bt1211.2.2.2.1,bt1211.2.2.2.2,t1216,t1219))))) = some (r1,r2,r3,r4,r5,r6,r7,r8,r9,r10) := h
 clear h
 replace H := Option.bind_eq_some_iff.mp H
 obtain ⟨⟨t1211,t1212,t1213,t1214,t1215⟩,A20,H⟩ := H
 try dsimp only at H
 have A2 := am_ A20
 clear A20
 replace H := Option.bind_eq_some_iff.mp H
 obtain ⟨t1216,A30,H⟩ := H
 try dsimp only at H
 have A3 := am_ A30
 clear A30
 replace H := Option.bind_eq_some_iff.mp H
 obtain ⟨t1219,A40,H⟩ := H
 try dsimp only at H
 have A4 := am_ A40
 clear A40
 simp only [Option.some.injEq,Prod.mk.injEq] at H
 obtain ⟨rfl,rfl,rfl,rfl,rfl,rfl,rfl,rfl,rfl,rfl⟩ := H
 go_enter Tryd.func44,Tryd.ntmps44
 go_wp2_with (first | ((with_reducible refine gate_dst (N := 1) rfl ?_);refine zbx (N := 1) (cs := #[.int .i64 a0_0,.int .i64 a0_1,.bool a0_2,.int .i64 a0_3,.int .i64 a0_4,.int .i64 a0_5,.int .i64 a0_6,.string a0_7,.slice A0_8 l0_8.length c0_8,.slice A0_9 l0_9.length c0_9]) (t := 82) ?_;intro gb1208 hg w5 hbox hb;have BK1208 := am_ (hbox);have GW1208 := zw_ HB hg;have GE1208 := zw_ HB hg;replace HB := zs_ HB hb;clear hb hbox hg) | ((with_reducible refine gate_dst (N := 2) rfl ?_);refine zbx (N := 2) (cs := #[.int .i64 0,.int .i64 0,.bool false,.int .i64 0,.int .i64 0,.int .i64 0,.int .i64 0,.string ⟨#[]⟩,.slice none 0 0,.slice none 0 0]) (t := 88) ?_;intro gb1209 hg w6 hbox hb;have BK1209 := am_ (hbox);have GW1209 := zw_ HB hg;have GE1209 := zw_ HB hg;replace HB := zs_ HB hb;have NB1208_1209 := zl hg BK1208;have NB1209_1208 := zg hg BK1208;replace BK1208 := zb BK1208 hb;clear hb hbox hg) | ((with_reducible refine gate_dst (N := 3) rfl ?_);refine zbx (N := 3) (cs := #[.int .i64 0,.int .i64 0,.bool false,.int .i64 0,.int .i64 0,.int .i64 0,.int .i64 0,.string ⟨#[]⟩,.slice none 0 0,.slice none 0 0]) (t := 88) ?_;intro gb1210 hg w7 hbox hb;have BK1210 := am_ (hbox);have GW1210 := zw_ HB hg;have GE1210 := zw_ HB hg;replace HB := zs_ HB hb;have NB1208_1210 := zl hg BK1208;have NB1210_1208 := zg hg BK1208;replace BK1208 := zb BK1208 hb;have NB1209_1210 := zl hg BK1209;have NB1210_1209 := zg hg BK1209;replace BK1209 := zb BK1209 hb;clear hb hbox hg;have hnb8 := NB1208_1209.out;have hnc8 := NB1209_1208.out;have hnb9 := NB1208_1210.out;have hnc9 := NB1210_1208.out;obtain ⟨hcz10_0,hcz10_1,hcz10_2,hcz10_3,hcz10_4,hcz10_5,hcz10_6,hcz10_7,hcz10_8,hcz10_9,hfz10_0,hfz10_1,hfz10_2,hfz10_3,hfz10_4,hfz10_5,hfz10_6,hfz10_7,hfz10_8,hfz10_9⟩ := zc10 BK1208;have hnb11 := NB1210_1209.out;have hnc11 := NB1209_1210.out;obtain ⟨hcz12_0,hcz12_1,hcz12_2,hcz12_3,hcz12_4,hcz12_5,hcz12_6,hcz12_7,hcz12_8,hcz12_9,hfz12_0,hfz12_1,hfz12_2,hfz12_3,hfz12_4,hfz12_5,hfz12_6,hfz12_7,hfz12_8,hfz12_9⟩ := zc10 BK1210) | ((with_reducible refine gate_callee (f := 98) rfl ?_);refine zgl (some 15) Tryd.func98 #[.agg #[.int .i64 a0_3,.int .i64 a0_4,.int .i64 a0_5,.int .i64 a0_6,.string a0_7]] ?_;(with_reducible refine (laws_toRequest.calls a0_3 a0_4 a0_5 a0_6 a0_7 t1211 t1212 t1213 t1214 t1215 _ A2.out).mono ?_);rintro e w13 ⟨rfl,hb⟩;refine ⟨_,rfl,?_⟩;replace BK1208 := am_ (blk_below (g := gb1208) (o := .cells #[.int .i64 a0_0,.int .i64 a0_1,.bool a0_2,.int .i64 a0_3,.int .i64 a0_4,.int .i64 a0_5,.int .i64 a0_6,.string a0_7,.slice A0_8 l0_8.length c0_8,.slice A0_9 l0_9.length c0_9] 82 (0,0)) (zq BK1208) hb);replace BK1209 := am_ (blk_below (g := gb1209) (o := .cells #[.int .i64 0,.int .i64 0,.bool false,.int .i64 0,.int .i64 0,.int .i64 0,.int .i64 0,.string ⟨#[]⟩,.slice none 0 0,.slice none 0 0] 88 (0,0)) (zq BK1209) hb);replace BK1210 := am_ (blk_below (g := gb1210) (o := .cells #[.int .i64 a0_0,.int .i64 a0_1,.bool a0_2,.int .i64 0,.int .i64 0,.int .i64 0,.int .i64 0,.string ⟨#[]⟩,.slice none 0 0,.slice none 0 0] 88 (0,0)) (zq BK1210) hb);replace HB := zs_ HB hb;(try clear hb);(try clear hb2);(try clear hk);(try clear hi);obtain ⟨hcz14_0,hcz14_1,hcz14_2,hcz14_3,hcz14_4,hcz14_5,hcz14_6,hcz14_7,hcz14_8,hcz14_9,hfz14_0,hfz14_1,hfz14_2,hfz14_3,hfz14_4,hfz14_5,hfz14_6,hfz14_7,hfz14_8,hfz14_9⟩ := zc10 BK1210;obtain ⟨hcz15_0,hcz15_1,hcz15_2,hcz15_3,hcz15_4,hcz15_5,hcz15_6,hcz15_7,hcz15_8,hcz15_9,hfz15_0,hfz15_1,hfz15_2,hfz15_3,hfz15_4,hfz15_5,hfz15_6,hfz15_7,hfz15_8,hfz15_9⟩ := zc10 BK1208) | ((with_reducible refine gate_callee (f := 33) rfl ?_);refine zgl (some 19) Tryd.func33 #[.slice A0_8 l0_8.length c0_8] ?_;(with_reducible refine (laws_toReplyS.calls k _ _ l0_8 t1216 _ ?side1 ?side2 A3.out).mono ?_);(case side1 => exact Kd.C_below HR0_8.out (zl_ HB));(case side2 => exact HC0_8.out);rintro e w16 ⟨v1217,rfl,ho0,hb⟩;refine ⟨_,rfl,?_⟩;have HO1218 := am_ (Kd.R_lower ho0 (below_size (zl_ HB)));replace BK1208 := am_ (blk_below (g := gb1208) (o := .cells #[.int .i64 a0_0,.int .i64 a0_1,.bool a0_2,.int .i64 a0_3,.int .i64 a0_4,.int .i64 a0_5,.int .i64 a0_6,.string a0_7,.slice A0_8 l0_8.length c0_8,.slice A0_9 l0_9.length c0_9] 82 (0,0)) (zq BK1208) hb);replace BK1209 := am_ (blk_below (g := gb1209) (o := .cells #[.int .i64 0,.int .i64 0,.bool false,.int .i64 0,.int .i64 0,.int .i64 0,.int .i64 0,.string ⟨#[]⟩,.slice none 0 0,.slice none 0 0] 88 (0,0)) (zq BK1209) hb);replace BK1210 := am_ (blk_below (g := gb1210) (o := .cells #[.int .i64 a0_0,.int .i64 a0_1,.bool a0_2,.int .i64 t1211,.int .i64 t1212,.int .i64 t1213,.int .i64 t1214,.string t1215,.slice none 0 0,.slice none 0 0] 88 (0,0)) (zq BK1210) hb);replace HB := zs_ HB hb;(try clear hb);(try clear hb2);(try clear hk);(try clear hi);(try clear ho0);obtain ⟨Ao17,co17,eo17⟩ := Kd.R_slice HO1218.out;subst eo17;obtain ⟨hcz18_0,hcz18_1,hcz18_2,hcz18_3,hcz18_4,hcz18_5,hcz18_6,hcz18_7,hcz18_8,hcz18_9,hfz18_0,hfz18_1,hfz18_2,hfz18_3,hfz18_4,hfz18_5,hfz18_6,hfz18_7,hfz18_8,hfz18_9⟩ := zc10 BK1210;obtain ⟨hcz19_0,hcz19_1,hcz19_2,hcz19_3,hcz19_4,hcz19_5,hcz19_6,hcz19_7,hcz19_8,hcz19_9,hfz19_0,hfz19_1,hfz19_2,hfz19_3,hfz19_4,hfz19_5,hfz19_6,hfz19_7,hfz19_8,hfz19_9⟩ := zc10 BK1208) | ((with_reducible refine gate_callee (f := 99) rfl ?_);refine zgl (some 23) Tryd.func99 #[.slice A0_9 l0_9.length c0_9] ?_;(with_reducible refine (laws_toAnswerS.calls k _ _ l0_9 t1219 _ ?side1 ?side2 A4.out).mono ?_);(case side1 => exact Kd.C_below HR0_9.out (zl_ HB));(case side2 => exact HC0_9.out);rintro e w20 ⟨v1220,rfl,ho0,hb⟩;refine ⟨_,rfl,?_⟩;replace HO1218 := am_ (Kd.R_below (by (with_reducible repeat (first | apply r1_ | apply r2_ | apply r3_));exact (Kd.R_mono (zrf (Kd.R_types HO1218.out BK1210.out (by decide))) (fun _ h_ => h_.1))) hb);have HO1221 := am_ (Kd.R_lower ho0 (below_size (zl_ HB)));replace BK1209 := am_ (blk_below (g := gb1209) (o := .cells #[.int .i64 0,.int .i64 0,.bool false,.int .i64 0,.int .i64 0,.int .i64 0,.int .i64 0,.string ⟨#[]⟩,.slice none 0 0,.slice none 0 0] 88 (0,0)) (zq BK1209) hb);replace BK1210 := am_ (blk_below (g := gb1210) (o := .cells #[.int .i64 a0_0,.int .i64 a0_1,.bool a0_2,.int .i64 t1211,.int .i64 t1212,.int .i64 t1213,.int .i64 t1214,.string t1215,.slice Ao17 t1216.length co17,.slice none 0 0] 88 (0,0)) (zq BK1210) hb);replace HB := zs_ HB hb;(try clear hb);(try clear hb2);(try clear hk);(try clear hi);(try clear ho0);obtain ⟨Ao21,co21,eo21⟩ := Kd.R_slice HO1221.out;subst eo21;obtain ⟨hcz22_0,hcz22_1,hcz22_2,hcz22_3,hcz22_4,hcz22_5,hcz22_6,hcz22_7,hcz22_8,hcz22_9,hfz22_0,hfz22_1,hfz22_2,hfz22_3,hfz22_4,hfz22_5,hfz22_6,hfz22_7,hfz22_8,hfz22_9⟩ := zc10 BK1210;obtain ⟨hcz23_0,hcz23_1,hcz23_2,hcz23_3,hcz23_4,hcz23_5,hcz23_6,hcz23_7,hcz23_8,hcz23_9,hfz23_0,hfz23_1,hfz23_2,hfz23_3,hfz23_4,hfz23_5,hfz23_6,hfz23_7,hfz23_8,hfz23_9⟩ := zc10 BK1209))
 refine bodyPost_ret (results_cell_row rfl _ _ gb1209 88 #[.int .i64 a0_0,.int .i64 a0_1,.bool a0_2,.int .i64 t1211,.int .i64 t1212,.int .i64 t1213,.int .i64 t1214,.string t1215,.slice Ao17 t1216.length co17,.slice Ao21 t1219.length co21] (0,0) _ rfl (zq BK1209) Tryd.underlying88 rfl (by kernel_rfl)) rfl ?_
 exact ⟨_,_,zt_,by (with_reducible repeat (first | apply r1_ | apply r2_ | apply r3_));exact Kd.R_mono (Kd.Rf (Kd.Rf (Kd.Rf (Kd.Rf (Kd.Rf (Kd.Rf (Kd.Rf (Kd.Rf (Kd.Rf (Kd.Rf (Kd.R_far (p := ⟨gb1210,9,none⟩) (Kd.R_types (Kd.R_types HO1218.out BK1210.out (by decide)) BK1209.out (by decide)) (fun _ hk => hk.1.2) (.slice Ao21 t1219.length co21)))))))))))) (fun _ hk => trivial),by (with_reducible repeat (first | apply r1_ | apply r2_ | apply r3_));exact Kd.R_mono (Kd.Rf (Kd.Rf (Kd.Rf (Kd.Rf (Kd.Rf (Kd.Rf (Kd.Rf (Kd.Rf (Kd.Rf (Kd.Rf (Kd.R_far (p := ⟨gb1210,9,none⟩) (Kd.R_types (Kd.R_types HO1221.out BK1210.out (by decide)) BK1209.out (by decide)) (fun _ hk => hk.1.2) (.slice Ao21 t1219.length co21)))))))))))) (fun _ hk => trivial),zl_ HB⟩
set_option maxHeartbeats 8000000 in
set_option maxRecDepth 100000 in
theorem spec_l01In.calls (a0 : Int) (a1 : Int) (a2 : Int) (r : Bool) (w : World) (h : spec_l01In.f a0 a1 a2 = some r) :
  Calls Tryd.prog 69 #[.int .i64 a0,.int .i64 a1,.int .i64 a2] w fun e w' => e = .returned (.bool r) ∧ Drawn0 w w' := by
 have H : (if a0 ≥ a1 then (some (decide (a0 ≤ a2))) else (some false)) = some r := h
 clear h
 by_cases c4 : a0 ≥ a1
 ·rw [if_pos c4] at H
  have c4b0 : decide (a1 ≤ a0) = true := decide_eq_true c4
  clear c4
  obtain rfl := Option.some.inj H
  go_enter Tryd.func69,Tryd.ntmps69
  go_wp2
  go_ret
  exact ⟨by first | rfl | (simp;done) | (simp [*];done),by repeat (first | exact Drawn0.refl _ | apply Drawn0.step)⟩
 ·rw [if_neg c4] at H
  have c4b0 : decide (a1 ≤ a0) = false := decide_eq_false c4
  clear c4
  obtain rfl := Option.some.inj H
  go_enter Tryd.func69,Tryd.ntmps69
  go_wp2
  go_ret
  exact ⟨by first | rfl | (simp;done) | (simp [*];done),by repeat (first | exact Drawn0.refl _ | apply Drawn0.step)⟩
set_option maxHeartbeats 8000000 in
set_option maxRecDepth 100000 in
theorem spec_l00Digit.calls (a0 : Int) (r : Bool) (w : World) (h : spec_l00Digit.f a0 = some r) :
  Calls Tryd.prog 195 #[.int .u8 a0] w fun e w' => e = .returned (.bool r) ∧ Drawn0 w w' := by
 have H : (if a0 ≥ 48 then (some (decide (a0 ≤ 57))) else (some false)) = some r := h
 clear h
 by_cases c2 : a0 ≥ 48
 ·rw [if_pos c2] at H
  have c2b0 : decide (48 ≤ a0) = true := decide_eq_true c2
  clear c2
  obtain rfl := Option.some.inj H
  go_enter Tryd.func195,Tryd.ntmps195
  go_wp2
  go_ret
  exact ⟨by first | rfl | (simp;done) | (simp [*];done),by repeat (first | exact Drawn0.refl _ | apply Drawn0.step)⟩
 ·rw [if_neg c2] at H
  have c2b0 : decide (48 ≤ a0) = false := decide_eq_false c2
  clear c2
  obtain rfl := Option.some.inj H
  go_enter Tryd.func195,Tryd.ntmps195
  go_wp2
  go_ret
  exact ⟨by first | rfl | (simp;done) | (simp [*];done),by repeat (first | exact Drawn0.refl _ | apply Drawn0.step)⟩
set_option maxHeartbeats 8000000 in
set_option maxRecDepth 100000 in
theorem spec_l00Letter.calls (a0 : Int) (r : Bool) (w : World) (h : spec_l00Letter.f a0 = some r) :
  Calls Tryd.prog 194 #[.int .u8 a0] w fun e w' => e = .returned (.bool r) ∧ Drawn0 w w' := by
 have H : (if a0 ≥ 97 then (if a0 ≤ 122 then (some true) else (if a0 ≥ 65 then (if a0 ≤ 90 then (some true) else (some (a0 == 95))) else (some (a0 == 95)))) else (if a0 ≥ 65 then (if a0 ≤ 90 then (some true) else (some (a0 == 95))) else (some (a0 == 95)))) = some r := h
 clear h
 by_cases c2 : a0 ≥ 97
 ·rw [if_pos c2] at H
  have c2b0 : decide (97 ≤ a0) = true := decide_eq_true c2
  clear c2
  by_cases c3 : a0 ≤ 122
  ·rw [if_pos c3] at H
   have c3b0 : decide (a0 ≤ 122) = true := decide_eq_true c3
   clear c3
   obtain rfl := Option.some.inj H
   go_enter Tryd.func194,Tryd.ntmps194
   go_wp2
   go_ret
   exact ⟨by first | rfl | (simp;done) | (simp [*];done),by repeat (first | exact Drawn0.refl _ | apply Drawn0.step)⟩
  ·rw [if_neg c3] at H
   have c3b0 : decide (a0 ≤ 122) = false := decide_eq_false c3
   clear c3
   by_cases c4 : a0 ≥ 65
   ·rw [if_pos c4] at H
    have c4b0 : decide (65 ≤ a0) = true := decide_eq_true c4
    clear c4
    by_cases c5 : a0 ≤ 90
    ·rw [if_pos c5] at H
     have c5b0 : decide (a0 ≤ 90) = true := decide_eq_true c5
     clear c5
     obtain rfl := Option.some.inj H
     go_enter Tryd.func194,Tryd.ntmps194
     go_wp2
     go_ret
     exact ⟨by first | rfl | (simp;done) | (simp [*];done),by repeat (first | exact Drawn0.refl _ | apply Drawn0.step)⟩
    ·rw [if_neg c5] at H
     have c5b0 : decide (a0 ≤ 90) = false := decide_eq_false c5
     clear c5
     obtain rfl := Option.some.inj H
     go_enter Tryd.func194,Tryd.ntmps194
     go_wp2
     go_ret
     exact ⟨by first | rfl | (simp;done) | (simp [*];done),by repeat (first | exact Drawn0.refl _ | apply Drawn0.step)⟩
   ·rw [if_neg c4] at H
    have c4b0 : decide (65 ≤ a0) = false := decide_eq_false c4
    clear c4
    obtain rfl := Option.some.inj H
    go_enter Tryd.func194,Tryd.ntmps194
    go_wp2
    go_ret
    exact ⟨by first | rfl | (simp;done) | (simp [*];done),by repeat (first | exact Drawn0.refl _ | apply Drawn0.step)⟩
 ·rw [if_neg c2] at H
  have c2b0 : decide (97 ≤ a0) = false := decide_eq_false c2
  clear c2
  by_cases c6 : a0 ≥ 65
  ·rw [if_pos c6] at H
   have c6b0 : decide (65 ≤ a0) = true := decide_eq_true c6
   clear c6
   by_cases c7 : a0 ≤ 90
   ·rw [if_pos c7] at H
    have c7b0 : decide (a0 ≤ 90) = true := decide_eq_true c7
    clear c7
    obtain rfl := Option.some.inj H
    go_enter Tryd.func194,Tryd.ntmps194
    go_wp2
    go_ret
    exact ⟨by first | rfl | (simp;done) | (simp [*];done),by repeat (first | exact Drawn0.refl _ | apply Drawn0.step)⟩
   ·rw [if_neg c7] at H
    have c7b0 : decide (a0 ≤ 90) = false := decide_eq_false c7
    clear c7
    obtain rfl := Option.some.inj H
    go_enter Tryd.func194,Tryd.ntmps194
    go_wp2
    go_ret
    exact ⟨by first | rfl | (simp;done) | (simp [*];done),by repeat (first | exact Drawn0.refl _ | apply Drawn0.step)⟩
  ·rw [if_neg c6] at H
   have c6b0 : decide (65 ≤ a0) = false := decide_eq_false c6
   clear c6
   obtain rfl := Option.some.inj H
   go_enter Tryd.func194,Tryd.ntmps194
   go_wp2
   go_ret
   exact ⟨by first | rfl | (simp;done) | (simp [*];done),by repeat (first | exact Drawn0.refl _ | apply Drawn0.step)⟩
set_option maxHeartbeats 8000000 in
set_option maxRecDepth 100000 in
theorem spec_l00Word.calls (k : Nat) (a0 : ByteArray) (r : Bool) (w : World) (h : spec_l00Word.f k a0 = some r) :
  Calls Tryd.prog 178 #[.string a0] w fun e w' => e = .returned (.bool r) ∧ Drawn0 w w' := by
 have H : (if (a0.size : Int) < 1 then (spec_l00Word.j0 k a0 true) else (if (a0.size : Int) > 40 then (spec_l00Word.j0 k a0 true) else (if 0 < (a0.size : Int) then ((spec_l00Letter.f (bt a0 0)).bind fun t113 => (spec_l00Word.j0 k a0 (!t113))) else (none)))) = some r := h
 clear h
 have HC2 := am_ H
 clear H
 go_enter Tryd.func178,Tryd.ntmps178
 go_upto_region 1 with (fail)
 go_cut [17] (fun v17 wc => ∃ (kq : Nat) (x17_1 : Bool),v17 = .bool x17_1 ∧ Aside0 (spec_l00Word.j0 kq a0 x17_1 = some r) ∧ Aside0 (kq ≤ k) ∧ Drawn0 w wc)
 case first =>
  have H := HC2.out
  clear HC2
  by_cases c3 : (a0.size : Int) < 1
  ·rw [if_pos c3] at H
   have c3b0 : decide ((a0.size : Int) < 1) = true := decide_eq_true c3
   have c3b1 : decide (a0.size < 1) = true := decide_eq_true (by omega)
   clear c3
   (first | rw [c3b0] | (simp only [i64_w,i32_w];rw [c3b0]) | skip)
   have H' := am_ H
   clear H
   go_wp2
   go_meet
   case rel => exact ⟨_,(true),(by first | rfl | (simp;done) | (simp [*];done)),H',⟨by first | omega | exact Nat.le_refl _⟩,by repeat (first | exact Drawn0.refl _ | apply Drawn0.step)⟩
  ·rw [if_neg c3] at H
   have c3b0 : decide ((a0.size : Int) < 1) = false := decide_eq_false c3
   have c3b1 : decide (a0.size < 1) = false := decide_eq_false (by omega)
   clear c3
   (first | rw [c3b0] | (simp only [i64_w,i32_w];rw [c3b0]) | skip)
   by_cases c4 : (a0.size : Int) > 40
   ·rw [if_pos c4] at H
    have c4b0 : decide (40 < (a0.size : Int)) = true := decide_eq_true c4
    have c4b1 : decide (40 < a0.size) = true := decide_eq_true (by omega)
    clear c4
    have H' := am_ H
    clear H
    go_wp2
    go_meet
    case rel => exact ⟨_,(true),(by first | rfl | (simp;done) | (simp [*];done)),H',⟨by first | omega | exact Nat.le_refl _⟩,by repeat (first | exact Drawn0.refl _ | apply Drawn0.step)⟩
   ·rw [if_neg c4] at H
    have c4b0 : decide (40 < (a0.size : Int)) = false := decide_eq_false c4
    have c4b1 : decide (40 < a0.size) = false := decide_eq_false (by omega)
    clear c4
    by_cases c5 : 0 < (a0.size : Int)
    ·rw [if_pos c5] at H
     have c5b0 : decide (0 < (a0.size : Int)) = true := decide_eq_true c5
     have c5b1 : decide (0 < a0.size) = true := decide_eq_true (by omega)
     clear c5
     replace H := Option.bind_eq_some_iff.mp H
     obtain ⟨t113,A70,H⟩ := H
     try dsimp only at H
     have A7 := am_ A70
     clear A70
     have H' := am_ H
     clear H
     have p6 : 0 ≤ (0 : Int) := (by omega)
     have q6 : 0 < a0.size := (by have : (0 : Int) < (a0.size : Int) := zo_;omega)
     have hx6 : ∀ h : 0 < a0.size,((a0[0]'h).toNat : Int) = bt a0 0 := bt_at a0 0
     clear p6
     have qi6 : (0 < (a0.size : Int)) = True := eq_true (zo_)
     replace q6 := eq_true q6
     go_wp2_with (first | (go_at_call 194;(with_reducible refine (spec_l00Letter.calls (bt a0 0) t113 _ A7.out).mono ?_);rintro e w' ⟨rfl,⟨nd,rfl⟩⟩))
     go_meet
     case rel => exact ⟨_,(!t113),(by first | rfl | (simp;done) | (simp [*];done)),H',⟨by first | omega | exact Nat.le_refl _⟩,by repeat (first | exact Drawn0.refl _ | apply Drawn0.step)⟩
    ·rw [if_neg c5] at H
     exact absurd H (by simp)
 case rest =>
  clear HC2
  try clear c1
  try clear p2
  try clear c3
  try clear c3b0
  try clear c3b1
  try clear c4
  try clear c4b0
  try clear c4b1
  try clear c5
  try clear c5b0
  try clear c5b1
  try clear p6
  try clear q6
  try clear hx6
  try clear qi6
  try clear p6
  try clear q6
  obtain ⟨kq,x17_1,rfl,HA,HJ1,⟨mc1,rfl⟩⟩ := hcut
  cases kq with
  | zero => exact absurd HA.out (by simp [spec_l00Word.j0])
  | succ kj1 =>
   have H := HA.out
   clear HA
   simp only [spec_l00Word.j0] at H
   by_cases c8 : x17_1 = true
   ·subst c8
    have H1 : (some false) = some r := by rw [if_pos rfl] at H;exact H
    clear H
    have H := H1
    clear H1
    obtain rfl := Option.some.inj H
    go_wp2
    go_ret
    exact ⟨by first | rfl | (simp;done) | (simp [*];done),by repeat (first | exact Drawn0.refl _ | apply Drawn0.step)⟩
   ·replace c8 := Bool.eq_false_iff.mpr c8
    subst c8
    have H1 : (spec_l00Word.l0 kj1 a0 1) = some r := by rw [if_neg (show ¬ (false = true) by decide)] at H;exact H
    clear H
    have H := H1
    clear H1
    have H' := am_ H
    clear H
    go_wp2
    go_loopg [3] kj1 (fun kq v3 w' => ∃ (x3_2 : Int),v3 = .int .i64 x3_2 ∧ Aside0 (spec_l00Word.l0 kq a0 x3_2 = some r) ∧ Aside0 (kq ≤ kj1) ∧ Drawn0 w w')
    case atStart => exact ⟨(1),(by first | rfl | (simp;done) | (simp [*];done)),H',⟨Nat.le_refl _⟩,by repeat (first | exact Drawn0.refl _ | apply Drawn0.step)⟩
    case round =>
     clear H'
     try clear c1
     try clear p2
     try clear c3
     try clear c3b0
     try clear c3b1
     try clear c4
     try clear c4b0
     try clear c4b1
     try clear c5
     try clear c5b0
     try clear c5b1
     try clear p6
     try clear q6
     try clear hx6
     try clear qi6
     try clear c8
     try clear p2
     try clear p6
     try clear q6
     obtain ⟨x3_2,rfl,HA,HK2,⟨m2,rfl⟩⟩ := hrel
     cases gk with
     | zero => exact absurd HA.out (by simp [spec_l00Word.l0])
     | succ k2 =>
      have H := HA.out
      clear HA
      simp only [spec_l00Word.l0] at H
      by_cases c9 : x3_2 < (a0.size : Int)
      ·rw [if_pos c9] at H
       have c9b0 : decide (x3_2 < (a0.size : Int)) = true := decide_eq_true c9
       clear c9
       by_cases c10 : 0 ≤ x3_2
       ·rw [if_pos c10] at H
        have c10b0 : decide (0 ≤ x3_2) = true := decide_eq_true c10
        clear c10
        replace H := Option.bind_eq_some_iff.mp H
        obtain ⟨t114,A120,H⟩ := H
        try dsimp only at H
        have A12 := am_ A120
        clear A120
        by_cases c13 : t114 = true
        ·subst c13
         have H1 : (spec_l00Word.l0 k2 a0 (wrap64 (x3_2 + 1))) = some r := by rw [if_pos rfl] at H;exact H
         clear H
         have H := H1
         clear H1
         have H' := am_ H
         clear H
         have p11 : 0 ≤ (x3_2 : Int) := zo_
         have q11 : x3_2 < (a0.size : Int) := zo_
         have hx11 := bt_at a0 x3_2
         replace p11 := eq_true p11
         replace q11 := eq_true q11
         go_wp2_with (first | ((with_reducible refine gate_callee (f := 194) rfl ?_);refine zgl (some 27) Tryd.func194 #[.int .u8 (bt a0 x3_2)] ?_;(with_reducible refine (spec_l00Letter.calls (bt a0 x3_2) true _ A12.out).mono ?_);rintro e w' ⟨rfl,⟨nd,rfl⟩⟩;refine ⟨_,rfl,?_⟩))
         go_roundg k2
         case measure => have := HJ1.out;have := HK2.out;omega
         case rel => exact ⟨(wrap64 (x3_2 + 1)),(by first | rfl | (simp;done) | (simp [*];done)),H',⟨by have := HJ1.out;have := HK2.out;omega⟩,by repeat (first | exact Drawn0.refl _ | apply Drawn0.step)⟩
        ·replace c13 := Bool.eq_false_iff.mpr c13
         subst c13
         have H1 : ((spec_l00Digit.f (bt a0 x3_2)).bind fun t115 => (if t115 = true then (spec_l00Word.l0 k2 a0 (wrap64 (x3_2 + 1))) else (some false))) = some r := by rw [if_neg (show ¬ (false = true) by decide)] at H;exact H
         clear H
         have H := H1
         clear H1
         replace H := Option.bind_eq_some_iff.mp H
         obtain ⟨t115,A150,H⟩ := H
         try dsimp only at H
         have A15 := am_ A150
         clear A150
         by_cases c16 : t115 = true
         ·subst c16
          have H1 : (spec_l00Word.l0 k2 a0 (wrap64 (x3_2 + 1))) = some r := by rw [if_pos rfl] at H;exact H
          clear H
          have H := H1
          clear H1
          have H' := am_ H
          clear H
          have p11 : 0 ≤ (x3_2 : Int) := zo_
          have q11 : x3_2 < (a0.size : Int) := zo_
          have hx11 := bt_at a0 x3_2
          replace p11 := eq_true p11
          replace q11 := eq_true q11
          go_wp2_with (first | ((with_reducible refine gate_callee (f := 194) rfl ?_);refine zgl (some 27) Tryd.func194 #[.int .u8 (bt a0 x3_2)] ?_;(with_reducible refine (spec_l00Letter.calls (bt a0 x3_2) false _ A12.out).mono ?_);rintro e w' ⟨rfl,⟨nd,rfl⟩⟩;refine ⟨_,rfl,?_⟩;have p14 : 0 ≤ (x3_2 : Int) := zo_;have q14 : x3_2 < (a0.size : Int) := zo_;have hx14 := bt_at a0 x3_2;replace p14 := eq_true p14;replace q14 := eq_true q14) | (go_at_call 195;(with_reducible refine (spec_l00Digit.calls (bt a0 x3_2) true _ A15.out).mono ?_);rintro e w' ⟨rfl,⟨nd,rfl⟩⟩))
          go_roundg k2
          case measure => have := HJ1.out;have := HK2.out;omega
          case rel => exact ⟨(wrap64 (x3_2 + 1)),(by first | rfl | (simp;done) | (simp [*];done)),H',⟨by have := HJ1.out;have := HK2.out;omega⟩,by repeat (first | exact Drawn0.refl _ | apply Drawn0.step)⟩
         ·replace c16 := Bool.eq_false_iff.mpr c16
          subst c16
          have H1 : (some false) = some r := by rw [if_neg (show ¬ (false = true) by decide)] at H;exact H
          clear H
          have H := H1
          clear H1
          obtain rfl := Option.some.inj H
          have p11 : 0 ≤ (x3_2 : Int) := zo_
          have q11 : x3_2 < (a0.size : Int) := zo_
          have hx11 := bt_at a0 x3_2
          replace p11 := eq_true p11
          replace q11 := eq_true q11
          go_wp2_with (first | ((with_reducible refine gate_callee (f := 194) rfl ?_);refine zgl (some 27) Tryd.func194 #[.int .u8 (bt a0 x3_2)] ?_;(with_reducible refine (spec_l00Letter.calls (bt a0 x3_2) false _ A12.out).mono ?_);rintro e w' ⟨rfl,⟨nd,rfl⟩⟩;refine ⟨_,rfl,?_⟩;have p14 : 0 ≤ (x3_2 : Int) := zo_;have q14 : x3_2 < (a0.size : Int) := zo_;have hx14 := bt_at a0 x3_2;replace p14 := eq_true p14;replace q14 := eq_true q14) | (go_at_call 195;(with_reducible refine (spec_l00Digit.calls (bt a0 x3_2) false _ A15.out).mono ?_);rintro e w' ⟨rfl,⟨nd,rfl⟩⟩))
          go_ret
          exact ⟨by first | rfl | (simp;done) | (simp [*];done),by repeat (first | exact Drawn0.refl _ | apply Drawn0.step)⟩
       ·rw [if_neg c10] at H
        exact absurd H (by simp)
      ·rw [if_neg c9] at H
       have c9b0 : decide (x3_2 < (a0.size : Int)) = false := decide_eq_false c9
       clear c9
       obtain rfl := Option.some.inj H
       go_wp2
       go_ret
       exact ⟨by first | rfl | (simp;done) | (simp [*];done),by repeat (first | exact Drawn0.refl _ | apply Drawn0.step)⟩
set_option maxHeartbeats 8000000 in
set_option maxRecDepth 100000 in
theorem spec_NameOK.calls (k : Nat) (a0 : ByteArray) (r : Bool) (w : World) (h : spec_NameOK.f k a0 = some r) :
  Calls Tryd.prog 152 #[.string a0] w fun e w' => e = .returned (.bool r) ∧ Drawn0 w w' := by
 have H : ((spec_l00Word.f k a0).bind fun t116 => (some t116)) = some r := h
 clear h
 replace H := Option.bind_eq_some_iff.mp H
 obtain ⟨t116,A20,H⟩ := H
 try dsimp only at H
 have A2 := am_ A20
 clear A20
 obtain rfl := Option.some.inj H
 go_enter Tryd.func152,Tryd.ntmps152
 go_wp2_with (first | ((with_reducible refine gate_callee (f := 178) rfl ?_);refine zgl (some 4) Tryd.func178 #[.string a0] ?_;(with_reducible refine (spec_l00Word.calls k a0 t116 _ A2.out).mono ?_);rintro e w' ⟨rfl,⟨nd,rfl⟩⟩;refine ⟨_,rfl,?_⟩))
 go_ret
 exact ⟨by first | rfl | (simp;done) | (simp [*];done),by repeat (first | exact Drawn0.refl _ | apply Drawn0.step)⟩
set_option maxHeartbeats 8000000 in
set_option maxRecDepth 100000 in
theorem spec_l02Text.calls (k : Nat) (a0 : ByteArray) (a1 : Int) (r : Bool) (w : World) (h : spec_l02Text.f k a0 a1 = some r) :
  Calls Tryd.prog 110 #[.string a0,.int .i64 a1] w fun e w' => e = .returned (.bool r) ∧ Drawn0 w w' := by
 have H : ((spec_l01In.f (a0.size : Int) 1 a1).bind fun t117 => (if t117 = true then ((spec_NameOK.f k a0).bind fun t118 => (some t118)) else (some false))) = some r := h
 clear h
 replace H := Option.bind_eq_some_iff.mp H
 obtain ⟨t117,A30,H⟩ := H
 try dsimp only at H
 have A3 := am_ A30
 clear A30
 by_cases c4 : t117 = true
 ·subst c4
  have H1 : ((spec_NameOK.f k a0).bind fun t118 => (some t118)) = some r := by rw [if_pos rfl] at H;exact H
  clear H
  have H := H1
  clear H1
  replace H := Option.bind_eq_some_iff.mp H
  obtain ⟨t118,A50,H⟩ := H
  try dsimp only at H
  have A5 := am_ A50
  clear A50
  obtain rfl := Option.some.inj H
  go_enter Tryd.func110,Tryd.ntmps110
  go_wp2_with (first | ((with_reducible refine gate_callee (f := 69) rfl ?_);refine zgl (some 8) Tryd.func69 #[.int .i64 (a0.size : Int),.int .i64 1,.int .i64 a1] ?_;(with_reducible refine (spec_l01In.calls (a0.size : Int) 1 a1 true _ A3.out).mono ?_);rintro e w' ⟨rfl,⟨nd,rfl⟩⟩;refine ⟨_,rfl,?_⟩) | (go_at_call 152;(with_reducible refine (spec_NameOK.calls k a0 t118 _ A5.out).mono ?_);rintro e w' ⟨rfl,⟨nd,rfl⟩⟩))
  go_ret
  exact ⟨by first | rfl | (simp;done) | (simp [*];done),by repeat (first | exact Drawn0.refl _ | apply Drawn0.step)⟩
 ·replace c4 := Bool.eq_false_iff.mpr c4
  subst c4
  have H1 : (some false) = some r := by rw [if_neg (show ¬ (false = true) by decide)] at H;exact H
  clear H
  have H := H1
  clear H1
  obtain rfl := Option.some.inj H
  go_enter Tryd.func110,Tryd.ntmps110
  go_wp2_with (first | ((with_reducible refine gate_callee (f := 69) rfl ?_);refine zgl (some 8) Tryd.func69 #[.int .i64 (a0.size : Int),.int .i64 1,.int .i64 a1] ?_;(with_reducible refine (spec_l01In.calls (a0.size : Int) 1 a1 false _ A3.out).mono ?_);rintro e w' ⟨rfl,⟨nd,rfl⟩⟩;refine ⟨_,rfl,?_⟩))
  go_ret
  exact ⟨by first | rfl | (simp;done) | (simp [*];done),by repeat (first | exact Drawn0.refl _ | apply Drawn0.step)⟩
set_option maxHeartbeats 8000000 in
set_option maxRecDepth 100000 in
theorem spec_RequestOK.calls (k : Nat) (a0_0 : Int) (a0_1 : Int) (a0_2 : Int) (a0_3 : Int) (a0_4 : ByteArray) (r : Bool) (w : World) (h : spec_RequestOK.f k a0_0 a0_1 a0_2 a0_3 a0_4 = some r) :
  Calls Tryd.prog 96 #[.agg #[.int .i64 a0_0,.int .i64 a0_1,.int .i64 a0_2,.int .i64 a0_3,.string a0_4]] w fun e w' => e = .returned (.bool r) ∧ Below w.heap.size w w' := by
 have hu85 := Tryd.underlying85
 have HB := am_ (Below.refl w.heap.size w)
 have H : ((spec_l01In.f a0_0 0 255).bind fun t1175 => (if t1175 = true then ((spec_l01In.f a0_1 1 65535).bind fun t1176 => (if t1176 = true then ((spec_l01In.f a0_2 1 4).bind fun t1177 => (if t1177 = true then ((spec_l01In.f a0_3 0 1000).bind fun t1178 => (if t1178 = true then ((spec_l02Text.f k a0_4 12).bind fun t1179 => (if t1179 = true then (if a0_2 = 1 then (some ((decide (a0_3 > 0)) == true)) else (some ((decide (a0_3 > 0)) == (a0_2 == 3)))) else (some false))) else (some false))) else (some false))) else (some false))) else (some false))) = some r := h
 clear h
 replace H := Option.bind_eq_some_iff.mp H
 obtain ⟨t1175,A20,H⟩ := H
 try dsimp only at H
 have A2 := am_ A20
 clear A20
 by_cases c3 : t1175 = true
 ·subst c3
  have H1 : ((spec_l01In.f a0_1 1 65535).bind fun t1176 => (if t1176 = true then ((spec_l01In.f a0_2 1 4).bind fun t1177 => (if t1177 = true then ((spec_l01In.f a0_3 0 1000).bind fun t1178 => (if t1178 = true then ((spec_l02Text.f k a0_4 12).bind fun t1179 => (if t1179 = true then (if a0_2 = 1 then (some ((decide (a0_3 > 0)) == true)) else (some ((decide (a0_3 > 0)) == (a0_2 == 3)))) else (some false))) else (some false))) else (some false))) else (some false))) = some r := by rw [if_pos rfl] at H;exact H
  clear H
  have H := H1
  clear H1
  replace H := Option.bind_eq_some_iff.mp H
  obtain ⟨t1176,A40,H⟩ := H
  try dsimp only at H
  have A4 := am_ A40
  clear A40
  by_cases c5 : t1176 = true
  ·subst c5
   have H1 : ((spec_l01In.f a0_2 1 4).bind fun t1177 => (if t1177 = true then ((spec_l01In.f a0_3 0 1000).bind fun t1178 => (if t1178 = true then ((spec_l02Text.f k a0_4 12).bind fun t1179 => (if t1179 = true then (if a0_2 = 1 then (some ((decide (a0_3 > 0)) == true)) else (some ((decide (a0_3 > 0)) == (a0_2 == 3)))) else (some false))) else (some false))) else (some false))) = some r := by rw [if_pos rfl] at H;exact H
   clear H
   have H := H1
   clear H1
   replace H := Option.bind_eq_some_iff.mp H
   obtain ⟨t1177,A60,H⟩ := H
   try dsimp only at H
   have A6 := am_ A60
   clear A60
   by_cases c7 : t1177 = true
   ·subst c7
    have H1 : ((spec_l01In.f a0_3 0 1000).bind fun t1178 => (if t1178 = true then ((spec_l02Text.f k a0_4 12).bind fun t1179 => (if t1179 = true then (if a0_2 = 1 then (some ((decide (a0_3 > 0)) == true)) else (some ((decide (a0_3 > 0)) == (a0_2 == 3)))) else (some false))) else (some false))) = some r := by rw [if_pos rfl] at H;exact H
    clear H
    have H := H1
    clear H1
    replace H := Option.bind_eq_some_iff.mp H
    obtain ⟨t1178,A80,H⟩ := H
    try dsimp only at H
    have A8 := am_ A80
    clear A80
    by_cases c9 : t1178 = true
    ·subst c9
     have H1 : ((spec_l02Text.f k a0_4 12).bind fun t1179 => (if t1179 = true then (if a0_2 = 1 then (some ((decide (a0_3 > 0)) == true)) else (some ((decide (a0_3 > 0)) == (a0_2 == 3)))) else (some false))) = some r := by rw [if_pos rfl] at H;exact H
     clear H
     have H := H1
     clear H1
     replace H := Option.bind_eq_some_iff.mp H
     obtain ⟨t1179,A100,H⟩ := H
     try dsimp only at H
     have A10 := am_ A100
     clear A100
     by_cases c11 : t1179 = true
     ·subst c11
      have H1 : (if a0_2 = 1 then (some ((decide (a0_3 > 0)) == true)) else (some ((decide (a0_3 > 0)) == (a0_2 == 3)))) = some r := by rw [if_pos rfl] at H;exact H
      clear H
      have H := H1
      clear H1
      by_cases c12 : a0_2 = 1
      ·rw [if_pos c12] at H
       have c12b0 : (a0_2 == 1) = true := beq_iff_eq.mpr c12
       have c12b1 : (a0_2 != 1) = false := bne_eq_false_iff_eq.mpr c12
       clear c12
       obtain rfl := Option.some.inj H
       go_enter Tryd.func96,Tryd.ntmps96
       go_wp2_with (first | ((with_reducible refine gate_dst (N := 1) rfl ?_);refine zbx (N := 1) (cs := #[.int .i64 a0_0,.int .i64 a0_1,.int .i64 a0_2,.int .i64 a0_3,.string a0_4]) (t := 85) ?_;intro gb1174 hg w13 hbox hb;have BK1174 := am_ (hbox);have GW1174 := zw_ HB hg;have GE1174 := zw_ HB hg;replace HB := zs_ HB hb;clear hb hbox hg;obtain ⟨hcz14_0,hcz14_1,hcz14_2,hcz14_3,hcz14_4,hfz14_0,hfz14_1,hfz14_2,hfz14_3,hfz14_4⟩ := zc5 BK1174) | ((with_reducible refine gate_callee (f := 69) rfl ?_);refine zgl (some 5) Tryd.func69 #[.int .i64 a0_0,.int .i64 0,.int .i64 255] ?_;(with_reducible refine (spec_l01In.calls a0_0 0 255 true _ A2.out).mono ?_);rintro e w' ⟨rfl,⟨nd,rfl⟩⟩;refine ⟨_,rfl,?_⟩) | (go_at_call 69;(with_reducible refine (spec_l01In.calls a0_1 1 65535 true _ A4.out).mono ?_);rintro e w' ⟨rfl,⟨nd,rfl⟩⟩) | (go_at_call 69;(with_reducible refine (spec_l01In.calls a0_2 1 4 true _ A6.out).mono ?_);rintro e w' ⟨rfl,⟨nd,rfl⟩⟩) | (go_at_call 69;(with_reducible refine (spec_l01In.calls a0_3 0 1000 true _ A8.out).mono ?_);rintro e w' ⟨rfl,⟨nd,rfl⟩⟩) | (go_at_call 110;(with_reducible refine (spec_l02Text.calls k a0_4 12 true _ A10.out).mono ?_);rintro e w' ⟨rfl,⟨nd,rfl⟩⟩))
       go_ret
       exact ⟨zt_,zl_ HB⟩
      ·rw [if_neg c12] at H
       have c12b0 : (a0_2 == 1) = false := beq_eq_false_iff_ne.mpr c12
       have c12b1 : (a0_2 != 1) = true := bne_iff_ne.mpr c12
       obtain rfl := Option.some.inj H
       go_enter Tryd.func96,Tryd.ntmps96
       go_wp2_with (first | ((with_reducible refine gate_dst (N := 1) rfl ?_);refine zbx (N := 1) (cs := #[.int .i64 a0_0,.int .i64 a0_1,.int .i64 a0_2,.int .i64 a0_3,.string a0_4]) (t := 85) ?_;intro gb1174 hg w15 hbox hb;have BK1174 := am_ (hbox);have GW1174 := zw_ HB hg;have GE1174 := zw_ HB hg;replace HB := zs_ HB hb;clear hb hbox hg;obtain ⟨hcz16_0,hcz16_1,hcz16_2,hcz16_3,hcz16_4,hfz16_0,hfz16_1,hfz16_2,hfz16_3,hfz16_4⟩ := zc5 BK1174) | ((with_reducible refine gate_callee (f := 69) rfl ?_);refine zgl (some 5) Tryd.func69 #[.int .i64 a0_0,.int .i64 0,.int .i64 255] ?_;(with_reducible refine (spec_l01In.calls a0_0 0 255 true _ A2.out).mono ?_);rintro e w' ⟨rfl,⟨nd,rfl⟩⟩;refine ⟨_,rfl,?_⟩) | (go_at_call 69;(with_reducible refine (spec_l01In.calls a0_1 1 65535 true _ A4.out).mono ?_);rintro e w' ⟨rfl,⟨nd,rfl⟩⟩) | (go_at_call 69;(with_reducible refine (spec_l01In.calls a0_2 1 4 true _ A6.out).mono ?_);rintro e w' ⟨rfl,⟨nd,rfl⟩⟩) | (go_at_call 69;(with_reducible refine (spec_l01In.calls a0_3 0 1000 true _ A8.out).mono ?_);rintro e w' ⟨rfl,⟨nd,rfl⟩⟩) | (go_at_call 110;(with_reducible refine (spec_l02Text.calls k a0_4 12 true _ A10.out).mono ?_);rintro e w' ⟨rfl,⟨nd,rfl⟩⟩))
       go_ret
       exact ⟨zt_,zl_ HB⟩
     ·replace c11 := Bool.eq_false_iff.mpr c11
      subst c11
      have H1 : (some false) = some r := by rw [if_neg (show ¬ (false = true) by decide)] at H;exact H
      clear H
      have H := H1
      clear H1
      obtain rfl := Option.some.inj H
      go_enter Tryd.func96,Tryd.ntmps96
      go_wp2_with (first | ((with_reducible refine gate_dst (N := 1) rfl ?_);refine zbx (N := 1) (cs := #[.int .i64 a0_0,.int .i64 a0_1,.int .i64 a0_2,.int .i64 a0_3,.string a0_4]) (t := 85) ?_;intro gb1174 hg w17 hbox hb;have BK1174 := am_ (hbox);have GW1174 := zw_ HB hg;have GE1174 := zw_ HB hg;replace HB := zs_ HB hb;clear hb hbox hg;obtain ⟨hcz18_0,hcz18_1,hcz18_2,hcz18_3,hcz18_4,hfz18_0,hfz18_1,hfz18_2,hfz18_3,hfz18_4⟩ := zc5 BK1174) | ((with_reducible refine gate_callee (f := 69) rfl ?_);refine zgl (some 5) Tryd.func69 #[.int .i64 a0_0,.int .i64 0,.int .i64 255] ?_;(with_reducible refine (spec_l01In.calls a0_0 0 255 true _ A2.out).mono ?_);rintro e w' ⟨rfl,⟨nd,rfl⟩⟩;refine ⟨_,rfl,?_⟩) | (go_at_call 69;(with_reducible refine (spec_l01In.calls a0_1 1 65535 true _ A4.out).mono ?_);rintro e w' ⟨rfl,⟨nd,rfl⟩⟩) | (go_at_call 69;(with_reducible refine (spec_l01In.calls a0_2 1 4 true _ A6.out).mono ?_);rintro e w' ⟨rfl,⟨nd,rfl⟩⟩) | (go_at_call 69;(with_reducible refine (spec_l01In.calls a0_3 0 1000 true _ A8.out).mono ?_);rintro e w' ⟨rfl,⟨nd,rfl⟩⟩) | (go_at_call 110;(with_reducible refine (spec_l02Text.calls k a0_4 12 false _ A10.out).mono ?_);rintro e w' ⟨rfl,⟨nd,rfl⟩⟩))
      go_ret
      exact ⟨zt_,zl_ HB⟩
    ·replace c9 := Bool.eq_false_iff.mpr c9
     subst c9
     have H1 : (some false) = some r := by rw [if_neg (show ¬ (false = true) by decide)] at H;exact H
     clear H
     have H := H1
     clear H1
     obtain rfl := Option.some.inj H
     go_enter Tryd.func96,Tryd.ntmps96
     go_wp2_with (first | ((with_reducible refine gate_dst (N := 1) rfl ?_);refine zbx (N := 1) (cs := #[.int .i64 a0_0,.int .i64 a0_1,.int .i64 a0_2,.int .i64 a0_3,.string a0_4]) (t := 85) ?_;intro gb1174 hg w19 hbox hb;have BK1174 := am_ (hbox);have GW1174 := zw_ HB hg;have GE1174 := zw_ HB hg;replace HB := zs_ HB hb;clear hb hbox hg;obtain ⟨hcz20_0,hcz20_1,hcz20_2,hcz20_3,hcz20_4,hfz20_0,hfz20_1,hfz20_2,hfz20_3,hfz20_4⟩ := zc5 BK1174) | ((with_reducible refine gate_callee (f := 69) rfl ?_);refine zgl (some 5) Tryd.func69 #[.int .i64 a0_0,.int .i64 0,.int .i64 255] ?_;(with_reducible refine (spec_l01In.calls a0_0 0 255 true _ A2.out).mono ?_);rintro e w' ⟨rfl,⟨nd,rfl⟩⟩;refine ⟨_,rfl,?_⟩) | (go_at_call 69;(with_reducible refine (spec_l01In.calls a0_1 1 65535 true _ A4.out).mono ?_);rintro e w' ⟨rfl,⟨nd,rfl⟩⟩) | (go_at_call 69;(with_reducible refine (spec_l01In.calls a0_2 1 4 true _ A6.out).mono ?_);rintro e w' ⟨rfl,⟨nd,rfl⟩⟩) | (go_at_call 69;(with_reducible refine (spec_l01In.calls a0_3 0 1000 false _ A8.out).mono ?_);rintro e w' ⟨rfl,⟨nd,rfl⟩⟩))
     go_ret
     exact ⟨zt_,zl_ HB⟩
   ·replace c7 := Bool.eq_false_iff.mpr c7
    subst c7
    have H1 : (some false) = some r := by rw [if_neg (show ¬ (false = true) by decide)] at H;exact H
    clear H
    have H := H1
    clear H1
    obtain rfl := Option.some.inj H
    go_enter Tryd.func96,Tryd.ntmps96
    go_wp2_with (first | ((with_reducible refine gate_dst (N := 1) rfl ?_);refine zbx (N := 1) (cs := #[.int .i64 a0_0,.int .i64 a0_1,.int .i64 a0_2,.int .i64 a0_3,.string a0_4]) (t := 85) ?_;intro gb1174 hg w21 hbox hb;have BK1174 := am_ (hbox);have GW1174 := zw_ HB hg;have GE1174 := zw_ HB hg;replace HB := zs_ HB hb;clear hb hbox hg;obtain ⟨hcz22_0,hcz22_1,hcz22_2,hcz22_3,hcz22_4,hfz22_0,hfz22_1,hfz22_2,hfz22_3,hfz22_4⟩ := zc5 BK1174) | ((with_reducible refine gate_callee (f := 69) rfl ?_);refine zgl (some 5) Tryd.func69 #[.int .i64 a0_0,.int .i64 0,.int .i64 255] ?_;(with_reducible refine (spec_l01In.calls a0_0 0 255 true _ A2.out).mono ?_);rintro e w' ⟨rfl,⟨nd,rfl⟩⟩;refine ⟨_,rfl,?_⟩) | (go_at_call 69;(with_reducible refine (spec_l01In.calls a0_1 1 65535 true _ A4.out).mono ?_);rintro e w' ⟨rfl,⟨nd,rfl⟩⟩) | (go_at_call 69;(with_reducible refine (spec_l01In.calls a0_2 1 4 false _ A6.out).mono ?_);rintro e w' ⟨rfl,⟨nd,rfl⟩⟩))
    go_ret
    exact ⟨zt_,zl_ HB⟩
  ·replace c5 := Bool.eq_false_iff.mpr c5
   subst c5
   have H1 : (some false) = some r := by rw [if_neg (show ¬ (false = true) by decide)] at H;exact H
   clear H
   have H := H1
   clear H1
   obtain rfl := Option.some.inj H
   go_enter Tryd.func96,Tryd.ntmps96
   go_wp2_with (first | ((with_reducible refine gate_dst (N := 1) rfl ?_);refine zbx (N := 1) (cs := #[.int .i64 a0_0,.int .i64 a0_1,.int .i64 a0_2,.int .i64 a0_3,.string a0_4]) (t := 85) ?_;intro gb1174 hg w23 hbox hb;have BK1174 := am_ (hbox);have GW1174 := zw_ HB hg;have GE1174 := zw_ HB hg;replace HB := zs_ HB hb;clear hb hbox hg;obtain ⟨hcz24_0,hcz24_1,hcz24_2,hcz24_3,hcz24_4,hfz24_0,hfz24_1,hfz24_2,hfz24_3,hfz24_4⟩ := zc5 BK1174) | ((with_reducible refine gate_callee (f := 69) rfl ?_);refine zgl (some 5) Tryd.func69 #[.int .i64 a0_0,.int .i64 0,.int .i64 255] ?_;(with_reducible refine (spec_l01In.calls a0_0 0 255 true _ A2.out).mono ?_);rintro e w' ⟨rfl,⟨nd,rfl⟩⟩;refine ⟨_,rfl,?_⟩) | (go_at_call 69;(with_reducible refine (spec_l01In.calls a0_1 1 65535 false _ A4.out).mono ?_);rintro e w' ⟨rfl,⟨nd,rfl⟩⟩))
   go_ret
   exact ⟨zt_,zl_ HB⟩
 ·replace c3 := Bool.eq_false_iff.mpr c3
  subst c3
  have H1 : (some false) = some r := by rw [if_neg (show ¬ (false = true) by decide)] at H;exact H
  clear H
  have H := H1
  clear H1
  obtain rfl := Option.some.inj H
  go_enter Tryd.func96,Tryd.ntmps96
  go_wp2_with (first | ((with_reducible refine gate_dst (N := 1) rfl ?_);refine zbx (N := 1) (cs := #[.int .i64 a0_0,.int .i64 a0_1,.int .i64 a0_2,.int .i64 a0_3,.string a0_4]) (t := 85) ?_;intro gb1174 hg w25 hbox hb;have BK1174 := am_ (hbox);have GW1174 := zw_ HB hg;have GE1174 := zw_ HB hg;replace HB := zs_ HB hb;clear hb hbox hg;obtain ⟨hcz26_0,hcz26_1,hcz26_2,hcz26_3,hcz26_4,hfz26_0,hfz26_1,hfz26_2,hfz26_3,hfz26_4⟩ := zc5 BK1174) | ((with_reducible refine gate_callee (f := 69) rfl ?_);refine zgl (some 5) Tryd.func69 #[.int .i64 a0_0,.int .i64 0,.int .i64 255] ?_;(with_reducible refine (spec_l01In.calls a0_0 0 255 false _ A2.out).mono ?_);rintro e w' ⟨rfl,⟨nd,rfl⟩⟩;refine ⟨_,rfl,?_⟩))
  go_ret
  exact ⟨zt_,zl_ HB⟩
set_option maxHeartbeats 8000000 in
set_option maxRecDepth 100000 in
theorem spec_l04Nodes.calls (a0 : Int) (r : Bool) (w : World) (h : spec_l04Nodes.f a0 = some r) :
  Calls Tryd.prog 52 #[.int .i64 a0] w fun e w' => e = .returned (.bool r) ∧ Drawn0 w w' := by
 have H : (if a0 = 1 then (some true) else (if a0 = 4 then (some true) else (some (a0 == 7)))) = some r := h
 clear h
 by_cases c2 : a0 = 1
 ·rw [if_pos c2] at H
  have c2b0 : (a0 == 1) = true := beq_iff_eq.mpr c2
  have c2b1 : (a0 != 1) = false := bne_eq_false_iff_eq.mpr c2
  clear c2
  obtain rfl := Option.some.inj H
  go_enter Tryd.func52,Tryd.ntmps52
  go_wp2
  go_ret
  exact ⟨by first | rfl | (simp;done) | (simp [*];done),by repeat (first | exact Drawn0.refl _ | apply Drawn0.step)⟩
 ·rw [if_neg c2] at H
  have c2b0 : (a0 == 1) = false := beq_eq_false_iff_ne.mpr c2
  have c2b1 : (a0 != 1) = true := bne_iff_ne.mpr c2
  by_cases c3 : a0 = 4
  ·rw [if_pos c3] at H
   have c3b0 : (a0 == 4) = true := beq_iff_eq.mpr c3
   have c3b1 : (a0 != 4) = false := bne_eq_false_iff_eq.mpr c3
   clear c3
   obtain rfl := Option.some.inj H
   go_enter Tryd.func52,Tryd.ntmps52
   go_wp2
   go_ret
   exact ⟨by first | rfl | (simp;done) | (simp [*];done),by repeat (first | exact Drawn0.refl _ | apply Drawn0.step)⟩
  ·rw [if_neg c3] at H
   have c3b0 : (a0 == 4) = false := beq_eq_false_iff_ne.mpr c3
   have c3b1 : (a0 != 4) = true := bne_iff_ne.mpr c3
   obtain rfl := Option.some.inj H
   go_enter Tryd.func52,Tryd.ntmps52
   go_wp2
   go_ret
   exact ⟨by first | rfl | (simp;done) | (simp [*];done),by repeat (first | exact Drawn0.refl _ | apply Drawn0.step)⟩
end Go.Proofs.YtlifdodphkimpaaDoor.B
end
