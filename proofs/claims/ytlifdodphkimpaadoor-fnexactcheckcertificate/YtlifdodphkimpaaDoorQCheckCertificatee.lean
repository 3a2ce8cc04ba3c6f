/- A part of the proof that FnExactCheckCertificate returns true at every input: plain functions, contracts and lemmas. No conditions. -/
import Derived.Test.YtlifdodphkimpaaDoorQCheckCertificated
set_option linter.unusedVariables false
set_option linter.unusedSimpArgs false
set_option linter.unusedSectionVars false
section
namespace Go.Proofs.YtlifdodphkimpaaDoor.A
open Go.RowKit Go.Proofs.YtlifdodphkimpaaDoorW.PrintWords Go.Proofs.YtlifdodphkimpaaDoorW.PrintLast Go.Proofs.YtlifdodphkimpaaDoorW.PrintMore
attribute [local go_sem] max2_int min2_int max_two min_two max_three min_three max_four min_four
set_option maxHeartbeats 8000000 in
set_option maxRecDepth 100000 in
theorem impl_rises.calls (k : Nat) (A0 : Option Addr) (c0 : Nat) (l0 : List Int) (a1 : Int) (a2 : Int) (r : Bool) (w : World) (hr0 : Kd.C (Kd.int .i64) w A0 l0.length l0) (hc0 : l0.length ≤ c0) (h : impl_rises.f k l0 a1 a2 = some r) :
  Calls Tryd.prog 121 #[.slice A0 l0.length c0,.int .i64 a1,.int .i64 a2] w fun e w' => e = .returned (.bool r) ∧ Drawn0 w w' := by
 have HR0 := am_ hr0
 have HC0 := am_ hc0
 clear hr0 hc0
 have H : (impl_rises.l0 k l0 a1 a2 l0 (l0.length : Int) 0) = some r := h
 clear h
 have H' := am_ H
 clear H
 go_enter Tryd.func121,Tryd.ntmps121
 go_wp2
 go_loopg [11] k (fun kq v11 w' => ∃ (x11_1 : Int),v11 = .int .i64 x11_1 ∧ Aside0 (impl_rises.l0 kq l0 a1 a2 l0 (l0.length : Int) x11_1 = some r) ∧ Aside0 (kq ≤ k) ∧ Drawn0 w w')
 case atStart => exact ⟨(0),(by first | rfl | (simp;done) | (simp [*];done)),H',⟨Nat.le_refl _⟩,by repeat (first | exact Drawn0.refl _ | apply Drawn0.step)⟩
 case round =>
  clear H'
  try clear c1
  try clear p2
  obtain ⟨x11_1,rfl,HA,HK1,⟨m1,rfl⟩⟩ := hrel
  cases gk with
  | zero => exact absurd HA.out (by simp [impl_rises.l0])
  | succ k1 =>
   have H := HA.out
   clear HA
   simp only [impl_rises.l0] at H
   by_cases c4 : x11_1 < (l0.length : Int)
   ·rw [if_pos c4] at H
    have c4b0 : decide (x11_1 < (l0.length : Int)) = true := decide_eq_true c4
    clear c4
    by_cases c5 : 0 ≤ x11_1
    ·rw [if_pos c5] at H
     have c5b0 : decide (0 ≤ x11_1) = true := decide_eq_true c5
     clear c5
     by_cases c6 : x11_1 < (l0.length : Int)
     ·rw [if_pos c6] at H
      have c6b0 : decide (x11_1 < (l0.length : Int)) = true := decide_eq_true c6
      clear c6
      replace H := Option.bind_eq_some_iff.mp H
      obtain ⟨t406,A70,H⟩ := H
      try dsimp only at H
      have A7 := am_ A70
      clear A70
      by_cases c8 : t406 = true
      ·subst c8
       have H1 : (if x11_1 > 0 then (if 0 ≤ (wrap64 (x11_1 - 1)) then (if (wrap64 (x11_1 - 1)) < (l0.length : Int) then (if (rd l0 (wrap64 (x11_1 - 1))) ≥ (rd l0 x11_1) then (some false) else (impl_rises.l0 k1 l0 a1 a2 l0 (l0.length : Int) (wrap64 (x11_1 + 1)))) else (none)) else (none)) else (impl_rises.l0 k1 l0 a1 a2 l0 (l0.length : Int) (wrap64 (x11_1 + 1)))) = some r := by rw [if_pos rfl] at H;exact H
       clear H
       have H := H1
       clear H1
       by_cases c9 : x11_1 > 0
       ·rw [if_pos c9] at H
        have c9b0 : decide (0 < x11_1) = true := decide_eq_true c9
        clear c9
        obtain ⟨ji10,hji10⟩ : ∃ j_ : Int,(wrap64 (x11_1 - 1)) = j_ := ⟨_,rfl⟩
        replace H : (if 0 ≤ (ji10) then (if (ji10) < (l0.length : Int) then (if (rd l0 (ji10)) ≥ (rd l0 x11_1) then (some false) else (impl_rises.l0 k1 l0 a1 a2 l0 (l0.length : Int) (wrap64 (x11_1 + 1)))) else (none)) else (none)) = some r := by first | (rw [hji10] at H;exact H) | (simp only [hji10] at H ⊢;exact H)
        (try rw [hji10] at A7)
        have hji10w : (IntKind.i64.wrap (x11_1 - 1)) = ji10 := (i64_w _).trans hji10
        by_cases c11 : 0 ≤ (ji10)
        ·rw [if_pos c11] at H
         have c11b0 : decide (0 ≤ (ji10)) = true := decide_eq_true c11
         clear c11
         by_cases c12 : (ji10) < (l0.length : Int)
         ·rw [if_pos c12] at H
          have c12b0 : decide ((ji10) < (l0.length : Int)) = true := decide_eq_true c12
          clear c12
          by_cases c13 : (rd l0 (ji10)) ≥ (rd l0 x11_1)
          ·rw [if_pos c13] at H
           have c13b0 : decide ((rd l0 x11_1) ≤ (rd l0 (ji10))) = true := decide_eq_true c13
           clear c13
           obtain rfl := Option.some.inj H
           have p405 : 0 ≤ (x11_1 : Int) := zo_
           have q405 : x11_1 < (l0.length : Int) := zo_
           obtain ⟨ad405,e405,hx405_0⟩ := Kd.at_int HR0.out x11_1 p405 q405
           cases e405
           replace p405 := eq_true p405
           replace q405 := eq_true q405
           go_wp2_with (first | ((with_reducible refine gate_callee (f := 80) rfl ?_);refine zgl (some 19) Tryd.func80 #[.int .i64 (rd l0 x11_1),.int .i64 a1,.int .i64 a2] ?_;(with_reducible refine (impl_within.calls (rd l0 x11_1) a1 a2 true _ A7.out).mono ?_);rintro e w' ⟨rfl,⟨nd,rfl⟩⟩;refine ⟨_,rfl,?_⟩;have p407 : 0 ≤ ((ji10) : Int) := zo_;have q407 : (ji10) < (l0.length : Int) := zo_;obtain ⟨ad407,e407,hx407_0⟩ := Kd.at_int HR0.out (ji10) p407 q407;obtain rfl : ad405 = ad407 := (by injection e407);replace p407 := eq_true p407;replace q407 := eq_true q407))
           go_ret
           exact ⟨by first | rfl | (simp;done) | (simp only [← hji10] <;> (first | rfl | simp)) | (simp [*];done),by repeat (first | exact Drawn0.refl _ | apply Drawn0.step)⟩
          ·rw [if_neg c13] at H
           have c13b0 : decide ((rd l0 x11_1) ≤ (rd l0 (ji10))) = false := decide_eq_false c13
           clear c13
           have H' := am_ H
           clear H
           have p405 : 0 ≤ (x11_1 : Int) := zo_
           have q405 : x11_1 < (l0.length : Int) := zo_
           obtain ⟨ad405,e405,hx405_0⟩ := Kd.at_int HR0.out x11_1 p405 q405
           cases e405
           replace p405 := eq_true p405
           replace q405 := eq_true q405
           go_wp2_with (first | ((with_reducible refine gate_callee (f := 80) rfl ?_);refine zgl (some 19) Tryd.func80 #[.int .i64 (rd l0 x11_1),.int .i64 a1,.int .i64 a2] ?_;(with_reducible refine (impl_within.calls (rd l0 x11_1) a1 a2 true _ A7.out).mono ?_);rintro e w' ⟨rfl,⟨nd,rfl⟩⟩;refine ⟨_,rfl,?_⟩;have p407 : 0 ≤ ((ji10) : Int) := zo_;have q407 : (ji10) < (l0.length : Int) := zo_;obtain ⟨ad407,e407,hx407_0⟩ := Kd.at_int HR0.out (ji10) p407 q407;obtain rfl : ad405 = ad407 := (by injection e407);replace p407 := eq_true p407;replace q407 := eq_true q407))
           go_roundg k1
           case measure => have := HK1.out;omega
           case rel => exact ⟨(wrap64 (x11_1 + 1)),(by first | rfl | (simp;done) | (simp [*];done)),H',⟨by have := HK1.out;omega⟩,by repeat (first | exact Drawn0.refl _ | apply Drawn0.step)⟩
         ·rw [if_neg c12] at H
          exact absurd H (by simp)
        ·rw [if_neg c11] at H
         exact absurd H (by simp)
       ·rw [if_neg c9] at H
        have c9b0 : decide (0 < x11_1) = false := decide_eq_false c9
        clear c9
        have H' := am_ H
        clear H
        have p405 : 0 ≤ (x11_1 : Int) := zo_
        have q405 : x11_1 < (l0.length : Int) := zo_
        obtain ⟨ad405,e405,hx405_0⟩ := Kd.at_int HR0.out x11_1 p405 q405
        cases e405
        replace p405 := eq_true p405
        replace q405 := eq_true q405
        go_wp2_with (first | ((with_reducible refine gate_callee (f := 80) rfl ?_);refine zgl (some 19) Tryd.func80 #[.int .i64 (rd l0 x11_1),.int .i64 a1,.int .i64 a2] ?_;(with_reducible refine (impl_within.calls (rd l0 x11_1) a1 a2 true _ A7.out).mono ?_);rintro e w' ⟨rfl,⟨nd,rfl⟩⟩;refine ⟨_,rfl,?_⟩))
        go_roundg k1
        case measure => have := HK1.out;omega
        case rel => exact ⟨(wrap64 (x11_1 + 1)),(by first | rfl | (simp;done) | (simp [*];done)),H',⟨by have := HK1.out;omega⟩,by repeat (first | exact Drawn0.refl _ | apply Drawn0.step)⟩
      ·replace c8 := Bool.eq_false_iff.mpr c8
       subst c8
       have H1 : (some false) = some r := by rw [if_neg (show ¬ (false = true) by decide)] at H;exact H
       clear H
       have H := H1
       clear H1
       obtain rfl := Option.some.inj H
       have p405 : 0 ≤ (x11_1 : Int) := zo_
       have q405 : x11_1 < (l0.length : Int) := zo_
       obtain ⟨ad405,e405,hx405_0⟩ := Kd.at_int HR0.out x11_1 p405 q405
       cases e405
       replace p405 := eq_true p405
       replace q405 := eq_true q405
       go_wp2_with (first | ((with_reducible refine gate_callee (f := 80) rfl ?_);refine zgl (some 19) Tryd.func80 #[.int .i64 (rd l0 x11_1),.int .i64 a1,.int .i64 a2] ?_;(with_reducible refine (impl_within.calls (rd l0 x11_1) a1 a2 false _ A7.out).mono ?_);rintro e w' ⟨rfl,⟨nd,rfl⟩⟩;refine ⟨_,rfl,?_⟩))
       go_ret
       exact ⟨by first | rfl | (simp;done) | (simp [*];done),by repeat (first | exact Drawn0.refl _ | apply Drawn0.step)⟩
     ·rw [if_neg c6] at H
      exact absurd H (by simp)
    ·rw [if_neg c5] at H
     exact absurd H (by simp)
   ·rw [if_neg c4] at H
    have c4b0 : decide (x11_1 < (l0.length : Int)) = false := decide_eq_false c4
    clear c4
    obtain rfl := Option.some.inj H
    go_wp2
    go_ret
    exact ⟨by first | rfl | (simp;done) | (simp [*];done),by repeat (first | exact Drawn0.refl _ | apply Drawn0.step)⟩
set_option maxHeartbeats 8000000 in
set_option maxRecDepth 100000 in
theorem impl_isEnough.calls (k : Nat) (a0 : Int) (A1 : Option Addr) (c1 : Nat) (l1 : List Int) (r : Bool) (w : World) (hr1 : Kd.C (Kd.int .i64) w A1 l1.length l1) (hc1 : l1.length ≤ c1) (h : impl_isEnough.f k a0 l1 = some r) :
  Calls Tryd.prog 62 #[.int .i64 a0,.slice A1 l1.length c1] w fun e w' => e = .returned (.bool r) ∧ Drawn0 w w' := by
 have HR1 := am_ hr1
 have HC1 := am_ hc1
 clear hr1 hc1
 have H : (if (l1.length : Int) = (wrap64 ((wrap64 (Int.tdiv (wrap64 (a0 - 1)) 3)) + 1)) then ((impl_rises.f k l1 0 (wrap64 (a0 - 1))).bind fun t408 => (some t408)) else (some false)) = some r := h
 clear h
 by_cases c3 : (l1.length : Int) = (wrap64 ((wrap64 (Int.tdiv (wrap64 (a0 - 1)) 3)) + 1))
 ·rw [if_pos c3] at H
  have c3b0 : ((l1.length : Int) == (wrap64 ((wrap64 (Int.tdiv (wrap64 (a0 - 1)) 3)) + 1))) = true := beq_iff_eq.mpr c3
  have c3b1 : ((l1.length : Int) != (wrap64 ((wrap64 (Int.tdiv (wrap64 (a0 - 1)) 3)) + 1))) = false := bne_eq_false_iff_eq.mpr c3
  clear c3
  replace H := Option.bind_eq_some_iff.mp H
  obtain ⟨t408,A40,H⟩ := H
  try dsimp only at H
  have A4 := am_ A40
  clear A40
  obtain rfl := Option.some.inj H
  go_enter Tryd.func62,Tryd.ntmps62
  go_wp2_with (first | (go_at_call 121;(with_reducible refine (impl_rises.calls k _ _ l1 0 (wrap64 (a0 - 1)) t408 _ ?side1 ?side2 A4.out).mono ?_);(case side1 => repeat (first | exact HR1.out | (with_reducible refine Kd.C_alloc ?_ _) | (with_reducible refine Kd.C_drewN ?_ _) | (with_reducible refine Kd.C_drew ?_)));(case side2 => exact HC1.out);rintro e w' ⟨rfl,⟨nd,rfl⟩⟩))
  go_ret
  exact ⟨by first | rfl | (simp;done) | (simp [*];done),by repeat (first | exact Drawn0.refl _ | apply Drawn0.step)⟩
 ·rw [if_neg c3] at H
  have c3b0 : ((l1.length : Int) == (wrap64 ((wrap64 (Int.tdiv (wrap64 (a0 - 1)) 3)) + 1))) = false := beq_eq_false_iff_ne.mpr c3
  have c3b1 : ((l1.length : Int) != (wrap64 ((wrap64 (Int.tdiv (wrap64 (a0 - 1)) 3)) + 1))) = true := bne_iff_ne.mpr c3
  obtain rfl := Option.some.inj H
  go_enter Tryd.func62,Tryd.ntmps62
  go_wp2
  go_ret
  exact ⟨by first | rfl | (simp;done) | (simp [*];done),by repeat (first | exact Drawn0.refl _ | apply Drawn0.step)⟩
set_option maxHeartbeats 8000000 in
set_option maxRecDepth 100000 in
theorem impl_nodeSeed.calls (k : Nat) (a0 : Int) (r : ByteArray) (w : World) (hL : Laid w) (h : impl_nodeSeed.f k a0 = some r) :
  Calls Tryd.prog 65 #[.int .i64 a0] w fun e w' => e = .returned (.string r) ∧ Below w.heap.size w w' := by
 have HLD := am_ hL
 clear hL
 have HB := am_ (Below.refl w.heap.size w)
 have H : ((impl_number.f k a0 1).bind fun t480 => (if 9 + t480.size ≤ 9223372036854775807 then ((impl_hash.f k ((⟨#[110,111,100,101,32,115,101,101,100]⟩ : ByteArray) ++ t480)).bind fun t481 => (some t481)) else (none))) = some r := h
 clear h
 replace H := Option.bind_eq_some_iff.mp H
 obtain ⟨t480,A20,H⟩ := H
 try dsimp only at H
 have A2 := am_ A20
 clear A20
 by_cases c3 : 9 + t480.size ≤ 9223372036854775807
 ·rw [if_pos c3] at H
  have c3b0 := eq_true c3
  have c3b1 : decide (9 + t480.size ≤ 9223372036854775807) = true := decide_eq_true c3
  try have c3b2 : (9223372036854775807 < 9 + t480.size) = False := eq_false (Nat.not_lt.2 c3)
  replace H := Option.bind_eq_some_iff.mp H
  obtain ⟨t481,A40,H⟩ := H
  try dsimp only at H
  have A4 := am_ A40
  clear A40
  obtain rfl := Option.some.inj H
  go_enter Tryd.func65,Tryd.ntmps65
  go_wp2_with (first | ((with_reducible refine gate_callee (f := 128) rfl ?_);refine zgl (some 4) Tryd.func128 #[.int .i64 a0,.int .i64 1] ?_;(with_reducible refine (impl_number.calls k a0 1 t480 _ A2.out).mono ?_);rintro e w5 ⟨rfl,hb⟩;refine ⟨_,rfl,?_⟩;replace HB := zs_ HB hb;(try clear hb);(try clear hb2);(try clear hk);(try clear hi)) | ((with_reducible refine gate_callee (f := 127) rfl ?_);refine zgl (some 6) Tryd.func127 #[.string ((⟨#[110,111,100,101,32,115,101,101,100]⟩ : ByteArray) ++ t480)] ?_;(with_reducible refine (impl_hash.calls k ((⟨#[110,111,100,101,32,115,101,101,100]⟩ : ByteArray) ++ t480) t481 _ ?side1 A4.out).mono ?_);(case side1 => exact HLD.out.on (zl_ HB));rintro e w6 ⟨rfl,hb⟩;refine ⟨_,rfl,?_⟩;replace HB := zs_ HB hb;(try clear hb);(try clear hb2);(try clear hk);(try clear hi)))
  go_ret
  exact ⟨zt_,zl_ HB⟩
 ·rw [if_neg c3] at H
  exact absurd H (by simp)
def impl_CheckCertificate.T10 : Bool × List (List Nat × List Nat) := (true,[([],[]),([0],[0]),([1,1],[1]),([],[]),([3],[3]),([4,2],[4]),([],[]),([6],[6]),([],[]),([7,8],[7,8]),([9],[9]),([2,5,10,5],[2,5,10]),([11,11,0,1,2,3,4,5,6,7,8,9,10,11],[11])])
def impl_CheckCertificate.B10 : List Nat := [0,1,3,0,8,31,0,64,0,448,960,2047,4095]
theorem impl_CheckCertificate.tab10 : rtab .any (opsOf Tryd.f13 10) = impl_CheckCertificate.T10 := by kernel_rfl
theorem impl_CheckCertificate.bits10 : waitsOk impl_CheckCertificate.T10.2 impl_CheckCertificate.B10 = true := by kernel_rfl
set_option maxHeartbeats 8000000 in
set_option maxRecDepth 100000 in
theorem impl_CheckCertificate.calls (k : Nat) (a0 : Int) (a1_0 : ByteArray) (a1_1 : Int) (a1_2 : Int) (a1_3 : Int) (A1_4 : Option Addr) (c1_4 : Nat) (l1_4 : List Int) (A1_5 : Option Addr) (c1_5 : Nat) (l1_5 : List (S52)) (r : Int) (w : World) (hr1_4 : Kd.C (Kd.int .i64) w A1_4 l1_4.length l1_4) (hc1_4 : l1_4.length ≤ c1_4) (hr1_5 : Kd.C k52 w A1_5 l1_5.length l1_5) (hc1_5 : l1_5.length ≤ c1_5) (hL : Laid w) (hT : LaidT w) (h : impl_CheckCertificate.f k a0 a1_0 a1_1 a1_2 a1_3 l1_4 l1_5 = some r) :
  Calls Tryd.prog 13 #[.int .i64 a0,.agg #[.string a1_0,.int .i64 a1_1,.int .i64 a1_2,.int .i64 a1_3,.slice A1_4 l1_4.length c1_4,.slice A1_5 l1_5.length c1_5]] w fun e w' => e = .returned (.int .i64 r) ∧ Below w.heap.size w w' := by
 have hu33 := Tryd.underlying33
 have hu30 := Tryd.underlying30
 have hu52 := Tryd.underlying52
 have HR1_4 := am_ hr1_4
 have HC1_4 := am_ hc1_4
 clear hr1_4 hc1_4
 have HR1_5 := am_ hr1_5
 have HC1_5 := am_ hc1_5
 clear hr1_5 hc1_5
 have HLD := am_ hL
 clear hL
 have HTD := am_ hT
 clear hT
 have HB := am_ (Below.refl w.heap.size w)
 have H : ((impl_GrantOK.f k a1_0 a1_1 a1_2 a1_3).bind fun t487 => (if t487 = true then ((impl_areNodes.f a0).bind fun t488 => (if t488 = true then ((impl_isEnough.f k a0 l1_4).bind fun t489 => (if t489 = true then (if (l1_5.length : Int) = (l1_4.length : Int) then (impl_CheckCertificate.l0 k l1_4 (l1_4.length : Int) 0 a1_0 a1_1 a1_2 a1_3 l1_4 l1_5) else (some 19)) else (some 19))) else (some 4))) else (some 1))) = some r := h
 clear h
 replace H := Option.bind_eq_some_iff.mp H
 obtain ⟨t487,A30,H⟩ := H
 try dsimp only at H
 have A3 := am_ A30
 clear A30
 by_cases c4 : t487 = true
 ·subst c4
  have H1 : ((impl_areNodes.f a0).bind fun t488 => (if t488 = true then ((impl_isEnough.f k a0 l1_4).bind fun t489 => (if t489 = true then (if (l1_5.length : Int) = (l1_4.length : Int) then (impl_CheckCertificate.l0 k l1_4 (l1_4.length : Int) 0 a1_0 a1_1 a1_2 a1_3 l1_4 l1_5) else (some 19)) else (some 19))) else (some 4))) = some r := by rw [if_pos rfl] at H;exact H
  clear H
  have H := H1
  clear H1
  replace H := Option.bind_eq_some_iff.mp H
  obtain ⟨t488,A50,H⟩ := H
  try dsimp only at H
  have A5 := am_ A50
  clear A50
  by_cases c6 : t488 = true
  ·subst c6
   have H1 : ((impl_isEnough.f k a0 l1_4).bind fun t489 => (if t489 = true then (if (l1_5.length : Int) = (l1_4.length : Int) then (impl_CheckCertificate.l0 k l1_4 (l1_4.length : Int) 0 a1_0 a1_1 a1_2 a1_3 l1_4 l1_5) else (some 19)) else (some 19))) = some r := by rw [if_pos rfl] at H;exact H
   clear H
   have H := H1
   clear H1
   replace H := Option.bind_eq_some_iff.mp H
   obtain ⟨t489,A70,H⟩ := H
   try dsimp only at H
   have A7 := am_ A70
   clear A70
   by_cases c8 : t489 = true
   ·subst c8
    have H1 : (if (l1_5.length : Int) = (l1_4.length : Int) then (impl_CheckCertificate.l0 k l1_4 (l1_4.length : Int) 0 a1_0 a1_1 a1_2 a1_3 l1_4 l1_5) else (some 19)) = some r := by rw [if_pos rfl] at H;exact H
    clear H
    have H := H1
    clear H1
    by_cases c9 : (l1_5.length : Int) = (l1_4.length : Int)
    ·rw [if_pos c9] at H
     have c9b0 : ((l1_5.length : Int) == (l1_4.length : Int)) = true := beq_iff_eq.mpr c9
     have c9b1 : ((l1_5.length : Int) != (l1_4.length : Int)) = false := bne_eq_false_iff_eq.mpr c9
     have c9b2 : (l1_5.length == l1_4.length) = true := by first | simpa using c9 | (simp at c9 ⊢;omega)
     clear c9
     have H' := am_ H
     clear H
     go_enter Tryd.func13,Tryd.ntmps13
     go_wp2_with (first | ((with_reducible refine gate_dst (N := 3) rfl ?_);(try (refine gate_guard (by rfl) ?_;dsimp only));refine zbx (N := 3) (cs := #[.string a1_0,.int .i64 a1_1,.int .i64 a1_2,.int .i64 a1_3,.slice A1_4 l1_4.length c1_4,.slice A1_5 l1_5.length c1_5]) (t := 33) ?_;intro gb486 hg w10 hbox hb;have BK486 := am_ (hbox);have GW486 := zw_ HB hg;have GE486 := zw_ HB hg;replace HB := zs_ HB hb;clear hb hbox hg;obtain ⟨hcz11_0,hcz11_1,hcz11_2,hcz11_3,hcz11_4,hcz11_5,hfz11_0,hfz11_1,hfz11_2,hfz11_3,hfz11_4,hfz11_5⟩ := zc6 BK486) | ((with_reducible refine gate_callee (f := 60) rfl ?_);refine zgl (some 11) Tryd.func60 #[.agg #[.string a1_0,.int .i64 a1_1,.int .i64 a1_2,.int .i64 a1_3]] ?_;(with_reducible refine (impl_GrantOK.calls k a1_0 a1_1 a1_2 a1_3 true _ A3.out).mono ?_);rintro e w12 ⟨rfl,hb⟩;refine ⟨_,rfl,?_⟩;replace BK486 := zb BK486 hb;replace HB := zs_ HB hb;(try clear hb);(try clear hb2);(try clear hk);(try clear hi)) | ((with_reducible refine gate_callee (f := 61) rfl ?_);refine zgl (some 15) Tryd.func61 #[.int .i64 a0] ?_;(with_reducible refine (impl_areNodes.calls a0 true _ A5.out).mono ?_);rintro e w' ⟨rfl,⟨nd,rfl⟩⟩;refine ⟨_,rfl,?_⟩;obtain ⟨hcz13_0,hcz13_1,hcz13_2,hcz13_3,hcz13_4,hcz13_5,hfz13_0,hfz13_1,hfz13_2,hfz13_3,hfz13_4,hfz13_5⟩ := zc6 BK486) | ((with_reducible refine gate_callee (f := 62) rfl ?_);refine zgl (some 21) Tryd.func62 #[.int .i64 a0,.slice A1_4 l1_4.length c1_4] ?_;(with_reducible refine (impl_isEnough.calls k a0 _ _ l1_4 true _ ?side1 ?side2 A7.out).mono ?_);(case side1 => repeat (first | exact (Kd.C_below HR1_4.out (zl_ HB)) | (with_reducible refine Kd.C_alloc ?_ _) | (with_reducible refine Kd.C_drewN ?_ _) | (with_reducible refine Kd.C_drew ?_)));(case side2 => exact HC1_4.out);rintro e w' ⟨rfl,⟨nd,rfl⟩⟩;refine ⟨_,rfl,?_⟩))
     go_loopg [35] k (fun kq v35 w' => ∃ (x35_1 : Int),v35 = .int .i64 x35_1 ∧ Aside0 (impl_CheckCertificate.l0 kq l1_4 (l1_4.length : Int) x35_1 a1_0 a1_1 a1_2 a1_3 l1_4 l1_5 = some r) ∧ Aside0 (kq ≤ k) ∧ Aside0 (w'.heap[gb486]? = some (.cells #[.string a1_0,.int .i64 a1_1,.int .i64 a1_2,.int .i64 a1_3,(.slice A1_4 l1_4.length c1_4),(.slice A1_5 l1_5.length c1_5)] 33 (0,0))) ∧ Aside0 (Below w.heap.size w w'))
     case atStart => exact ⟨(0),(by first | rfl | (simp;done) | (simp [*];done)),H',⟨Nat.le_refl _⟩,⟨by (with_reducible repeat (first | apply k1_ | apply k2_ | apply k3_));exact BK486.out⟩,⟨zl_ HB⟩⟩
     case round =>
      clear H'
      try clear c1
      try clear p2
      try clear c4
      try clear c6
      try clear c8
      try clear c9
      try clear c9b0
      try clear c9b1
      try clear c9b2
      try clear c13
      try clear hcz11_0
      try clear hcz11_1
      try clear hcz11_2
      try clear hcz11_3
      try clear hcz11_4
      try clear hcz11_5
      try clear hcz13_0
      try clear hcz13_1
      try clear hcz13_2
      try clear hcz13_3
      try clear hcz13_4
      try clear hcz13_5
      try clear hfz11_0
      try clear hfz11_1
      try clear hfz11_2
      try clear hfz11_3
      try clear hfz11_4
      try clear hfz11_5
      try clear hfz13_0
      try clear hfz13_1
      try clear hfz13_2
      try clear hfz13_3
      try clear hfz13_4
      try clear hfz13_5
      obtain ⟨x35_1,rfl,HA,HK1,BK486,HB⟩ := hrel
      cases gk with
      | zero => exact absurd HA.out (by simp [impl_CheckCertificate.l0])
      | succ k1 =>
       have H := HA.out
       clear HA
       simp only [impl_CheckCertificate.l0] at H
       by_cases c14 : x35_1 < (l1_4.length : Int)
       ·rw [if_pos c14] at H
        have c14b0 : decide (x35_1 < (l1_4.length : Int)) = true := decide_eq_true c14
        clear c14
        by_cases c15 : 0 ≤ x35_1
        ·rw [if_pos c15] at H
         have c15b0 : decide (0 ≤ x35_1) = true := decide_eq_true c15
         clear c15
         by_cases c16 : x35_1 < (l1_4.length : Int)
         ·rw [if_pos c16] at H
          have c16b0 : decide (x35_1 < (l1_4.length : Int)) = true := decide_eq_true c16
          clear c16
          replace H := Option.bind_eq_some_iff.mp H
          obtain ⟨t491,A170,H⟩ := H
          try dsimp only at H
          have A17 := am_ A170
          clear A170
          replace H := Option.bind_eq_some_iff.mp H
          obtain ⟨t492,A180,H⟩ := H
          try dsimp only at H
          have A18 := am_ A180
          clear A180
          replace H := Option.bind_eq_some_iff.mp H
          obtain ⟨t493,A190,H⟩ := H
          try dsimp only at H
          have A19 := am_ A190
          clear A190
          by_cases c20 : x35_1 < (l1_5.length : Int)
          ·rw [if_pos c20] at H
           have c20b0 : decide (x35_1 < (l1_5.length : Int)) = true := decide_eq_true c20
           clear c20
           replace H := Option.bind_eq_some_iff.mp H
           obtain ⟨t495,A210,H⟩ := H
           try dsimp only at H
           have A21 := am_ A210
           clear A210
           by_cases c22 : t495 = 0
           ·rw [if_pos c22] at H
            have c22b0 : (t495 == 0) = true := beq_iff_eq.mpr c22
            have c22b1 : (t495 != 0) = false := bne_eq_false_iff_eq.mpr c22
            clear c22
            have H' := am_ H
            clear H
            have p490 : 0 ≤ (x35_1 : Int) := zo_
            have q490 : x35_1 < (l1_4.length : Int) := zo_
            obtain ⟨ad490,e490,hx490_0⟩ := Kd.at_int HR1_4.out x35_1 p490 q490
            cases e490
            replace hx490_0 := zx_ HB hx490_0
            replace p490 := eq_true p490
            replace q490 := eq_true q490
            try go_wp2
            replace BK486 := am_ (blk_drew BK486.out)
            replace HB := am_ (below_drew1 HB.out)
            have p494 : 0 ≤ (x35_1 : Int) := zo_
            have q494 : x35_1 < (l1_5.length : Int) := zo_
            obtain ⟨ad494,A494_1,c494_1,A494_2,c494_2,A494_3,c494_3,e494,hx494_0,hx494_1,hx494_2,hx494_3,hl494_1,hi494_1,hl494_2,hi494_2,hl494_3,hi494_3⟩ := at_T52 HR1_5.out x35_1 p494 q494
            have hw494_3 := hx494_3
            have hw494_2 := hx494_2
            have hw494_1 := hx494_1
            have hw494_0 := hx494_0
            have hv494_1 := hx494_1
            have hv494_2 := hx494_2
            have hv494_3 := hx494_3
            cases e494
            replace hx494_0 := zx_ HB hx494_0
            replace hx494_1 := zx_ HB hx494_1
            replace hx494_2 := zx_ HB hx494_2
            replace hx494_3 := zx_ HB hx494_3
            have HR494_1 := am_ hi494_1
            have HC494_1 := am_ hl494_1
            clear hi494_1 hl494_1
            have HR494_2 := am_ hi494_2
            have HC494_2 := am_ hl494_2
            clear hi494_2 hl494_2
            have HR494_3 := am_ hi494_3
            have HC494_3 := am_ hl494_3
            clear hi494_3 hl494_3
            replace p494 := eq_true p494
            replace q494 := eq_true q494
            refine start_ (n := 13) (S := fun w' => w'.cell? ⟨gb486,0,none⟩ = some (.string a1_0) ∧ w'.cell? ⟨gb486,1,none⟩ = some (.int .i64 a1_1) ∧ w'.cell? ⟨gb486,2,none⟩ = some (.int .i64 a1_2) ∧ w'.cell? ⟨gb486,3,none⟩ = some (.int .i64 a1_3) ∧ w'.cell? ⟨gb486,4,none⟩ = some (.slice (some ad490) l1_4.length c1_4) ∧ w'.cell? ⟨gb486,5,none⟩ = some (.slice (some ad494) l1_5.length c1_5) ∧ w'.cell? (ad494.add ((x35_1).toNat * 4)) = some (.int .i64 ((rd_T52 l1_5 x35_1).f0)) ∧ w'.cell? ⟨(ad494.add ((x35_1).toNat * 4)).block,(ad494.add ((x35_1).toNat * 4)).off + 1,none⟩ = some (.slice A494_1 ((rd_T52 l1_5 x35_1).f1).length c494_1) ∧ w'.cell? ⟨(ad494.add ((x35_1).toNat * 4)).block,(ad494.add ((x35_1).toNat * 4)).off + 2,none⟩ = some (.slice A494_2 ((rd_T52 l1_5 x35_1).f2).length c494_2) ∧ w'.cell? ⟨(ad494.add ((x35_1).toNat * 4)).block,(ad494.add ((x35_1).toNat * 4)).off + 3,none⟩ = some (.slice A494_3 ((rd_T52 l1_5 x35_1).f3).length c494_3)) (ds := []) #[false,false,false,false,false,false,false,false,false,false,false,false,false] (by kernel_rfl) rfl rfl ⟨(blk_cell BK486.out 0).trans rfl,(blk_cell BK486.out 1).trans rfl,(blk_cell BK486.out 2).trans rfl,(blk_cell BK486.out 3).trans rfl,(blk_cell BK486.out 4).trans rfl,(blk_cell BK486.out 5).trans rfl,(zx_ HB hw494_0),(zx_ HB hw494_1),(zx_ HB hw494_2),(zx_ HB hw494_3)⟩ (fun hHeld => ?_);refine with_tabW impl_CheckCertificate.tab10 impl_CheckCertificate.bits10 (fun HT_ HW_ => ?_)
            generalize wr.drew = w23 at BK486 HB HR494_1 HR494_2 HR494_3 hx494_0 hx494_1 hx494_2 hx494_3 hHeld ⊢
            refine zpu 0 (N := some 40) HT_ ?_
            refine zpu 3 (N := some 43) HT_ ?_
            refine zpu 6 (N := some 46) HT_ ?_
            refine zpu 8 (N := some 48) HT_ ?_
            refine ztk 4 (N := some 44) HT_ HW_ hHeld ?_
            refine ztk 7 (N := some 47) HT_ HW_ hHeld ?_
            refine zpu 9 (N := some 49) HT_ ?_
            refine ztk 10 (N := some 50) HT_ HW_ hHeld ?_
            refine zon 1 (N := some 41) HT_ (fun K hK => ?_)
            refine zgo Tryd.func65 #[.int .i64 (rd l1_4 x35_1)] ?_
            with_reducible refine (impl_nodeSeed.calls k1 (rd l1_4 x35_1) t491 _ ?side1 A17.out).mono ?_
            (case side1 => exact HLD.out.on (zl_ HB))
            rintro e w24 ⟨rfl,hb⟩
            refine ⟨_,rfl,?_⟩
            replace BK486 := zb BK486 hb
            replace HB := zs_ HB hb
            (try clear hb)
            (try clear hb2)
            (try clear hk)
            (try clear hi)
            refine hK.out _ _ ⟨(blk_cell BK486.out 0).trans rfl,(blk_cell BK486.out 1).trans rfl,(blk_cell BK486.out 2).trans rfl,(blk_cell BK486.out 3).trans rfl,(blk_cell BK486.out 4).trans rfl,(blk_cell BK486.out 5).trans rfl,(zx_ HB hw494_0),(zx_ HB hw494_1),(zx_ HB hw494_2),(zx_ HB hw494_3)⟩ (fun hHeld => ?_)
            clear hK K
            refine norm_ (a' := ?_) ?_ ?_
            rotate_left
            ·show Act.put _ (some 41) _ = _
             simp only [Act.put,p1_,p2_,p3_,i64_w,i32_w]
             rfl
            refine zon 2 (N := some 42) HT_ (fun K hK => ?_)
            refine zgo Tryd.func64 #[.string t491] ?_
            with_reducible refine (impl_chainRoot.calls k1 t491 t492 _ ?side1 A18.out).mono ?_
            (case side1 => exact HLD.out.on (zl_ HB))
            rintro e w25 ⟨rfl,hb⟩
            refine ⟨_,rfl,?_⟩
            replace BK486 := zb BK486 hb
            replace HB := zs_ HB hb
            (try clear hb)
            (try clear hb2)
            (try clear hk)
            (try clear hi)
            refine hK.out _ _ ⟨(blk_cell BK486.out 0).trans rfl,(blk_cell BK486.out 1).trans rfl,(blk_cell BK486.out 2).trans rfl,(blk_cell BK486.out 3).trans rfl,(blk_cell BK486.out 4).trans rfl,(blk_cell BK486.out 5).trans rfl,(zx_ HB hw494_0),(zx_ HB hw494_1),(zx_ HB hw494_2),(zx_ HB hw494_3)⟩ (fun hHeld => ?_)
            clear hK K
            refine norm_ (a' := ?_) ?_ ?_
            rotate_left
            ·show Act.put _ (some 42) _ = _
             simp only [Act.put,p1_,p2_,p3_,i64_w,i32_w]
             rfl
            refine zon 5 (N := some 45) HT_ (fun K hK => ?_)
            refine zgo Tryd.func66 #[.agg #[.string a1_0,.int .i64 a1_1,.int .i64 a1_2,.int .i64 a1_3]] ?_
            with_reducible refine (impl_grantText.calls a1_0 a1_1 a1_2 a1_3 t493 _ ?side1 A19.out).mono ?_
            (case side1 => exact HTD.out.on (zl_ HB))
            rintro e w26 ⟨rfl,hb⟩
            refine ⟨_,rfl,?_⟩
            replace BK486 := zb BK486 hb
            replace HB := zs_ HB hb
            (try clear hb)
            (try clear hb2)
            (try clear hk)
            (try clear hi)
            refine hK.out _ _ ⟨(blk_cell BK486.out 0).trans rfl,(blk_cell BK486.out 1).trans rfl,(blk_cell BK486.out 2).trans rfl,(blk_cell BK486.out 3).trans rfl,(blk_cell BK486.out 4).trans rfl,(blk_cell BK486.out 5).trans rfl,(zx_ HB hw494_0),(zx_ HB hw494_1),(zx_ HB hw494_2),(zx_ HB hw494_3)⟩ (fun hHeld => ?_)
            clear hK K
            refine norm_ (a' := ?_) ?_ ?_
            rotate_left
            ·show Act.put _ (some 45) _ = _
             simp only [Act.put,p1_,p2_,p3_,i64_w,i32_w]
             rfl
            refine zon 11 (N := some 51) HT_ (fun K hK => ?_)
            refine zgo Tryd.func63 #[.string t492,.string t493,.agg #[.int .i64 ((rd_T52 l1_5 x35_1).f0),.slice A494_1 ((rd_T52 l1_5 x35_1).f1).length c494_1,.slice A494_2 ((rd_T52 l1_5 x35_1).f2).length c494_2,.slice A494_3 ((rd_T52 l1_5 x35_1).f3).length c494_3]] ?_
            with_reducible refine (impl_CheckSignature.calls k1 t492 t493 ((rd_T52 l1_5 x35_1).f0) _ _ ((rd_T52 l1_5 x35_1).f1) _ _ ((rd_T52 l1_5 x35_1).f2) _ _ ((rd_T52 l1_5 x35_1).f3) t495 _ ?side1 ?side2 ?side3 ?side4 ?side5 ?side6 ?side7 A21.out).mono ?_
            (case side1 => exact zc_ HR494_1 HB)
            (case side2 => exact HC494_1.out)
            (case side3 => exact zc_ HR494_2 HB)
            (case side4 => exact HC494_2.out)
            (case side5 => exact zc_ HR494_3 HB)
            (case side6 => exact HC494_3.out)
            (case side7 => exact HLD.out.on (zl_ HB))
            rintro e w27 ⟨rfl,hb⟩
            refine ⟨_,rfl,?_⟩
            replace BK486 := zb BK486 hb
            replace HB := zs_ HB hb
            (try clear hb)
            (try clear hb2)
            (try clear hk)
            (try clear hi)
            refine hK.out _ _ ⟨(blk_cell BK486.out 0).trans rfl,(blk_cell BK486.out 1).trans rfl,(blk_cell BK486.out 2).trans rfl,(blk_cell BK486.out 3).trans rfl,(blk_cell BK486.out 4).trans rfl,(blk_cell BK486.out 5).trans rfl,(zx_ HB hw494_0),(zx_ HB hw494_1),(zx_ HB hw494_2),(zx_ HB hw494_3)⟩ (fun hHeld => ?_)
            clear hK K
            refine norm_ (a' := ?_) ?_ ?_
            rotate_left
            ·show Act.put _ (some 51) _ = _
             simp only [Act.put,p1_,p2_,p3_,i64_w,i32_w]
             rfl
            refine zpu 12 (N := some 7) HT_ ?_
            refine done_ (done_of HT_.out (by kernel_rfl)) ?_
            try go_wp2
            go_roundg k1
            case measure => have := HK1.out;omega
            case rel => exact ⟨(wrap64 (x35_1 + 1)),(by first | rfl | (simp;done) | (simp [*];done)),H',⟨by have := HK1.out;omega⟩,⟨by (with_reducible repeat (first | apply k1_ | apply k2_ | apply k3_));exact BK486.out⟩,⟨zl_ HB⟩⟩
           ·rw [if_neg c22] at H
            have c22b0 : (t495 == 0) = false := beq_eq_false_iff_ne.mpr c22
            have c22b1 : (t495 != 0) = true := bne_iff_ne.mpr c22
            obtain rfl := Option.some.inj H
            have p490 : 0 ≤ (x35_1 : Int) := zo_
            have q490 : x35_1 < (l1_4.length : Int) := zo_
            obtain ⟨ad490,e490,hx490_0⟩ := Kd.at_int HR1_4.out x35_1 p490 q490
            cases e490
            replace hx490_0 := zx_ HB hx490_0
            replace p490 := eq_true p490
            replace q490 := eq_true q490
            try go_wp2
            replace BK486 := am_ (blk_drew BK486.out)
            replace HB := am_ (below_drew1 HB.out)
            have p494 : 0 ≤ (x35_1 : Int) := zo_
            have q494 : x35_1 < (l1_5.length : Int) := zo_
            obtain ⟨ad494,A494_1,c494_1,A494_2,c494_2,A494_3,c494_3,e494,hx494_0,hx494_1,hx494_2,hx494_3,hl494_1,hi494_1,hl494_2,hi494_2,hl494_3,hi494_3⟩ := at_T52 HR1_5.out x35_1 p494 q494
            have hw494_3 := hx494_3
            have hw494_2 := hx494_2
            have hw494_1 := hx494_1
            have hw494_0 := hx494_0
            have hv494_1 := hx494_1
            have hv494_2 := hx494_2
            have hv494_3 := hx494_3
            cases e494
            replace hx494_0 := zx_ HB hx494_0
            replace hx494_1 := zx_ HB hx494_1
            replace hx494_2 := zx_ HB hx494_2
            replace hx494_3 := zx_ HB hx494_3
            have HR494_1 := am_ hi494_1
            have HC494_1 := am_ hl494_1
            clear hi494_1 hl494_1
            have HR494_2 := am_ hi494_2
            have HC494_2 := am_ hl494_2
            clear hi494_2 hl494_2
            have HR494_3 := am_ hi494_3
            have HC494_3 := am_ hl494_3
            clear hi494_3 hl494_3
            replace p494 := eq_true p494
            replace q494 := eq_true q494
            refine start_ (n := 13) (S := fun w' => w'.cell? ⟨gb486,0,none⟩ = some (.string a1_0) ∧ w'.cell? ⟨gb486,1,none⟩ = some (.int .i64 a1_1) ∧ w'.cell? ⟨gb486,2,none⟩ = some (.int .i64 a1_2) ∧ w'.cell? ⟨gb486,3,none⟩ = some (.int .i64 a1_3) ∧ w'.cell? ⟨gb486,4,none⟩ = some (.slice (some ad490) l1_4.length c1_4) ∧ w'.cell? ⟨gb486,5,none⟩ = some (.slice (some ad494) l1_5.length c1_5) ∧ w'.cell? (ad494.add ((x35_1).toNat * 4)) = some (.int .i64 ((rd_T52 l1_5 x35_1).f0)) ∧ w'.cell? ⟨(ad494.add ((x35_1).toNat * 4)).block,(ad494.add ((x35_1).toNat * 4)).off + 1,none⟩ = some (.slice A494_1 ((rd_T52 l1_5 x35_1).f1).length c494_1) ∧ w'.cell? ⟨(ad494.add ((x35_1).toNat * 4)).block,(ad494.add ((x35_1).toNat * 4)).off + 2,none⟩ = some (.slice A494_2 ((rd_T52 l1_5 x35_1).f2).length c494_2) ∧ w'.cell? ⟨(ad494.add ((x35_1).toNat * 4)).block,(ad494.add ((x35_1).toNat * 4)).off + 3,none⟩ = some (.slice A494_3 ((rd_T52 l1_5 x35_1).f3).length c494_3)) (ds := []) #[false,false,false,false,false,false,false,false,false,false,false,false,false] (by kernel_rfl) rfl rfl ⟨(blk_cell BK486.out 0).trans rfl,(blk_cell BK486.out 1).trans rfl,(blk_cell BK486.out 2).trans rfl,(blk_cell BK486.out 3).trans rfl,(blk_cell BK486.out 4).trans rfl,(blk_cell BK486.out 5).trans rfl,(zx_ HB hw494_0),(zx_ HB hw494_1),(zx_ HB hw494_2),(zx_ HB hw494_3)⟩ (fun hHeld => ?_);refine with_tabW impl_CheckCertificate.tab10 impl_CheckCertificate.bits10 (fun HT_ HW_ => ?_)
            generalize wr.drew = w28 at BK486 HB HR494_1 HR494_2 HR494_3 hx494_0 hx494_1 hx494_2 hx494_3 hHeld ⊢
            refine zpu 0 (N := some 40) HT_ ?_
            refine zpu 3 (N := some 43) HT_ ?_
            refine zpu 6 (N := some 46) HT_ ?_
            refine zpu 8 (N := some 48) HT_ ?_
            refine ztk 4 (N := some 44) HT_ HW_ hHeld ?_
            refine ztk 7 (N := some 47) HT_ HW_ hHeld ?_
            refine zpu 9 (N := some 49) HT_ ?_
            refine ztk 10 (N := some 50) HT_ HW_ hHeld ?_
            refine zon 1 (N := some 41) HT_ (fun K hK => ?_)
            refine zgo Tryd.func65 #[.int .i64 (rd l1_4 x35_1)] ?_
            with_reducible refine (impl_nodeSeed.calls k1 (rd l1_4 x35_1) t491 _ ?side1 A17.out).mono ?_
            (case side1 => exact HLD.out.on (zl_ HB))
            rintro e w29 ⟨rfl,hb⟩
            refine ⟨_,rfl,?_⟩
            replace BK486 := zb BK486 hb
            replace HB := zs_ HB hb
            (try clear hb)
            (try clear hb2)
            (try clear hk)
            (try clear hi)
            refine hK.out _ _ ⟨(blk_cell BK486.out 0).trans rfl,(blk_cell BK486.out 1).trans rfl,(blk_cell BK486.out 2).trans rfl,(blk_cell BK486.out 3).trans rfl,(blk_cell BK486.out 4).trans rfl,(blk_cell BK486.out 5).trans rfl,(zx_ HB hw494_0),(zx_ HB hw494_1),(zx_ HB hw494_2),(zx_ HB hw494_3)⟩ (fun hHeld => ?_)
            clear hK K
            refine norm_ (a' := ?_) ?_ ?_
            rotate_left
            ·show Act.put _ (some 41) _ = _
             simp only [Act.put,p1_,p2_,p3_,i64_w,i32_w]
             rfl
            refine zon 2 (N := some 42) HT_ (fun K hK => ?_)
            refine zgo Tryd.func64 #[.string t491] ?_
            with_reducible refine (impl_chainRoot.calls k1 t491 t492 _ ?side1 A18.out).mono ?_
            (case side1 => exact HLD.out.on (zl_ HB))
            rintro e w30 ⟨rfl,hb⟩
            refine ⟨_,rfl,?_⟩
            replace BK486 := zb BK486 hb
            replace HB := zs_ HB hb
            (try clear hb)
            (try clear hb2)
            (try clear hk)
            (try clear hi)
            refine hK.out _ _ ⟨(blk_cell BK486.out 0).trans rfl,(blk_cell BK486.out 1).trans rfl,(blk_cell BK486.out 2).trans rfl,(blk_cell BK486.out 3).trans rfl,(blk_cell BK486.out 4).trans rfl,(blk_cell BK486.out 5).trans rfl,(zx_ HB hw494_0),(zx_ HB hw494_1),(zx_ HB hw494_2),(zx_ HB hw494_3)⟩ (fun hHeld => ?_)
            clear hK K
            refine norm_ (a' := ?_) ?_ ?_
            rotate_left
            ·show Act.put _ (some 42) _ = _
             simp only [Act.put,p1_,p2_,p3_,i64_w,i32_w]
             rfl
            refine zon 5 (N := some 45) HT_ (fun K hK => ?_)
            refine zgo Tryd.func66 #[.agg #[.string a1_0,.int .i64 a1_1,.int .i64 a1_2,.int .i64 a1_3]] ?_
            with_reducible refine (impl_grantText.calls a1_0 a1_1 a1_2 a1_3 t493 _ ?side1 A19.out).mono ?_
            (case side1 => exact HTD.out.on (zl_ HB))
            rintro e w31 ⟨rfl,hb⟩
            refine ⟨_,rfl,?_⟩
            replace BK486 := zb BK486 hb
            replace HB := zs_ HB hb
            (try clear hb)
            (try clear hb2)
            (try clear hk)
            (try clear hi)
            refine hK.out _ _ ⟨(blk_cell BK486.out 0).trans rfl,(blk_cell BK486.out 1).trans rfl,(blk_cell BK486.out 2).trans rfl,(blk_cell BK486.out 3).trans rfl,(blk_cell BK486.out 4).trans rfl,(blk_cell BK486.out 5).trans rfl,(zx_ HB hw494_0),(zx_ HB hw494_1),(zx_ HB hw494_2),(zx_ HB hw494_3)⟩ (fun hHeld => ?_)
            clear hK K
            refine norm_ (a' := ?_) ?_ ?_
            rotate_left
            ·show Act.put _ (some 45) _ = _
             simp only [Act.put,p1_,p2_,p3_,i64_w,i32_w]
             rfl
            refine zon 11 (N := some 51) HT_ (fun K hK => ?_)
            refine zgo Tryd.func63 #[.string t492,.string t493,.agg #[.int .i64 ((rd_T52 l1_5 x35_1).f0),.slice A494_1 ((rd_T52 l1_5 x35_1).f1).length c494_1,.slice A494_2 ((rd_T52 l1_5 x35_1).f2).length c494_2,.slice A494_3 ((rd_T52 l1_5 x35_1).f3).length c494_3]] ?_
            with_reducible refine (impl_CheckSignature.calls k1 t492 t493 ((rd_T52 l1_5 x35_1).f0) _ _ ((rd_T52 l1_5 x35_1).f1) _ _ ((rd_T52 l1_5 x35_1).f2) _ _ ((rd_T52 l1_5 x35_1).f3) t495 _ ?side1 ?side2 ?side3 ?side4 ?side5 ?side6 ?side7 A21.out).mono ?_
            (case side1 => exact zc_ HR494_1 HB)
            (case side2 => exact HC494_1.out)
            (case side3 => exact zc_ HR494_2 HB)
            (case side4 => exact HC494_2.out)
            (case side5 => exact zc_ HR494_3 HB)
            (case side6 => exact HC494_3.out)
            (case side7 => exact HLD.out.on (zl_ HB))
            rintro e w32 ⟨rfl,hb⟩
            refine ⟨_,rfl,?_⟩
            replace BK486 := zb BK486 hb
            replace HB := zs_ HB hb
            (try clear hb)
            (try clear hb2)
            (try clear hk)
            (try clear hi)
            refine hK.out _ _ ⟨(blk_cell BK486.out 0).trans rfl,(blk_cell BK486.out 1).trans rfl,(blk_cell BK486.out 2).trans rfl,(blk_cell BK486.out 3).trans rfl,(blk_cell BK486.out 4).trans rfl,(blk_cell BK486.out 5).trans rfl,(zx_ HB hw494_0),(zx_ HB hw494_1),(zx_ HB hw494_2),(zx_ HB hw494_3)⟩ (fun hHeld => ?_)
            clear hK K
            refine norm_ (a' := ?_) ?_ ?_
            rotate_left
            ·show Act.put _ (some 51) _ = _
             simp only [Act.put,p1_,p2_,p3_,i64_w,i32_w]
             rfl
            refine zpu 12 (N := some 7) HT_ ?_
            refine done_ (done_of HT_.out (by kernel_rfl)) ?_
            try go_wp2
            go_ret
            exact ⟨zt_,zl_ HB⟩
          ·rw [if_neg c20] at H
           exact absurd H (by simp)
         ·rw [if_neg c16] at H
          exact absurd H (by simp)
        ·rw [if_neg c15] at H
         exact absurd H (by simp)
       ·rw [if_neg c14] at H
        have c14b0 : decide (x35_1 < (l1_4.length : Int)) = false := decide_eq_false c14
        clear c14
        obtain rfl := Option.some.inj H
        go_wp2
        go_ret
        exact ⟨zt_,zl_ HB⟩
    ·rw [if_neg c9] at H
     have c9b0 : ((l1_5.length : Int) == (l1_4.length : Int)) = false := beq_eq_false_iff_ne.mpr c9
     have c9b1 : ((l1_5.length : Int) != (l1_4.length : Int)) = true := bne_iff_ne.mpr c9
     have c9b2 : (l1_5.length == l1_4.length) = false := by first | simpa using c9 | (simp at c9 ⊢;omega)
     obtain rfl := Option.some.inj H
     go_enter Tryd.func13,Tryd.ntmps13
     go_wp2_with (first | ((with_reducible refine gate_dst (N := 3) rfl ?_);(try (refine gate_guard (by rfl) ?_;dsimp only));refine zbx (N := 3) (cs := #[.string a1_0,.int .i64 a1_1,.int .i64 a1_2,.int .i64 a1_3,.slice A1_4 l1_4.length c1_4,.slice A1_5 l1_5.length c1_5]) (t := 33) ?_;intro gb486 hg w33 hbox hb;have BK486 := am_ (hbox);have GW486 := zw_ HB hg;have GE486 := zw_ HB hg;replace HB := zs_ HB hb;clear hb hbox hg;obtain ⟨hcz34_0,hcz34_1,hcz34_2,hcz34_3,hcz34_4,hcz34_5,hfz34_0,hfz34_1,hfz34_2,hfz34_3,hfz34_4,hfz34_5⟩ := zc6 BK486) | ((with_reducible refine gate_callee (f := 60) rfl ?_);refine zgl (some 11) Tryd.func60 #[.agg #[.string a1_0,.int .i64 a1_1,.int .i64 a1_2,.int .i64 a1_3]] ?_;(with_reducible refine (impl_GrantOK.calls k a1_0 a1_1 a1_2 a1_3 true _ A3.out).mono ?_);rintro e w35 ⟨rfl,hb⟩;refine ⟨_,rfl,?_⟩;replace BK486 := zb BK486 hb;replace HB := zs_ HB hb;(try clear hb);(try clear hb2);(try clear hk);(try clear hi)) | ((with_reducible refine gate_callee (f := 61) rfl ?_);refine zgl (some 15) Tryd.func61 #[.int .i64 a0] ?_;(with_reducible refine (impl_areNodes.calls a0 true _ A5.out).mono ?_);rintro e w' ⟨rfl,⟨nd,rfl⟩⟩;refine ⟨_,rfl,?_⟩;obtain ⟨hcz36_0,hcz36_1,hcz36_2,hcz36_3,hcz36_4,hcz36_5,hfz36_0,hfz36_1,hfz36_2,hfz36_3,hfz36_4,hfz36_5⟩ := zc6 BK486) | ((with_reducible refine gate_callee (f := 62) rfl ?_);refine zgl (some 21) Tryd.func62 #[.int .i64 a0,.slice A1_4 l1_4.length c1_4] ?_;(with_reducible refine (impl_isEnough.calls k a0 _ _ l1_4 true _ ?side1 ?side2 A7.out).mono ?_);(case side1 => repeat (first | exact (Kd.C_below HR1_4.out (zl_ HB)) | (with_reducible refine Kd.C_alloc ?_ _) | (with_reducible refine Kd.C_drewN ?_ _) | (with_reducible refine Kd.C_drew ?_)));(case side2 => exact HC1_4.out);rintro e w' ⟨rfl,⟨nd,rfl⟩⟩;refine ⟨_,rfl,?_⟩))
     go_ret
     exact ⟨zt_,zl_ HB⟩
   ·replace c8 := Bool.eq_false_iff.mpr c8
    subst c8
    have H1 : (some 19) = some r := by rw [if_neg (show ¬ (false = true) by decide)] at H;exact H
    clear H
    have H := H1
    clear H1
    obtain rfl := Option.some.inj H
    go_enter Tryd.func13,Tryd.ntmps13
    go_wp2_with (first | ((with_reducible refine gate_dst (N := 3) rfl ?_);(try (refine gate_guard (by rfl) ?_;dsimp only));refine zbx (N := 3) (cs := #[.string a1_0,.int .i64 a1_1,.int .i64 a1_2,.int .i64 a1_3,.slice A1_4 l1_4.length c1_4,.slice A1_5 l1_5.length c1_5]) (t := 33) ?_;intro gb486 hg w37 hbox hb;have BK486 := am_ (hbox);have GW486 := zw_ HB hg;have GE486 := zw_ HB hg;replace HB := zs_ HB hb;clear hb hbox hg;obtain ⟨hcz38_0,hcz38_1,hcz38_2,hcz38_3,hcz38_4,hcz38_5,hfz38_0,hfz38_1,hfz38_2,hfz38_3,hfz38_4,hfz38_5⟩ := zc6 BK486) | ((with_reducible refine gate_callee (f := 60) rfl ?_);refine zgl (some 11) Tryd.func60 #[.agg #[.string a1_0,.int .i64 a1_1,.int .i64 a1_2,.int .i64 a1_3]] ?_;(with_reducible refine (impl_GrantOK.calls k a1_0 a1_1 a1_2 a1_3 true _ A3.out).mono ?_);rintro e w39 ⟨rfl,hb⟩;refine ⟨_,rfl,?_⟩;replace BK486 := zb BK486 hb;replace HB := zs_ HB hb;(try clear hb);(try clear hb2);(try clear hk);(try clear hi)) | ((with_reducible refine gate_callee (f := 61) rfl ?_);refine zgl (some 15) Tryd.func61 #[.int .i64 a0] ?_;(with_reducible refine (impl_areNodes.calls a0 true _ A5.out).mono ?_);rintro e w' ⟨rfl,⟨nd,rfl⟩⟩;refine ⟨_,rfl,?_⟩;obtain ⟨hcz40_0,hcz40_1,hcz40_2,hcz40_3,hcz40_4,hcz40_5,hfz40_0,hfz40_1,hfz40_2,hfz40_3,hfz40_4,hfz40_5⟩ := zc6 BK486) | ((with_reducible refine gate_callee (f := 62) rfl ?_);refine zgl (some 21) Tryd.func62 #[.int .i64 a0,.slice A1_4 l1_4.length c1_4] ?_;(with_reducible refine (impl_isEnough.calls k a0 _ _ l1_4 false _ ?side1 ?side2 A7.out).mono ?_);(case side1 => repeat (first | exact (Kd.C_below HR1_4.out (zl_ HB)) | (with_reducible refine Kd.C_alloc ?_ _) | (with_reducible refine Kd.C_drewN ?_ _) | (with_reducible refine Kd.C_drew ?_)));(case side2 => exact HC1_4.out);rintro e w' ⟨rfl,⟨nd,rfl⟩⟩;refine ⟨_,rfl,?_⟩))
    go_ret
    exact ⟨zt_,zl_ HB⟩
  ·replace c6 := Bool.eq_false_iff.mpr c6
   subst c6
   have H1 : (some 4) = some r := by rw [if_neg (show ¬ (false = true) by decide)] at H;exact H
   clear H
   have H := H1
   clear H1
   obtain rfl := Option.some.inj H
   go_enter Tryd.func13,Tryd.ntmps13
   go_wp2_with (first | ((with_reducible refine gate_dst (N := 3) rfl ?_);(try (refine gate_guard (by rfl) ?_;dsimp only));refine zbx (N := 3) (cs := #[.string a1_0,.int .i64 a1_1,.int .i64 a1_2,.int .i64 a1_3,.slice A1_4 l1_4.length c1_4,.slice A1_5 l1_5.length c1_5]) (t := 33) ?_;intro gb486 hg w41 hbox hb;have BK486 := am_ (hbox);have GW486 := zw_ HB hg;have GE486 := zw_ HB hg;replace HB := zs_ HB hb;clear hb hbox hg;obtain ⟨hcz42_0,hcz42_1,hcz42_2,hcz42_3,hcz42_4,hcz42_5,hfz42_0,hfz42_1,hfz42_2,hfz42_3,hfz42_4,hfz42_5⟩ := zc6 BK486) | ((with_reducible refine gate_callee (f := 60) rfl ?_);refine zgl (some 11) Tryd.func60 #[.agg #[.string a1_0,.int .i64 a1_1,.int .i64 a1_2,.int .i64 a1_3]] ?_;(with_reducible refine (impl_GrantOK.calls k a1_0 a1_1 a1_2 a1_3 true _ A3.out).mono ?_);rintro e w43 ⟨rfl,hb⟩;refine ⟨_,rfl,?_⟩;replace HB := zs_ HB hb;(try clear hb);(try clear hb2);(try clear hk);(try clear hi)) | ((with_reducible refine gate_callee (f := 61) rfl ?_);refine zgl (some 15) Tryd.func61 #[.int .i64 a0] ?_;(with_reducible refine (impl_areNodes.calls a0 false _ A5.out).mono ?_);rintro e w' ⟨rfl,⟨nd,rfl⟩⟩;refine ⟨_,rfl,?_⟩))
   go_ret
   exact ⟨zt_,zl_ HB⟩
 ·replace c4 := Bool.eq_false_iff.mpr c4
  subst c4
  have H1 : (some 1) = some r := by rw [if_neg (show ¬ (false = true) by decide)] at H;exact H
  clear H
  have H := H1
  clear H1
  obtain rfl := Option.some.inj H
  go_enter Tryd.func13,Tryd.ntmps13
  go_wp2_with (first | ((with_reducible refine gate_dst (N := 3) rfl ?_);(try (refine gate_guard (by rfl) ?_;dsimp only));refine zbx (N := 3) (cs := #[.string a1_0,.int .i64 a1_1,.int .i64 a1_2,.int .i64 a1_3,.slice A1_4 l1_4.length c1_4,.slice A1_5 l1_5.length c1_5]) (t := 33) ?_;intro gb486 hg w44 hbox hb;have BK486 := am_ (hbox);have GW486 := zw_ HB hg;have GE486 := zw_ HB hg;replace HB := zs_ HB hb;clear hb hbox hg;obtain ⟨hcz45_0,hcz45_1,hcz45_2,hcz45_3,hcz45_4,hcz45_5,hfz45_0,hfz45_1,hfz45_2,hfz45_3,hfz45_4,hfz45_5⟩ := zc6 BK486) | ((with_reducible refine gate_callee (f := 60) rfl ?_);refine zgl (some 11) Tryd.func60 #[.agg #[.string a1_0,.int .i64 a1_1,.int .i64 a1_2,.int .i64 a1_3]] ?_;(with_reducible refine (impl_GrantOK.calls k a1_0 a1_1 a1_2 a1_3 false _ A3.out).mono ?_);rintro e w46 ⟨rfl,hb⟩;refine ⟨_,rfl,?_⟩;replace HB := zs_ HB hb;(try clear hb);(try clear hb2);(try clear hk);(try clear hi)))
  go_ret
  exact ⟨zt_,zl_ HB⟩
set_option maxHeartbeats 8000000 in
set_option maxRecDepth 100000 in
theorem laws_eqGrant.calls (a0_0 : ByteArray) (a0_1 : Int) (a0_2 : Int) (a0_3 : Int) (a1_0 : ByteArray) (a1_1 : Int) (a1_2 : Int) (a1_3 : Int) (r : Bool) (w : World) (h : laws_eqGrant.f a0_0 a0_1 a0_2 a0_3 a1_0 a1_1 a1_2 a1_3 = some r) :
  Calls Tryd.prog 67 #[.agg #[.string a0_0,.int .i64 a0_1,.int .i64 a0_2,.int .i64 a0_3],.agg #[.string a1_0,.int .i64 a1_1,.int .i64 a1_2,.int .i64 a1_3]] w fun e w' => e = .returned (.bool r) ∧ Below w.heap.size w w' := by
 have hu30 := Tryd.underlying30
 have HB := am_ (Below.refl w.heap.size w)
 have H : (if a0_0.toList = a1_0.toList then (if a0_1 = a1_1 then (if a0_2 = a1_2 then (if a0_3 = a1_3 then (some true) else (some false)) else (some false)) else (some false)) else (some false)) = some r := h
 clear h
 by_cases c3 : a0_0.toList = a1_0.toList
 ·rw [if_pos c3] at H
  have c3b0 : (a0_0.toList == a1_0.toList) = true := beq_iff_eq.mpr c3
  have c3b1 : (a0_0.toList != a1_0.toList) = false := bne_eq_false_iff_eq.mpr c3
  clear c3
  by_cases c4 : a0_1 = a1_1
  ·rw [if_pos c4] at H
   have c4b0 : (a0_1 == a1_1) = true := beq_iff_eq.mpr c4
   have c4b1 : (a0_1 != a1_1) = false := bne_eq_false_iff_eq.mpr c4
   clear c4
   by_cases c5 : a0_2 = a1_2
   ·rw [if_pos c5] at H
    have c5b0 : (a0_2 == a1_2) = true := beq_iff_eq.mpr c5
    have c5b1 : (a0_2 != a1_2) = false := bne_eq_false_iff_eq.mpr c5
    clear c5
    by_cases c6 : a0_3 = a1_3
    ·rw [if_pos c6] at H
     have c6b0 : (a0_3 == a1_3) = true := beq_iff_eq.mpr c6
     have c6b1 : (a0_3 != a1_3) = false := bne_eq_false_iff_eq.mpr c6
     clear c6
     obtain rfl := Option.some.inj H
     go_enter Tryd.func67,Tryd.ntmps67
     go_wp2_with (first | ((with_reducible refine gate_dst (N := 2) rfl ?_);refine zbx (N := 2) (cs := #[.string a0_0,.int .i64 a0_1,.int .i64 a0_2,.int .i64 a0_3]) (t := 30) ?_;intro gb498 hg w7 hbox hb;have BK498 := am_ (hbox);have GW498 := zw_ HB hg;have GE498 := zw_ HB hg;replace HB := zs_ HB hb;clear hb hbox hg) | ((with_reducible refine gate_dst (N := 3) rfl ?_);refine zbx (N := 3) (cs := #[.string a1_0,.int .i64 a1_1,.int .i64 a1_2,.int .i64 a1_3]) (t := 30) ?_;intro gb499 hg w8 hbox hb;have BK499 := am_ (hbox);have GW499 := zw_ HB hg;have GE499 := zw_ HB hg;replace HB := zs_ HB hb;have NB498_499 := zl hg BK498;have NB499_498 := zg hg BK498;replace BK498 := zb BK498 hb;clear hb hbox hg;have hnb9 := NB498_499.out;have hnc9 := NB499_498.out;obtain ⟨hcz10_0,hcz10_1,hcz10_2,hcz10_3,hfz10_0,hfz10_1,hfz10_2,hfz10_3⟩ := zc4 BK498;obtain ⟨hcz11_0,hcz11_1,hcz11_2,hcz11_3,hfz11_0,hfz11_1,hfz11_2,hfz11_3⟩ := zc4 BK499))
     go_ret
     exact ⟨zt_,zl_ HB⟩
    ·rw [if_neg c6] at H
     have c6b0 : (a0_3 == a1_3) = false := beq_eq_false_iff_ne.mpr c6
     have c6b1 : (a0_3 != a1_3) = true := bne_iff_ne.mpr c6
     obtain rfl := Option.some.inj H
     go_enter Tryd.func67,Tryd.ntmps67
     go_wp2_with (first | ((with_reducible refine gate_dst (N := 2) rfl ?_);refine zbx (N := 2) (cs := #[.string a0_0,.int .i64 a0_1,.int .i64 a0_2,.int .i64 a0_3]) (t := 30) ?_;intro gb498 hg w12 hbox hb;have BK498 := am_ (hbox);have GW498 := zw_ HB hg;have GE498 := zw_ HB hg;replace HB := zs_ HB hb;clear hb hbox hg) | ((with_reducible refine gate_dst (N := 3) rfl ?_);refine zbx (N := 3) (cs := #[.string a1_0,.int .i64 a1_1,.int .i64 a1_2,.int .i64 a1_3]) (t := 30) ?_;intro gb499 hg w13 hbox hb;have BK499 := am_ (hbox);have GW499 := zw_ HB hg;have GE499 := zw_ HB hg;replace HB := zs_ HB hb;have NB498_499 := zl hg BK498;have NB499_498 := zg hg BK498;replace BK498 := zb BK498 hb;clear hb hbox hg;have hnb14 := NB498_499.out;have hnc14 := NB499_498.out;obtain ⟨hcz15_0,hcz15_1,hcz15_2,hcz15_3,hfz15_0,hfz15_1,hfz15_2,hfz15_3⟩ := zc4 BK498;obtain ⟨hcz16_0,hcz16_1,hcz16_2,hcz16_3,hfz16_0,hfz16_1,hfz16_2,hfz16_3⟩ := zc4 BK499))
     go_ret
     exact ⟨zt_,zl_ HB⟩
   ·rw [if_neg c5] at H
    have c5b0 : (a0_2 == a1_2) = false := beq_eq_false_iff_ne.mpr c5
    have c5b1 : (a0_2 != a1_2) = true := bne_iff_ne.mpr c5
    obtain rfl := Option.some.inj H
    go_enter Tryd.func67,Tryd.ntmps67
    go_wp2_with (first | ((with_reducible refine gate_dst (N := 2) rfl ?_);refine zbx (N := 2) (cs := #[.string a0_0,.int .i64 a0_1,.int .i64 a0_2,.int .i64 a0_3]) (t := 30) ?_;intro gb498 hg w17 hbox hb;have BK498 := am_ (hbox);have GW498 := zw_ HB hg;have GE498 := zw_ HB hg;replace HB := zs_ HB hb;clear hb hbox hg) | ((with_reducible refine gate_dst (N := 3) rfl ?_);refine zbx (N := 3) (cs := #[.string a1_0,.int .i64 a1_1,.int .i64 a1_2,.int .i64 a1_3]) (t := 30) ?_;intro gb499 hg w18 hbox hb;have BK499 := am_ (hbox);have GW499 := zw_ HB hg;have GE499 := zw_ HB hg;replace HB := zs_ HB hb;have NB498_499 := zl hg BK498;have NB499_498 := zg hg BK498;replace BK498 := zb BK498 hb;clear hb hbox hg;have hnb19 := NB498_499.out;have hnc19 := NB499_498.out;obtain ⟨hcz20_0,hcz20_1,hcz20_2,hcz20_3,hfz20_0,hfz20_1,hfz20_2,hfz20_3⟩ := zc4 BK498;obtain ⟨hcz21_0,hcz21_1,hcz21_2,hcz21_3,hfz21_0,hfz21_1,hfz21_2,hfz21_3⟩ := zc4 BK499))
    go_ret
    exact ⟨zt_,zl_ HB⟩
  ·rw [if_neg c4] at H
   have c4b0 : (a0_1 == a1_1) = false := beq_eq_false_iff_ne.mpr c4
   have c4b1 : (a0_1 != a1_1) = true := bne_iff_ne.mpr c4
   obtain rfl := Option.some.inj H
   go_enter Tryd.func67,Tryd.ntmps67
   go_wp2_with (first | ((with_reducible refine gate_dst (N := 2) rfl ?_);refine zbx (N := 2) (cs := #[.string a0_0,.int .i64 a0_1,.int .i64 a0_2,.int .i64 a0_3]) (t := 30) ?_;intro gb498 hg w22 hbox hb;have BK498 := am_ (hbox);have GW498 := zw_ HB hg;have GE498 := zw_ HB hg;replace HB := zs_ HB hb;clear hb hbox hg) | ((with_reducible refine gate_dst (N := 3) rfl ?_);refine zbx (N := 3) (cs := #[.string a1_0,.int .i64 a1_1,.int .i64 a1_2,.int .i64 a1_3]) (t := 30) ?_;intro gb499 hg w23 hbox hb;have BK499 := am_ (hbox);have GW499 := zw_ HB hg;have GE499 := zw_ HB hg;replace HB := zs_ HB hb;have NB498_499 := zl hg BK498;have NB499_498 := zg hg BK498;replace BK498 := zb BK498 hb;clear hb hbox hg;have hnb24 := NB498_499.out;have hnc24 := NB499_498.out;obtain ⟨hcz25_0,hcz25_1,hcz25_2,hcz25_3,hfz25_0,hfz25_1,hfz25_2,hfz25_3⟩ := zc4 BK498;obtain ⟨hcz26_0,hcz26_1,hcz26_2,hcz26_3,hfz26_0,hfz26_1,hfz26_2,hfz26_3⟩ := zc4 BK499))
   go_ret
   exact ⟨zt_,zl_ HB⟩
 ·rw [if_neg c3] at H
  have c3b0 : (a0_0.toList == a1_0.toList) = false := beq_eq_false_iff_ne.mpr c3
  have c3b1 : (a0_0.toList != a1_0.toList) = true := bne_iff_ne.mpr c3
  obtain rfl := Option.some.inj H
  go_enter Tryd.func67,Tryd.ntmps67
  go_wp2_with (first | ((with_reducible refine gate_dst (N := 2) rfl ?_);refine zbx (N := 2) (cs := #[.string a0_0,.int .i64 a0_1,.int .i64 a0_2,.int .i64 a0_3]) (t := 30) ?_;intro gb498 hg w27 hbox hb;have BK498 := am_ (hbox);have GW498 := zw_ HB hg;have GE498 := zw_ HB hg;replace HB := zs_ HB hb;clear hb hbox hg) | ((with_reducible refine gate_dst (N := 3) rfl ?_);refine zbx (N := 3) (cs := #[.string a1_0,.int .i64 a1_1,.int .i64 a1_2,.int .i64 a1_3]) (t := 30) ?_;intro gb499 hg w28 hbox hb;have BK499 := am_ (hbox);have GW499 := zw_ HB hg;have GE499 := zw_ HB hg;replace HB := zs_ HB hb;have NB498_499 := zl hg BK498;have NB499_498 := zg hg BK498;replace BK498 := zb BK498 hb;clear hb hbox hg;have hnb29 := NB498_499.out;have hnc29 := NB499_498.out;obtain ⟨hcz30_0,hcz30_1,hcz30_2,hcz30_3,hfz30_0,hfz30_1,hfz30_2,hfz30_3⟩ := zc4 BK498;obtain ⟨hcz31_0,hcz31_1,hcz31_2,hcz31_3,hfz31_0,hfz31_1,hfz31_2,hfz31_3⟩ := zc4 BK499))
  go_ret
  exact ⟨zt_,zl_ HB⟩
set_option maxHeartbeats 8000000 in
set_option maxRecDepth 100000 in
theorem laws_eqIntS.calls (k : Nat) (A0 : Option Addr) (c0 : Nat) (l0 : List Int) (A1 : Option Addr) (c1 : Nat) (l1 : List Int) (r : Bool) (w : World) (hr0 : Kd.C (Kd.int .i64) w A0 l0.length l0) (hc0 : l0.length ≤ c0) (hr1 : Kd.C (Kd.int .i64) w A1 l1.length l1) (hc1 : l1.length ≤ c1) (h : laws_eqIntS.f k l0 l1 = some r) :
  Calls Tryd.prog 20 #[.slice A0 l0.length c0,.slice A1 l1.length c1] w fun e w' => e = .returned (.bool r) ∧ Drawn0 w w' := by
 have HR0 := am_ hr0
 have HC0 := am_ hc0
 clear hr0 hc0
 have HR1 := am_ hr1
 have HC1 := am_ hc1
 clear hr1 hc1
 have H : (if (l0.length : Int) = (l1.length : Int) then (laws_eqIntS.l0 k l0 l1 0) else (some false)) = some r := h
 clear h
 by_cases c3 : (l0.length : Int) = (l1.length : Int)
 ·rw [if_pos c3] at H
  have c3b0 : ((l0.length : Int) == (l1.length : Int)) = true := beq_iff_eq.mpr c3
  have c3b1 : ((l0.length : Int) != (l1.length : Int)) = false := bne_eq_false_iff_eq.mpr c3
  have c3b2 : (l0.length == l1.length) = true := by first | simpa using c3 | (simp at c3 ⊢;omega)
  clear c3
  have H' := am_ H
  clear H
  go_enter Tryd.func20,Tryd.ntmps20
  go_wp2
  repeat (go_quiet (fail);try go_wp2)
  go_loopg [5] k (fun kq v5 w' => ∃ (x5_1 : Int),v5 = .int .i64 x5_1 ∧ Aside0 (laws_eqIntS.l0 kq l0 l1 x5_1 = some r) ∧ Aside0 (kq ≤ k) ∧ Drawn0 w w')
  case atStart => exact ⟨(0),(by first | rfl | (simp;done) | (simp [*];done)),H',⟨Nat.le_refl _⟩,by repeat (first | exact Drawn0.refl _ | apply Drawn0.step)⟩
  case round =>
   clear H'
   try clear c1
   try clear c2
   try clear p2
   try clear c3
   try clear c3b0
   try clear c3b1
   try clear c3b2
   obtain ⟨x5_1,rfl,HA,HK1,⟨m1,rfl⟩⟩ := hrel
   cases gk with
   | zero => exact absurd HA.out (by simp [laws_eqIntS.l0])
   | succ k1 =>
    have H := HA.out
    clear HA
    simp only [laws_eqIntS.l0] at H
    by_cases c4 : x5_1 < (l0.length : Int)
    ·rw [if_pos c4] at H
     have c4b0 : decide (x5_1 < (l0.length : Int)) = true := decide_eq_true c4
     clear c4
     by_cases c5 : 0 ≤ x5_1
     ·rw [if_pos c5] at H
      have c5b0 : decide (0 ≤ x5_1) = true := decide_eq_true c5
      clear c5
      by_cases c6 : x5_1 < (l1.length : Int)
      ·rw [if_pos c6] at H
       have c6b0 : decide (x5_1 < (l1.length : Int)) = true := decide_eq_true c6
       clear c6
       by_cases c7 : (rd l0 x5_1) = (rd l1 x5_1)
       ·rw [if_pos c7] at H
        have c7b0 : ((rd l0 x5_1) == (rd l1 x5_1)) = true := beq_iff_eq.mpr c7
        have c7b1 : ((rd l0 x5_1) != (rd l1 x5_1)) = false := bne_eq_false_iff_eq.mpr c7
        clear c7
        have H' := am_ H
        clear H
        have p496 : 0 ≤ (x5_1 : Int) := zo_
        have q496 : x5_1 < (l0.length : Int) := zo_
        obtain ⟨ad496,e496,hx496_0⟩ := Kd.at_int HR0.out x5_1 p496 q496
        cases e496
        replace p496 := eq_true p496
        replace q496 := eq_true q496
        have p497 : 0 ≤ (x5_1 : Int) := zo_
        have q497 : x5_1 < (l1.length : Int) := zo_
        obtain ⟨ad497,e497,hx497_0⟩ := Kd.at_int HR1.out x5_1 p497 q497
        cases e497
        replace p497 := eq_true p497
        replace q497 := eq_true q497
        go_wp2
        repeat (go_quiet (fail);try go_wp2)
        go_roundg k1
        case measure => have := HK1.out;omega
        case rel => exact ⟨(wrap64 (x5_1 + 1)),(by first | rfl | (simp;done) | (simp [*];done)),H',⟨by have := HK1.out;omega⟩,by repeat (first | exact Drawn0.refl _ | apply Drawn0.step)⟩
       ·rw [if_neg c7] at H
        have c7b0 : ((rd l0 x5_1) == (rd l1 x5_1)) = false := beq_eq_false_iff_ne.mpr c7
        have c7b1 : ((rd l0 x5_1) != (rd l1 x5_1)) = true := bne_iff_ne.mpr c7
        obtain rfl := Option.some.inj H
        have p496 : 0 ≤ (x5_1 : Int) := zo_
        have q496 : x5_1 < (l0.length : Int) := zo_
        obtain ⟨ad496,e496,hx496_0⟩ := Kd.at_int HR0.out x5_1 p496 q496
        cases e496
        replace p496 := eq_true p496
        replace q496 := eq_true q496
        have p497 : 0 ≤ (x5_1 : Int) := zo_
        have q497 : x5_1 < (l1.length : Int) := zo_
        obtain ⟨ad497,e497,hx497_0⟩ := Kd.at_int HR1.out x5_1 p497 q497
        cases e497
        replace p497 := eq_true p497
        replace q497 := eq_true q497
        go_wp2
        repeat (go_quiet (fail);try go_wp2)
        go_ret
        exact ⟨by first | rfl | (simp;done) | (simp [*];done),by repeat (first | exact Drawn0.refl _ | apply Drawn0.step)⟩
      ·rw [if_neg c6] at H
       exact absurd H (by simp)
     ·rw [if_neg c5] at H
      exact absurd H (by simp)
    ·rw [if_neg c4] at H
     have c4b0 : decide (x5_1 < (l0.length : Int)) = false := decide_eq_false c4
     clear c4
     obtain rfl := Option.some.inj H
     go_wp2
     repeat (go_quiet (fail);try go_wp2)
     go_ret
     exact ⟨by first | rfl | (simp;done) | (simp [*];done),by repeat (first | exact Drawn0.refl _ | apply Drawn0.step)⟩
 ·rw [if_neg c3] at H
  have c3b0 : ((l0.length : Int) == (l1.length : Int)) = false := beq_eq_false_iff_ne.mpr c3
  have c3b1 : ((l0.length : Int) != (l1.length : Int)) = true := bne_iff_ne.mpr c3
  have c3b2 : (l0.length == l1.length) = false := by first | simpa using c3 | (simp at c3 ⊢;omega)
  obtain rfl := Option.some.inj H
  go_enter Tryd.func20,Tryd.ntmps20
  go_wp2
  repeat (go_quiet (fail);try go_wp2)
  go_ret
  exact ⟨by first | rfl | (simp;done) | (simp [*];done),by repeat (first | exact Drawn0.refl _ | apply Drawn0.step)⟩
set_option maxHeartbeats 8000000 in
set_option maxRecDepth 100000 in
theorem laws_eqStringS.calls (k : Nat) (A0 : Option Addr) (c0 : Nat) (l0 : List ByteArray) (A1 : Option Addr) (c1 : Nat) (l1 : List ByteArray) (r : Bool) (w : World) (hr0 : Kd.C Kd.string w A0 l0.length l0) (hc0 : l0.length ≤ c0) (hr1 : Kd.C Kd.string w A1 l1.length l1) (hc1 : l1.length ≤ c1) (h : laws_eqStringS.f k l0 l1 = some r) :
  Calls Tryd.prog 162 #[.slice A0 l0.length c0,.slice A1 l1.length c1] w fun e w' => e = .returned (.bool r) ∧ Drawn0 w w' := by
 have HR0 := am_ hr0
 have HC0 := am_ hc0
 clear hr0 hc0
 have HR1 := am_ hr1
 have HC1 := am_ hc1
 clear hr1 hc1
 have H : (if (l0.length : Int) = (l1.length : Int) then (laws_eqStringS.l0 k l0 l1 0) else (some false)) = some r := h
 clear h
 by_cases c3 : (l0.length : Int) = (l1.length : Int)
 ·rw [if_pos c3] at H
  have c3b0 : ((l0.length : Int) == (l1.length : Int)) = true := beq_iff_eq.mpr c3
  have c3b1 : ((l0.length : Int) != (l1.length : Int)) = false := bne_eq_false_iff_eq.mpr c3
  have c3b2 : (l0.length == l1.length) = true := by first | simpa using c3 | (simp at c3 ⊢;omega)
  clear c3
  have H' := am_ H
  clear H
  go_enter Tryd.func162,Tryd.ntmps162
  go_wp2
  repeat (go_quiet (fail);try go_wp2)
  go_loopg [5] k (fun kq v5 w' => ∃ (x5_1 : Int),v5 = .int .i64 x5_1 ∧ Aside0 (laws_eqStringS.l0 kq l0 l1 x5_1 = some r) ∧ Aside0 (kq ≤ k) ∧ Drawn0 w w')
  case atStart => exact ⟨(0),(by first | rfl | (simp;done) | (simp [*];done)),H',⟨Nat.le_refl _⟩,by repeat (first | exact Drawn0.refl _ | apply Drawn0.step)⟩
  case round =>
   clear H'
   try clear c1
   try clear p2
   try clear c3
   try clear c3b0
   try clear c3b1
   try clear c3b2
   obtain ⟨x5_1,rfl,HA,HK1,⟨m1,rfl⟩⟩ := hrel
   cases gk with
   | zero => exact absurd HA.out (by simp [laws_eqStringS.l0])
   | succ k1 =>
    have H := HA.out
    clear HA
    simp only [laws_eqStringS.l0] at H
    by_cases c4 : x5_1 < (l0.length : Int)
    ·rw [if_pos c4] at H
     have c4b0 : decide (x5_1 < (l0.length : Int)) = true := decide_eq_true c4
     clear c4
     by_cases c5 : 0 ≤ x5_1
     ·rw [if_pos c5] at H
      have c5b0 : decide (0 ≤ x5_1) = true := decide_eq_true c5
      clear c5
      by_cases c6 : x5_1 < (l1.length : Int)
      ·rw [if_pos c6] at H
       have c6b0 : decide (x5_1 < (l1.length : Int)) = true := decide_eq_true c6
       clear c6
       by_cases c7 : (rdOf ByteArray.empty l0 x5_1).toList = (rdOf ByteArray.empty l1 x5_1).toList
       ·rw [if_pos c7] at H
        have c7b0 : ((rdOf ByteArray.empty l0 x5_1).toList == (rdOf ByteArray.empty l1 x5_1).toList) = true := beq_iff_eq.mpr c7
        have c7b1 : ((rdOf ByteArray.empty l0 x5_1).toList != (rdOf ByteArray.empty l1 x5_1).toList) = false := bne_eq_false_iff_eq.mpr c7
        clear c7
        have H' := am_ H
        clear H
        have p500 : 0 ≤ (x5_1 : Int) := zo_
        have q500 : x5_1 < (l0.length : Int) := zo_
        obtain ⟨ad500,e500,hx500_0⟩ := Kd.at_string HR0.out x5_1 p500 q500
        cases e500
        replace p500 := eq_true p500
        replace q500 := eq_true q500
        have p501 : 0 ≤ (x5_1 : Int) := zo_
        have q501 : x5_1 < (l1.length : Int) := zo_
        obtain ⟨ad501,e501,hx501_0⟩ := Kd.at_string HR1.out x5_1 p501 q501
        cases e501
        replace p501 := eq_true p501
        replace q501 := eq_true q501
        go_wp2
        repeat (go_quiet (fail);try go_wp2)
        go_roundg k1
        case measure => have := HK1.out;omega
        case rel => exact ⟨(wrap64 (x5_1 + 1)),(by first | rfl | (simp;done) | (simp [*];done)),H',⟨by have := HK1.out;omega⟩,by repeat (first | exact Drawn0.refl _ | apply Drawn0.step)⟩
       ·rw [if_neg c7] at H
        have c7b0 : ((rdOf ByteArray.empty l0 x5_1).toList == (rdOf ByteArray.empty l1 x5_1).toList) = false := beq_eq_false_iff_ne.mpr c7
        have c7b1 : ((rdOf ByteArray.empty l0 x5_1).toList != (rdOf ByteArray.empty l1 x5_1).toList) = true := bne_iff_ne.mpr c7
        obtain rfl := Option.some.inj H
        have p500 : 0 ≤ (x5_1 : Int) := zo_
        have q500 : x5_1 < (l0.length : Int) := zo_
        obtain ⟨ad500,e500,hx500_0⟩ := Kd.at_string HR0.out x5_1 p500 q500
        cases e500
        replace p500 := eq_true p500
        replace q500 := eq_true q500
        have p501 : 0 ≤ (x5_1 : Int) := zo_
        have q501 : x5_1 < (l1.length : Int) := zo_
        obtain ⟨ad501,e501,hx501_0⟩ := Kd.at_string HR1.out x5_1 p501 q501
        cases e501
        replace p501 := eq_true p501
        replace q501 := eq_true q501
        go_wp2
        repeat (go_quiet (fail);try go_wp2)
        go_ret
        exact ⟨by first | rfl | (simp;done) | (simp [*];done),by repeat (first | exact Drawn0.refl _ | apply Drawn0.step)⟩
      ·rw [if_neg c6] at H
       exact absurd H (by simp)
     ·rw [if_neg c5] at H
      exact absurd H (by simp)
    ·rw [if_neg c4] at H
     have c4b0 : decide (x5_1 < (l0.length : Int)) = false := decide_eq_false c4
     clear c4
     obtain rfl := Option.some.inj H
     go_wp2
     repeat (go_quiet (fail);try go_wp2)
     go_ret
     exact ⟨by first | rfl | (simp;done) | (simp [*];done),by repeat (first | exact Drawn0.refl _ | apply Drawn0.step)⟩
 ·rw [if_neg c3] at H
  have c3b0 : ((l0.length : Int) == (l1.length : Int)) = false := beq_eq_false_iff_ne.mpr c3
  have c3b1 : ((l0.length : Int) != (l1.length : Int)) = true := bne_iff_ne.mpr c3
  have c3b2 : (l0.length == l1.length) = false := by first | simpa using c3 | (simp at c3 ⊢;omega)
  obtain rfl := Option.some.inj H
  go_enter Tryd.func162,Tryd.ntmps162
  go_wp2
  repeat (go_quiet (fail);try go_wp2)
  go_ret
  exact ⟨by first | rfl | (simp;done) | (simp [*];done),by repeat (first | exact Drawn0.refl _ | apply Drawn0.step)⟩
set_option maxHeartbeats 8000000 in
set_option maxRecDepth 100000 in
theorem laws_eqKeySignature.calls (k : Nat) (a0_0 : Int) (A0_1 : Option Addr) (c0_1 : Nat) (l0_1 : List ByteArray) (A0_2 : Option Addr) (c0_2 : Nat) (l0_2 : List ByteArray) (A0_3 : Option Addr) (c0_3 : Nat) (l0_3 : List ByteArray) (a1_0 : Int) (A1_1 : Option Addr) (c1_1 : Nat) (l1_1 : List ByteArray) (A1_2 : Option Addr) (c1_2 : Nat) (l1_2 : List ByteArray) (A1_3 : Option Addr) (c1_3 : Nat) (l1_3 : List ByteArray) (r : Bool) (w : World) (hr0_1 : Kd.C Kd.string w A0_1 l0_1.length l0_1) (hc0_1 : l0_1.length ≤ c0_1) (hr0_2 : Kd.C Kd.string w A0_2 l0_2.length l0_2) (hc0_2 : l0_2.length ≤ c0_2) (hr0_3 : Kd.C Kd.string w A0_3 l0_3.length l0_3) (hc0_3 : l0_3.length ≤ c0_3) (hr1_1 : Kd.C Kd.string w A1_1 l1_1.length l1_1) (hc1_1 : l1_1.length ≤ c1_1) (hr1_2 : Kd.C Kd.string w A1_2 l1_2.length l1_2) (hc1_2 : l1_2.length ≤ c1_2) (hr1_3 : Kd.C Kd.string w A1_3 l1_3.length l1_3) (hc1_3 : l1_3.length ≤ c1_3) (h : laws_eqKeySignature.f k a0_0 l0_1 l0_2 l0_3 a1_0 l1_1 l1_2 l1_3 = some r) :
  Calls Tryd.prog 130 #[.agg #[.int .i64 a0_0,.slice A0_1 l0_1.length c0_1,.slice A0_2 l0_2.length c0_2,.slice A0_3 l0_3.length c0_3],.agg #[.int .i64 a1_0,.slice A1_1 l1_1.length c1_1,.slice A1_2 l1_2.length c1_2,.slice A1_3 l1_3.length c1_3]] w fun e w' => e = .returned (.bool r) ∧ Below w.heap.size w w' := by
 have hu52 := Tryd.underlying52
 have HR0_1 := am_ hr0_1
 have HC0_1 := am_ hc0_1
 clear hr0_1 hc0_1
 have HR0_2 := am_ hr0_2
 have HC0_2 := am_ hc0_2
 clear hr0_2 hc0_2
 have HR0_3 := am_ hr0_3
 have HC0_3 := am_ hc0_3
 clear hr0_3 hc0_3
 have HR1_1 := am_ hr1_1
 have HC1_1 := am_ hc1_1
 clear hr1_1 hc1_1
 have HR1_2 := am_ hr1_2
 have HC1_2 := am_ hc1_2
 clear hr1_2 hc1_2
 have HR1_3 := am_ hr1_3
 have HC1_3 := am_ hc1_3
 clear hr1_3 hc1_3
 have HB := am_ (Below.refl w.heap.size w)
 have H : (if a0_0 = a1_0 then ((laws_eqStringS.f k l0_1 l1_1).bind fun t504 => (if t504 = true then ((laws_eqStringS.f k l0_2 l1_2).bind fun t505 => (if t505 = true then ((laws_eqStringS.f k l0_3 l1_3).bind fun t506 => (if t506 = true then (some true) else (some false))) else (some false))) else (some false))) else (some false)) = some r := h
 clear h
 by_cases c3 : a0_0 = a1_0
 ·rw [if_pos c3] at H
  have c3b0 : (a0_0 == a1_0) = true := beq_iff_eq.mpr c3
  have c3b1 : (a0_0 != a1_0) = false := bne_eq_false_iff_eq.mpr c3
  clear c3
  replace H := Option.bind_eq_some_iff.mp H
  obtain ⟨t504,A40,H⟩ := H
  try dsimp only at H
  have A4 := am_ A40
  clear A40
  by_cases c5 : t504 = true
  ·subst c5
   have H1 : ((laws_eqStringS.f k l0_2 l1_2).bind fun t505 => (if t505 = true then ((laws_eqStringS.f k l0_3 l1_3).bind fun t506 => (if t506 = true then (some true) else (some false))) else (some false))) = some r := by rw [if_pos rfl] at H;exact H
   clear H
   have H := H1
   clear H1
   replace H := Option.bind_eq_some_iff.mp H
   obtain ⟨t505,A60,H⟩ := H
   try dsimp only at H
   have A6 := am_ A60
   clear A60
   by_cases c7 : t505 = true
   ·subst c7
    have H1 : ((laws_eqStringS.f k l0_3 l1_3).bind fun t506 => (if t506 = true then (some true) else (some false))) = some r := by rw [if_pos rfl] at H;exact H
    clear H
    have H := H1
    clear H1
    replace H := Option.bind_eq_some_iff.mp H
    obtain ⟨t506,A80,H⟩ := H
    try dsimp only at H
    have A8 := am_ A80
    clear A80
    by_cases c9 : t506 = true
    ·subst c9
     have H1 : (some true) = some r := by rw [if_pos rfl] at H;exact H
     clear H
     have H := H1
     clear H1
     obtain rfl := Option.some.inj H
     go_enter Tryd.func130,Tryd.ntmps130
     go_wp2_with (first | ((with_reducible refine gate_dst (N := 2) rfl ?_);refine zbx (N := 2) (cs := #[.int .i64 a0_0,.slice A0_1 l0_1.length c0_1,.slice A0_2 l0_2.length c0_2,.slice A0_3 l0_3.length c0_3]) (t := 52) ?_;intro gb502 hg w10 hbox hb;have BK502 := am_ (hbox);have GW502 := zw_ HB hg;have GE502 := zw_ HB hg;replace HB := zs_ HB hb;clear hb hbox hg) | ((with_reducible refine gate_dst (N := 3) rfl ?_);refine zbx (N := 3) (cs := #[.int .i64 a1_0,.slice A1_1 l1_1.length c1_1,.slice A1_2 l1_2.length c1_2,.slice A1_3 l1_3.length c1_3]) (t := 52) ?_;intro gb503 hg w11 hbox hb;have BK503 := am_ (hbox);have GW503 := zw_ HB hg;have GE503 := zw_ HB hg;replace HB := zs_ HB hb;have NB502_503 := zl hg BK502;have NB503_502 := zg hg BK502;replace BK502 := zb BK502 hb;clear hb hbox hg;have hnb12 := NB502_503.out;have hnc12 := NB503_502.out;obtain ⟨hcz13_0,hcz13_1,hcz13_2,hcz13_3,hfz13_0,hfz13_1,hfz13_2,hfz13_3⟩ := zc4 BK502;obtain ⟨hcz14_0,hcz14_1,hcz14_2,hcz14_3,hfz14_0,hfz14_1,hfz14_2,hfz14_3⟩ := zc4 BK503) | ((with_reducible refine gate_callee (f := 162) rfl ?_);refine zgl (some 14) Tryd.func162 #[.slice A0_1 l0_1.length c0_1,.slice A1_1 l1_1.length c1_1] ?_;(with_reducible refine (laws_eqStringS.calls k _ _ l0_1 _ _ l1_1 true _ ?side1 ?side2 ?side3 ?side4 A4.out).mono ?_);(case side1 => exact zc_ HR0_1 HB);(case side2 => exact HC0_1.out);(case side3 => exact zc_ HR1_1 HB);(case side4 => exact HC1_1.out);rintro e w' ⟨rfl,⟨nd,rfl⟩⟩;refine ⟨_,rfl,?_⟩) | ((with_reducible refine gate_callee (f := 162) rfl ?_);refine zgl (some 20) Tryd.func162 #[.slice A0_2 l0_2.length c0_2,.slice A1_2 l1_2.length c1_2] ?_;(with_reducible refine (laws_eqStringS.calls k _ _ l0_2 _ _ l1_2 true _ ?side1 ?side2 ?side3 ?side4 A6.out).mono ?_);(case side1 => repeat (first | exact (Kd.C_below HR0_2.out (zl_ HB)) | (with_reducible refine Kd.C_alloc ?_ _) | (with_reducible refine Kd.C_drewN ?_ _) | (with_reducible refine Kd.C_drew ?_)));(case side2 => exact HC0_2.out);(case side3 => repeat (first | exact (Kd.C_below HR1_2.out (zl_ HB)) | (with_reducible refine Kd.C_alloc ?_ _) | (with_reducible refine Kd.C_drewN ?_ _) | (with_reducible refine Kd.C_drew ?_)));(case side4 => exact HC1_2.out);rintro e w' ⟨rfl,⟨nd,rfl⟩⟩;refine ⟨_,rfl,?_⟩) | ((with_reducible refine gate_callee (f := 162) rfl ?_);refine zgl (some 26) Tryd.func162 #[.slice A0_3 l0_3.length c0_3,.slice A1_3 l1_3.length c1_3] ?_;(with_reducible refine (laws_eqStringS.calls k _ _ l0_3 _ _ l1_3 true _ ?side1 ?side2 ?side3 ?side4 A8.out).mono ?_);(case side1 => repeat (first | exact (Kd.C_below HR0_3.out (zl_ HB)) | (with_reducible refine Kd.C_alloc ?_ _) | (with_reducible refine Kd.C_drewN ?_ _) | (with_reducible refine Kd.C_drew ?_)));(case side2 => exact HC0_3.out);(case side3 => repeat (first | exact (Kd.C_below HR1_3.out (zl_ HB)) | (with_reducible refine Kd.C_alloc ?_ _) | (with_reducible refine Kd.C_drewN ?_ _) | (with_reducible refine Kd.C_drew ?_)));(case side4 => exact HC1_3.out);rintro e w' ⟨rfl,⟨nd,rfl⟩⟩;refine ⟨_,rfl,?_⟩))
     go_ret
     exact ⟨zt_,zl_ HB⟩
    ·replace c9 := Bool.eq_false_iff.mpr c9
     subst c9
     have H1 : (some false) = some r := by rw [if_neg (show ¬ (false = true) by decide)] at H;exact H
     clear H
     have H := H1
     clear H1
     obtain rfl := Option.some.inj H
     go_enter Tryd.func130,Tryd.ntmps130
     go_wp2_with (first | ((with_reducible refine gate_dst (N := 2) rfl ?_);refine zbx (N := 2) (cs := #[.int .i64 a0_0,.slice A0_1 l0_1.length c0_1,.slice A0_2 l0_2.length c0_2,.slice A0_3 l0_3.length c0_3]) (t := 52) ?_;intro gb502 hg w15 hbox hb;have BK502 := am_ (hbox);have GW502 := zw_ HB hg;have GE502 := zw_ HB hg;replace HB := zs_ HB hb;clear hb hbox hg) | ((with_reducible refine gate_dst (N := 3) rfl ?_);refine zbx (N := 3) (cs := #[.int .i64 a1_0,.slice A1_1 l1_1.length c1_1,.slice A1_2 l1_2.length c1_2,.slice A1_3 l1_3.length c1_3]) (t := 52) ?_;intro gb503 hg w16 hbox hb;have BK503 := am_ (hbox);have GW503 := zw_ HB hg;have GE503 := zw_ HB hg;replace HB := zs_ HB hb;have NB502_503 := zl hg BK502;have NB503_502 := zg hg BK502;replace BK502 := zb BK502 hb;clear hb hbox hg;have hnb17 := NB502_503.out;have hnc17 := NB503_502.out;obtain ⟨hcz18_0,hcz18_1,hcz18_2,hcz18_3,hfz18_0,hfz18_1,hfz18_2,hfz18_3⟩ := zc4 BK502;obtain ⟨hcz19_0,hcz19_1,hcz19_2,hcz19_3,hfz19_0,hfz19_1,hfz19_2,hfz19_3⟩ := zc4 BK503) | ((with_reducible refine gate_callee (f := 162) rfl ?_);refine zgl (some 14) Tryd.func162 #[.slice A0_1 l0_1.length c0_1,.slice A1_1 l1_1.length c1_1] ?_;(with_reducible refine (laws_eqStringS.calls k _ _ l0_1 _ _ l1_1 true _ ?side1 ?side2 ?side3 ?side4 A4.out).mono ?_);(case side1 => exact zc_ HR0_1 HB);(case side2 => exact HC0_1.out);(case side3 => exact zc_ HR1_1 HB);(case side4 => exact HC1_1.out);rintro e w' ⟨rfl,⟨nd,rfl⟩⟩;refine ⟨_,rfl,?_⟩) | ((with_reducible refine gate_callee (f := 162) rfl ?_);refine zgl (some 20) Tryd.func162 #[.slice A0_2 l0_2.length c0_2,.slice A1_2 l1_2.length c1_2] ?_;(with_reducible refine (laws_eqStringS.calls k _ _ l0_2 _ _ l1_2 true _ ?side1 ?side2 ?side3 ?side4 A6.out).mono ?_);(case side1 => repeat (first | exact (Kd.C_below HR0_2.out (zl_ HB)) | (with_reducible refine Kd.C_alloc ?_ _) | (with_reducible refine Kd.C_drewN ?_ _) | (with_reducible refine Kd.C_drew ?_)));(case side2 => exact HC0_2.out);(case side3 => repeat (first | exact (Kd.C_below HR1_2.out (zl_ HB)) | (with_reducible refine Kd.C_alloc ?_ _) | (with_reducible refine Kd.C_drewN ?_ _) | (with_reducible refine Kd.C_drew ?_)));(case side4 => exact HC1_2.out);rintro e w' ⟨rfl,⟨nd,rfl⟩⟩;refine ⟨_,rfl,?_⟩) | ((with_reducible refine gate_callee (f := 162) rfl ?_);refine zgl (some 26) Tryd.func162 #[.slice A0_3 l0_3.length c0_3,.slice A1_3 l1_3.length c1_3] ?_;(with_reducible refine (laws_eqStringS.calls k _ _ l0_3 _ _ l1_3 false _ ?side1 ?side2 ?side3 ?side4 A8.out).mono ?_);(case side1 => repeat (first | exact (Kd.C_below HR0_3.out (zl_ HB)) | (with_reducible refine Kd.C_alloc ?_ _) | (with_reducible refine Kd.C_drewN ?_ _) | (with_reducible refine Kd.C_drew ?_)));(case side2 => exact HC0_3.out);(case side3 => repeat (first | exact (Kd.C_below HR1_3.out (zl_ HB)) | (with_reducible refine Kd.C_alloc ?_ _) | (with_reducible refine Kd.C_drewN ?_ _) | (with_reducible refine Kd.C_drew ?_)));(case side4 => exact HC1_3.out);rintro e w' ⟨rfl,⟨nd,rfl⟩⟩;refine ⟨_,rfl,?_⟩))
     go_ret
     exact ⟨zt_,zl_ HB⟩
   ·replace c7 := Bool.eq_false_iff.mpr c7
    subst c7
    have H1 : (some false) = some r := by rw [if_neg (show ¬ (false = true) by decide)] at H;exact H
    clear H
    have H := H1
    clear H1
    obtain rfl := Option.some.inj H
    go_enter Tryd.func130,Tryd.ntmps130
    go_wp2_with (first | ((with_reducible refine gate_dst (N := 2) rfl ?_);refine zbx (N := 2) (cs := #[.int .i64 a0_0,.slice A0_1 l0_1.length c0_1,.slice A0_2 l0_2.length c0_2,.slice A0_3 l0_3.length c0_3]) (t := 52) ?_;intro gb502 hg w20 hbox hb;have BK502 := am_ (hbox);have GW502 := zw_ HB hg;have GE502 := zw_ HB hg;replace HB := zs_ HB hb;clear hb hbox hg) | ((with_reducible refine gate_dst (N := 3) rfl ?_);refine zbx (N := 3) (cs := #[.int .i64 a1_0,.slice A1_1 l1_1.length c1_1,.slice A1_2 l1_2.length c1_2,.slice A1_3 l1_3.length c1_3]) (t := 52) ?_;intro gb503 hg w21 hbox hb;have BK503 := am_ (hbox);have GW503 := zw_ HB hg;have GE503 := zw_ HB hg;replace HB := zs_ HB hb;have NB502_503 := zl hg BK502;have NB503_502 := zg hg BK502;replace BK502 := zb BK502 hb;clear hb hbox hg;have hnb22 := NB502_503.out;have hnc22 := NB503_502.out;obtain ⟨hcz23_0,hcz23_1,hcz23_2,hcz23_3,hfz23_0,hfz23_1,hfz23_2,hfz23_3⟩ := zc4 BK502;obtain ⟨hcz24_0,hcz24_1,hcz24_2,hcz24_3,hfz24_0,hfz24_1,hfz24_2,hfz24_3⟩ := zc4 BK503) | ((with_reducible refine gate_callee (f := 162) rfl ?_);refine zgl (some 14) Tryd.func162 #[.slice A0_1 l0_1.length c0_1,.slice A1_1 l1_1.length c1_1] ?_;(with_reducible refine (laws_eqStringS.calls k _ _ l0_1 _ _ l1_1 true _ ?side1 ?side2 ?side3 ?side4 A4.out).mono ?_);(case side1 => exact zc_ HR0_1 HB);(case side2 => exact HC0_1.out);(case side3 => exact zc_ HR1_1 HB);(case side4 => exact HC1_1.out);rintro e w' ⟨rfl,⟨nd,rfl⟩⟩;refine ⟨_,rfl,?_⟩) | ((with_reducible refine gate_callee (f := 162) rfl ?_);refine zgl (some 20) Tryd.func162 #[.slice A0_2 l0_2.length c0_2,.slice A1_2 l1_2.length c1_2] ?_;(with_reducible refine (laws_eqStringS.calls k _ _ l0_2 _ _ l1_2 false _ ?side1 ?side2 ?side3 ?side4 A6.out).mono ?_);(case side1 => repeat (first | exact (Kd.C_below HR0_2.out (zl_ HB)) | (with_reducible refine Kd.C_alloc ?_ _) | (with_reducible refine Kd.C_drewN ?_ _) | (with_reducible refine Kd.C_drew ?_)));(case side2 => exact HC0_2.out);(case side3 => repeat (first | exact (Kd.C_below HR1_2.out (zl_ HB)) | (with_reducible refine Kd.C_alloc ?_ _) | (with_reducible refine Kd.C_drewN ?_ _) | (with_reducible refine Kd.C_drew ?_)));(case side4 => exact HC1_2.out);rintro e w' ⟨rfl,⟨nd,rfl⟩⟩;refine ⟨_,rfl,?_⟩))
    go_ret
    exact ⟨zt_,zl_ HB⟩
  ·replace c5 := Bool.eq_false_iff.mpr c5
   subst c5
   have H1 : (some false) = some r := by rw [if_neg (show ¬ (false = true) by decide)] at H;exact H
   clear H
   have H := H1
   clear H1
   obtain rfl := Option.some.inj H
   go_enter Tryd.func130,Tryd.ntmps130
   go_wp2_with (first | ((with_reducible refine gate_dst (N := 2) rfl ?_);refine zbx (N := 2) (cs := #[.int .i64 a0_0,.slice A0_1 l0_1.length c0_1,.slice A0_2 l0_2.length c0_2,.slice A0_3 l0_3.length c0_3]) (t := 52) ?_;intro gb502 hg w25 hbox hb;have BK502 := am_ (hbox);have GW502 := zw_ HB hg;have GE502 := zw_ HB hg;replace HB := zs_ HB hb;clear hb hbox hg) | ((with_reducible refine gate_dst (N := 3) rfl ?_);refine zbx (N := 3) (cs := #[.int .i64 a1_0,.slice A1_1 l1_1.length c1_1,.slice A1_2 l1_2.length c1_2,.slice A1_3 l1_3.length c1_3]) (t := 52) ?_;intro gb503 hg w26 hbox hb;have BK503 := am_ (hbox);have GW503 := zw_ HB hg;have GE503 := zw_ HB hg;replace HB := zs_ HB hb;have NB502_503 := zl hg BK502;have NB503_502 := zg hg BK502;replace BK502 := zb BK502 hb;clear hb hbox hg;have hnb27 := NB502_503.out;have hnc27 := NB503_502.out;obtain ⟨hcz28_0,hcz28_1,hcz28_2,hcz28_3,hfz28_0,hfz28_1,hfz28_2,hfz28_3⟩ := zc4 BK502;obtain ⟨hcz29_0,hcz29_1,hcz29_2,hcz29_3,hfz29_0,hfz29_1,hfz29_2,hfz29_3⟩ := zc4 BK503) | ((with_reducible refine gate_callee (f := 162) rfl ?_);refine zgl (some 14) Tryd.func162 #[.slice A0_1 l0_1.length c0_1,.slice A1_1 l1_1.length c1_1] ?_;(with_reducible refine (laws_eqStringS.calls k _ _ l0_1 _ _ l1_1 false _ ?side1 ?side2 ?side3 ?side4 A4.out).mono ?_);(case side1 => exact zc_ HR0_1 HB);(case side2 => exact HC0_1.out);(case side3 => exact zc_ HR1_1 HB);(case side4 => exact HC1_1.out);rintro e w' ⟨rfl,⟨nd,rfl⟩⟩;refine ⟨_,rfl,?_⟩))
   go_ret
   exact ⟨zt_,zl_ HB⟩
 ·rw [if_neg c3] at H
  have c3b0 : (a0_0 == a1_0) = false := beq_eq_false_iff_ne.mpr c3
  have c3b1 : (a0_0 != a1_0) = true := bne_iff_ne.mpr c3
  obtain rfl := Option.some.inj H
  go_enter Tryd.func130,Tryd.ntmps130
  go_wp2_with (first | ((with_reducible refine gate_dst (N := 2) rfl ?_);refine zbx (N := 2) (cs := #[.int .i64 a0_0,.slice A0_1 l0_1.length c0_1,.slice A0_2 l0_2.length c0_2,.slice A0_3 l0_3.length c0_3]) (t := 52) ?_;intro gb502 hg w30 hbox hb;have BK502 := am_ (hbox);have GW502 := zw_ HB hg;have GE502 := zw_ HB hg;replace HB := zs_ HB hb;clear hb hbox hg) | ((with_reducible refine gate_dst (N := 3) rfl ?_);refine zbx (N := 3) (cs := #[.int .i64 a1_0,.slice A1_1 l1_1.length c1_1,.slice A1_2 l1_2.length c1_2,.slice A1_3 l1_3.length c1_3]) (t := 52) ?_;intro gb503 hg w31 hbox hb;have BK503 := am_ (hbox);have GW503 := zw_ HB hg;have GE503 := zw_ HB hg;replace HB := zs_ HB hb;have NB502_503 := zl hg BK502;have NB503_502 := zg hg BK502;replace BK502 := zb BK502 hb;clear hb hbox hg;have hnb32 := NB502_503.out;have hnc32 := NB503_502.out;obtain ⟨hcz33_0,hcz33_1,hcz33_2,hcz33_3,hfz33_0,hfz33_1,hfz33_2,hfz33_3⟩ := zc4 BK502;obtain ⟨hcz34_0,hcz34_1,hcz34_2,hcz34_3,hfz34_0,hfz34_1,hfz34_2,hfz34_3⟩ := zc4 BK503))
  go_ret
  exact ⟨zt_,zl_ HB⟩
def laws_eqKeySignatureS.T6 : Bool × List (List Nat × List Nat) := (true,[([],[]),([],[]),([0,1],[0,1]),([2],[2]),([],[]),([],[]),([4,5],[4,5]),([6],[6]),([3,7],[3,7]),([8],[8])])
def laws_eqKeySignatureS.B6 : List Nat := [0,0,3,7,0,0,48,112,255,511]
theorem laws_eqKeySignatureS.tab6 : rtab .any (opsOf Tryd.f68 6) = laws_eqKeySignatureS.T6 := by kernel_rfl
theorem laws_eqKeySignatureS.bits6 : waitsOk laws_eqKeySignatureS.T6.2 laws_eqKeySignatureS.B6 = true := by kernel_rfl
set_option maxHeartbeats 8000000 in
set_option maxRecDepth 100000 in
theorem laws_eqKeySignatureS.calls (k : Nat) (A0 : Option Addr) (c0 : Nat) (l0 : List (S52)) (A1 : Option Addr) (c1 : Nat) (l1 : List (S52)) (r : Bool) (w : World) (hr0 : Kd.C k52 w A0 l0.length l0) (hc0 : l0.length ≤ c0) (hr1 : Kd.C k52 w A1 l1.length l1) (hc1 : l1.length ≤ c1) (h : laws_eqKeySignatureS.f k l0 l1 = some r) :
  Calls Tryd.prog 68 #[.slice A0 l0.length c0,.slice A1 l1.length c1] w fun e w' => e = .returned (.bool r) ∧ Below w.heap.size w w' := by
 have hu52 := Tryd.underlying52
 have HR0 := am_ hr0
 have HC0 := am_ hc0
 clear hr0 hc0
 have HR1 := am_ hr1
 have HC1 := am_ hc1
 clear hr1 hc1
 have HB := am_ (Below.refl w.heap.size w)
 have H : (if (l0.length : Int) = (l1.length : Int) then (laws_eqKeySignatureS.l0 k l0 l1 0) else (some false)) = some r := h
 clear h
 by_cases c3 : (l0.length : Int) = (l1.length : Int)
 ·rw [if_pos c3] at H
  have c3b0 : ((l0.length : Int) == (l1.length : Int)) = true := beq_iff_eq.mpr c3
  have c3b1 : ((l0.length : Int) != (l1.length : Int)) = false := bne_eq_false_iff_eq.mpr c3
  have c3b2 : (l0.length == l1.length) = true := by first | simpa using c3 | (simp at c3 ⊢;omega)
  clear c3
  have H' := am_ H
  clear H
  go_enter Tryd.func68,Tryd.ntmps68
  go_wp2
  go_loopg [5] k (fun kq v5 w' => ∃ (x5_1 : Int),v5 = .int .i64 x5_1 ∧ Aside0 (laws_eqKeySignatureS.l0 kq l0 l1 x5_1 = some r) ∧ Aside0 (kq ≤ k) ∧ Aside0 (Below w.heap.size w w'))
  case atStart => exact ⟨(0),(by first | rfl | (simp;done) | (simp [*];done)),H',⟨Nat.le_refl _⟩,⟨zl_ HB⟩⟩
  case round =>
   clear H'
   try clear c1
   try clear p2
   try clear c3
   try clear c3b0
   try clear c3b1
   try clear c3b2
   obtain ⟨x5_1,rfl,HA,HK1,HB⟩ := hrel
   cases gk with
   | zero => exact absurd HA.out (by simp [laws_eqKeySignatureS.l0])
   | succ k1 =>
    have H := HA.out
    clear HA
    simp only [laws_eqKeySignatureS.l0] at H
    by_cases c4 : x5_1 < (l0.length : Int)
    ·rw [if_pos c4] at H
     have c4b0 : decide (x5_1 < (l0.length : Int)) = true := decide_eq_true c4
     clear c4
     by_cases c5 : 0 ≤ x5_1
     ·rw [if_pos c5] at H
      have c5b0 : decide (0 ≤ x5_1) = true := decide_eq_true c5
      clear c5
      by_cases c6 : x5_1 < (l1.length : Int)
      ·rw [if_pos c6] at H
       have c6b0 : decide (x5_1 < (l1.length : Int)) = true := decide_eq_true c6
       clear c6
       replace H := Option.bind_eq_some_iff.mp H
       obtain ⟨t509,A70,H⟩ := H
       try dsimp only at H
       have A7 := am_ A70
       clear A70
       by_cases c8 : t509 = true
       ·subst c8
        have H1 : (laws_eqKeySignatureS.l0 k1 l0 l1 (wrap64 (x5_1 + 1))) = some r := by rw [if_pos rfl] at H;exact H
        clear H
        have H := H1
        clear H1
        have H' := am_ H
        clear H
        try go_wp2
        replace HB := am_ (below_drew1 HB.out)
        have p507 : 0 ≤ (x5_1 : Int) := zo_
        have q507 : x5_1 < (l0.length : Int) := zo_
        obtain ⟨ad507,A507_1,c507_1,A507_2,c507_2,A507_3,c507_3,e507,hx507_0,hx507_1,hx507_2,hx507_3,hl507_1,hi507_1,hl507_2,hi507_2,hl507_3,hi507_3⟩ := at_T52 HR0.out x5_1 p507 q507
        have hw507_3 := hx507_3
        have hw507_2 := hx507_2
        have hw507_1 := hx507_1
        have hw507_0 := hx507_0
        have hv507_1 := hx507_1
        have hv507_2 := hx507_2
        have hv507_3 := hx507_3
        cases e507
        replace hx507_0 := zx_ HB hx507_0
        replace hx507_1 := zx_ HB hx507_1
        replace hx507_2 := zx_ HB hx507_2
        replace hx507_3 := zx_ HB hx507_3
        have HR507_1 := am_ hi507_1
        have HC507_1 := am_ hl507_1
        clear hi507_1 hl507_1
        have HR507_2 := am_ hi507_2
        have HC507_2 := am_ hl507_2
        clear hi507_2 hl507_2
        have HR507_3 := am_ hi507_3
        have HC507_3 := am_ hl507_3
        clear hi507_3 hl507_3
        replace p507 := eq_true p507
        replace q507 := eq_true q507
        have p508 : 0 ≤ (x5_1 : Int) := zo_
        have q508 : x5_1 < (l1.length : Int) := zo_
        obtain ⟨ad508,A508_1,c508_1,A508_2,c508_2,A508_3,c508_3,e508,hx508_0,hx508_1,hx508_2,hx508_3,hl508_1,hi508_1,hl508_2,hi508_2,hl508_3,hi508_3⟩ := at_T52 HR1.out x5_1 p508 q508
        have hw508_3 := hx508_3
        have hw508_2 := hx508_2
        have hw508_1 := hx508_1
        have hw508_0 := hx508_0
        have hv508_1 := hx508_1
        have hv508_2 := hx508_2
        have hv508_3 := hx508_3
        cases e508
        replace hx508_0 := zx_ HB hx508_0
        replace hx508_1 := zx_ HB hx508_1
        replace hx508_2 := zx_ HB hx508_2
        replace hx508_3 := zx_ HB hx508_3
        have HR508_1 := am_ hi508_1
        have HC508_1 := am_ hl508_1
        clear hi508_1 hl508_1
        have HR508_2 := am_ hi508_2
        have HC508_2 := am_ hl508_2
        clear hi508_2 hl508_2
        have HR508_3 := am_ hi508_3
        have HC508_3 := am_ hl508_3
        clear hi508_3 hl508_3
        replace p508 := eq_true p508
        replace q508 := eq_true q508
        refine start_ (n := 10) (S := fun w' => w'.cell? (ad507.add ((x5_1).toNat * 4)) = some (.int .i64 ((rd_T52 l0 x5_1).f0)) ∧ w'.cell? ⟨(ad507.add ((x5_1).toNat * 4)).block,(ad507.add ((x5_1).toNat * 4)).off + 1,none⟩ = some (.slice A507_1 ((rd_T52 l0 x5_1).f1).length c507_1) ∧ w'.cell? ⟨(ad507.add ((x5_1).toNat * 4)).block,(ad507.add ((x5_1).toNat * 4)).off + 2,none⟩ = some (.slice A507_2 ((rd_T52 l0 x5_1).f2).length c507_2) ∧ w'.cell? ⟨(ad507.add ((x5_1).toNat * 4)).block,(ad507.add ((x5_1).toNat * 4)).off + 3,none⟩ = some (.slice A507_3 ((rd_T52 l0 x5_1).f3).length c507_3) ∧ w'.cell? (ad508.add ((x5_1).toNat * 4)) = some (.int .i64 ((rd_T52 l1 x5_1).f0)) ∧ w'.cell? ⟨(ad508.add ((x5_1).toNat * 4)).block,(ad508.add ((x5_1).toNat * 4)).off + 1,none⟩ = some (.slice A508_1 ((rd_T52 l1 x5_1).f1).length c508_1) ∧ w'.cell? ⟨(ad508.add ((x5_1).toNat * 4)).block,(ad508.add ((x5_1).toNat * 4)).off + 2,none⟩ = some (.slice A508_2 ((rd_T52 l1 x5_1).f2).length c508_2) ∧ w'.cell? ⟨(ad508.add ((x5_1).toNat * 4)).block,(ad508.add ((x5_1).toNat * 4)).off + 3,none⟩ = some (.slice A508_3 ((rd_T52 l1 x5_1).f3).length c508_3)) (ds := []) #[false,false,false,false,false,false,false,false,false,false] (by kernel_rfl) rfl rfl ⟨(zx_ HB hw507_0),(zx_ HB hw507_1),(zx_ HB hw507_2),(zx_ HB hw507_3),(zx_ HB hw508_0),(zx_ HB hw508_1),(zx_ HB hw508_2),(zx_ HB hw508_3)⟩ (fun hHeld => ?_);refine with_tabW laws_eqKeySignatureS.tab6 laws_eqKeySignatureS.bits6 (fun HT_ HW_ => ?_)
        generalize wr.drew = w9 at HB HR507_1 HR507_2 HR507_3 HR508_1 HR508_2 HR508_3 hx507_0 hx507_1 hx507_2 hx507_3 hx508_0 hx508_1 hx508_2 hx508_3 hHeld ⊢
        refine zpu 0 (N := some 17) HT_ ?_
        refine zpu 1 (N := some 18) HT_ ?_
        refine zpu 2 (N := some 19) HT_ ?_
        refine zpu 4 (N := some 21) HT_ ?_
        refine zpu 5 (N := some 22) HT_ ?_
        refine zpu 6 (N := some 23) HT_ ?_
        refine ztk 3 (N := some 20) HT_ HW_ hHeld ?_
        refine ztk 7 (N := some 24) HT_ HW_ hHeld ?_
        refine zon 8 (N := some 25) HT_ (fun K hK => ?_)
        refine zgo Tryd.func130 #[.agg #[.int .i64 ((rd_T52 l0 x5_1).f0),.slice A507_1 ((rd_T52 l0 x5_1).f1).length c507_1,.slice A507_2 ((rd_T52 l0 x5_1).f2).length c507_2,.slice A507_3 ((rd_T52 l0 x5_1).f3).length c507_3],.agg #[.int .i64 ((rd_T52 l1 x5_1).f0),.slice A508_1 ((rd_T52 l1 x5_1).f1).length c508_1,.slice A508_2 ((rd_T52 l1 x5_1).f2).length c508_2,.slice A508_3 ((rd_T52 l1 x5_1).f3).length c508_3]] ?_
        with_reducible refine (laws_eqKeySignature.calls k1 ((rd_T52 l0 x5_1).f0) _ _ ((rd_T52 l0 x5_1).f1) _ _ ((rd_T52 l0 x5_1).f2) _ _ ((rd_T52 l0 x5_1).f3) ((rd_T52 l1 x5_1).f0) _ _ ((rd_T52 l1 x5_1).f1) _ _ ((rd_T52 l1 x5_1).f2) _ _ ((rd_T52 l1 x5_1).f3) true _ ?side1 ?side2 ?side3 ?side4 ?side5 ?side6 ?side7 ?side8 ?side9 ?side10 ?side11 ?side12 A7.out).mono ?_
        (case side1 => exact zc_ HR507_1 HB)
        (case side2 => exact HC507_1.out)
        (case side3 => exact zc_ HR507_2 HB)
        (case side4 => exact HC507_2.out)
        (case side5 => exact zc_ HR507_3 HB)
        (case side6 => exact HC507_3.out)
        (case side7 => exact zc_ HR508_1 HB)
        (case side8 => exact HC508_1.out)
        (case side9 => exact zc_ HR508_2 HB)
        (case side10 => exact HC508_2.out)
        (case side11 => exact zc_ HR508_3 HB)
        (case side12 => exact HC508_3.out)
        rintro e w10 ⟨rfl,hb⟩
        refine ⟨_,rfl,?_⟩
        replace HB := zs_ HB hb
        (try clear hb)
        (try clear hb2)
        (try clear hk)
        (try clear hi)
        refine hK.out _ _ ⟨(zx_ HB hw507_0),(zx_ HB hw507_1),(zx_ HB hw507_2),(zx_ HB hw507_3),(zx_ HB hw508_0),(zx_ HB hw508_1),(zx_ HB hw508_2),(zx_ HB hw508_3)⟩ (fun hHeld => ?_)
        clear hK K
        refine norm_ (a' := ?_) ?_ ?_
        rotate_left
        ·show Act.put _ (some 25) _ = _
         simp only [Act.put,p1_,p2_,p3_,i64_w,i32_w]
         rfl
        refine zpu 9 (N := some 26) HT_ ?_
        refine done_ (done_of HT_.out (by kernel_rfl)) ?_
        try go_wp2
        go_roundg k1
        case measure => have := HK1.out;omega
        case rel => exact ⟨(wrap64 (x5_1 + 1)),(by first | rfl | (simp;done) | (simp [*];done)),H',⟨by have := HK1.out;omega⟩,⟨zl_ HB⟩⟩
       ·replace c8 := Bool.eq_false_iff.mpr c8
        subst c8
        have H1 : (some false) = some r := by rw [if_neg (show ¬ (false = true) by decide)] at H;exact H
        clear H
        have H := H1
        clear H1
        obtain rfl := Option.some.inj H
        try go_wp2
        replace HB := am_ (below_drew1 HB.out)
        have p507 : 0 ≤ (x5_1 : Int) := zo_
        have q507 : x5_1 < (l0.length : Int) := zo_
        obtain ⟨ad507,A507_1,c507_1,A507_2,c507_2,A507_3,c507_3,e507,hx507_0,hx507_1,hx507_2,hx507_3,hl507_1,hi507_1,hl507_2,hi507_2,hl507_3,hi507_3⟩ := at_T52 HR0.out x5_1 p507 q507
        have hw507_3 := hx507_3
        have hw507_2 := hx507_2
        have hw507_1 := hx507_1
        have hw507_0 := hx507_0
        have hv507_1 := hx507_1
        have hv507_2 := hx507_2
        have hv507_3 := hx507_3
        cases e507
        replace hx507_0 := zx_ HB hx507_0
        replace hx507_1 := zx_ HB hx507_1
        replace hx507_2 := zx_ HB hx507_2
        replace hx507_3 := zx_ HB hx507_3
        have HR507_1 := am_ hi507_1
        have HC507_1 := am_ hl507_1
        clear hi507_1 hl507_1
        have HR507_2 := am_ hi507_2
        have HC507_2 := am_ hl507_2
        clear hi507_2 hl507_2
        have HR507_3 := am_ hi507_3
        have HC507_3 := am_ hl507_3
        clear hi507_3 hl507_3
        replace p507 := eq_true p507
        replace q507 := eq_true q507
        have p508 : 0 ≤ (x5_1 : Int) := zo_
        have q508 : x5_1 < (l1.length : Int) := zo_
        obtain ⟨ad508,A508_1,c508_1,A508_2,c508_2,A508_3,c508_3,e508,hx508_0,hx508_1,hx508_2,hx508_3,hl508_1,hi508_1,hl508_2,hi508_2,hl508_3,hi508_3⟩ := at_T52 HR1.out x5_1 p508 q508
        have hw508_3 := hx508_3
        have hw508_2 := hx508_2
        have hw508_1 := hx508_1
        have hw508_0 := hx508_0
        have hv508_1 := hx508_1
        have hv508_2 := hx508_2
        have hv508_3 := hx508_3
        cases e508
        replace hx508_0 := zx_ HB hx508_0
        replace hx508_1 := zx_ HB hx508_1
        replace hx508_2 := zx_ HB hx508_2
        replace hx508_3 := zx_ HB hx508_3
        have HR508_1 := am_ hi508_1
        have HC508_1 := am_ hl508_1
        clear hi508_1 hl508_1
        have HR508_2 := am_ hi508_2
        have HC508_2 := am_ hl508_2
        clear hi508_2 hl508_2
        have HR508_3 := am_ hi508_3
        have HC508_3 := am_ hl508_3
        clear hi508_3 hl508_3
        replace p508 := eq_true p508
        replace q508 := eq_true q508
        refine start_ (n := 10) (S := fun w' => w'.cell? (ad507.add ((x5_1).toNat * 4)) = some (.int .i64 ((rd_T52 l0 x5_1).f0)) ∧ w'.cell? ⟨(ad507.add ((x5_1).toNat * 4)).block,(ad507.add ((x5_1).toNat * 4)).off + 1,none⟩ = some (.slice A507_1 ((rd_T52 l0 x5_1).f1).length c507_1) ∧ w'.cell? ⟨(ad507.add ((x5_1).toNat * 4)).block,(ad507.add ((x5_1).toNat * 4)).off + 2,none⟩ = some (.slice A507_2 ((rd_T52 l0 x5_1).f2).length c507_2) ∧ w'.cell? ⟨(ad507.add ((x5_1).toNat * 4)).block,(ad507.add ((x5_1).toNat * 4)).off + 3,none⟩ = some (.slice A507_3 ((rd_T52 l0 x5_1).f3).length c507_3) ∧ w'.cell? (ad508.add ((x5_1).toNat * 4)) = some (.int .i64 ((rd_T52 l1 x5_1).f0)) ∧ w'.cell? ⟨(ad508.add ((x5_1).toNat * 4)).block,(ad508.add ((x5_1).toNat * 4)).off + 1,none⟩ = some (.slice A508_1 ((rd_T52 l1 x5_1).f1).length c508_1) ∧ w'.cell? ⟨(ad508.add ((x5_1).toNat * 4)).block,(ad508.add ((x5_1).toNat * 4)).off + 2,none⟩ = some (.slice A508_2 ((rd_T52 l1 x5_1).f2).length c508_2) ∧ w'.cell? ⟨(ad508.add ((x5_1).toNat * 4)).block,(ad508.add ((x5_1).toNat * 4)).off + 3,none⟩ = some (.slice A508_3 ((rd_T52 l1 x5_1).f3).length c508_3)) (ds := []) #[false,false,false,false,false,false,false,false,false,false] (by kernel_rfl) rfl rfl ⟨(zx_ HB hw507_0),(zx_ HB hw507_1),(zx_ HB hw507_2),(zx_ HB hw507_3),(zx_ HB hw508_0),(zx_ HB hw508_1),(zx_ HB hw508_2),(zx_ HB hw508_3)⟩ (fun hHeld => ?_);refine with_tabW laws_eqKeySignatureS.tab6 laws_eqKeySignatureS.bits6 (fun HT_ HW_ => ?_)
        generalize wr.drew = w11 at HB HR507_1 HR507_2 HR507_3 HR508_1 HR508_2 HR508_3 hx507_0 hx507_1 hx507_2 hx507_3 hx508_0 hx508_1 hx508_2 hx508_3 hHeld ⊢
        refine zpu 0 (N := some 17) HT_ ?_
        refine zpu 1 (N := some 18) HT_ ?_
        refine zpu 2 (N := some 19) HT_ ?_
        refine zpu 4 (N := some 21) HT_ ?_
        refine zpu 5 (N := some 22) HT_ ?_
        refine zpu 6 (N := some 23) HT_ ?_
        refine ztk 3 (N := some 20) HT_ HW_ hHeld ?_
        refine ztk 7 (N := some 24) HT_ HW_ hHeld ?_
        refine zon 8 (N := some 25) HT_ (fun K hK => ?_)
        refine zgo Tryd.func130 #[.agg #[.int .i64 ((rd_T52 l0 x5_1).f0),.slice A507_1 ((rd_T52 l0 x5_1).f1).length c507_1,.slice A507_2 ((rd_T52 l0 x5_1).f2).length c507_2,.slice A507_3 ((rd_T52 l0 x5_1).f3).length c507_3],.agg #[.int .i64 ((rd_T52 l1 x5_1).f0),.slice A508_1 ((rd_T52 l1 x5_1).f1).length c508_1,.slice A508_2 ((rd_T52 l1 x5_1).f2).length c508_2,.slice A508_3 ((rd_T52 l1 x5_1).f3).length c508_3]] ?_
        with_reducible refine (laws_eqKeySignature.calls k1 ((rd_T52 l0 x5_1).f0) _ _ ((rd_T52 l0 x5_1).f1) _ _ ((rd_T52 l0 x5_1).f2) _ _ ((rd_T52 l0 x5_1).f3) ((rd_T52 l1 x5_1).f0) _ _ ((rd_T52 l1 x5_1).f1) _ _ ((rd_T52 l1 x5_1).f2) _ _ ((rd_T52 l1 x5_1).f3) false _ ?side1 ?side2 ?side3 ?side4 ?side5 ?side6 ?side7 ?side8 ?side9 ?side10 ?side11 ?side12 A7.out).mono ?_
        (case side1 => exact zc_ HR507_1 HB)
        (case side2 => exact HC507_1.out)
        (case side3 => exact zc_ HR507_2 HB)
        (case side4 => exact HC507_2.out)
        (case side5 => exact zc_ HR507_3 HB)
        (case side6 => exact HC507_3.out)
        (case side7 => exact zc_ HR508_1 HB)
        (case side8 => exact HC508_1.out)
        (case side9 => exact zc_ HR508_2 HB)
        (case side10 => exact HC508_2.out)
        (case side11 => exact zc_ HR508_3 HB)
        (case side12 => exact HC508_3.out)
        rintro e w12 ⟨rfl,hb⟩
        refine ⟨_,rfl,?_⟩
        replace HB := zs_ HB hb
        (try clear hb)
        (try clear hb2)
        (try clear hk)
        (try clear hi)
        refine hK.out _ _ ⟨(zx_ HB hw507_0),(zx_ HB hw507_1),(zx_ HB hw507_2),(zx_ HB hw507_3),(zx_ HB hw508_0),(zx_ HB hw508_1),(zx_ HB hw508_2),(zx_ HB hw508_3)⟩ (fun hHeld => ?_)
        clear hK K
        refine norm_ (a' := ?_) ?_ ?_
        rotate_left
        ·show Act.put _ (some 25) _ = _
         simp only [Act.put,p1_,p2_,p3_,i64_w,i32_w]
         rfl
        refine zpu 9 (N := some 26) HT_ ?_
        refine done_ (done_of HT_.out (by kernel_rfl)) ?_
        try go_wp2
        go_ret
        exact ⟨zt_,zl_ HB⟩
      ·rw [if_neg c6] at H
       exact absurd H (by simp)
     ·rw [if_neg c5] at H
      exact absurd H (by simp)
    ·rw [if_neg c4] at H
     have c4b0 : decide (x5_1 < (l0.length : Int)) = false := decide_eq_false c4
     clear c4
     obtain rfl := Option.some.inj H
     go_wp2
     go_ret
     exact ⟨zt_,zl_ HB⟩
 ·rw [if_neg c3] at H
  have c3b0 : ((l0.length : Int) == (l1.length : Int)) = false := beq_eq_false_iff_ne.mpr c3
  have c3b1 : ((l0.length : Int) != (l1.length : Int)) = true := bne_iff_ne.mpr c3
  have c3b2 : (l0.length == l1.length) = false := by first | simpa using c3 | (simp at c3 ⊢;omega)
  obtain rfl := Option.some.inj H
  go_enter Tryd.func68,Tryd.ntmps68
  go_wp2
  go_ret
  exact ⟨zt_,zl_ HB⟩
set_option maxHeartbeats 8000000 in
set_option maxRecDepth 100000 in
theorem laws_eqCertificate.calls (k : Nat) (a0_0 : ByteArray) (a0_1 : Int) (a0_2 : Int) (a0_3 : Int) (A0_4 : Option Addr) (c0_4 : Nat) (l0_4 : List Int) (A0_5 : Option Addr) (c0_5 : Nat) (l0_5 : List (S52)) (a1_0 : ByteArray) (a1_1 : Int) (a1_2 : Int) (a1_3 : Int) (A1_4 : Option Addr) (c1_4 : Nat) (l1_4 : List Int) (A1_5 : Option Addr) (c1_5 : Nat) (l1_5 : List (S52)) (r : Bool) (w : World) (hr0_4 : Kd.C (Kd.int .i64) w A0_4 l0_4.length l0_4) (hc0_4 : l0_4.length ≤ c0_4) (hr0_5 : Kd.C k52 w A0_5 l0_5.length l0_5) (hc0_5 : l0_5.length ≤ c0_5) (hr1_4 : Kd.C (Kd.int .i64) w A1_4 l1_4.length l1_4) (hc1_4 : l1_4.length ≤ c1_4) (hr1_5 : Kd.C k52 w A1_5 l1_5.length l1_5) (hc1_5 : l1_5.length ≤ c1_5) (h : laws_eqCertificate.f k a0_0 a0_1 a0_2 a0_3 l0_4 l0_5 a1_0 a1_1 a1_2 a1_3 l1_4 l1_5 = some r) :
  Calls Tryd.prog 14 #[.agg #[.string a0_0,.int .i64 a0_1,.int .i64 a0_2,.int .i64 a0_3,.slice A0_4 l0_4.length c0_4,.slice A0_5 l0_5.length c0_5],.agg #[.string a1_0,.int .i64 a1_1,.int .i64 a1_2,.int .i64 a1_3,.slice A1_4 l1_4.length c1_4,.slice A1_5 l1_5.length c1_5]] w fun e w' => e = .returned (.bool r) ∧ Below w.heap.size w w' := by
 have hu33 := Tryd.underlying33
 have hu30 := Tryd.underlying30
 have HR0_4 := am_ hr0_4
 have HC0_4 := am_ hc0_4
 clear hr0_4 hc0_4
 have HR0_5 := am_ hr0_5
 have HC0_5 := am_ hc0_5
 clear hr0_5 hc0_5
 have HR1_4 := am_ hr1_4
 have HC1_4 := am_ hc1_4
 clear hr1_4 hc1_4
 have HR1_5 := am_ hr1_5
 have HC1_5 := am_ hc1_5
 clear hr1_5 hc1_5
 have HB := am_ (Below.refl w.heap.size w)
 have H : ((laws_eqGrant.f a0_0 a0_1 a0_2 a0_3 a1_0 a1_1 a1_2 a1_3).bind fun t512 => (if t512 = true then ((laws_eqIntS.f k l0_4 l1_4).bind fun t513 => (if t513 = true then ((laws_eqKeySignatureS.f k l0_5 l1_5).bind fun t514 => (if t514 = true then (some true) else (some false))) else (some false))) else (some false))) = some r := h
 clear h
 replace H := Option.bind_eq_some_iff.mp H
 obtain ⟨t512,A30,H⟩ := H
 try dsimp only at H
 have A3 := am_ A30
 clear A30
 by_cases c4 : t512 = true
 ·subst c4
  have H1 : ((laws_eqIntS.f k l0_4 l1_4).bind fun t513 => (if t513 = true then ((laws_eqKeySignatureS.f k l0_5 l1_5).bind fun t514 => (if t514 = true then (some true) else (some false))) else (some false))) = some r := by rw [if_pos rfl] at H;exact H
  clear H
  have H := H1
  clear H1
  replace H := Option.bind_eq_some_iff.mp H
  obtain ⟨t513,A50,H⟩ := H
  try dsimp only at H
  have A5 := am_ A50
  clear A50
  by_cases c6 : t513 = true
  ·subst c6
   have H1 : ((laws_eqKeySignatureS.f k l0_5 l1_5).bind fun t514 => (if t514 = true then (some true) else (some false))) = some r := by rw [if_pos rfl] at H;exact H
   clear H
   have H := H1
   clear H1
   replace H := Option.bind_eq_some_iff.mp H
   obtain ⟨t514,A70,H⟩ := H
   try dsimp only at H
   have A7 := am_ A70
   clear A70
   by_cases c8 : t514 = true
   ·subst c8
    have H1 : (some true) = some r := by rw [if_pos rfl] at H;exact H
    clear H
    have H := H1
    clear H1
    obtain rfl := Option.some.inj H
    go_enter Tryd.func14,Tryd.ntmps14
    go_wp2_with (first | ((with_reducible refine gate_dst (N := 2) rfl ?_);refine zbx (N := 2) (cs := #[.string a0_0,.int .i64 a0_1,.int .i64 a0_2,.int .i64 a0_3,.slice A0_4 l0_4.length c0_4,.slice A0_5 l0_5.length c0_5]) (t := 33) ?_;intro gb510 hg w9 hbox hb;have BK510 := am_ (hbox);have GW510 := zw_ HB hg;have GE510 := zw_ HB hg;replace HB := zs_ HB hb;clear hb hbox hg) | ((with_reducible refine gate_dst (N := 3) rfl ?_);refine zbx (N := 3) (cs := #[.string a1_0,.int .i64 a1_1,.int .i64 a1_2,.int .i64 a1_3,.slice A1_4 l1_4.length c1_4,.slice A1_5 l1_5.length c1_5]) (t := 33) ?_;intro gb511 hg w10 hbox hb;have BK511 := am_ (hbox);have GW511 := zw_ HB hg;have GE511 := zw_ HB hg;replace HB := zs_ HB hb;have NB510_511 := zl hg BK510;have NB511_510 := zg hg BK510;replace BK510 := zb BK510 hb;clear hb hbox hg;have hnb11 := NB510_511.out;have hnc11 := NB511_510.out;obtain ⟨hcz12_0,hcz12_1,hcz12_2,hcz12_3,hcz12_4,hcz12_5,hfz12_0,hfz12_1,hfz12_2,hfz12_3,hfz12_4,hfz12_5⟩ := zc6 BK510;obtain ⟨hcz13_0,hcz13_1,hcz13_2,hcz13_3,hcz13_4,hcz13_5,hfz13_0,hfz13_1,hfz13_2,hfz13_3,hfz13_4,hfz13_5⟩ := zc6 BK511) | ((with_reducible refine gate_callee (f := 67) rfl ?_);refine zgl (some 9) Tryd.func67 #[.agg #[.string a0_0,.int .i64 a0_1,.int .i64 a0_2,.int .i64 a0_3],.agg #[.string a1_0,.int .i64 a1_1,.int .i64 a1_2,.int .i64 a1_3]] ?_;(with_reducible refine (laws_eqGrant.calls a0_0 a0_1 a0_2 a0_3 a1_0 a1_1 a1_2 a1_3 true _ A3.out).mono ?_);rintro e w14 ⟨rfl,hb⟩;refine ⟨_,rfl,?_⟩;replace BK510 := zb BK510 hb;replace BK511 := zb BK511 hb;replace HB := zs_ HB hb;(try clear hb);(try clear hb2);(try clear hk);(try clear hi);obtain ⟨hcz15_0,hcz15_1,hcz15_2,hcz15_3,hcz15_4,hcz15_5,hfz15_0,hfz15_1,hfz15_2,hfz15_3,hfz15_4,hfz15_5⟩ := zc6 BK510;obtain ⟨hcz16_0,hcz16_1,hcz16_2,hcz16_3,hcz16_4,hcz16_5,hfz16_0,hfz16_1,hfz16_2,hfz16_3,hfz16_4,hfz16_5⟩ := zc6 BK511) | ((with_reducible refine gate_callee (f := 20) rfl ?_);refine zgl (some 15) Tryd.func20 #[.slice A0_4 l0_4.length c0_4,.slice A1_4 l1_4.length c1_4] ?_;(with_reducible refine (laws_eqIntS.calls k _ _ l0_4 _ _ l1_4 true _ ?side1 ?side2 ?side3 ?side4 A5.out).mono ?_);(case side1 => exact zc_ HR0_4 HB);(case side2 => exact HC0_4.out);(case side3 => exact zc_ HR1_4 HB);(case side4 => exact HC1_4.out);rintro e w' ⟨rfl,⟨nd,rfl⟩⟩;refine ⟨_,rfl,?_⟩) | ((with_reducible refine gate_callee (f := 68) rfl ?_);refine zgl (some 21) Tryd.func68 #[.slice A0_5 l0_5.length c0_5,.slice A1_5 l1_5.length c1_5] ?_;(with_reducible refine (laws_eqKeySignatureS.calls k _ _ l0_5 _ _ l1_5 true _ ?side1 ?side2 ?side3 ?side4 A7.out).mono ?_);(case side1 => repeat (first | exact (Kd.C_below HR0_5.out (zl_ HB)) | (with_reducible refine Kd.C_alloc ?_ _) | (with_reducible refine Kd.C_drewN ?_ _) | (with_reducible refine Kd.C_drew ?_)));(case side2 => exact HC0_5.out);(case side3 => repeat (first | exact (Kd.C_below HR1_5.out (zl_ HB)) | (with_reducible refine Kd.C_alloc ?_ _) | (with_reducible refine Kd.C_drewN ?_ _) | (with_reducible refine Kd.C_drew ?_)));(case side4 => exact HC1_5.out);rintro e w17 ⟨rfl,hb⟩;refine ⟨_,rfl,?_⟩;replace BK510 := zb BK510 hb;replace BK511 := zb BK511 hb;replace HB := zs_ HB hb;(try clear hb);(try clear hb2);(try clear hk);(try clear hi)))
    go_ret
    exact ⟨zt_,zl_ HB⟩
   ·replace c8 := Bool.eq_false_iff.mpr c8
    subst c8
    have H1 : (some false) = some r := by rw [if_neg (show ¬ (false = true) by decide)] at H;exact H
    clear H
    have H := H1
    clear H1
    obtain rfl := Option.some.inj H
    go_enter Tryd.func14,Tryd.ntmps14
    go_wp2_with (first | ((with_reducible refine gate_dst (N := 2) rfl ?_);refine zbx (N := 2) (cs := #[.string a0_0,.int .i64 a0_1,.int .i64 a0_2,.int .i64 a0_3,.slice A0_4 l0_4.length c0_4,.slice A0_5 l0_5.length c0_5]) (t := 33) ?_;intro gb510 hg w18 hbox hb;have BK510 := am_ (hbox);have GW510 := zw_ HB hg;have GE510 := zw_ HB hg;replace HB := zs_ HB hb;clear hb hbox hg) | ((with_reducible refine gate_dst (N := 3) rfl ?_);refine zbx (N := 3) (cs := #[.string a1_0,.int .i64 a1_1,.int .i64 a1_2,.int .i64 a1_3,.slice A1_4 l1_4.length c1_4,.slice A1_5 l1_5.length c1_5]) (t := 33) ?_;intro gb511 hg w19 hbox hb;have BK511 := am_ (hbox);have GW511 := zw_ HB hg;have GE511 := zw_ HB hg;replace HB := zs_ HB hb;have NB510_511 := zl hg BK510;have NB511_510 := zg hg BK510;replace BK510 := zb BK510 hb;clear hb hbox hg;have hnb20 := NB510_511.out;have hnc20 := NB511_510.out;obtain ⟨hcz21_0,hcz21_1,hcz21_2,hcz21_3,hcz21_4,hcz21_5,hfz21_0,hfz21_1,hfz21_2,hfz21_3,hfz21_4,hfz21_5⟩ := zc6 BK510;obtain ⟨hcz22_0,hcz22_1,hcz22_2,hcz22_3,hcz22_4,hcz22_5,hfz22_0,hfz22_1,hfz22_2,hfz22_3,hfz22_4,hfz22_5⟩ := zc6 BK511) | ((with_reducible refine gate_callee (f := 67) rfl ?_);refine zgl (some 9) Tryd.func67 #[.agg #[.string a0_0,.int .i64 a0_1,.int .i64 a0_2,.int .i64 a0_3],.agg #[.string a1_0,.int .i64 a1_1,.int .i64 a1_2,.int .i64 a1_3]] ?_;(with_reducible refine (laws_eqGrant.calls a0_0 a0_1 a0_2 a0_3 a1_0 a1_1 a1_2 a1_3 true _ A3.out).mono ?_);rintro e w23 ⟨rfl,hb⟩;refine ⟨_,rfl,?_⟩;replace BK510 := zb BK510 hb;replace BK511 := zb BK511 hb;replace HB := zs_ HB hb;(try clear hb);(try clear hb2);(try clear hk);(try clear hi);obtain ⟨hcz24_0,hcz24_1,hcz24_2,hcz24_3,hcz24_4,hcz24_5,hfz24_0,hfz24_1,hfz24_2,hfz24_3,hfz24_4,hfz24_5⟩ := zc6 BK510;obtain ⟨hcz25_0,hcz25_1,hcz25_2,hcz25_3,hcz25_4,hcz25_5,hfz25_0,hfz25_1,hfz25_2,hfz25_3,hfz25_4,hfz25_5⟩ := zc6 BK511) | ((with_reducible refine gate_callee (f := 20) rfl ?_);refine zgl (some 15) Tryd.func20 #[.slice A0_4 l0_4.length c0_4,.slice A1_4 l1_4.length c1_4] ?_;(with_reducible refine (laws_eqIntS.calls k _ _ l0_4 _ _ l1_4 true _ ?side1 ?side2 ?side3 ?side4 A5.out).mono ?_);(case side1 => exact zc_ HR0_4 HB);(case side2 => exact HC0_4.out);(case side3 => exact zc_ HR1_4 HB);(case side4 => exact HC1_4.out);rintro e w' ⟨rfl,⟨nd,rfl⟩⟩;refine ⟨_,rfl,?_⟩) | ((with_reducible refine gate_callee (f := 68) rfl ?_);refine zgl (some 21) Tryd.func68 #[.slice A0_5 l0_5.length c0_5,.slice A1_5 l1_5.length c1_5] ?_;(with_reducible refine (laws_eqKeySignatureS.calls k _ _ l0_5 _ _ l1_5 false _ ?side1 ?side2 ?side3 ?side4 A7.out).mono ?_);(case side1 => repeat (first | exact (Kd.C_below HR0_5.out (zl_ HB)) | (with_reducible refine Kd.C_alloc ?_ _) | (with_reducible refine Kd.C_drewN ?_ _) | (with_reducible refine Kd.C_drew ?_)));(case side2 => exact HC0_5.out);(case side3 => repeat (first | exact (Kd.C_below HR1_5.out (zl_ HB)) | (with_reducible refine Kd.C_alloc ?_ _) | (with_reducible refine Kd.C_drewN ?_ _) | (with_reducible refine Kd.C_drew ?_)));(case side4 => exact HC1_5.out);rintro e w26 ⟨rfl,hb⟩;refine ⟨_,rfl,?_⟩;replace HB := zs_ HB hb;(try clear hb);(try clear hb2);(try clear hk);(try clear hi)))
    go_ret
    exact ⟨zt_,zl_ HB⟩
  ·replace c6 := Bool.eq_false_iff.mpr c6
   subst c6
   have H1 : (some false) = some r := by rw [if_neg (show ¬ (false = true) by decide)] at H;exact H
   clear H
   have H := H1
   clear H1
   obtain rfl := Option.some.inj H
   go_enter Tryd.func14,Tryd.ntmps14
   go_wp2_with (first | ((with_reducible refine gate_dst (N := 2) rfl ?_);refine zbx (N := 2) (cs := #[.string a0_0,.int .i64 a0_1,.int .i64 a0_2,.int .i64 a0_3,.slice A0_4 l0_4.length c0_4,.slice A0_5 l0_5.length c0_5]) (t := 33) ?_;intro gb510 hg w27 hbox hb;have BK510 := am_ (hbox);have GW510 := zw_ HB hg;have GE510 := zw_ HB hg;replace HB := zs_ HB hb;clear hb hbox hg) | ((with_reducible refine gate_dst (N := 3) rfl ?_);refine zbx (N := 3) (cs := #[.string a1_0,.int .i64 a1_1,.int .i64 a1_2,.int .i64 a1_3,.slice A1_4 l1_4.length c1_4,.slice A1_5 l1_5.length c1_5]) (t := 33) ?_;intro gb511 hg w28 hbox hb;have BK511 := am_ (hbox);have GW511 := zw_ HB hg;have GE511 := zw_ HB hg;replace HB := zs_ HB hb;have NB510_511 := zl hg BK510;have NB511_510 := zg hg BK510;replace BK510 := zb BK510 hb;clear hb hbox hg;have hnb29 := NB510_511.out;have hnc29 := NB511_510.out;obtain ⟨hcz30_0,hcz30_1,hcz30_2,hcz30_3,hcz30_4,hcz30_5,hfz30_0,hfz30_1,hfz30_2,hfz30_3,hfz30_4,hfz30_5⟩ := zc6 BK510;obtain ⟨hcz31_0,hcz31_1,hcz31_2,hcz31_3,hcz31_4,hcz31_5,hfz31_0,hfz31_1,hfz31_2,hfz31_3,hfz31_4,hfz31_5⟩ := zc6 BK511) | ((with_reducible refine gate_callee (f := 67) rfl ?_);refine zgl (some 9) Tryd.func67 #[.agg #[.string a0_0,.int .i64 a0_1,.int .i64 a0_2,.int .i64 a0_3],.agg #[.string a1_0,.int .i64 a1_1,.int .i64 a1_2,.int .i64 a1_3]] ?_;(with_reducible refine (laws_eqGrant.calls a0_0 a0_1 a0_2 a0_3 a1_0 a1_1 a1_2 a1_3 true _ A3.out).mono ?_);rintro e w32 ⟨rfl,hb⟩;refine ⟨_,rfl,?_⟩;replace BK510 := zb BK510 hb;replace BK511 := zb BK511 hb;replace HB := zs_ HB hb;(try clear hb);(try clear hb2);(try clear hk);(try clear hi);obtain ⟨hcz33_0,hcz33_1,hcz33_2,hcz33_3,hcz33_4,hcz33_5,hfz33_0,hfz33_1,hfz33_2,hfz33_3,hfz33_4,hfz33_5⟩ := zc6 BK510;obtain ⟨hcz34_0,hcz34_1,hcz34_2,hcz34_3,hcz34_4,hcz34_5,hfz34_0,hfz34_1,hfz34_2,hfz34_3,hfz34_4,hfz34_5⟩ := zc6 BK511) | ((with_reducible refine gate_callee (f := 20) rfl ?_);refine zgl (some 15) Tryd.func20 #[.slice A0_4 l0_4.length c0_4,.slice A1_4 l1_4.length c1_4] ?_;(with_reducible refine (laws_eqIntS.calls k _ _ l0_4 _ _ l1_4 false _ ?side1 ?side2 ?side3 ?side4 A5.out).mono ?_);(case side1 => exact zc_ HR0_4 HB);(case side2 => exact HC0_4.out);(case side3 => exact zc_ HR1_4 HB);(case side4 => exact HC1_4.out);rintro e w' ⟨rfl,⟨nd,rfl⟩⟩;refine ⟨_,rfl,?_⟩))
   go_ret
   exact ⟨zt_,zl_ HB⟩
 ·replace c4 := Bool.eq_false_iff.mpr c4
  subst c4
  have H1 : (some false) = some r := by rw [if_neg (show ¬ (false = true) by decide)] at H;exact H
  clear H
  have H := H1
  clear H1
  obtain rfl := Option.some.inj H
  go_enter Tryd.func14,Tryd.ntmps14
  go_wp2_with (first | ((with_reducible refine gate_dst (N := 2) rfl ?_);refine zbx (N := 2) (cs := #[.string a0_0,.int .i64 a0_1,.int .i64 a0_2,.int .i64 a0_3,.slice A0_4 l0_4.length c0_4,.slice A0_5 l0_5.length c0_5]) (t := 33) ?_;intro gb510 hg w35 hbox hb;have BK510 := am_ (hbox);have GW510 := zw_ HB hg;have GE510 := zw_ HB hg;replace HB := zs_ HB hb;clear hb hbox hg) | ((with_reducible refine gate_dst (N := 3) rfl ?_);refine zbx (N := 3) (cs := #[.string a1_0,.int .i64 a1_1,.int .i64 a1_2,.int .i64 a1_3,.slice A1_4 l1_4.length c1_4,.slice A1_5 l1_5.length c1_5]) (t := 33) ?_;intro gb511 hg w36 hbox hb;have BK511 := am_ (hbox);have GW511 := zw_ HB hg;have GE511 := zw_ HB hg;replace HB := zs_ HB hb;have NB510_511 := zl hg BK510;have NB511_510 := zg hg BK510;replace BK510 := zb BK510 hb;clear hb hbox hg;have hnb37 := NB510_511.out;have hnc37 := NB511_510.out;obtain ⟨hcz38_0,hcz38_1,hcz38_2,hcz38_3,hcz38_4,hcz38_5,hfz38_0,hfz38_1,hfz38_2,hfz38_3,hfz38_4,hfz38_5⟩ := zc6 BK510;obtain ⟨hcz39_0,hcz39_1,hcz39_2,hcz39_3,hcz39_4,hcz39_5,hfz39_0,hfz39_1,hfz39_2,hfz39_3,hfz39_4,hfz39_5⟩ := zc6 BK511) | ((with_reducible refine gate_callee (f := 67) rfl ?_);refine zgl (some 9) Tryd.func67 #[.agg #[.string a0_0,.int .i64 a0_1,.int .i64 a0_2,.int .i64 a0_3],.agg #[.string a1_0,.int .i64 a1_1,.int .i64 a1_2,.int .i64 a1_3]] ?_;(with_reducible refine (laws_eqGrant.calls a0_0 a0_1 a0_2 a0_3 a1_0 a1_1 a1_2 a1_3 false _ A3.out).mono ?_);rintro e w40 ⟨rfl,hb⟩;refine ⟨_,rfl,?_⟩;replace HB := zs_ HB hb;(try clear hb);(try clear hb2);(try clear hk);(try clear hi)))
  go_ret
  exact ⟨zt_,zl_ HB⟩
set_option maxHeartbeats 8000000 in
set_option maxRecDepth 100000 in
theorem laws_szGrant.calls (a0_0 : ByteArray) (a0_1 : Int) (a0_2 : Int) (a0_3 : Int) (a1 : Int) (r : Int) (w : World) (h : laws_szGrant.f a0_0 a0_1 a0_2 a0_3 a1 = some r) :
  Calls Tryd.prog 15 #[.agg #[.string a0_0,.int .i64 a0_1,.int .i64 a0_2,.int .i64 a0_3],.int .i64 a1] w fun e w' => e = .returned (.int .i64 r) ∧ Below w.heap.size w w' := by
 have hu23 := Tryd.underlying23
 have HB := am_ (Below.refl w.heap.size w)
 have H : (if (wrap64 (a1 - (a0_0.size : Int))) < 0 then (some (-1)) else (some (wrap64 (a1 - (a0_0.size : Int))))) = some r := h
 clear h
 by_cases c3 : (wrap64 (a1 - (a0_0.size : Int))) < 0
 ·rw [if_pos c3] at H
  have c3b0 : decide ((wrap64 (a1 - (a0_0.size : Int))) < 0) = true := decide_eq_true c3
  clear c3
  obtain rfl := Option.some.inj H
  go_enter Tryd.func15,Tryd.ntmps15
  go_wp2_with (first | ((with_reducible refine gate_dst (N := 2) rfl ?_);refine zbx (N := 2) (cs := #[.string a0_0,.int .i64 a0_1,.int .i64 a0_2,.int .i64 a0_3]) (t := 23) ?_;intro gb101 hg w4 hbox hb;have BK101 := am_ (hbox);have GW101 := zw_ HB hg;have GE101 := zw_ HB hg;replace HB := zs_ HB hb;clear hb hbox hg;obtain ⟨hcz5_0,hcz5_1,hcz5_2,hcz5_3,hfz5_0,hfz5_1,hfz5_2,hfz5_3⟩ := zc4 BK101))
  go_ret
  exact ⟨zt_,zl_ HB⟩
 ·rw [if_neg c3] at H
  have c3b0 : decide ((wrap64 (a1 - (a0_0.size : Int))) < 0) = false := decide_eq_false c3
  clear c3
  obtain rfl := Option.some.inj H
  go_enter Tryd.func15,Tryd.ntmps15
  go_wp2_with (first | ((with_reducible refine gate_dst (N := 2) rfl ?_);refine zbx (N := 2) (cs := #[.string a0_0,.int .i64 a0_1,.int .i64 a0_2,.int .i64 a0_3]) (t := 23) ?_;intro gb101 hg w6 hbox hb;have BK101 := am_ (hbox);have GW101 := zw_ HB hg;have GE101 := zw_ HB hg;replace HB := zs_ HB hb;clear hb hbox hg;obtain ⟨hcz7_0,hcz7_1,hcz7_2,hcz7_3,hfz7_0,hfz7_1,hfz7_2,hfz7_3⟩ := zc4 BK101))
  go_ret
  exact ⟨zt_,zl_ HB⟩
set_option maxHeartbeats 8000000 in
set_option maxRecDepth 100000 in
theorem laws_szIntS.calls (A0 : Option Addr) (c0 : Nat) (l0 : List Int) (a1 : Int) (r : Int) (w : World) (hr0 : Kd.C (Kd.int .i64) w A0 l0.length l0) (hc0 : l0.length ≤ c0) (h : laws_szIntS.f l0 a1 = some r) :
  Calls Tryd.prog 49 #[.slice A0 l0.length c0,.int .i64 a1] w fun e w' => e = .returned (.int .i64 r) ∧ Drawn0 w w' := by
 have HR0 := am_ hr0
 have HC0 := am_ hc0
 clear hr0 hc0
 have H : (if (wrap64 (a1 - (l0.length : Int))) < 0 then (some (-1)) else (some (wrap64 (a1 - (l0.length : Int))))) = some r := h
 clear h
 by_cases c3 : (wrap64 (a1 - (l0.length : Int))) < 0
 ·rw [if_pos c3] at H
  have c3b0 : decide ((wrap64 (a1 - (l0.length : Int))) < 0) = true := decide_eq_true c3
  clear c3
  obtain rfl := Option.some.inj H
  go_enter Tryd.func49,Tryd.ntmps49
  go_wp2
  go_ret
  exact ⟨by first | rfl | (simp;done) | (simp [*];done),by repeat (first | exact Drawn0.refl _ | apply Drawn0.step)⟩
 ·rw [if_neg c3] at H
  have c3b0 : decide ((wrap64 (a1 - (l0.length : Int))) < 0) = false := decide_eq_false c3
  clear c3
  obtain rfl := Option.some.inj H
  go_enter Tryd.func49,Tryd.ntmps49
  go_wp2
  go_ret
  exact ⟨by first | rfl | (simp;done) | (simp [*];done),by repeat (first | exact Drawn0.refl _ | apply Drawn0.step)⟩
set_option maxHeartbeats 8000000 in
set_option maxRecDepth 100000 in
theorem laws_szStringS.calls (k : Nat) (A0 : Option Addr) (c0 : Nat) (l0 : List ByteArray) (a1 : Int) (r : Int) (w : World) (hr0 : Kd.C Kd.string w A0 l0.length l0) (hc0 : l0.length ≤ c0) (h : laws_szStringS.f k l0 a1 = some r) :
  Calls Tryd.prog 151 #[.slice A0 l0.length c0,.int .i64 a1] w fun e w' => e = .returned (.int .i64 r) ∧ Drawn0 w w' := by
 have HR0 := am_ hr0
 have HC0 := am_ hc0
 clear hr0 hc0
 have H : (if (wrap64 (a1 - (l0.length : Int))) < 0 then (some (-1)) else (laws_szStringS.l0 k l0 (wrap64 (a1 - (l0.length : Int))) 0)) = some r := h
 clear h
 by_cases c3 : (wrap64 (a1 - (l0.length : Int))) < 0
 ·rw [if_pos c3] at H
  have c3b0 : decide ((wrap64 (a1 - (l0.length : Int))) < 0) = true := decide_eq_true c3
  clear c3
  obtain rfl := Option.some.inj H
  go_enter Tryd.func151,Tryd.ntmps151
  go_wp2
  go_ret
  exact ⟨by first | rfl | (simp;done) | (simp [*];done),by repeat (first | exact Drawn0.refl _ | apply Drawn0.step)⟩
 ·rw [if_neg c3] at H
  have c3b0 : decide ((wrap64 (a1 - (l0.length : Int))) < 0) = false := decide_eq_false c3
  clear c3
  have H' := am_ H
  clear H
  go_enter Tryd.func151,Tryd.ntmps151
  go_wp2
  go_loopg [1,5] k (fun kq v1 v5 w' => ∃ (x1_1 : Int) (x5_1 : Int),v1 = .int .i64 x1_1 ∧ v5 = .int .i64 x5_1 ∧ Aside0 (laws_szStringS.l0 kq l0 x1_1 x5_1 = some r) ∧ Aside0 (kq ≤ k) ∧ Drawn0 w w')
  case atStart => exact ⟨(wrap64 (a1 - (l0.length : Int))),(0),(by first | rfl | (simp;done) | (simp [*];done)),(by first | rfl | (simp;done) | (simp [*];done)),H',⟨Nat.le_refl _⟩,by repeat (first | exact Drawn0.refl _ | apply Drawn0.step)⟩
  case round =>
   clear H'
   try clear c1
   try clear p2
   try clear c3
   try clear c3b0
   obtain ⟨x1_1,x5_1,rfl,rfl,HA,HK1,⟨m1,rfl⟩⟩ := hrel
   cases gk with
   | zero => exact absurd HA.out (by simp [laws_szStringS.l0])
   | succ k1 =>
    have H := HA.out
    clear HA
    simp only [laws_szStringS.l0] at H
    by_cases c4 : x5_1 < (l0.length : Int)
    ·rw [if_pos c4] at H
     have c4b0 : decide (x5_1 < (l0.length : Int)) = true := decide_eq_true c4
     clear c4
     by_cases c5 : 0 ≤ x5_1
     ·rw [if_pos c5] at H
      have c5b0 : decide (0 ≤ x5_1) = true := decide_eq_true c5
      clear c5
      by_cases c6 : (wrap64 (x1_1 - ((rdOf ByteArray.empty l0 x5_1).size : Int))) < 0
      ·rw [if_pos c6] at H
       have c6b0 : decide ((wrap64 (x1_1 - ((rdOf ByteArray.empty l0 x5_1).size : Int))) < 0) = true := decide_eq_true c6
       clear c6
       obtain rfl := Option.some.inj H
       have p102 : 0 ≤ (x5_1 : Int) := zo_
       have q102 : x5_1 < (l0.length : Int) := zo_
       obtain ⟨ad102,e102,hx102_0⟩ := Kd.at_string HR0.out x5_1 p102 q102
       cases e102
       replace p102 := eq_true p102
       replace q102 := eq_true q102
       go_wp2
       go_ret
       exact ⟨by first | rfl | (simp;done) | (simp [*];done),by repeat (first | exact Drawn0.refl _ | apply Drawn0.step)⟩
      ·rw [if_neg c6] at H
       have c6b0 : decide ((wrap64 (x1_1 - ((rdOf ByteArray.empty l0 x5_1).size : Int))) < 0) = false := decide_eq_false c6
       clear c6
       have H' := am_ H
       clear H
       have p102 : 0 ≤ (x5_1 : Int) := zo_
       have q102 : x5_1 < (l0.length : Int) := zo_
       obtain ⟨ad102,e102,hx102_0⟩ := Kd.at_string HR0.out x5_1 p102 q102
       cases e102
       replace p102 := eq_true p102
       replace q102 := eq_true q102
       go_wp2
       go_roundg k1
       case measure => have := HK1.out;omega
       case rel => exact ⟨(wrap64 (x1_1 - ((rdOf ByteArray.empty l0 x5_1).size : Int))),(wrap64 (x5_1 + 1)),(by first | rfl | (simp;done) | (simp [*];done)),(by first | rfl | (simp;done) | (simp [*];done)),H',⟨by have := HK1.out;omega⟩,by repeat (first | exact Drawn0.refl _ | apply Drawn0.step)⟩
     ·rw [if_neg c5] at H
      exact absurd H (by simp)
    ·rw [if_neg c4] at H
     have c4b0 : decide (x5_1 < (l0.length : Int)) = false := decide_eq_false c4
     clear c4
     obtain rfl := Option.some.inj H
     go_wp2
     go_ret
     exact ⟨by first | rfl | (simp;done) | (simp [*];done),by repeat (first | exact Drawn0.refl _ | apply Drawn0.step)⟩
set_option maxHeartbeats 8000000 in
set_option maxRecDepth 100000 in
theorem laws_szKeySignature.calls (k : Nat) (a0_0 : Int) (A0_1 : Option Addr) (c0_1 : Nat) (l0_1 : List ByteArray) (A0_2 : Option Addr) (c0_2 : Nat) (l0_2 : List ByteArray) (A0_3 : Option Addr) (c0_3 : Nat) (l0_3 : List ByteArray) (a1 : Int) (r : Int) (w : World) (hr0_1 : Kd.C Kd.string w A0_1 l0_1.length l0_1) (hc0_1 : l0_1.length ≤ c0_1) (hr0_2 : Kd.C Kd.string w A0_2 l0_2.length l0_2) (hc0_2 : l0_2.length ≤ c0_2) (hr0_3 : Kd.C Kd.string w A0_3 l0_3.length l0_3) (hc0_3 : l0_3.length ≤ c0_3) (h : laws_szKeySignature.f k a0_0 l0_1 l0_2 l0_3 a1 = some r) :
  Calls Tryd.prog 109 #[.agg #[.int .i64 a0_0,.slice A0_1 l0_1.length c0_1,.slice A0_2 l0_2.length c0_2,.slice A0_3 l0_3.length c0_3],.int .i64 a1] w fun e w' => e = .returned (.int .i64 r) ∧ Below w.heap.size w w' := by
 have hu139 := Tryd.underlying139
 have HR0_1 := am_ hr0_1
 have HC0_1 := am_ hc0_1
 clear hr0_1 hc0_1
 have HR0_2 := am_ hr0_2
 have HC0_2 := am_ hc0_2
 clear hr0_2 hc0_2
 have HR0_3 := am_ hr0_3
 have HC0_3 := am_ hc0_3
 clear hr0_3 hc0_3
 have HB := am_ (Below.refl w.heap.size w)
 have H : ((laws_szStringS.f k l0_1 a1).bind fun t104 => (if t104 < 0 then (some (-1)) else ((laws_szStringS.f k l0_2 t104).bind fun t105 => (if t105 < 0 then (some (-1)) else ((laws_szStringS.f k l0_3 t105).bind fun t106 => (if t106 < 0 then (some (-1)) else (some t106))))))) = some r := h
 clear h
 replace H := Option.bind_eq_some_iff.mp H
 obtain ⟨t104,A30,H⟩ := H
 try dsimp only at H
 have A3 := am_ A30
 clear A30
 by_cases c4 : t104 < 0
 ·rw [if_pos c4] at H
  have c4b0 : decide (t104 < 0) = true := decide_eq_true c4
  clear c4
  obtain rfl := Option.some.inj H
  go_enter Tryd.func109,Tryd.ntmps109
  go_wp2_with (first | ((with_reducible refine gate_dst (N := 2) rfl ?_);refine zbx (N := 2) (cs := #[.int .i64 a0_0,.slice A0_1 l0_1.length c0_1,.slice A0_2 l0_2.length c0_2,.slice A0_3 l0_3.length c0_3]) (t := 139) ?_;intro gb103 hg w5 hbox hb;have BK103 := am_ (hbox);have GW103 := zw_ HB hg;have GE103 := zw_ HB hg;replace HB := zs_ HB hb;clear hb hbox hg;obtain ⟨hcz6_0,hcz6_1,hcz6_2,hcz6_3,hfz6_0,hfz6_1,hfz6_2,hfz6_3⟩ := zc4 BK103) | ((with_reducible refine gate_callee (f := 151) rfl ?_);refine zgl (some 8) Tryd.func151 #[.slice A0_1 l0_1.length c0_1,.int .i64 a1] ?_;(with_reducible refine (laws_szStringS.calls k _ _ l0_1 a1 t104 _ ?side1 ?side2 A3.out).mono ?_);(case side1 => exact zc_ HR0_1 HB);(case side2 => exact HC0_1.out);rintro e w' ⟨rfl,⟨nd,rfl⟩⟩;refine ⟨_,rfl,?_⟩))
  go_ret
  exact ⟨zt_,zl_ HB⟩
 ·rw [if_neg c4] at H
  have c4b0 : decide (t104 < 0) = false := decide_eq_false c4
  clear c4
  replace H := Option.bind_eq_some_iff.mp H
  obtain ⟨t105,A70,H⟩ := H
  try dsimp only at H
  have A7 := am_ A70
  clear A70
  by_cases c8 : t105 < 0
  ·rw [if_pos c8] at H
   have c8b0 : decide (t105 < 0) = true := decide_eq_true c8
   clear c8
   obtain rfl := Option.some.inj H
   go_enter Tryd.func109,Tryd.ntmps109
   go_wp2_with (first | ((with_reducible refine gate_dst (N := 2) rfl ?_);refine zbx (N := 2) (cs := #[.int .i64 a0_0,.slice A0_1 l0_1.length c0_1,.slice A0_2 l0_2.length c0_2,.slice A0_3 l0_3.length c0_3]) (t := 139) ?_;intro gb103 hg w9 hbox hb;have BK103 := am_ (hbox);have GW103 := zw_ HB hg;have GE103 := zw_ HB hg;replace HB := zs_ HB hb;clear hb hbox hg;obtain ⟨hcz10_0,hcz10_1,hcz10_2,hcz10_3,hfz10_0,hfz10_1,hfz10_2,hfz10_3⟩ := zc4 BK103) | ((with_reducible refine gate_callee (f := 151) rfl ?_);refine zgl (some 8) Tryd.func151 #[.slice A0_1 l0_1.length c0_1,.int .i64 a1] ?_;(with_reducible refine (laws_szStringS.calls k _ _ l0_1 a1 t104 _ ?side1 ?side2 A3.out).mono ?_);(case side1 => exact zc_ HR0_1 HB);(case side2 => exact HC0_1.out);rintro e w' ⟨rfl,⟨nd,rfl⟩⟩;refine ⟨_,rfl,?_⟩) | ((with_reducible refine gate_callee (f := 151) rfl ?_);refine zgl (some 14) Tryd.func151 #[.slice A0_2 l0_2.length c0_2,.int .i64 t104] ?_;(with_reducible refine (laws_szStringS.calls k _ _ l0_2 t104 t105 _ ?side1 ?side2 A7.out).mono ?_);(case side1 => repeat (first | exact (Kd.C_below HR0_2.out (zl_ HB)) | (with_reducible refine Kd.C_alloc ?_ _) | (with_reducible refine Kd.C_drewN ?_ _) | (with_reducible refine Kd.C_drew ?_)));(case side2 => exact HC0_2.out);rintro e w' ⟨rfl,⟨nd,rfl⟩⟩;refine ⟨_,rfl,?_⟩))
   go_ret
   exact ⟨zt_,zl_ HB⟩
  ·rw [if_neg c8] at H
   have c8b0 : decide (t105 < 0) = false := decide_eq_false c8
   clear c8
   replace H := Option.bind_eq_some_iff.mp H
   obtain ⟨t106,A110,H⟩ := H
   try dsimp only at H
   have A11 := am_ A110
   clear A110
   by_cases c12 : t106 < 0
   ·rw [if_pos c12] at H
    have c12b0 : decide (t106 < 0) = true := decide_eq_true c12
    clear c12
    obtain rfl := Option.some.inj H
    go_enter Tryd.func109,Tryd.ntmps109
    go_wp2_with (first | ((with_reducible refine gate_dst (N := 2) rfl ?_);refine zbx (N := 2) (cs := #[.int .i64 a0_0,.slice A0_1 l0_1.length c0_1,.slice A0_2 l0_2.length c0_2,.slice A0_3 l0_3.length c0_3]) (t := 139) ?_;intro gb103 hg w13 hbox hb;have BK103 := am_ (hbox);have GW103 := zw_ HB hg;have GE103 := zw_ HB hg;replace HB := zs_ HB hb;clear hb hbox hg;obtain ⟨hcz14_0,hcz14_1,hcz14_2,hcz14_3,hfz14_0,hfz14_1,hfz14_2,hfz14_3⟩ := zc4 BK103) | ((with_reducible refine gate_callee (f := 151) rfl ?_);refine zgl (some 8) Tryd.func151 #[.slice A0_1 l0_1.length c0_1,.int .i64 a1] ?_;(with_reducible refine (laws_szStringS.calls k _ _ l0_1 a1 t104 _ ?side1 ?side2 A3.out).mono ?_);(case side1 => exact zc_ HR0_1 HB);(case side2 => exact HC0_1.out);rintro e w' ⟨rfl,⟨nd,rfl⟩⟩;refine ⟨_,rfl,?_⟩) | ((with_reducible refine gate_callee (f := 151) rfl ?_);refine zgl (some 14) Tryd.func151 #[.slice A0_2 l0_2.length c0_2,.int .i64 t104] ?_;(with_reducible refine (laws_szStringS.calls k _ _ l0_2 t104 t105 _ ?side1 ?side2 A7.out).mono ?_);(case side1 => repeat (first | exact (Kd.C_below HR0_2.out (zl_ HB)) | (with_reducible refine Kd.C_alloc ?_ _) | (with_reducible refine Kd.C_drewN ?_ _) | (with_reducible refine Kd.C_drew ?_)));(case side2 => exact HC0_2.out);rintro e w' ⟨rfl,⟨nd,rfl⟩⟩;refine ⟨_,rfl,?_⟩) | ((with_reducible refine gate_callee (f := 151) rfl ?_);refine zgl (some 20) Tryd.func151 #[.slice A0_3 l0_3.length c0_3,.int .i64 t105] ?_;(with_reducible refine (laws_szStringS.calls k _ _ l0_3 t105 t106 _ ?side1 ?side2 A11.out).mono ?_);(case side1 => repeat (first | exact (Kd.C_below HR0_3.out (zl_ HB)) | (with_reducible refine Kd.C_alloc ?_ _) | (with_reducible refine Kd.C_drewN ?_ _) | (with_reducible refine Kd.C_drew ?_)));(case side2 => exact HC0_3.out);rintro e w' ⟨rfl,⟨nd,rfl⟩⟩;refine ⟨_,rfl,?_⟩))
    go_ret
    exact ⟨zt_,zl_ HB⟩
   ·rw [if_neg c12] at H
    have c12b0 : decide (t106 < 0) = false := decide_eq_false c12
    clear c12
    obtain rfl := Option.some.inj H
    go_enter Tryd.func109,Tryd.ntmps109
    go_wp2_with (first | ((with_reducible refine gate_dst (N := 2) rfl ?_);refine zbx (N := 2) (cs := #[.int .i64 a0_0,.slice A0_1 l0_1.length c0_1,.slice A0_2 l0_2.length c0_2,.slice A0_3 l0_3.length c0_3]) (t := 139) ?_;intro gb103 hg w15 hbox hb;have BK103 := am_ (hbox);have GW103 := zw_ HB hg;have GE103 := zw_ HB hg;replace HB := zs_ HB hb;clear hb hbox hg;obtain ⟨hcz16_0,hcz16_1,hcz16_2,hcz16_3,hfz16_0,hfz16_1,hfz16_2,hfz16_3⟩ := zc4 BK103) | ((with_reducible refine gate_callee (f := 151) rfl ?_);refine zgl (some 8) Tryd.func151 #[.slice A0_1 l0_1.length c0_1,.int .i64 a1] ?_;(with_reducible refine (laws_szStringS.calls k _ _ l0_1 a1 t104 _ ?side1 ?side2 A3.out).mono ?_);(case side1 => exact zc_ HR0_1 HB);(case side2 => exact HC0_1.out);rintro e w' ⟨rfl,⟨nd,rfl⟩⟩;refine ⟨_,rfl,?_⟩) | ((with_reducible refine gate_callee (f := 151) rfl ?_);refine zgl (some 14) Tryd.func151 #[.slice A0_2 l0_2.length c0_2,.int .i64 t104] ?_;(with_reducible refine (laws_szStringS.calls k _ _ l0_2 t104 t105 _ ?side1 ?side2 A7.out).mono ?_);(case side1 => repeat (first | exact (Kd.C_below HR0_2.out (zl_ HB)) | (with_reducible refine Kd.C_alloc ?_ _) | (with_reducible refine Kd.C_drewN ?_ _) | (with_reducible refine Kd.C_drew ?_)));(case side2 => exact HC0_2.out);rintro e w' ⟨rfl,⟨nd,rfl⟩⟩;refine ⟨_,rfl,?_⟩) | ((with_reducible refine gate_callee (f := 151) rfl ?_);refine zgl (some 20) Tryd.func151 #[.slice A0_3 l0_3.length c0_3,.int .i64 t105] ?_;(with_reducible refine (laws_szStringS.calls k _ _ l0_3 t105 t106 _ ?side1 ?side2 A11.out).mono ?_);(case side1 => repeat (first | exact (Kd.C_below HR0_3.out (zl_ HB)) | (with_reducible refine Kd.C_alloc ?_ _) | (with_reducible refine Kd.C_drewN ?_ _) | (with_reducible refine Kd.C_drew ?_)));(case side2 => exact HC0_3.out);rintro e w' ⟨rfl,⟨nd,rfl⟩⟩;refine ⟨_,rfl,?_⟩))
    go_ret
    exact ⟨zt_,zl_ HB⟩
set_option maxHeartbeats 8000000 in
set_option maxRecDepth 100000 in
theorem laws_szKeySignatureS.calls (k : Nat) (A0 : Option Addr) (c0 : Nat) (l0 : List (S139)) (a1 : Int) (r : Int) (w : World) (hr0 : Kd.C k139 w A0 l0.length l0) (hc0 : l0.length ≤ c0) (h : laws_szKeySignatureS.f k l0 a1 = some r) :
  Calls Tryd.prog 50 #[.slice A0 l0.length c0,.int .i64 a1] w fun e w' => e = .returned (.int .i64 r) ∧ Below w.heap.size w w' := by
 have hu139 := Tryd.underlying139
 have HR0 := am_ hr0
 have HC0 := am_ hc0
 clear hr0 hc0
 have HB := am_ (Below.refl w.heap.size w)
 have H : (if (wrap64 (a1 - (l0.length : Int))) < 0 then (some (-1)) else (laws_szKeySignatureS.l0 k l0 (wrap64 (a1 - (l0.length : Int))) 0)) = some r := h
 clear h
 by_cases c3 : (wrap64 (a1 - (l0.length : Int))) < 0
 ·rw [if_pos c3] at H
  have c3b0 : decide ((wrap64 (a1 - (l0.length : Int))) < 0) = true := decide_eq_true c3
  clear c3
  obtain rfl := Option.some.inj H
  go_enter Tryd.func50,Tryd.ntmps50
  go_wp2
  go_ret
  exact ⟨zt_,zl_ HB⟩
 ·rw [if_neg c3] at H
  have c3b0 : decide ((wrap64 (a1 - (l0.length : Int))) < 0) = false := decide_eq_false c3
  clear c3
  have H' := am_ H
  clear H
  go_enter Tryd.func50,Tryd.ntmps50
  go_wp2
  go_loopg [1,5] k (fun kq v1 v5 w' => ∃ (x1_1 : Int) (x5_1 : Int),v1 = .int .i64 x1_1 ∧ v5 = .int .i64 x5_1 ∧ Aside0 (laws_szKeySignatureS.l0 kq l0 x1_1 x5_1 = some r) ∧ Aside0 (kq ≤ k) ∧ Aside0 (Below w.heap.size w w'))
  case atStart => exact ⟨(wrap64 (a1 - (l0.length : Int))),(0),(by first | rfl | (simp;done) | (simp [*];done)),(by first | rfl | (simp;done) | (simp [*];done)),H',⟨Nat.le_refl _⟩,⟨zl_ HB⟩⟩
  case round =>
   clear H'
   try clear p2
   try clear c3
   try clear c3b0
   obtain ⟨x1_1,x5_1,rfl,rfl,HA,HK1,HB⟩ := hrel
   cases gk with
   | zero => exact absurd HA.out (by simp [laws_szKeySignatureS.l0])
   | succ k1 =>
    have H := HA.out
    clear HA
    simp only [laws_szKeySignatureS.l0] at H
    by_cases c4 : x5_1 < (l0.length : Int)
    ·rw [if_pos c4] at H
     have c4b0 : decide (x5_1 < (l0.length : Int)) = true := decide_eq_true c4
     clear c4
     by_cases c5 : 0 ≤ x5_1
     ·rw [if_pos c5] at H
      have c5b0 : decide (0 ≤ x5_1) = true := decide_eq_true c5
      clear c5
      replace H := Option.bind_eq_some_iff.mp H
      obtain ⟨t108,A60,H⟩ := H
      try dsimp only at H
      have A6 := am_ A60
      clear A60
      by_cases c7 : t108 < 0
      ·rw [if_pos c7] at H
       have c7b0 : decide (t108 < 0) = true := decide_eq_true c7
       clear c7
       obtain rfl := Option.some.inj H
       have p107 : 0 ≤ (x5_1 : Int) := zo_
       have q107 : x5_1 < (l0.length : Int) := zo_
       obtain ⟨ad107,A107_1,c107_1,A107_2,c107_2,A107_3,c107_3,e107,hx107_0,hx107_1,hx107_2,hx107_3,hl107_1,hi107_1,hl107_2,hi107_2,hl107_3,hi107_3⟩ := at_T139 HR0.out x5_1 p107 q107
       have hv107_1 := hx107_1
       have hv107_2 := hx107_2
       have hv107_3 := hx107_3
       cases e107
       replace hx107_0 := zx_ HB hx107_0
       replace hx107_1 := zx_ HB hx107_1
       replace hx107_2 := zx_ HB hx107_2
       replace hx107_3 := zx_ HB hx107_3
       have HR107_1 := am_ hi107_1
       have HC107_1 := am_ hl107_1
       clear hi107_1 hl107_1
       have HR107_2 := am_ hi107_2
       have HC107_2 := am_ hl107_2
       clear hi107_2 hl107_2
       have HR107_3 := am_ hi107_3
       have HC107_3 := am_ hl107_3
       clear hi107_3 hl107_3
       replace p107 := eq_true p107
       replace q107 := eq_true q107
       go_wp2_with (first | ((with_reducible refine gate_callee (f := 109) rfl ?_);refine zgl (some 23) Tryd.func109 #[.agg #[.int .i64 ((rd_T139 l0 x5_1).f0),.slice A107_1 ((rd_T139 l0 x5_1).f1).length c107_1,.slice A107_2 ((rd_T139 l0 x5_1).f2).length c107_2,.slice A107_3 ((rd_T139 l0 x5_1).f3).length c107_3],.int .i64 x1_1] ?_;(with_reducible refine (laws_szKeySignature.calls k1 ((rd_T139 l0 x5_1).f0) _ _ ((rd_T139 l0 x5_1).f1) _ _ ((rd_T139 l0 x5_1).f2) _ _ ((rd_T139 l0 x5_1).f3) x1_1 t108 _ ?side1 ?side2 ?side3 ?side4 ?side5 ?side6 A6.out).mono ?_);(case side1 => exact zc_ HR107_1 HB);(case side2 => exact HC107_1.out);(case side3 => exact zc_ HR107_2 HB);(case side4 => exact HC107_2.out);(case side5 => exact zc_ HR107_3 HB);(case side6 => exact HC107_3.out);rintro e w8 ⟨rfl,hb⟩;refine ⟨_,rfl,?_⟩;replace HB := zs_ HB hb;(try clear hb);(try clear hb2);(try clear hk);(try clear hi)))
       go_ret
       exact ⟨zt_,zl_ HB⟩
      ·rw [if_neg c7] at H
       have c7b0 : decide (t108 < 0) = false := decide_eq_false c7
       clear c7
       have H' := am_ H
       clear H
       have p107 : 0 ≤ (x5_1 : Int) := zo_
       have q107 : x5_1 < (l0.length : Int) := zo_
       obtain ⟨ad107,A107_1,c107_1,A107_2,c107_2,A107_3,c107_3,e107,hx107_0,hx107_1,hx107_2,hx107_3,hl107_1,hi107_1,hl107_2,hi107_2,hl107_3,hi107_3⟩ := at_T139 HR0.out x5_1 p107 q107
       have hv107_1 := hx107_1
       have hv107_2 := hx107_2
       have hv107_3 := hx107_3
       cases e107
       replace hx107_0 := zx_ HB hx107_0
       replace hx107_1 := zx_ HB hx107_1
       replace hx107_2 := zx_ HB hx107_2
       replace hx107_3 := zx_ HB hx107_3
       have HR107_1 := am_ hi107_1
       have HC107_1 := am_ hl107_1
       clear hi107_1 hl107_1
       have HR107_2 := am_ hi107_2
       have HC107_2 := am_ hl107_2
       clear hi107_2 hl107_2
       have HR107_3 := am_ hi107_3
       have HC107_3 := am_ hl107_3
       clear hi107_3 hl107_3
       replace p107 := eq_true p107
       replace q107 := eq_true q107
       go_wp2_with (first | ((with_reducible refine gate_callee (f := 109) rfl ?_);refine zgl (some 23) Tryd.func109 #[.agg #[.int .i64 ((rd_T139 l0 x5_1).f0),.slice A107_1 ((rd_T139 l0 x5_1).f1).length c107_1,.slice A107_2 ((rd_T139 l0 x5_1).f2).length c107_2,.slice A107_3 ((rd_T139 l0 x5_1).f3).length c107_3],.int .i64 x1_1] ?_;(with_reducible refine (laws_szKeySignature.calls k1 ((rd_T139 l0 x5_1).f0) _ _ ((rd_T139 l0 x5_1).f1) _ _ ((rd_T139 l0 x5_1).f2) _ _ ((rd_T139 l0 x5_1).f3) x1_1 t108 _ ?side1 ?side2 ?side3 ?side4 ?side5 ?side6 A6.out).mono ?_);(case side1 => exact zc_ HR107_1 HB);(case side2 => exact HC107_1.out);(case side3 => exact zc_ HR107_2 HB);(case side4 => exact HC107_2.out);(case side5 => exact zc_ HR107_3 HB);(case side6 => exact HC107_3.out);rintro e w9 ⟨rfl,hb⟩;refine ⟨_,rfl,?_⟩;replace HB := zs_ HB hb;(try clear hb);(try clear hb2);(try clear hk);(try clear hi)))
       go_roundg k1
       case measure => have := HK1.out;omega
       case rel => exact ⟨(t108),(wrap64 (x5_1 + 1)),(by first | rfl | (simp;done) | (simp [*];done)),(by first | rfl | (simp;done) | (simp [*];done)),H',⟨by have := HK1.out;omega⟩,⟨zl_ HB⟩⟩
     ·rw [if_neg c5] at H
      exact absurd H (by simp)
    ·rw [if_neg c4] at H
     have c4b0 : decide (x5_1 < (l0.length : Int)) = false := decide_eq_false c4
     clear c4
     obtain rfl := Option.some.inj H
     go_wp2
     go_ret
     exact ⟨zt_,zl_ HB⟩
set_option maxHeartbeats 8000000 in
set_option maxRecDepth 100000 in
theorem laws_szCertificate.calls (k : Nat) (a0_0 : ByteArray) (a0_1 : Int) (a0_2 : Int) (a0_3 : Int) (A0_4 : Option Addr) (c0_4 : Nat) (l0_4 : List Int) (A0_5 : Option Addr) (c0_5 : Nat) (l0_5 : List (S139)) (a1 : Int) (r : Int) (w : World) (hr0_4 : Kd.C (Kd.int .i64) w A0_4 l0_4.length l0_4) (hc0_4 : l0_4.length ≤ c0_4) (hr0_5 : Kd.C k139 w A0_5 l0_5.length l0_5) (hc0_5 : l0_5.length ≤ c0_5) (h : laws_szCertificate.f k a0_0 a0_1 a0_2 a0_3 l0_4 l0_5 a1 = some r) :
  Calls Tryd.prog 10 #[.agg #[.string a0_0,.int .i64 a0_1,.int .i64 a0_2,.int .i64 a0_3,.slice A0_4 l0_4.length c0_4,.slice A0_5 l0_5.length c0_5],.int .i64 a1] w fun e w' => e = .returned (.int .i64 r) ∧ Below w.heap.size w w' := by
 have hu27 := Tryd.underlying27
 have hu23 := Tryd.underlying23
 have HR0_4 := am_ hr0_4
 have HC0_4 := am_ hc0_4
 clear hr0_4 hc0_4
 have HR0_5 := am_ hr0_5
 have HC0_5 := am_ hc0_5
 clear hr0_5 hc0_5
 have HB := am_ (Below.refl w.heap.size w)
 have H : ((laws_szGrant.f a0_0 a0_1 a0_2 a0_3 a1).bind fun t110 => (if t110 < 0 then (some (-1)) else ((laws_szIntS.f l0_4 t110).bind fun t111 => (if t111 < 0 then (some (-1)) else ((laws_szKeySignatureS.f k l0_5 t111).bind fun t112 => (if t112 < 0 then (some (-1)) else (some t112))))))) = some r := h
 clear h
 replace H := Option.bind_eq_some_iff.mp H
 obtain ⟨t110,A30,H⟩ := H
 try dsimp only at H
 have A3 := am_ A30
 clear A30
 by_cases c4 : t110 < 0
 ·rw [if_pos c4] at H
  have c4b0 : decide (t110 < 0) = true := decide_eq_true c4
  clear c4
  obtain rfl := Option.some.inj H
  go_enter Tryd.func10,Tryd.ntmps10
  go_wp2_with (first | ((with_reducible refine gate_dst (N := 2) rfl ?_);refine zbx (N := 2) (cs := #[.string a0_0,.int .i64 a0_1,.int .i64 a0_2,.int .i64 a0_3,.slice A0_4 l0_4.length c0_4,.slice A0_5 l0_5.length c0_5]) (t := 27) ?_;intro gb109 hg w5 hbox hb;have BK109 := am_ (hbox);have GW109 := zw_ HB hg;have GE109 := zw_ HB hg;replace HB := zs_ HB hb;clear hb hbox hg;obtain ⟨hcz6_0,hcz6_1,hcz6_2,hcz6_3,hcz6_4,hcz6_5,hfz6_0,hfz6_1,hfz6_2,hfz6_3,hfz6_4,hfz6_5⟩ := zc6 BK109) | ((with_reducible refine gate_callee (f := 15) rfl ?_);refine zgl (some 8) Tryd.func15 #[.agg #[.string a0_0,.int .i64 a0_1,.int .i64 a0_2,.int .i64 a0_3],.int .i64 a1] ?_;(with_reducible refine (laws_szGrant.calls a0_0 a0_1 a0_2 a0_3 a1 t110 _ A3.out).mono ?_);rintro e w7 ⟨rfl,hb⟩;refine ⟨_,rfl,?_⟩;replace BK109 := zb BK109 hb;replace HB := zs_ HB hb;(try clear hb);(try clear hb2);(try clear hk);(try clear hi)))
  go_ret
  exact ⟨zt_,zl_ HB⟩
 ·rw [if_neg c4] at H
  have c4b0 : decide (t110 < 0) = false := decide_eq_false c4
  clear c4
  replace H := Option.bind_eq_some_iff.mp H
  obtain ⟨t111,A80,H⟩ := H
  try dsimp only at H
  have A8 := am_ A80
  clear A80
  by_cases c9 : t111 < 0
  ·rw [if_pos c9] at H
   have c9b0 : decide (t111 < 0) = true := decide_eq_true c9
   clear c9
   obtain rfl := Option.some.inj H
   go_enter Tryd.func10,Tryd.ntmps10
   go_wp2_with (first | ((with_reducible refine gate_dst (N := 2) rfl ?_);refine zbx (N := 2) (cs := #[.string a0_0,.int .i64 a0_1,.int .i64 a0_2,.int .i64 a0_3,.slice A0_4 l0_4.length c0_4,.slice A0_5 l0_5.length c0_5]) (t := 27) ?_;intro gb109 hg w10 hbox hb;have BK109 := am_ (hbox);have GW109 := zw_ HB hg;have GE109 := zw_ HB hg;replace HB := zs_ HB hb;clear hb hbox hg;obtain ⟨hcz11_0,hcz11_1,hcz11_2,hcz11_3,hcz11_4,hcz11_5,hfz11_0,hfz11_1,hfz11_2,hfz11_3,hfz11_4,hfz11_5⟩ := zc6 BK109) | ((with_reducible refine gate_callee (f := 15) rfl ?_);refine zgl (some 8) Tryd.func15 #[.agg #[.string a0_0,.int .i64 a0_1,.int .i64 a0_2,.int .i64 a0_3],.int .i64 a1] ?_;(with_reducible refine (laws_szGrant.calls a0_0 a0_1 a0_2 a0_3 a1 t110 _ A3.out).mono ?_);rintro e w12 ⟨rfl,hb⟩;refine ⟨_,rfl,?_⟩;replace BK109 := zb BK109 hb;replace HB := zs_ HB hb;(try clear hb);(try clear hb2);(try clear hk);(try clear hi);obtain ⟨hcz13_0,hcz13_1,hcz13_2,hcz13_3,hcz13_4,hcz13_5,hfz13_0,hfz13_1,hfz13_2,hfz13_3,hfz13_4,hfz13_5⟩ := zc6 BK109) | ((with_reducible refine gate_callee (f := 49) rfl ?_);refine zgl (some 14) Tryd.func49 #[.slice A0_4 l0_4.length c0_4,.int .i64 t110] ?_;(with_reducible refine (laws_szIntS.calls _ _ l0_4 t110 t111 _ ?side1 ?side2 A8.out).mono ?_);(case side1 => exact zc_ HR0_4 HB);(case side2 => exact HC0_4.out);rintro e w' ⟨rfl,⟨nd,rfl⟩⟩;refine ⟨_,rfl,?_⟩))
   go_ret
   exact ⟨zt_,zl_ HB⟩
  ·rw [if_neg c9] at H
   have c9b0 : decide (t111 < 0) = false := decide_eq_false c9
   clear c9
   replace H := Option.bind_eq_some_iff.mp H
   obtain ⟨t112,A140,H⟩ := H
   try dsimp only at H
   have A14 := am_ A140
   clear A140
   by_cases c15 : t112 < 0
   ·rw [if_pos c15] at H
    have c15b0 : decide (t112 < 0) = true := decide_eq_true c15
    clear c15
    obtain rfl := Option.some.inj H
    go_enter Tryd.func10,Tryd.ntmps10
    go_wp2_with (first | ((with_reducible refine gate_dst (N := 2) rfl ?_);refine zbx (N := 2) (cs := #[.string a0_0,.int .i64 a0_1,.int .i64 a0_2,.int .i64 a0_3,.slice A0_4 l0_4.length c0_4,.slice A0_5 l0_5.length c0_5]) (t := 27) ?_;intro gb109 hg w16 hbox hb;have BK109 := am_ (hbox);have GW109 := zw_ HB hg;have GE109 := zw_ HB hg;replace HB := zs_ HB hb;clear hb hbox hg;obtain ⟨hcz17_0,hcz17_1,hcz17_2,hcz17_3,hcz17_4,hcz17_5,hfz17_0,hfz17_1,hfz17_2,hfz17_3,hfz17_4,hfz17_5⟩ := zc6 BK109) | ((with_reducible refine gate_callee (f := 15) rfl ?_);refine zgl (some 8) Tryd.func15 #[.agg #[.string a0_0,.int .i64 a0_1,.int .i64 a0_2,.int .i64 a0_3],.int .i64 a1] ?_;(with_reducible refine (laws_szGrant.calls a0_0 a0_1 a0_2 a0_3 a1 t110 _ A3.out).mono ?_);rintro e w18 ⟨rfl,hb⟩;refine ⟨_,rfl,?_⟩;replace BK109 := zb BK109 hb;replace HB := zs_ HB hb;(try clear hb);(try clear hb2);(try clear hk);(try clear hi);obtain ⟨hcz19_0,hcz19_1,hcz19_2,hcz19_3,hcz19_4,hcz19_5,hfz19_0,hfz19_1,hfz19_2,hfz19_3,hfz19_4,hfz19_5⟩ := zc6 BK109) | ((with_reducible refine gate_callee (f := 49) rfl ?_);refine zgl (some 14) Tryd.func49 #[.slice A0_4 l0_4.length c0_4,.int .i64 t110] ?_;(with_reducible refine (laws_szIntS.calls _ _ l0_4 t110 t111 _ ?side1 ?side2 A8.out).mono ?_);(case side1 => exact zc_ HR0_4 HB);(case side2 => exact HC0_4.out);rintro e w' ⟨rfl,⟨nd,rfl⟩⟩;refine ⟨_,rfl,?_⟩) | ((with_reducible refine gate_callee (f := 50) rfl ?_);refine zgl (some 20) Tryd.func50 #[.slice A0_5 l0_5.length c0_5,.int .i64 t111] ?_;(with_reducible refine (laws_szKeySignatureS.calls k _ _ l0_5 t111 t112 _ ?side1 ?side2 A14.out).mono ?_);(case side1 => repeat (first | exact (Kd.C_below HR0_5.out (zl_ HB)) | (with_reducible refine Kd.C_alloc ?_ _) | (with_reducible refine Kd.C_drewN ?_ _) | (with_reducible refine Kd.C_drew ?_)));(case side2 => exact HC0_5.out);rintro e w20 ⟨rfl,hb⟩;refine ⟨_,rfl,?_⟩;replace BK109 := zb BK109 hb;replace HB := zs_ HB hb;(try clear hb);(try clear hb2);(try clear hk);(try clear hi)))
    go_ret
    exact ⟨zt_,zl_ HB⟩
   ·rw [if_neg c15] at H
    have c15b0 : decide (t112 < 0) = false := decide_eq_false c15
    clear c15
    obtain rfl := Option.some.inj H
    go_enter Tryd.func10,Tryd.ntmps10
    go_wp2_with (first | ((with_reducible refine gate_dst (N := 2) rfl ?_);refine zbx (N := 2) (cs := #[.string a0_0,.int .i64 a0_1,.int .i64 a0_2,.int .i64 a0_3,.slice A0_4 l0_4.length c0_4,.slice A0_5 l0_5.length c0_5]) (t := 27) ?_;intro gb109 hg w21 hbox hb;have BK109 := am_ (hbox);have GW109 := zw_ HB hg;have GE109 := zw_ HB hg;replace HB := zs_ HB hb;clear hb hbox hg;obtain ⟨hcz22_0,hcz22_1,hcz22_2,hcz22_3,hcz22_4,hcz22_5,hfz22_0,hfz22_1,hfz22_2,hfz22_3,hfz22_4,hfz22_5⟩ := zc6 BK109) | ((with_reducible refine gate_callee (f := 15) rfl ?_);refine zgl (some 8) Tryd.func15 #[.agg #[.string a0_0,.int .i64 a0_1,.int .i64 a0_2,.int .i64 a0_3],.int .i64 a1] ?_;(with_reducible refine (laws_szGrant.calls a0_0 a0_1 a0_2 a0_3 a1 t110 _ A3.out).mono ?_);rintro e w23 ⟨rfl,hb⟩;refine ⟨_,rfl,?_⟩;replace BK109 := zb BK109 hb;replace HB := zs_ HB hb;(try clear hb);(try clear hb2);(try clear hk);(try clear hi);obtain ⟨hcz24_0,hcz24_1,hcz24_2,hcz24_3,hcz24_4,hcz24_5,hfz24_0,hfz24_1,hfz24_2,hfz24_3,hfz24_4,hfz24_5⟩ := zc6 BK109) | ((with_reducible refine gate_callee (f := 49) rfl ?_);refine zgl (some 14) Tryd.func49 #[.slice A0_4 l0_4.length c0_4,.int .i64 t110] ?_;(with_reducible refine (laws_szIntS.calls _ _ l0_4 t110 t111 _ ?side1 ?side2 A8.out).mono ?_);(case side1 => exact zc_ HR0_4 HB);(case side2 => exact HC0_4.out);rintro e w' ⟨rfl,⟨nd,rfl⟩⟩;refine ⟨_,rfl,?_⟩) | ((with_reducible refine gate_callee (f := 50) rfl ?_);refine zgl (some 20) Tryd.func50 #[.slice A0_5 l0_5.length c0_5,.int .i64 t111] ?_;(with_reducible refine (laws_szKeySignatureS.calls k _ _ l0_5 t111 t112 _ ?side1 ?side2 A14.out).mono ?_);(case side1 => repeat (first | exact (Kd.C_below HR0_5.out (zl_ HB)) | (with_reducible refine Kd.C_alloc ?_ _) | (with_reducible refine Kd.C_drewN ?_ _) | (with_reducible refine Kd.C_drew ?_)));(case side2 => exact HC0_5.out);rintro e w25 ⟨rfl,hb⟩;refine ⟨_,rfl,?_⟩;replace HB := zs_ HB hb;(try clear hb);(try clear hb2);(try clear hk);(try clear hi)))
    go_ret
    exact ⟨zt_,zl_ HB⟩
set_option maxHeartbeats 8000000 in
set_option maxRecDepth 100000 in
theorem laws_toGrant.calls (a0_0 : ByteArray) (a0_1 : Int) (a0_2 : Int) (a0_3 : Int) (r1 : ByteArray) (r2 : Int) (r3 : Int) (r4 : Int) (w : World) (h : laws_toGrant.f a0_0 a0_1 a0_2 a0_3 = some (r1,r2,r3,r4)) :
  Calls Tryd.prog 17 #[.agg #[.string a0_0,.int .i64 a0_1,.int .i64 a0_2,.int .i64 a0_3]] w fun e w' => e = .returned (.agg #[.string r1,.int .i64 r2,.int .i64 r3,.int .i64 r4]) ∧ Below w.heap.size w w' := by
 have hu23 := Tryd.underlying23
 have hu30 := Tryd.underlying30
 have HB := am_ (Below.refl w.heap.size w)
 have H : (some (a0_0,a0_1,a0_2,a0_3)) = some (r1,r2,r3,r4) := h
 clear h
 simp only [Option.some.injEq,Prod.mk.injEq] at H
 obtain ⟨rfl,rfl,rfl,rfl⟩ := H
 go_enter Tryd.func17,Tryd.ntmps17
 go_wp2_with (first | ((with_reducible refine gate_dst (N := 1) rfl ?_);refine zbx (N := 1) (cs := #[.string a0_0,.int .i64 a0_1,.int .i64 a0_2,.int .i64 a0_3]) (t := 23) ?_;intro gb342 hg w2 hbox hb;have BK342 := am_ (hbox);have GW342 := zw_ HB hg;have GE342 := zw_ HB hg;replace HB := zs_ HB hb;clear hb hbox hg) | ((with_reducible refine gate_dst (N := 2) rfl ?_);refine zbx (N := 2) (cs := #[.string ⟨#[]⟩,.int .i64 0,.int .i64 0,.int .i64 0]) (t := 30) ?_;intro gb343 hg w3 hbox hb;have BK343 := am_ (hbox);have GW343 := zw_ HB hg;have GE343 := zw_ HB hg;replace HB := zs_ HB hb;have NB342_343 := zl hg BK342;have NB343_342 := zg hg BK342;replace BK342 := zb BK342 hb;clear hb hbox hg) | ((with_reducible refine gate_dst (N := 3) rfl ?_);refine zbx (N := 3) (cs := #[.string ⟨#[]⟩,.int .i64 0,.int .i64 0,.int .i64 0]) (t := 30) ?_;intro gb344 hg w4 hbox hb;have BK344 := am_ (hbox);have GW344 := zw_ HB hg;have GE344 := zw_ HB hg;replace HB := zs_ HB hb;have NB342_344 := zl hg BK342;have NB344_342 := zg hg BK342;replace BK342 := zb BK342 hb;have NB343_344 := zl hg BK343;have NB344_343 := zg hg BK343;replace BK343 := zb BK343 hb;clear hb hbox hg;have hnb5 := NB342_343.out;have hnc5 := NB343_342.out;have hnb6 := NB342_344.out;have hnc6 := NB344_342.out;obtain ⟨hcz7_0,hcz7_1,hcz7_2,hcz7_3,hfz7_0,hfz7_1,hfz7_2,hfz7_3⟩ := zc4 BK342;have hnb8 := NB344_343.out;have hnc8 := NB343_344.out;obtain ⟨hcz9_0,hcz9_1,hcz9_2,hcz9_3,hfz9_0,hfz9_1,hfz9_2,hfz9_3⟩ := zc4 BK344;obtain ⟨hcz10_0,hcz10_1,hcz10_2,hcz10_3,hfz10_0,hfz10_1,hfz10_2,hfz10_3⟩ := zc4 BK343))
 refine bodyPost_ret (results_cell_row rfl _ _ gb343 30 #[.string a0_0,.int .i64 a0_1,.int .i64 a0_2,.int .i64 a0_3] (0,0) _ rfl (zq BK343) Tryd.underlying30 rfl (by kernel_rfl)) rfl ?_
 exact ⟨zt_,zl_ HB⟩
set_option maxHeartbeats 8000000 in
set_option maxRecDepth 100000 in
theorem laws_toIntS.calls (k : Nat) (A0 : Option Addr) (c0 : Nat) (l0 : List Int) (r : List Int) (w : World) (hr0 : Kd.C (Kd.int .i64) w A0 l0.length l0) (hc0 : l0.length ≤ c0) (h : laws_toIntS.f k l0 = some r) :
  Calls Tryd.prog 18 #[.slice A0 l0.length c0] w fun e w' => ∃ v0_ : Value,e = .returned (v0_) ∧ Kd.R (Kd.int .i64) 3 w' w.heap.size (fun _ => True) v0_ r ∧ Below w.heap.size w w' := by
 have HR0 := am_ hr0
 have HC0 := am_ hc0
 clear hr0 hc0
 have HB := am_ (Below.refl w.heap.size w)
 have H : (if 0 ≤ (l0.length : Int) then (if ((l0.length : Int) : Int).toNat ≤ 35184372088832 then (laws_toIntS.l0 k l0 (List.replicate ((l0.length : Int) : Int).toNat 0) 0) else (none)) else (none)) = some r := h
 clear h
 by_cases c2 : 0 ≤ (l0.length : Int)
 ·rw [if_pos c2] at H
  have c2b0 := eq_true c2
  have c2b1 : decide (0 ≤ (l0.length : Int)) = true := decide_eq_true c2
  clear c2
  by_cases c3 : ((l0.length : Int) : Int).toNat ≤ 35184372088832
  ·rw [if_pos c3] at H
   have c3b0 := eq_true c3
   have c3b1 : decide (((l0.length : Int) : Int).toNat ≤ 35184372088832) = true := decide_eq_true c3
   clear c3
   obtain ⟨y345,hy345⟩ : ∃ y_ : List Int,y_ = (List.replicate ((l0.length : Int) : Int).toNat 0) := ⟨_,rfl⟩
   replace H : (laws_toIntS.l0 k l0 y345 0) = some r := by first | (rw [hy345];with_reducible exact H) | (have H2_ := (Option.bind_some _ _).symm.trans H;rw [hy345];with_reducible exact H2_) | (have H2_ := (Option.bind_some _ _).symm.trans H;with_reducible exact H2_) | with_reducible exact H | (rw [hy345];exact H) | exact H
   have Ny345 := am_ hy345
   clear hy345
   have H' := am_ H
   clear H
   go_enter Tryd.func18,Tryd.ntmps18
   go_wp2_with (first | ((with_reducible refine gate_dst (N := 7) rfl ?_);refine Kd.R_make (Kd.int .i64) _ 3 rfl (N := 7) rfl 24 _ _ rfl (l0.length : Int) rfl rfl Tryd.underlying24 (.int .i64 0) 8 info3 rfl (by decide) (by omega) 0 (ok := fun _ => True) (okp := fun _ => True) rfl (fun _ hk => hk) trivial (zo_) (Nat.le_trans (Nat.mul_le_mul_right _ (zo_ : (l0.length : Int).toNat ≤ 35184372088832)) (by omega)) (Below.refl _ _) (Nat.le_refl _) ?_;intro v346 w4 ho5 hb hg_ hnew_;clear hg_ hnew_;(first | rw [← Ny345.out] at ho5 | (simp only [Int.reduceToNat] at ho5;rw [← Ny345.out] at ho5));have HO347 := am_ (Kd.R_lower ho5 (below_size (zl_ HB)));replace HB := zs_ HB hb;clear hb ho5))
   go_loopg [4] k (fun kq v4 w' => ∃ (x3_1 : List Int) (x4_1 : Int),v4 = .int .i64 x4_1 ∧ Aside0 (laws_toIntS.l0 kq l0 x3_1 x4_1 = some r) ∧ Aside0 (kq ≤ k) ∧ Aside0 (Kd.R (Kd.int .i64) 3 w' w.heap.size (fun _ => True) v346 x3_1) ∧ Aside0 (Below w.heap.size w w'))
   case atStart => exact ⟨(y345),(0),(by first | rfl | (simp;done) | (simp [*];done)),H',⟨Nat.le_refl _⟩,⟨zr HO347⟩,⟨zl_ HB⟩⟩
   case round =>
    clear H'
    try clear c1
    try clear c2
    try clear c2b0
    try clear c2b1
    try clear p2
    try clear c3
    try clear c3b0
    try clear c3b1
    obtain ⟨x3_1,x4_1,rfl,HA,HK1,HO_3,HB⟩ := hrel
    cases gk with
    | zero => exact absurd HA.out (by simp [laws_toIntS.l0])
    | succ k1 =>
     have H := HA.out
     clear HA
     simp only [laws_toIntS.l0] at H
     by_cases c6 : x4_1 < (l0.length : Int)
     ·rw [if_pos c6] at H
      have c6b0 : decide (x4_1 < (l0.length : Int)) = true := decide_eq_true c6
      clear c6
      by_cases c7 : 0 ≤ x4_1
      ·rw [if_pos c7] at H
       have c7b0 : decide (0 ≤ x4_1) = true := decide_eq_true c7
       clear c7
       by_cases c8 : x4_1 < (x3_1.length : Int)
       ·rw [if_pos c8] at H
        have c8b0 : decide (x4_1 < (x3_1.length : Int)) = true := decide_eq_true c8
        clear c8
        obtain ⟨y349,hy349⟩ : ∃ y_ : List Int,y_ = (x3_1.set (x4_1 : Int).toNat (rd l0 x4_1)) := ⟨_,rfl⟩
        replace H : (laws_toIntS.l0 k1 l0 y349 (wrap64 (x4_1 + 1))) = some r := by first | (rw [hy349];with_reducible exact H) | (have H2_ := (Option.bind_some _ _).symm.trans H;rw [hy349];with_reducible exact H2_) | (have H2_ := (Option.bind_some _ _).symm.trans H;with_reducible exact H2_) | with_reducible exact H | (rw [hy349];exact H) | exact H
        have Ny349 := am_ hy349
        clear hy349
        have H' := am_ H
        clear H
        have p348 : 0 ≤ (x4_1 : Int) := zo_
        have q348 : x4_1 < (l0.length : Int) := zo_
        obtain ⟨ad348,e348,hx348_0⟩ := Kd.at_int HR0.out x4_1 p348 q348
        cases e348
        replace hx348_0 := zx_ HB hx348_0
        replace p348 := eq_true p348
        replace q348 := eq_true q348
        have p9 : 0 ≤ (x4_1 : Int) := zo_
        have q9 : (x4_1 : Int) < ((x3_1.length : Int) : Int) := zo_
        obtain ⟨go9,co9,eo9,gb9,gl9,cl9,HG9⟩ := Kd.R_form HO_3.out (by omega)
        (first | cases eo9 | (injection eo9 with ea_ en_ ec_;(first | subst ea_ | (injection ea_ with ea_;subst ea_));subst ec_;clear en_))
        have GB9 := am_ gb9
        have GG9 := am_ HG9
        clear gb9 gl9 HG9
        obtain ⟨hx9_0,hf9_0⟩ := Kd.R_celln 0 HO_3.out (x4_1 : Int) p9 q9
        replace p9 := eq_true p9
        replace q9 := eq_true q9
        have HP10 := Kd.R_putg HO_3.out (x4_1 : Int) (rd l0 x4_1)
        go_wp2_with (first | ((with_reducible refine gate_store (t := 3) (p := 20) rfl ?_);refine store_event (t := 3) (p := 20) (v := ?vo_w11) (w1 := (wr.setCell ⟨go9,(x4_1 : Int).toNat,none⟩ (.int .i64 (rd l0 x4_1)))) ?hg ?ho ?hn ?hr ?_;(case ho => rfl);(case hg => rfl);(case hn => rfl);(case hr => first | (go_simp;done) | (go_simp;rfl));intro w11 hw;have hg : wr.grownBy w11 (some go9) := (by rw [hw];exact HP10.2);have hp_ : Kd.R (Kd.int .i64) 3 w11 w.heap.size (fun _ => True) (.slice (some ⟨go9,0,none⟩) x3_1.length co9) y349 := (by rw [hw,Ny349.out];exact HP10.1);clear HP10;replace HO_3 := am_ (hp_);replace HB := am_ ((by rw [hw];exact below_set (HB.out) GB9.out : Below w.heap.size w w11));clear hg hw hp_))
        go_roundg k1
        case measure => have := HK1.out;omega
        case rel => exact ⟨(y349),(wrap64 (x4_1 + 1)),(by first | rfl | (simp;done) | (simp [*];done)),H',⟨by have := HK1.out;omega⟩,⟨zr HO_3⟩,⟨zl_ HB⟩⟩
       ·rw [if_neg c8] at H
        exact absurd H (by simp)
      ·rw [if_neg c7] at H
       exact absurd H (by simp)
     ·rw [if_neg c6] at H
      have c6b0 : decide (x4_1 < (l0.length : Int)) = false := decide_eq_false c6
      clear c6
      obtain rfl := Option.some.inj H
      go_wp2
      go_ret
      exact ⟨_,zt_,zr HO_3,zl_ HB⟩
  ·rw [if_neg c3] at H
   exact absurd H (by simp)
 ·rw [if_neg c2] at H
  exact absurd H (by simp)
set_option maxHeartbeats 8000000 in
set_option maxRecDepth 100000 in
theorem laws_toStringS.calls (k : Nat) (A0 : Option Addr) (c0 : Nat) (l0 : List ByteArray) (r : List ByteArray) (w : World) (hr0 : Kd.C Kd.string w A0 l0.length l0) (hc0 : l0.length ≤ c0) (h : laws_toStringS.f k l0 = some r) :
  Calls Tryd.prog 155 #[.slice A0 l0.length c0] w fun e w' => ∃ v0_ : Value,e = .returned (v0_) ∧ Kd.R Kd.string 9 w' w.heap.size (fun _ => True) v0_ r ∧ Below w.heap.size w w' := by
 have HR0 := am_ hr0
 have HC0 := am_ hc0
 clear hr0 hc0
 have HB := am_ (Below.refl w.heap.size w)
 have H : (if 0 ≤ (l0.length : Int) then (if ((l0.length : Int) : Int).toNat ≤ 17592186044416 then (laws_toStringS.l0 k l0 (List.replicate ((l0.length : Int) : Int).toNat (⟨#[]⟩ : ByteArray)) 0) else (none)) else (none)) = some r := h
 clear h
 by_cases c2 : 0 ≤ (l0.length : Int)
 ·rw [if_pos c2] at H
  have c2b0 := eq_true c2
  have c2b1 : decide (0 ≤ (l0.length : Int)) = true := decide_eq_true c2
  clear c2
  by_cases c3 : ((l0.length : Int) : Int).toNat ≤ 17592186044416
  ·rw [if_pos c3] at H
   have c3b0 := eq_true c3
   have c3b1 : decide (((l0.length : Int) : Int).toNat ≤ 17592186044416) = true := decide_eq_true c3
   clear c3
   obtain ⟨y350,hy350⟩ : ∃ y_ : List ByteArray,y_ = (List.replicate ((l0.length : Int) : Int).toNat (⟨#[]⟩ : ByteArray)) := ⟨_,rfl⟩
   replace H : (laws_toStringS.l0 k l0 y350 0) = some r := by first | (rw [hy350];with_reducible exact H) | (have H2_ := (Option.bind_some _ _).symm.trans H;rw [hy350];with_reducible exact H2_) | (have H2_ := (Option.bind_some _ _).symm.trans H;with_reducible exact H2_) | with_reducible exact H | (rw [hy350];exact H) | exact H
   have Ny350 := am_ hy350
   clear hy350
   have H' := am_ H
   clear H
   go_enter Tryd.func155,Tryd.ntmps155
   go_wp2_with (first | ((with_reducible refine gate_dst (N := 7) rfl ?_);refine Kd.R_make Kd.string _ 9 rfl (N := 7) rfl 50 _ _ rfl (l0.length : Int) rfl rfl Tryd.underlying50 (.string ⟨#[]⟩) 16 info9 rfl (by decide) (by omega) (⟨#[]⟩ : ByteArray) (ok := fun _ => True) (okp := fun _ => True) rfl (fun _ hk => hk) trivial (zo_) (Nat.le_trans (Nat.mul_le_mul_right _ (zo_ : (l0.length : Int).toNat ≤ 17592186044416)) (by omega)) (Below.refl _ _) (Nat.le_refl _) ?_;intro v351 w4 ho5 hb hg_ hnew_;clear hg_ hnew_;(first | rw [← Ny350.out] at ho5 | (simp only [Int.reduceToNat] at ho5;rw [← Ny350.out] at ho5));have HO352 := am_ (Kd.R_lower ho5 (below_size (zl_ HB)));replace HB := zs_ HB hb;clear hb ho5))
   go_loopg [4] k (fun kq v4 w' => ∃ (x3_1 : List ByteArray) (x4_1 : Int),v4 = .int .i64 x4_1 ∧ Aside0 (laws_toStringS.l0 kq l0 x3_1 x4_1 = some r) ∧ Aside0 (kq ≤ k) ∧ Aside0 (Kd.R Kd.string 9 w' w.heap.size (fun _ => True) v351 x3_1) ∧ Aside0 (Below w.heap.size w w'))
   case atStart => exact ⟨(y350),(0),(by first | rfl | (simp;done) | (simp [*];done)),H',⟨Nat.le_refl _⟩,⟨zr HO352⟩,⟨zl_ HB⟩⟩
   case round =>
    clear H'
    try clear c1
    try clear c2
    try clear c2b0
    try clear c2b1
    try clear p2
    try clear c3
    try clear c3b0
    try clear c3b1
    obtain ⟨x3_1,x4_1,rfl,HA,HK1,HO_3,HB⟩ := hrel
    cases gk with
    | zero => exact absurd HA.out (by simp [laws_toStringS.l0])
    | succ k1 =>
     have H := HA.out
     clear HA
     simp only [laws_toStringS.l0] at H
     by_cases c6 : x4_1 < (l0.length : Int)
     ·rw [if_pos c6] at H
      have c6b0 : decide (x4_1 < (l0.length : Int)) = true := decide_eq_true c6
      clear c6
      by_cases c7 : 0 ≤ x4_1
      ·rw [if_pos c7] at H
       have c7b0 : decide (0 ≤ x4_1) = true := decide_eq_true c7
       clear c7
       by_cases c8 : x4_1 < (x3_1.length : Int)
       ·rw [if_pos c8] at H
        have c8b0 : decide (x4_1 < (x3_1.length : Int)) = true := decide_eq_true c8
        clear c8
        obtain ⟨y354,hy354⟩ : ∃ y_ : List ByteArray,y_ = (x3_1.set (x4_1 : Int).toNat (rdOf ByteArray.empty l0 x4_1)) := ⟨_,rfl⟩
        replace H : (laws_toStringS.l0 k1 l0 y354 (wrap64 (x4_1 + 1))) = some r := by first | (rw [hy354];with_reducible exact H) | (have H2_ := (Option.bind_some _ _).symm.trans H;rw [hy354];with_reducible exact H2_) | (have H2_ := (Option.bind_some _ _).symm.trans H;with_reducible exact H2_) | with_reducible exact H | (rw [hy354];exact H) | exact H
        have Ny354 := am_ hy354
        clear hy354
        have H' := am_ H
        clear H
        have p353 : 0 ≤ (x4_1 : Int) := zo_
        have q353 : x4_1 < (l0.length : Int) := zo_
        obtain ⟨ad353,e353,hx353_0⟩ := Kd.at_string HR0.out x4_1 p353 q353
        cases e353
        replace hx353_0 := zx_ HB hx353_0
        replace p353 := eq_true p353
        replace q353 := eq_true q353
        have p9 : 0 ≤ (x4_1 : Int) := zo_
        have q9 : (x4_1 : Int) < ((x3_1.length : Int) : Int) := zo_
        obtain ⟨go9,co9,eo9,gb9,gl9,cl9,HG9⟩ := Kd.R_form HO_3.out (by omega)
        (first | cases eo9 | (injection eo9 with ea_ en_ ec_;(first | subst ea_ | (injection ea_ with ea_;subst ea_));subst ec_;clear en_))
        have GB9 := am_ gb9
        have GG9 := am_ HG9
        clear gb9 gl9 HG9
        obtain ⟨hx9_0,hf9_0⟩ := Kd.R_celln (⟨#[]⟩ : ByteArray) HO_3.out (x4_1 : Int) p9 q9
        replace p9 := eq_true p9
        replace q9 := eq_true q9
        have HP10 := Kd.R_putg HO_3.out (x4_1 : Int) (rdOf ByteArray.empty l0 x4_1)
        go_wp2_with (first | ((with_reducible refine gate_store (t := 9) (p := 20) rfl ?_);refine store_event (t := 9) (p := 20) (v := ?vo_w11) (w1 := (wr.setCell ⟨go9,(x4_1 : Int).toNat,none⟩ (.string (rdOf ByteArray.empty l0 x4_1)))) ?hg ?ho ?hn ?hr ?_;(case ho => rfl);(case hg => rfl);(case hn => rfl);(case hr => first | (go_simp;done) | (go_simp;rfl));intro w11 hw;have hg : wr.grownBy w11 (some go9) := (by rw [hw];exact HP10.2);have hp_ : Kd.R Kd.string 9 w11 w.heap.size (fun _ => True) (.slice (some ⟨go9,0,none⟩) x3_1.length co9) y354 := (by rw [hw,Ny354.out];exact HP10.1);clear HP10;replace HO_3 := am_ (hp_);replace HB := am_ ((by rw [hw];exact below_set (HB.out) GB9.out : Below w.heap.size w w11));clear hg hw hp_))
        go_roundg k1
        case measure => have := HK1.out;omega
        case rel => exact ⟨(y354),(wrap64 (x4_1 + 1)),(by first | rfl | (simp;done) | (simp [*];done)),H',⟨by have := HK1.out;omega⟩,⟨zr HO_3⟩,⟨zl_ HB⟩⟩
       ·rw [if_neg c8] at H
        exact absurd H (by simp)
      ·rw [if_neg c7] at H
       exact absurd H (by simp)
     ·rw [if_neg c6] at H
      have c6b0 : decide (x4_1 < (l0.length : Int)) = false := decide_eq_false c6
      clear c6
      obtain rfl := Option.some.inj H
      go_wp2
      go_ret
      exact ⟨_,zt_,zr HO_3,zl_ HB⟩
  ·rw [if_neg c3] at H
   exact absurd H (by simp)
 ·rw [if_neg c2] at H
  exact absurd H (by simp)
set_option maxHeartbeats 8000000 in
set_option maxRecDepth 100000 in
theorem laws_toKeySignature.calls (k : Nat) (a0_0 : Int) (A0_1 : Option Addr) (c0_1 : Nat) (l0_1 : List ByteArray) (A0_2 : Option Addr) (c0_2 : Nat) (l0_2 : List ByteArray) (A0_3 : Option Addr) (c0_3 : Nat) (l0_3 : List ByteArray) (r1 : Int) (r2 : List ByteArray) (r3 : List ByteArray) (r4 : List ByteArray) (w : World) (hr0_1 : Kd.C Kd.string w A0_1 l0_1.length l0_1) (hc0_1 : l0_1.length ≤ c0_1) (hr0_2 : Kd.C Kd.string w A0_2 l0_2.length l0_2) (hc0_2 : l0_2.length ≤ c0_2) (hr0_3 : Kd.C Kd.string w A0_3 l0_3.length l0_3) (hc0_3 : l0_3.length ≤ c0_3) (h : laws_toKeySignature.f k a0_0 l0_1 l0_2 l0_3 = some (r1,r2,r3,r4)) :
  Calls Tryd.prog 118 #[.agg #[.int .i64 a0_0,.slice A0_1 l0_1.length c0_1,.slice A0_2 l0_2.length c0_2,.slice A0_3 l0_3.length c0_3]] w fun e w' => ∃ v1_ v2_ v3_ : Value,e = .returned (.agg #[.int .i64 r1,v1_,v2_,v3_]) ∧ Kd.R Kd.string 9 w' w.heap.size (fun k_ => some k_ ≠ (v2_ : Value).ownBlock ∧ some k_ ≠ (v3_ : Value).ownBlock) v1_ r2 ∧ Kd.R Kd.string 9 w' w.heap.size (fun k_ => some k_ ≠ (v1_ : Value).ownBlock ∧ some k_ ≠ (v3_ : Value).ownBlock) v2_ r3 ∧ Kd.R Kd.string 9 w' w.heap.size (fun k_ => some k_ ≠ (v1_ : Value).ownBlock ∧ some k_ ≠ (v2_ : Value).ownBlock) v3_ r4 ∧ Below w.heap.size w w' := by
 have hu139 := Tryd.underlying139
 have hu52 := Tryd.underlying52
 have HR0_1 := am_ hr0_1
 have HC0_1 := am_ hc0_1
 clear hr0_1 hc0_1
 have HR0_2 := am_ hr0_2
 have HC0_2 := am_ hc0_2
 clear hr0_2 hc0_2
 have HR0_3 := am_ hr0_3
 have HC0_3 := am_ hc0_3
 clear hr0_3 hc0_3
 have HB := am_ (Below.refl w.heap.size w)
 have H : ((laws_toStringS.f k l0_1).bind fun t358 => ((laws_toStringS.f k l0_2).bind fun t361 => ((laws_toStringS.f k l0_3).bind fun t364 => (some (a0_0,t358,t361,t364))))) = some (r1,r2,r3,r4) := h
 clear h
 replace H := Option.bind_eq_some_iff.mp H
 obtain ⟨t358,A20,H⟩ := H
 try dsimp only at H
 have A2 := am_ A20
 clear A20
 replace H := Option.bind_eq_some_iff.mp H
 obtain ⟨t361,A30,H⟩ := H
 try dsimp only at H
 have A3 := am_ A30
 clear A30
 replace H := Option.bind_eq_some_iff.mp H
 obtain ⟨t364,A40,H⟩ := H
 try dsimp only at H
 have A4 := am_ A40
 clear A40
 simp only [Option.some.injEq,Prod.mk.injEq] at H
 obtain ⟨rfl,rfl,rfl,rfl⟩ := H
 go_enter Tryd.func118,Tryd.ntmps118
 go_wp2_with (first | ((with_reducible refine gate_dst (N := 1) rfl ?_);refine zbx (N := 1) (cs := #[.int .i64 a0_0,.slice A0_1 l0_1.length c0_1,.slice A0_2 l0_2.length c0_2,.slice A0_3 l0_3.length c0_3]) (t := 139) ?_;intro gb355 hg w5 hbox hb;have BK355 := am_ (hbox);have GW355 := zw_ HB hg;have GE355 := zw_ HB hg;replace HB := zs_ HB hb;clear hb hbox hg) | ((with_reducible refine gate_dst (N := 2) rfl ?_);refine zbx (N := 2) (cs := #[.int .i64 0,.slice none 0 0,.slice none 0 0,.slice none 0 0]) (t := 52) ?_;intro gb356 hg w6 hbox hb;have BK356 := am_ (hbox);have GW356 := zw_ HB hg;have GE356 := zw_ HB hg;replace HB := zs_ HB hb;have NB355_356 := zl hg BK355;have NB356_355 := zg hg BK355;replace BK355 := zb BK355 hb;clear hb hbox hg) | ((with_reducible refine gate_dst (N := 3) rfl ?_);refine zbx (N := 3) (cs := #[.int .i64 0,.slice none 0 0,.slice none 0 0,.slice none 0 0]) (t := 52) ?_;intro gb357 hg w7 hbox hb;have BK357 := am_ (hbox);have GW357 := zw_ HB hg;have GE357 := zw_ HB hg;replace HB := zs_ HB hb;have NB355_357 := zl hg BK355;have NB357_355 := zg hg BK355;replace BK355 := zb BK355 hb;have NB356_357 := zl hg BK356;have NB357_356 := zg hg BK356;replace BK356 := zb BK356 hb;clear hb hbox hg;have hnb8 := NB355_356.out;have hnc8 := NB356_355.out;have hnb9 := NB355_357.out;have hnc9 := NB357_355.out;obtain ⟨hcz10_0,hcz10_1,hcz10_2,hcz10_3,hfz10_0,hfz10_1,hfz10_2,hfz10_3⟩ := zc4 BK355;have hnb11 := NB357_356.out;have hnc11 := NB356_357.out;obtain ⟨hcz12_0,hcz12_1,hcz12_2,hcz12_3,hfz12_0,hfz12_1,hfz12_2,hfz12_3⟩ := zc4 BK357) | ((with_reducible refine gate_callee (f := 155) rfl ?_);refine zgl (some 9) Tryd.func155 #[.slice A0_1 l0_1.length c0_1] ?_;(with_reducible refine (laws_toStringS.calls k _ _ l0_1 t358 _ ?side1 ?side2 A2.out).mono ?_);(case side1 => exact Kd.C_below HR0_1.out (zl_ HB));(case side2 => exact HC0_1.out);rintro e w13 ⟨v359,rfl,ho0,hb⟩;refine ⟨_,rfl,?_⟩;have HO360 := am_ (Kd.R_lower ho0 (below_size (zl_ HB)));replace BK355 := am_ (blk_below (g := gb355) (o := .cells #[.int .i64 a0_0,.slice A0_1 l0_1.length c0_1,.slice A0_2 l0_2.length c0_2,.slice A0_3 l0_3.length c0_3] 139 (0,0)) (zq BK355) hb);replace BK356 := am_ (blk_below (g := gb356) (o := .cells #[.int .i64 0,.slice none 0 0,.slice none 0 0,.slice none 0 0] 52 (0,0)) (zq BK356) hb);replace BK357 := am_ (blk_below (g := gb357) (o := .cells #[.int .i64 a0_0,.slice none 0 0,.slice none 0 0,.slice none 0 0] 52 (0,0)) (zq BK357) hb);replace HB := zs_ HB hb;(try clear hb);(try clear hb2);(try clear hk);(try clear hi);(try clear ho0);obtain ⟨Ao14,co14,eo14⟩ := Kd.R_slice HO360.out;subst eo14;obtain ⟨hcz15_0,hcz15_1,hcz15_2,hcz15_3,hfz15_0,hfz15_1,hfz15_2,hfz15_3⟩ := zc4 BK357;obtain ⟨hcz16_0,hcz16_1,hcz16_2,hcz16_3,hfz16_0,hfz16_1,hfz16_2,hfz16_3⟩ := zc4 BK355) | ((with_reducible refine gate_callee (f := 155) rfl ?_);refine zgl (some 13) Tryd.func155 #[.slice A0_2 l0_2.length c0_2] ?_;(with_reducible refine (laws_toStringS.calls k _ _ l0_2 t361 _ ?side1 ?side2 A3.out).mono ?_);(case side1 => exact Kd.C_below HR0_2.out (zl_ HB));(case side2 => exact HC0_2.out);rintro e w17 ⟨v362,rfl,ho0,hb⟩;refine ⟨_,rfl,?_⟩;have HO363 := am_ (Kd.R_lower (Kd.R_new' ho0 (Kd.R_lt (by (with_reducible repeat (first | apply r1_ | apply r2_ | apply r3_));exact (Kd.R_mono (zrf (Kd.R_types HO360.out BK357.out (by decide))) (fun _ h_ => h_.1))))) (below_size (zl_ HB)));replace HO360 := am_ (Kd.R_elder' (by (with_reducible repeat (first | apply r1_ | apply r2_ | apply r3_));exact (Kd.R_mono (zrf (Kd.R_types HO360.out BK357.out (by decide))) (fun _ h_ => h_.1))) (Kd.R_base ho0) hb);replace BK355 := am_ (blk_below (g := gb355) (o := .cells #[.int .i64 a0_0,.slice A0_1 l0_1.length c0_1,.slice A0_2 l0_2.length c0_2,.slice A0_3 l0_3.length c0_3] 139 (0,0)) (zq BK355) hb);replace BK356 := am_ (blk_below (g := gb356) (o := .cells #[.int .i64 0,.slice none 0 0,.slice none 0 0,.slice none 0 0] 52 (0,0)) (zq BK356) hb);replace BK357 := am_ (blk_below (g := gb357) (o := .cells #[.int .i64 a0_0,.slice Ao14 t358.length co14,.slice none 0 0,.slice none 0 0] 52 (0,0)) (zq BK357) hb);replace HB := zs_ HB hb;(try clear hb);(try clear hb2);(try clear hk);(try clear hi);(try clear ho0);obtain ⟨Ao18,co18,eo18⟩ := Kd.R_slice HO363.out;subst eo18;obtain ⟨hcz19_0,hcz19_1,hcz19_2,hcz19_3,hfz19_0,hfz19_1,hfz19_2,hfz19_3⟩ := zc4 BK357;obtain ⟨hcz20_0,hcz20_1,hcz20_2,hcz20_3,hfz20_0,hfz20_1,hfz20_2,hfz20_3⟩ := zc4 BK355) | ((with_reducible refine gate_callee (f := 155) rfl ?_);refine zgl (some 17) Tryd.func155 #[.slice A0_3 l0_3.length c0_3] ?_;(with_reducible refine (laws_toStringS.calls k _ _ l0_3 t364 _ ?side1 ?side2 A4.out).mono ?_);(case side1 => exact Kd.C_below HR0_3.out (zl_ HB));(case side2 => exact HC0_3.out);rintro e w21 ⟨v365,rfl,ho0,hb⟩;refine ⟨_,rfl,?_⟩;have HO366 := am_ (Kd.R_lower (Kd.R_new' (Kd.R_new' ho0 (Kd.R_lt (by (with_reducible repeat (first | apply r1_ | apply r2_ | apply r3_));exact (Kd.R_mono (zrf (Kd.R_types HO360.out BK357.out (by decide))) (fun _ h_ => h_.1))))) (Kd.R_lt (by (with_reducible repeat (first | apply r1_ | apply r2_ | apply r3_));exact (Kd.R_mono (zrf (Kd.R_types HO363.out BK357.out (by decide))) (fun _ h_ => h_.1))))) (below_size (zl_ HB)));replace HO360 := am_ (Kd.R_elder' (by (with_reducible repeat (first | apply r1_ | apply r2_ | apply r3_));exact (Kd.R_mono (zrf (Kd.R_types HO360.out BK357.out (by decide))) (fun _ h_ => h_.1))) (Kd.R_base ho0) hb);replace HO363 := am_ (Kd.R_elder' (by (with_reducible repeat (first | apply r1_ | apply r2_ | apply r3_));exact (Kd.R_mono (zrf (Kd.R_types HO363.out BK357.out (by decide))) (fun _ h_ => h_.1))) (Kd.R_base ho0) hb);replace BK356 := am_ (blk_below (g := gb356) (o := .cells #[.int .i64 0,.slice none 0 0,.slice none 0 0,.slice none 0 0] 52 (0,0)) (zq BK356) hb);replace BK357 := am_ (blk_below (g := gb357) (o := .cells #[.int .i64 a0_0,.slice Ao14 t358.length co14,.slice Ao18 t361.length co18,.slice none 0 0] 52 (0,0)) (zq BK357) hb);replace HB := zs_ HB hb;(try clear hb);(try clear hb2);(try clear hk);(try clear hi);(try clear ho0);obtain ⟨Ao22,co22,eo22⟩ := Kd.R_slice HO366.out;subst eo22;obtain ⟨hcz23_0,hcz23_1,hcz23_2,hcz23_3,hfz23_0,hfz23_1,hfz23_2,hfz23_3⟩ := zc4 BK357;obtain ⟨hcz24_0,hcz24_1,hcz24_2,hcz24_3,hfz24_0,hfz24_1,hfz24_2,hfz24_3⟩ := zc4 BK356))
 refine bodyPost_ret (results_cell_row rfl _ _ gb356 52 #[.int .i64 a0_0,.slice Ao14 t358.length co14,.slice Ao18 t361.length co18,.slice Ao22 t364.length co22] (0,0) _ rfl (zq BK356) Tryd.underlying52 rfl (by kernel_rfl)) rfl ?_
 exact ⟨_,_,_,zt_,by (with_reducible repeat (first | apply r1_ | apply r2_ | apply r3_));exact Kd.R_mono (Kd.Rf (Kd.Rf (Kd.Rf (Kd.Rf (Kd.R_far (p := ⟨gb357,3,none⟩) (Kd.R_types (Kd.R_types HO360.out BK357.out (by decide)) BK356.out (by decide)) (fun _ hk => hk.1.2) (.slice Ao22 t364.length co22)))))) (fun _ hk => ⟨hk.1.1.1.2,hk.1.1.2⟩),by (with_reducible repeat (first | apply r1_ | apply r2_ | apply r3_));exact Kd.R_mono (Kd.Rf (Kd.Rf (Kd.Rf (Kd.Rf (Kd.R_far (p := ⟨gb357,3,none⟩) (Kd.R_types (Kd.R_types HO363.out BK357.out (by decide)) BK356.out (by decide)) (fun _ hk => hk.1.2) (.slice Ao22 t364.length co22)))))) (fun _ hk => ⟨hk.1.1.1.2,hk.1.1.2⟩),by (with_reducible repeat (first | apply r1_ | apply r2_ | apply r3_));exact Kd.R_mono (Kd.Rf (Kd.Rf (Kd.Rf (Kd.Rf (Kd.R_far (p := ⟨gb357,3,none⟩) (Kd.R_types (Kd.R_types HO366.out BK357.out (by decide)) BK356.out (by decide)) (fun _ hk => hk.1.2) (.slice Ao22 t364.length co22)))))) (fun _ hk => ⟨hk.1.1.1.2,hk.1.1.2⟩),zl_ HB⟩
set_option maxHeartbeats 8000000 in
set_option maxRecDepth 100000 in
theorem laws_toKeySignatureS.calls (k : Nat) (A0 : Option Addr) (c0 : Nat) (l0 : List (S139)) (r : List (S52)) (w : World) (hr0 : Kd.C k139 w A0 l0.length l0) (hc0 : l0.length ≤ c0) (h : laws_toKeySignatureS.f k l0 = some r) :
  Calls Tryd.prog 59 #[.slice A0 l0.length c0] w fun e w' => ∃ v0_ : Value,e = .returned (v0_) ∧ Kd.S k52 52 w' w.heap.size (fun _ => True) v0_ r ∧ Below w.heap.size w w' := by
 have hu139 := Tryd.underlying139
 have hu52 := Tryd.underlying52
 have HR0 := am_ hr0
 have HC0 := am_ hc0
 clear hr0 hc0
 have HB := am_ (Below.refl w.heap.size w)
 have H : (if 0 ≤ (l0.length : Int) then (if ((l0.length : Int) : Int).toNat ≤ 3518437208883 then (laws_toKeySignatureS.l0 k l0 (List.replicate ((l0.length : Int) : Int).toNat z52) 0) else (none)) else (none)) = some r := h
 clear h
 by_cases c2 : 0 ≤ (l0.length : Int)
 ·rw [if_pos c2] at H
  have c2b0 := eq_true c2
  have c2b1 : decide (0 ≤ (l0.length : Int)) = true := decide_eq_true c2
  clear c2
  by_cases c3 : ((l0.length : Int) : Int).toNat ≤ 3518437208883
  ·rw [if_pos c3] at H
   have c3b0 := eq_true c3
   have c3b1 : decide (((l0.length : Int) : Int).toNat ≤ 3518437208883) = true := decide_eq_true c3
   clear c3
   obtain ⟨y367,hy367⟩ : ∃ y_ : List (S52),y_ = (List.replicate ((l0.length : Int) : Int).toNat z52) := ⟨_,rfl⟩
   replace H : (laws_toKeySignatureS.l0 k l0 y367 0) = some r := by first | (rw [hy367];with_reducible exact H) | (have H2_ := (Option.bind_some _ _).symm.trans H;rw [hy367];with_reducible exact H2_) | (have H2_ := (Option.bind_some _ _).symm.trans H;with_reducible exact H2_) | with_reducible exact H | (rw [hy367];exact H) | exact H
   have Ny367 := am_ hy367
   clear hy367
   have H' := am_ H
   clear H
   go_enter Tryd.func59,Tryd.ntmps59
   go_wp2_with (first | ((with_reducible refine gate_dst (N := 7) rfl ?_);refine Kd.S_make k52 _ 52 rfl (N := 7) rfl 31 _ _ rfl (l0.length : Int) rfl rfl Tryd.underlying31 (.agg #[(.int .i64 0),(.slice none 0 0),(.slice none 0 0),(.slice none 0 0)]) 80 info52 rfl (by decide) (by omega) z52 (ok := fun _ => True) (okp := fun _ => True) (k52_mkM _ _ _ z52 (Kd.R_nil _ _ _ _ _) (Kd.R_nil _ _ _ _ _) (Kd.R_nil _ _ _ _ _)) (fun _ hk => hk) trivial (zo_) (Nat.le_trans (Nat.mul_le_mul_right _ (zo_ : (l0.length : Int).toNat ≤ 3518437208883)) (by omega)) (Below.refl _ _) (Nat.le_refl _) ?_;intro v368 w4 ho5 hb hg_ hnew_;clear hg_ hnew_;(first | rw [← Ny367.out] at ho5 | (simp only [Int.reduceToNat] at ho5;rw [← Ny367.out] at ho5));have HO369 := am_ (Kd.S_lower ho5 (below_size (zl_ HB)));replace HB := zs_ HB hb;clear hb ho5))
   go_loopg [4] k (fun kq v4 w' => ∃ (x3_1 : List (S52)) (x4_1 : Int),v4 = .int .i64 x4_1 ∧ Aside0 (laws_toKeySignatureS.l0 kq l0 x3_1 x4_1 = some r) ∧ Aside0 (kq ≤ k) ∧ Aside0 (Kd.S k52 52 w' w.heap.size (fun _ => True) v368 x3_1) ∧ Aside0 (Below w.heap.size w w'))
   case atStart => exact ⟨(y367),(0),(by first | rfl | (simp;done) | (simp [*];done)),H',⟨Nat.le_refl _⟩,⟨by (with_reducible repeat (first | apply Kd.S_alloc | apply Kd.S_drewN | apply Kd.S_drew));exact HO369.out⟩,⟨zl_ HB⟩⟩
   case round =>
    clear H'
    try clear c2
    try clear c2b0
    try clear c2b1
    try clear p2
    try clear c3
    try clear c3b0
    try clear c3b1
    try clear c5
    obtain ⟨x3_1,x4_1,rfl,HA,HK1,HO_3,HB⟩ := hrel
    cases gk with
    | zero => exact absurd HA.out (by simp [laws_toKeySignatureS.l0])
    | succ k1 =>
     have H := HA.out
     clear HA
     simp only [laws_toKeySignatureS.l0] at H
     by_cases c6 : x4_1 < (l0.length : Int)
     ·rw [if_pos c6] at H
      have c6b0 : decide (x4_1 < (l0.length : Int)) = true := decide_eq_true c6
      clear c6
      by_cases c7 : 0 ≤ x4_1
      ·rw [if_pos c7] at H
       have c7b0 : decide (0 ≤ x4_1) = true := decide_eq_true c7
       clear c7
       replace H := Option.bind_eq_some_iff.mp H
       obtain ⟨⟨t371,t372,t375,t378⟩,A80,H⟩ := H
       try dsimp only at H
       have A8 := am_ A80
       clear A80
       by_cases c9 : x4_1 < (x3_1.length : Int)
       ·rw [if_pos c9] at H
        have c9b0 : decide (x4_1 < (x3_1.length : Int)) = true := decide_eq_true c9
        clear c9
        obtain ⟨y381,hy381⟩ : ∃ y_ : List (S52),y_ = (x3_1.set (x4_1 : Int).toNat (⟨t371,t372,t375,t378⟩ : S52)) := ⟨_,rfl⟩
        replace H : (laws_toKeySignatureS.l0 k1 l0 y381 (wrap64 (x4_1 + 1))) = some r := by first | (rw [hy381];with_reducible exact H) | (have H2_ := (Option.bind_some _ _).symm.trans H;rw [hy381];with_reducible exact H2_) | (have H2_ := (Option.bind_some _ _).symm.trans H;with_reducible exact H2_) | with_reducible exact H | (rw [hy381];exact H) | exact H
        have Ny381 := am_ hy381
        clear hy381
        have H' := am_ H
        clear H
        have p370 : 0 ≤ (x4_1 : Int) := zo_
        have q370 : x4_1 < (l0.length : Int) := zo_
        obtain ⟨ad370,A370_1,c370_1,A370_2,c370_2,A370_3,c370_3,e370,hx370_0,hx370_1,hx370_2,hx370_3,hl370_1,hi370_1,hl370_2,hi370_2,hl370_3,hi370_3⟩ := at_T139 HR0.out x4_1 p370 q370
        have hv370_1 := hx370_1
        have hv370_2 := hx370_2
        have hv370_3 := hx370_3
        cases e370
        replace hx370_0 := zx_ HB hx370_0
        replace hx370_1 := zx_ HB hx370_1
        replace hx370_2 := zx_ HB hx370_2
        replace hx370_3 := zx_ HB hx370_3
        have HR370_1 := am_ hi370_1
        have HC370_1 := am_ hl370_1
        clear hi370_1 hl370_1
        have HR370_2 := am_ hi370_2
        have HC370_2 := am_ hl370_2
        clear hi370_2 hl370_2
        have HR370_3 := am_ hi370_3
        have HC370_3 := am_ hl370_3
        clear hi370_3 hl370_3
        replace p370 := eq_true p370
        replace q370 := eq_true q370
        go_wp2_with (first | ((with_reducible refine gate_callee (f := 118) rfl ?_);refine zgl (some 20) Tryd.func118 #[.agg #[.int .i64 ((rd_T139 l0 x4_1).f0),.slice A370_1 ((rd_T139 l0 x4_1).f1).length c370_1,.slice A370_2 ((rd_T139 l0 x4_1).f2).length c370_2,.slice A370_3 ((rd_T139 l0 x4_1).f3).length c370_3]] ?_;(with_reducible refine (laws_toKeySignature.calls k1 ((rd_T139 l0 x4_1).f0) _ _ ((rd_T139 l0 x4_1).f1) _ _ ((rd_T139 l0 x4_1).f2) _ _ ((rd_T139 l0 x4_1).f3) t371 t372 t375 t378 _ ?side1 ?side2 ?side3 ?side4 ?side5 ?side6 A8.out).mono ?_);(case side1 => exact zc_ HR370_1 HB);(case side2 => exact HC370_1.out);(case side3 => exact zc_ HR370_2 HB);(case side4 => exact HC370_2.out);(case side5 => exact zc_ HR370_3 HB);(case side6 => exact HC370_3.out);rintro e w11 ⟨v373,v376,v379,rfl,ho0,ho1,ho2,hb⟩;refine ⟨_,rfl,?_⟩;replace HO_3 := am_ (Kd.S_mono (Kd.S_told (Kd.S_told (Kd.S_told (Kd.S_old (by (with_reducible repeat (first | apply Kd.S_alloc | apply Kd.S_drewN | apply Kd.S_drew));exact HO_3.out) hb) (Kd.R_base ho0)) (Kd.R_base ho1)) (Kd.R_base ho2)) (fun _ h_ => h_.1));have HO374 := am_ (Kd.R_lower ho0 (below_size (zl_ HB)));have HO377 := am_ (Kd.R_lower ho1 (below_size (zl_ HB)));have HO380 := am_ (Kd.R_lower ho2 (below_size (zl_ HB)));replace HB := zs_ HB hb;(try clear hb);(try clear hb2);(try clear hk);(try clear hi);(try clear ho0);(try clear ho1);(try clear ho2);have p10 : 0 ≤ (x4_1 : Int) := zo_;have q10 : (x4_1 : Int) < ((x3_1.length : Int) : Int) := zo_;obtain ⟨go10,co10,eo10,gb10,gl10,cl10,HG10⟩ := Kd.S_form HO_3.out (by omega);(first | cases eo10 | (injection eo10 with ea_ en_ ec_;(first | subst ea_ | (injection ea_ with ea_;subst ea_));subst ec_;clear en_));have GB10 := am_ gb10;have GG10 := am_ HG10;clear gb10 gl10 HG10;obtain ⟨_,ce10,hcl10,hM10,hcc10,hfr10,_,_⟩ := Kd.S_elem HO_3.out z52 (x4_1 : Int) p10 q10;obtain ⟨ve10_1,ve10_2,ve10_3,rfl,ge10_1,ge10_2,ge10_3⟩ := k52_openM hM10;have hx10_0 : w11.cell? ⟨go10,(x4_1 : Int).toNat * 4,none⟩ = some (.int .i64 ((rd_T52 x3_1 x4_1).f0)) := hcc10 0 _ rfl;have hx10_1 : w11.cell? ⟨go10,(x4_1 : Int).toNat * 4 + 1,none⟩ = some (ve10_1) := hcc10 1 _ rfl;have hx10_2 : w11.cell? ⟨go10,(x4_1 : Int).toNat * 4 + 2,none⟩ = some (ve10_2) := hcc10 2 _ rfl;have hx10_3 : w11.cell? ⟨go10,(x4_1 : Int).toNat * 4 + 3,none⟩ = some (ve10_3) := hcc10 3 _ rfl;have hf10_0 : w11.frozen? ⟨go10,(x4_1 : Int).toNat * 4,none⟩ = false := hfr10 0;have hf10_1 : w11.frozen? ⟨go10,(x4_1 : Int).toNat * 4 + 1,none⟩ = false := hfr10 1;have hf10_2 : w11.frozen? ⟨go10,(x4_1 : Int).toNat * 4 + 2,none⟩ = false := hfr10 2;have hf10_3 : w11.frozen? ⟨go10,(x4_1 : Int).toNat * 4 + 3,none⟩ = false := hfr10 3;clear hcl10 hcc10 hfr10 hM10;replace p10 := eq_true p10;replace q10 := eq_true q10;have n_ := am_ (Kd.S_mono (ok' := (fun k_ => some k_ ≠ (v373 : Value).ownBlock ∧ some k_ ≠ (v376 : Value).ownBlock ∧ some k_ ≠ (v379 : Value).ownBlock)) HO_3.out (fun k_ hk => ⟨hk.1.1.2,⟨hk.1.2,hk.2⟩⟩));clear HO_3;have HO_3 := n_;clear n_;have HX12 := am_ (show Kd.S k52 52 w11 w.heap.size (fun k_ => ((fun _ => True)) k_ ∧ ¬ ((fun k_ => some k_ = (v373 : Value).ownBlock ∨ some k_ = (v376 : Value).ownBlock ∨ some k_ = (v379 : Value).ownBlock)) k_) (.slice (some ⟨go10,0,none⟩) x3_1.length co10) x3_1 from (by (with_reducible repeat (first | apply Kd.S_alloc | apply Kd.S_drewN | apply Kd.S_drew));exact Kd.S_mono HO_3.out (fun k_ hk => ⟨trivial,fun e_ => e_.elim (fun h_ => hk.1 h_) (fun h_ => h_.elim (fun h_ => hk.2.1 h_) (fun h_ => hk.2.2 h_))⟩)));obtain ⟨oki12,ce12,hcl12,hM12,hcc12,hfr12,hoki12,hH12⟩ := Kd.S_elem HX12.out z52 (x4_1 : Int) (zo_) (by have h_ : (x4_1 : Int) < ((x3_1.length : Int) : Int) := zo_;first | exact h_ | (have e_ := (Kd.S_reads' HO_3.out).1;omega) | simpa using h_);obtain ⟨ve12_1,ve12_2,ve12_3,rfl,ge12_1,ge12_2,ge12_3⟩ := k52_openM hM12;have HP12 := Kd.S_seg hH12 (zo_) (by have h_ : (x4_1 : Int) < ((x3_1.length : Int) : Int) := zo_;first | exact h_ | (have e_ := (Kd.S_reads' HO_3.out).1;omega) | simpa using h_) (seg := [.int .i64 t371,v373,v376,v379]) (j := 0) (show 4 ≤ 4 from by decide) (x' := (⟨t371,t372,t375,t378⟩ : S52)) (k52_mkM _ _ _ (⟨t371,t372,t375,t378⟩ : S52) (Kd.R_mono (Kd.R_tight rfl (Kd.R_mono (ok' := fun k_ => ((fun _ => True)) k_ ∧ k_ ≠ go10) (Kd.R_apart' (HO374.out) (Kd.S_typed HO_3.out) (by decide)) (fun k_ hk => ⟨trivial,fun e_ => (hk.2) (by rw [e_];rfl)⟩))) (fun _ h_ => Or.inr (Or.inl h_))) (Kd.R_mono (Kd.R_tight rfl (Kd.R_mono (ok' := fun k_ => ((fun _ => True)) k_ ∧ k_ ≠ go10) (Kd.R_apart' (HO377.out) (Kd.S_typed HO_3.out) (by decide)) (fun k_ hk => ⟨trivial,fun e_ => (hk.2) (by rw [e_];rfl)⟩))) (fun _ h_ => Or.inr (Or.inr (Or.inl h_)))) (Kd.R_mono (Kd.R_tight rfl (Kd.R_mono (ok' := fun k_ => ((fun _ => True)) k_ ∧ k_ ≠ go10) (Kd.R_apart' (HO380.out) (Kd.S_typed HO_3.out) (by decide)) (fun k_ hk => ⟨trivial,fun e_ => (hk.2) (by rw [e_];rfl)⟩))) (fun _ h_ => Or.inr (Or.inr (Or.inr (h_)))))) (fun _ hk => hk) (fun k_ hk_ => hk_.elim (fun h_ => ((Kd.R_mono (ok' := fun k_ => ((fun _ => True)) k_ ∧ k_ ≠ go10) (Kd.R_apart' (HO374.out) (Kd.S_typed HO_3.out) (by decide)) (fun k_ hk => ⟨trivial,fun e_ => (hk.2) (by rw [e_];rfl)⟩))).1 k_ h_.symm) (fun h_ => h_.elim (fun h_ => ((Kd.R_mono (ok' := fun k_ => ((fun _ => True)) k_ ∧ k_ ≠ go10) (Kd.R_apart' (HO377.out) (Kd.S_typed HO_3.out) (by decide)) (fun k_ hk => ⟨trivial,fun e_ => (hk.2) (by rw [e_];rfl)⟩))).1 k_ h_.symm) (fun h_ => ((Kd.R_mono (ok' := fun k_ => ((fun _ => True)) k_ ∧ k_ ≠ go10) (Kd.R_apart' (HO380.out) (Kd.S_typed HO_3.out) (by decide)) (fun k_ hk => ⟨trivial,fun e_ => (hk.2) (by rw [e_];rfl)⟩))).1 k_ h_.symm)));have hx12_0 := hcc12 0 _ rfl;(try simp only [show (k52).sz = 4 from rfl,Nat.mul_one,Nat.add_zero] at hx12_0);have hf12_0 := hfr12 0;(try simp only [show (k52).sz = 4 from rfl,Nat.mul_one,Nat.add_zero] at hf12_0);have hx12_1 := hcc12 1 _ rfl;(try simp only [show (k52).sz = 4 from rfl,Nat.mul_one,Nat.add_zero] at hx12_1);have hf12_1 := hfr12 1;(try simp only [show (k52).sz = 4 from rfl,Nat.mul_one,Nat.add_zero] at hf12_1);have hx12_2 := hcc12 2 _ rfl;(try simp only [show (k52).sz = 4 from rfl,Nat.mul_one,Nat.add_zero] at hx12_2);have hf12_2 := hfr12 2;(try simp only [show (k52).sz = 4 from rfl,Nat.mul_one,Nat.add_zero] at hf12_2);have hx12_3 := hcc12 3 _ rfl;(try simp only [show (k52).sz = 4 from rfl,Nat.mul_one,Nat.add_zero] at hx12_3);have hf12_3 := hfr12 3;(try simp only [show (k52).sz = 4 from rfl,Nat.mul_one,Nat.add_zero] at hf12_3);clear hcl12 hcc12 hfr12 hM12 hoki12 hH12) | ((with_reducible refine gate_store (t := 52) (p := 21) rfl ?_);refine store_event (t := 52) (p := 21) (v := ?vo_w13) (w1 := ((((w11.setCell ⟨go10,(x4_1 : Int).toNat * 4,none⟩ (.int .i64 t371)).setCell ⟨go10,(x4_1 : Int).toNat * 4 + 1,none⟩ (v373)).setCell ⟨go10,(x4_1 : Int).toNat * 4 + 2,none⟩ (v376)).setCell ⟨go10,(x4_1 : Int).toNat * 4 + 3,none⟩ (v379))) ?hg ?ho ?hn ?hr ?_;(case ho => rfl);(case hg => rfl);(case hn => rfl);(case hr => obtain ⟨A0_,c0_,e0_⟩ := Kd.R_slice HO374.out;obtain ⟨A1_,c1_,e1_⟩ := Kd.R_slice HO377.out;obtain ⟨A2_,c2_,e2_⟩ := Kd.R_slice HO380.out;rw [e0_,e1_,e2_];first | (go_simp;done) | (go_simp;rfl));intro w13 hw;have hg : w11.grownBy w13 (some go10) := (by rw [hw];exact HP12.2);have hp_ : Kd.S k52 52 w13 w.heap.size (fun _ => True) (.slice (some ⟨go10,0,none⟩) x3_1.length co10) y381 := (by rw [hw,Ny381.out];exact HP12.1);clear HP12;replace HO_3 := am_ (hp_);replace HB := am_ ((by rw [hw];exact below_set (below_set (below_set (below_set (HB.out) GB10.out) GB10.out) GB10.out) GB10.out : Below w.heap.size w w13));clear HO374;clear HO377;clear HO380;clear hg hw hp_))
        go_roundg k1
        case measure => have := HK1.out;omega
        case rel => exact ⟨(y381),(wrap64 (x4_1 + 1)),(by first | rfl | (simp;done) | (simp [*];done)),H',⟨by have := HK1.out;omega⟩,⟨by (with_reducible repeat (first | apply Kd.S_alloc | apply Kd.S_drewN | apply Kd.S_drew));exact HO_3.out⟩,⟨zl_ HB⟩⟩
       ·rw [if_neg c9] at H
        exact absurd H (by simp)
      ·rw [if_neg c7] at H
       exact absurd H (by simp)
     ·rw [if_neg c6] at H
      have c6b0 : decide (x4_1 < (l0.length : Int)) = false := decide_eq_false c6
      clear c6
      obtain rfl := Option.some.inj H
      go_wp2
      go_ret
      exact ⟨_,zt_,by (with_reducible repeat (first | apply Kd.S_alloc | apply Kd.S_drewN | apply Kd.S_drew));exact HO_3.out,zl_ HB⟩
  ·rw [if_neg c3] at H
   exact absurd H (by simp)
 ·rw [if_neg c2] at H
  exact absurd H (by simp)
set_option maxHeartbeats 8000000 in
set_option maxRecDepth 100000 in
theorem laws_toCertificate.calls (k : Nat) (a0_0 : ByteArray) (a0_1 : Int) (a0_2 : Int) (a0_3 : Int) (A0_4 : Option Addr) (c0_4 : Nat) (l0_4 : List Int) (A0_5 : Option Addr) (c0_5 : Nat) (l0_5 : List (S139)) (r1 : ByteArray) (r2 : Int) (r3 : Int) (r4 : Int) (r5 : List Int) (r6 : List (S52)) (w : World) (hr0_4 : Kd.C (Kd.int .i64) w A0_4 l0_4.length l0_4) (hc0_4 : l0_4.length ≤ c0_4) (hr0_5 : Kd.C k139 w A0_5 l0_5.length l0_5) (hc0_5 : l0_5.length ≤ c0_5) (h : laws_toCertificate.f k a0_0 a0_1 a0_2 a0_3 l0_4 l0_5 = some (r1,r2,r3,r4,r5,r6)) :
  Calls Tryd.prog 12 #[.agg #[.string a0_0,.int .i64 a0_1,.int .i64 a0_2,.int .i64 a0_3,.slice A0_4 l0_4.length c0_4,.slice A0_5 l0_5.length c0_5]] w fun e w' => ∃ v4_ v5_ : Value,e = .returned (.agg #[.string r1,.int .i64 r2,.int .i64 r3,.int .i64 r4,v4_,v5_]) ∧ Kd.R (Kd.int .i64) 3 w' w.heap.size (fun _ => True) v4_ r5 ∧ Kd.S k52 52 w' w.heap.size (fun _ => True) v5_ r6 ∧ Below w.heap.size w w' := by
 have hu27 := Tryd.underlying27
 have hu33 := Tryd.underlying33
 have hu23 := Tryd.underlying23
 have hu30 := Tryd.underlying30
 have HR0_4 := am_ hr0_4
 have HC0_4 := am_ hc0_4
 clear hr0_4 hc0_4
 have HR0_5 := am_ hr0_5
 have HC0_5 := am_ hc0_5
 clear hr0_5 hc0_5
 have HB := am_ (Below.refl w.heap.size w)
 have H : ((laws_toGrant.f a0_0 a0_1 a0_2 a0_3).bind fun bt385 => ((laws_toIntS.f k l0_4).bind fun t389 => ((laws_toKeySignatureS.f k l0_5).bind fun t392 => (some (bt385.1,bt385.2.1,bt385.2.2.1,bt385.2.2.2,t389,t392))))) = some (r1,r2,r3,r4,r5,r6) := h
 clear h
 replace H := Option.bind_eq_some_iff.mp H
 obtain ⟨⟨t385,t386,t387,t388⟩,A20,H⟩ := H
 try dsimp only at H
 have A2 := am_ A20
 clear A20
 replace H := Option.bind_eq_some_iff.mp H
 obtain ⟨t389,A30,H⟩ := H
 try dsimp only at H
 have A3 := am_ A30
 clear A30
 replace H := Option.bind_eq_some_iff.mp H
 obtain ⟨t392,A40,H⟩ := H
 try dsimp only at H
 have A4 := am_ A40
 clear A40
 simp only [Option.some.injEq,Prod.mk.injEq] at H
 obtain ⟨rfl,rfl,rfl,rfl,rfl,rfl⟩ := H
 go_enter Tryd.func12,Tryd.ntmps12
 go_wp2_with (first | ((with_reducible refine gate_dst (N := 1) rfl ?_);refine zbx (N := 1) (cs := #[.string a0_0,.int .i64 a0_1,.int .i64 a0_2,.int .i64 a0_3,.slice A0_4 l0_4.length c0_4,.slice A0_5 l0_5.length c0_5]) (t := 27) ?_;intro gb382 hg w5 hbox hb;have BK382 := am_ (hbox);have GW382 := zw_ HB hg;have GE382 := zw_ HB hg;replace HB := zs_ HB hb;clear hb hbox hg) | ((with_reducible refine gate_dst (N := 2) rfl ?_);refine zbx (N := 2) (cs := #[.string ⟨#[]⟩,.int .i64 0,.int .i64 0,.int .i64 0,.slice none 0 0,.slice none 0 0]) (t := 33) ?_;intro gb383 hg w6 hbox hb;have BK383 := am_ (hbox);have GW383 := zw_ HB hg;have GE383 := zw_ HB hg;replace HB := zs_ HB hb;have NB382_383 := zl hg BK382;have NB383_382 := zg hg BK382;replace BK382 := zb BK382 hb;clear hb hbox hg) | ((with_reducible refine gate_dst (N := 3) rfl ?_);refine zbx (N := 3) (cs := #[.string ⟨#[]⟩,.int .i64 0,.int .i64 0,.int .i64 0,.slice none 0 0,.slice none 0 0]) (t := 33) ?_;intro gb384 hg w7 hbox hb;have BK384 := am_ (hbox);have GW384 := zw_ HB hg;have GE384 := zw_ HB hg;replace HB := zs_ HB hb;have NB382_384 := zl hg BK382;have NB384_382 := zg hg BK382;replace BK382 := zb BK382 hb;have NB383_384 := zl hg BK383;have NB384_383 := zg hg BK383;replace BK383 := zb BK383 hb;clear hb hbox hg;have hnb8 := NB382_383.out;have hnc8 := NB383_382.out;have hnb9 := NB382_384.out;have hnc9 := NB384_382.out;obtain ⟨hcz10_0,hcz10_1,hcz10_2,hcz10_3,hcz10_4,hcz10_5,hfz10_0,hfz10_1,hfz10_2,hfz10_3,hfz10_4,hfz10_5⟩ := zc6 BK382) | ((with_reducible refine gate_callee (f := 17) rfl ?_);refine zgl (some 6) Tryd.func17 #[.agg #[.string a0_0,.int .i64 a0_1,.int .i64 a0_2,.int .i64 a0_3]] ?_;(with_reducible refine (laws_toGrant.calls a0_0 a0_1 a0_2 a0_3 t385 t386 t387 t388 _ A2.out).mono ?_);rintro e w11 ⟨rfl,hb⟩;refine ⟨_,rfl,?_⟩;replace BK382 := zb BK382 hb;replace BK383 := zb BK383 hb;replace BK384 := zb BK384 hb;replace HB := zs_ HB hb;(try clear hb);(try clear hb2);(try clear hk);(try clear hi);have hnb12 := NB384_383.out;have hnc12 := NB383_384.out;obtain ⟨hcz13_0,hcz13_1,hcz13_2,hcz13_3,hcz13_4,hcz13_5,hfz13_0,hfz13_1,hfz13_2,hfz13_3,hfz13_4,hfz13_5⟩ := zc6 BK384;obtain ⟨hcz14_0,hcz14_1,hcz14_2,hcz14_3,hcz14_4,hcz14_5,hfz14_0,hfz14_1,hfz14_2,hfz14_3,hfz14_4,hfz14_5⟩ := zc6 BK382) | ((with_reducible refine gate_callee (f := 18) rfl ?_);refine zgl (some 10) Tryd.func18 #[.slice A0_4 l0_4.length c0_4] ?_;(with_reducible refine (laws_toIntS.calls k _ _ l0_4 t389 _ ?side1 ?side2 A3.out).mono ?_);(case side1 => exact Kd.C_below HR0_4.out (zl_ HB));(case side2 => exact HC0_4.out);rintro e w15 ⟨v390,rfl,ho0,hb⟩;refine ⟨_,rfl,?_⟩;have HO391 := am_ (Kd.R_lower ho0 (below_size (zl_ HB)));replace BK382 := am_ (blk_below (g := gb382) (o := .cells #[.string a0_0,.int .i64 a0_1,.int .i64 a0_2,.int .i64 a0_3,.slice A0_4 l0_4.length c0_4,.slice A0_5 l0_5.length c0_5] 27 (0,0)) (zq BK382) hb);replace BK383 := am_ (blk_below (g := gb383) (o := .cells #[.string ⟨#[]⟩,.int .i64 0,.int .i64 0,.int .i64 0,.slice none 0 0,.slice none 0 0] 33 (0,0)) (zq BK383) hb);replace BK384 := am_ (blk_below (g := gb384) (o := .cells #[.string t385,.int .i64 t386,.int .i64 t387,.int .i64 t388,.slice none 0 0,.slice none 0 0] 33 (0,0)) (zq BK384) hb);replace HB := zs_ HB hb;(try clear hb);(try clear hb2);(try clear hk);(try clear hi);(try clear ho0);obtain ⟨Ao16,co16,eo16⟩ := Kd.R_slice HO391.out;subst eo16;obtain ⟨hcz17_0,hcz17_1,hcz17_2,hcz17_3,hcz17_4,hcz17_5,hfz17_0,hfz17_1,hfz17_2,hfz17_3,hfz17_4,hfz17_5⟩ := zc6 BK384;obtain ⟨hcz18_0,hcz18_1,hcz18_2,hcz18_3,hcz18_4,hcz18_5,hfz18_0,hfz18_1,hfz18_2,hfz18_3,hfz18_4,hfz18_5⟩ := zc6 BK382) | ((with_reducible refine gate_callee (f := 59) rfl ?_);refine zgl (some 14) Tryd.func59 #[.slice A0_5 l0_5.length c0_5] ?_;(with_reducible refine (laws_toKeySignatureS.calls k _ _ l0_5 t392 _ ?side1 ?side2 A4.out).mono ?_);(case side1 => exact Kd.C_below HR0_5.out (zl_ HB));(case side2 => exact HC0_5.out);rintro e w19 ⟨v393,rfl,ho0,hb⟩;refine ⟨_,rfl,?_⟩;replace HO391 := am_ (Kd.R_below (by (with_reducible repeat (first | apply r1_ | apply r2_ | apply r3_));exact (Kd.R_mono (zrf (Kd.R_types HO391.out BK384.out (by decide))) (fun _ h_ => h_.1))) hb);have HO394 := am_ (Kd.S_lower ho0 (below_size (zl_ HB)));replace BK383 := am_ (blk_below (g := gb383) (o := .cells #[.string ⟨#[]⟩,.int .i64 0,.int .i64 0,.int .i64 0,.slice none 0 0,.slice none 0 0] 33 (0,0)) (zq BK383) hb);replace BK384 := am_ (blk_below (g := gb384) (o := .cells #[.string t385,.int .i64 t386,.int .i64 t387,.int .i64 t388,.slice Ao16 t389.length co16,.slice none 0 0] 33 (0,0)) (zq BK384) hb);replace HB := zs_ HB hb;(try clear hb);(try clear hb2);(try clear hk);(try clear hi);(try clear ho0);obtain ⟨Ao20,co20,eo20⟩ := Kd.S_slice HO394.out;subst eo20;obtain ⟨hcz21_0,hcz21_1,hcz21_2,hcz21_3,hcz21_4,hcz21_5,hfz21_0,hfz21_1,hfz21_2,hfz21_3,hfz21_4,hfz21_5⟩ := zc6 BK384;obtain ⟨hcz22_0,hcz22_1,hcz22_2,hcz22_3,hcz22_4,hcz22_5,hfz22_0,hfz22_1,hfz22_2,hfz22_3,hfz22_4,hfz22_5⟩ := zc6 BK383))
 refine bodyPost_ret (results_cell_row rfl _ _ gb383 33 #[.string t385,.int .i64 t386,.int .i64 t387,.int .i64 t388,.slice Ao16 t389.length co16,.slice Ao20 t392.length co20] (0,0) _ rfl (zq BK383) Tryd.underlying33 rfl (by kernel_rfl)) rfl ?_
 exact ⟨_,_,zt_,by (with_reducible repeat (first | apply r1_ | apply r2_ | apply r3_));exact Kd.R_mono (Kd.Rf (Kd.Rf (Kd.Rf (Kd.Rf (Kd.Rf (Kd.Rf (Kd.R_far (p := ⟨gb384,5,none⟩) (Kd.R_types (Kd.R_types HO391.out BK384.out (by decide)) BK383.out (by decide)) (fun _ hk => hk.1.2) (.slice Ao20 t392.length co20)))))))) (fun _ hk => trivial),by (with_reducible repeat (first | apply Kd.S_alloc | apply Kd.S_drewN | apply Kd.S_drew));exact Kd.S_mono (Kd.S_far (p := ⟨gb383,5,none⟩) (Kd.S_far (p := ⟨gb383,4,none⟩) (Kd.S_far (p := ⟨gb383,3,none⟩) (Kd.S_far (p := ⟨gb383,2,none⟩) (Kd.S_far (p := ⟨gb383,1,none⟩) (Kd.S_far (p := ⟨gb383,0,none⟩) (Kd.S_far (p := ⟨gb384,5,none⟩) (Kd.S_types (Kd.S_types HO394.out BK384.out (by decide)) BK383.out (by decide)) (fun _ hk => hk.1.2) (.slice Ao20 t392.length co20)) (fun _ hk => hk.2) (.string t385)) (fun _ hk => hk.2) (.int .i64 t386)) (fun _ hk => hk.2) (.int .i64 t387)) (fun _ hk => hk.2) (.int .i64 t388)) (fun _ hk => hk.2) (.slice Ao16 t389.length co16)) (fun _ hk => hk.2) (.slice Ao20 t392.length co20)) (fun _ hk => trivial),zl_ HB⟩
end Go.Proofs.YtlifdodphkimpaaDoor.A
end

section
namespace Go.Proofs.YtlifdodphkimpaaDoor.A
open Go.RowKit Go.Proofs.YtlifdodphkimpaaDoorW.PrintWords Go.Proofs.YtlifdodphkimpaaDoorW.PrintLast Go.Proofs.YtlifdodphkimpaaDoorW.PrintMore
theorem Au.of_R {W : World} {base g n cap e : Nat} {ok : Nat → Prop} {xs : List Int} (h : Kd.R (Kd.int .u32) e W base ok (.slice (some ⟨g, 0, none⟩) n cap) xs) : Au W g xs := by
  have hn := (Kd.R_reads' h).1
  refine ⟨fun j hj => ?_, fun j hj => ?_⟩
  · have := (Kd.R_celln 0 h (j : Int) (by omega) (by omega)).1
    simpa [rdOf] using this
  · have := (Kd.R_celln 0 h (j : Int) (by omega) (by omega)).2
    simpa using this
theorem C_cells {k : IntKind} {W : World} {A : Option Addr} {n : Nat} {xs : List Int} (h : Kd.C (Kd.int k) W A n xs) (hn : 0 < n) : ∃ ad, A = some ad ∧ ∀ j, j < n → W.cell? (ad.add j) = some (.int k (xs.getD j 0)) := by
  obtain ⟨ad, e, c⟩ := Kd.at_int h 0 (by decide) (by omega)
  refine ⟨ad, e, fun j hj => ?_⟩
  obtain ⟨ad2, e2, c2⟩ := Kd.at_int h (j : Int) (by omega) (by omega)
  obtain rfl : ad = ad2 := Option.some.inj (e.symm.trans e2)
  simpa [rd] using c2
structure Sk (w W : World) (n gw : Nat) (lw : List Int) : Prop where
  hw : Au W gw lw
  mine : n ≤ gw
  lt : gw < W.heap.size
  below : Below n w W
theorem Sk.drew {w W : World} {n gw : Nat} {lw : List Int} (h : Sk w W n gw lw) : Sk w W.drew n gw lw := ⟨h.hw.drew, h.mine, h.lt, below_drew_h h.below⟩
theorem Sk.word {w W : World} {n gw : Nat} {lw : List Int} (h : Sk w W n gw lw) (j : Nat) (hj : j < lw.length) (x : Int) : Sk w (W.setCell ⟨gw, j, none⟩ (.int .u32 x)) n gw (lw.set j x) :=
  ⟨h.hw.set j hj x, h.mine, by simpa [World.setCell] using h.lt, below_set_h h.below h.mine⟩
structure Sv (w W : World) (n gw gv : Nat) (lw la : List Int) : Prop where
  hw : Au W gw lw
  ha : Au W gv la
  mw : n ≤ gw
  mv : n ≤ gv
  tw : gw < W.heap.size
  tv : gv < W.heap.size
  below : Below n w W
theorem Sv.drew {w W : World} {n gw gv : Nat} {lw la : List Int} (h : Sv w W n gw gv lw la) : Sv w W.drew n gw gv lw la := ⟨h.hw.drew, h.ha.drew, h.mw, h.mv, h.tw, h.tv, below_drew_h h.below⟩
theorem Sv.lit {w W : World} {n gw gv : Nat} {lw la : List Int} (h : Sv w W n gw gv lw la) (l : List Int) (t : Nat) : Sv w (W.alloc (.cells (l.map (Value.int .u32)).toArray t)) n gw W.heap.size lw l := by
  have h1 := h.tw
  have h2 := h.mw
  have hs := alloc_sz W (.cells (l.map (Value.int .u32)).toArray t)
  have e : ∀ k, k < W.heap.size → (W.alloc (.cells (l.map (Value.int .u32)).toArray t)).heap[k]? = W.heap[k]? := fun k hk => by rw [alloc_at, if_neg (by omega)]
  refine ⟨h.hw.at (e _ h.tw), Au.of_row (e := t) _ ?_, h.mw, by omega, by omega, by omega, ⟨h.below.os, h.below.tape, h.below.output, by have := h.below.size; omega, fun k hk => (e k (by omega)).trans (h.below.block k hk)⟩⟩
  rw [alloc_at, if_pos rfl]
/-- The copy of the eight words. -/
theorem append8 {P : Program} {ops : Array Oper} {rest : List Oper} {o : Oper} {a : Act} {Q : Exit → Act → World → Prop} {w W : World} {n gw g g0 c0 : Nat} {lw l0 : List Int} (t e : TypeId) (hgd : o.guard = none) (s x : Operand)
    (ho : o.op = .call { callee := .builtin .append, args := #[s, x], argTypes := #[t, t] }) (ht : P.underlying t = some (.slice e)) (hinfo : (P.info? e).map (fun i => (i.zero, i.size, i.bytes)) = some (some (.int .u32 0), 1, 4))
    (hs : a.eval s = .slice (some ⟨g, 0, none⟩) 0 0) (hx : a.eval x = .slice (some ⟨g0, 0, none⟩) 8 c0) (hl0 : l0.length = 8) (hc : Au W g0 l0) (F : Sk w W n gw lw)
    (h : ∀ gv cv w1, Sv w w1 n gw gv lw l0 → wpList P ops Q rest (a.put o.dst (.slice (some ⟨gv, 0, none⟩) 8 cv)) w1) : wpList P ops Q (o :: rest) a W := by
  obtain ⟨i, hi, hzz⟩ := Option.map_eq_some_iff.1 hinfo
  simp only [Prod.mk.injEq] at hzz
  obtain ⟨hz, hs1, hb1⟩ := hzz
  have hnl : (l0.map (Value.int .u32)).length = 8 := by simp [hl0]
  have h48' : ¬ (281474976710656 < Builtin.nextslicecap 8 0 * i.bytes) := by rw [hb1]; decide
  have hf0 := run_firstCells_some (P := P) W.drew 1 0 ⟨g, 0, none⟩ 0 0 [] rfl (fun j v hj => by simp at hj)
  have hf8 := run_firstCells_some (P := P) W.drew 1 8 ⟨g0, 0, none⟩ 8 c0 (l0.map (Value.int .u32)) (by simp [hl0]) (fun j v hj => by
    rw [add_plain]
    have hjl : j < l0.length := by
      have := (List.getElem?_eq_some_iff.1 hj).1
      omega
    have := hc.cell j hjl
    simp only [List.getElem?_map, List.getElem?_eq_getElem hjl, Option.map_some, Option.some.injEq] at hj
    subst hj
    simpa [List.getD, hjl] using this)
  have hzc : (Value.int .u32 0).cells = #[.int .u32 0] := rfl
  have hr : (Builtin.append_ #[t, t] o.type #[.slice (some ⟨g, 0, none⟩) 0 0, .slice (some ⟨g0, 0, none⟩) 8 c0]).run P W = .ok (.slice (some ⟨W.heap.size, 0, none⟩) 8 (grownCap W 8 0 e))
      (W.drew.alloc (.cells ((l0.map (Value.int .u32)).toArray ++ Builtin.zeroCells #[.int .u32 0] (grownCap W 8 0 e - 8)) e)) := by
    rw [← hs1] at hf0 hf8
    simp [Builtin.append_, run_underlying ht, sizeOf, typeInfo, zeroValue, hi, hz, Builtin.lenOf, h48', Question.forced, hf0, hf8, newRow, grownCap, hzc]
  refine wpList_plain hgd fun K hK => ?_
  unfold Oper.wp execOp
  simp only [ho, resolve, invoke, builtin, Sem.run_bind, Sem.run_pure, Result.andThen_ok, List.map_toArray, List.map_cons, List.map_nil, hs, hx, hr]
  refine hK _ _ (h _ _ _ ?_)
  have h1 := F.lt
  have h2 := F.mine
  have hsz : (W.drew.alloc (.cells ((l0.map (Value.int .u32)).toArray ++ Builtin.zeroCells #[.int .u32 0] (grownCap W 8 0 e - 8)) e)).heap.size = W.heap.size + 1 := alloc_sz _ _
  have e2 : ∀ k, k < W.heap.size → (W.drew.alloc (.cells ((l0.map (Value.int .u32)).toArray ++ Builtin.zeroCells #[.int .u32 0] (grownCap W 8 0 e - 8)) e)).heap[k]? = W.heap[k]? := fun k hk => by
    rw [alloc_at, if_neg (by show ¬ k = W.heap.size; omega)]
    rfl
  have e3 : (W.drew.alloc (.cells ((l0.map (Value.int .u32)).toArray ++ Builtin.zeroCells #[.int .u32 0] (grownCap W 8 0 e - 8)) e)).heap[W.heap.size]? = some (.cells ((l0.map (Value.int .u32)).toArray ++ Builtin.zeroCells #[.int .u32 0] (grownCap W 8 0 e - 8)) e) := by
    rw [alloc_at, if_pos (by rfl)]
  refine ⟨F.hw.at (e2 _ F.lt), ⟨fun j hj => ?_, fun j hj => ?_⟩, F.mine, by omega, by omega, by omega, ⟨F.below.os, F.below.tape, F.below.output, by rw [hsz]; have := F.below.size; omega, fun k hk => (e2 k (by omega)).trans (F.below.block k hk)⟩⟩
  · unfold World.cell?
    rw [e3]
    have hj2 : j < (l0.map (Value.int .u32)).toArray.size := by simpa using hj
    simp only [Option.isSome_none, Bool.false_eq_true, if_false]
    rw [Array.getElem?_append_left hj2]
    simp [List.getD, hj]
  · unfold World.frozen?
    rw [e3]
    simp
/-- The last loop: the state that came in is written. -/
structure St (w0 w W : World) (S : Nat → Prop) (g0 c0 gv : Nat) (lh la : List Int) : Prop where
  hr : Kd.R (Kd.int .u32) 174 W w0.heap.size S (.slice (some ⟨g0, 0, none⟩) 8 c0) lh
  ha : Au W gv la
  ne : gv ≠ g0
  below : Below w0.heap.size w0 W
  kept : Kept w W S
theorem St.drew {w0 w W : World} {S : Nat → Prop} {g0 c0 gv : Nat} {lh la : List Int} (h : St w0 w W S g0 c0 gv lh la) : St w0 w W.drew S g0 c0 gv lh la :=
  ⟨Kd.R_drew h.hr, h.ha.drew, h.ne, below_drew_h h.below, h.kept.drew⟩
theorem St.set {w0 w W : World} {S : Nat → Prop} {g0 c0 gv : Nat} {lh la : List Int} (h : St w0 w W S g0 c0 gv lh la) (j : Nat) (x : Int) : St w0 w (W.setCell ⟨g0, j, none⟩ (.int .u32 x)) S g0 c0 gv (lh.set j x) la := by
  have hp := Kd.R_putn h.hr (j : Int) x
  rw [Int.toNat_natCast] at hp
  exact ⟨hp, h.ha.far h.ne j _, h.ne, below_set_h h.below (Kd.R_base h.hr _ rfl), h.kept.setCell (p := ⟨g0, j, none⟩) (.inl (h.hr.1 _ rfl)) _⟩
set_option maxHeartbeats 4000000 in
set_option maxRecDepth 100000 in
theorem sblock_walk (S : Nat → Prop) (g0 c0 : Nat) (l0 l1 l2 r : List Int) (ad1 ad2 : Addr) (c1 c2 : Nat) (w0 w : World) (hB : Below w0.heap.size w0 w) (ho0 : Kd.R (Kd.int .u32) 174 w w0.heap.size S (.slice (some ⟨g0, 0, none⟩) 8 c0) l0)
    (hr1 : ∀ W, Kept w W S → ∀ j, j < 64 → W.cell? (ad1.add j) = some (.int .u8 (l1.getD j 0))) (hr2 : ∀ W, Kept w W S → ∀ j, j < 64 → W.cell? (ad2.add j) = some (.int .u32 (l2.getD j 0)))
    (h0 : l0.length = 8) (h1 : l1.length = 64) (h2 : l2.length = 64) (hc1 : 64 ≤ c1) (hc2 : 64 ≤ c2) (H : spec_l01Block.v l0 l1 l2 = some r) :
    Calls Tryd.prog 154 #[.slice (some ⟨g0, 0, none⟩) 8 c0, .slice (some ad1) 64 c1, .slice (some ad2) 64 c2] w fun e w' => e = .returned (.tuple #[]) ∧ Kd.R (Kd.int .u32) 174 w' w0.heap.size S (.slice (some ⟨g0, 0, none⟩) 8 c0) r ∧ Below w0.heap.size w0 w' ∧ Kept w w' S := by
  have H0 := Aside0.mk (start0 _ _ _ _ H)
  have HR1 := Aside0.mk hr1
  have HR2 := Aside0.mk hr2
  have HO := Aside0.mk ho0
  have HB := Aside0.mk hB
  have HL := Aside0.mk (And.intro h0 (And.intro h1 h2))
  clear H hr1 hr2 ho0 hB h0 h1 h2
  go_enter Tryd.func154, Tryd.ntmps154
  go_wp2_with (first | ((with_reducible refine gate_dst (N := 18) rfl ?_); refine Kd.R_make (Kd.int .u32) _ 174 rfl (N := 18) rfl 175 _ _ rfl 64 rfl rfl Tryd.underlying175 (.int .u32 0) 4 info174 rfl (by decide) (by omega) 0 (ok := fun _ => True) (okp := fun _ => True) rfl (fun _ hk => hk) trivial (by omega) (by omega) (Below.refl _ _) (Nat.le_refl _) ?_; intro v1 w1 ho hb hg_ hnew_; clear hg_ hnew_; simp only [Int.reduceToNat] at ho; obtain ⟨gw, cw, rfl, hbase, hlt, -⟩ := Kd.R_form ho (by simp); rw [List.length_replicate] at ho ⊢; have hcw := (Kd.R_reads' ho).2.1; have F := Aside0.mk (Sk.mk (Au.of_R ho) hbase hlt hb); clear ho hb hbase hlt))
  obtain ⟨hl0, hl1, hl2⟩ := HL.out
  go_loopg [7] 16 (fun gg v7 wr => ∃ (i : Nat) (ws : List Int), i ≤ 16 ∧ gg + i = 16 ∧ v7 = .int .i64 (i : Int) ∧ ws.length = 64 ∧ Aside0 (spec_l01Block.lv0 l0 l1 l2 ws (i : Int) = some r) ∧ Aside0 (Sk w wr w.heap.size gw ws))
  case atStart => exact ⟨0, _, by omega, rfl, rfl, List.length_replicate, H0, F⟩
  case round =>
    clear F H0
    obtain ⟨i, ws, hi, hg, rfl, hws, H0, F⟩ := hrel
    by_cases hlt : i < 16
    · have c1 : ((i : Int) < 16) := by omega
      have hk := Kept.of_below F.out.below S
      obtain ⟨q0, hq0⟩ : ∃ q, q = 4 * i := ⟨_, rfl⟩
      obtain ⟨q1, hq1⟩ : ∃ q, q = 4 * i + 1 := ⟨_, rfl⟩
      obtain ⟨q2, hq2⟩ : ∃ q, q = 4 * i + 2 := ⟨_, rfl⟩
      obtain ⟨q3, hq3⟩ : ∃ q, q = 4 * i + 3 := ⟨_, rfl⟩
      have w0 : IntKind.i64.wrap (4 * (i : Int)) = (q0 : Int) := (w64id _ (by omega) (by omega)).trans (by omega)
      have w1 : IntKind.i64.wrap ((q0 : Int) + 1) = (q1 : Int) := by clear w0; exact (w64id _ (by omega) (by omega)).trans (by omega)
      have w2 : IntKind.i64.wrap ((q0 : Int) + 2) = (q2 : Int) := by clear w0 w1; exact (w64id _ (by omega) (by omega)).trans (by omega)
      have w3 : IntKind.i64.wrap ((q0 : Int) + 3) = (q3 : Int) := by clear w0 w1 w2; exact (w64id _ (by omega) (by omega)).trans (by omega)
      have b0 := HR1.out wr hk q0 (by clear w0 w1 w2 w3; omega)
      have b1 := HR1.out wr hk q1 (by clear w0 w1 w2 w3; omega)
      have b2 := HR1.out wr hk q2 (by clear w0 w1 w2 w3; omega)
      have b3 := HR1.out wr hk q3 (by clear w0 w1 w2 w3; omega)
      have e0 : (q0 : Int) < 64 := by clear w0 w1 w2 w3; omega
      have e1 : (q1 : Int) < 64 := by clear w0 w1 w2 w3; omega
      have e2 : (q2 : Int) < 64 := by clear w0 w1 w2 w3; omega
      have e3 : (q3 : Int) < 64 := by clear w0 w1 w2 w3; omega
      have ei : (i : Int) < 64 := by clear w0 w1 w2 w3; omega
      have g4 : i < ws.length := by clear w0 w1 w2 w3; omega
      have z0 := F.out.hw.cell i g4
      have z1 := F.out.hw.free i g4
      have H1 := Aside0.mk (step0 _ _ _ _ _ _ hl1 hws hlt H0.out)
      rw [← hq1, ← hq2, ← hq3, ← hq0] at H1
      generalize hx0 : l1.getD q0 0 = x0 at b0 H1
      generalize hx1 : l1.getD q1 0 = x1 at b1 H1
      generalize hx2 : l1.getD q2 0 = x2 at b2 H1
      generalize hx3 : l1.getD q3 0 = x3 at b3 H1
      generalize ws.getD i 0 = xi at z0
      clear hq0 hq1 hq2 hq3 hx0 hx1 hx2 hx3 hk H0
      go_wp2
      go_still_tail 36, (by kernel_rfl)
      change wpList _ _ _ _ _ wr.drew
      have z2 : wr.drew.cell? ⟨gw, i, none⟩ = some (.int .u32 xi) := z0
      have z3 : wr.drew.frozen? ⟨gw, i, none⟩ = false := z1
      have F2 := Aside0.mk (F.out.drew.word i g4 (word4 x0 x1 x2 x3))
      generalize wr.drew = w4 at z2 z3 F2 ⊢
      clear z0 z1 b0 b1 b2 b3 F
      go_wp2
      go_roundg (16 - (i + 1))
      case measure => omega
      case rel => exact ⟨i + 1, _, by omega, by omega, by go_num, by rw [List.length_set]; exact hws, H1, F2⟩
    · have hlt2 : ¬ ((i : Int) < 16) := by omega
      have H1 := Aside0.mk (exit0 _ _ _ _ _ _ hlt2 H0.out)
      clear H0
      go_wp2
      go_loopg [8] 48 (fun gg v8 wr => ∃ (i : Nat) (ws : List Int), i ≤ 64 ∧ 16 ≤ i ∧ gg + i = 64 ∧ v8 = .int .i64 (i : Int) ∧ ws.length = 64 ∧ Aside0 (spec_l01Block.lv1 l0 l2 ws (i : Int) = some r) ∧ Aside0 (Sk w wr w.heap.size gw ws))
      case atStart => exact ⟨16, ws, by omega, by omega, rfl, rfl, hws, H1, F⟩
      case round =>
        clear F H1 hlt2 hlt hi hws
        obtain ⟨i, ws, hi, h16, hg, rfl, hws, H0, F⟩ := hrel
        by_cases hlt : i < 64
        · have c1 : ((i : Int) < 64) := by omega
          obtain ⟨q0, hq0⟩ : ∃ q, q = i - 16 := ⟨_, rfl⟩
          obtain ⟨q1, hq1⟩ : ∃ q, q = i - 15 := ⟨_, rfl⟩
          obtain ⟨q2, hq2⟩ : ∃ q, q = i - 7 := ⟨_, rfl⟩
          obtain ⟨q3, hq3⟩ : ∃ q, q = i - 2 := ⟨_, rfl⟩
          have w0 : IntKind.i64.wrap ((i : Int) - 16) = (q0 : Int) := (w64id _ (by omega) (by omega)).trans (by omega)
          have w1 : IntKind.i64.wrap ((i : Int) - 15) = (q1 : Int) := by clear w0; exact (w64id _ (by omega) (by omega)).trans (by omega)
          have w2 : IntKind.i64.wrap ((i : Int) - 7) = (q2 : Int) := by clear w0 w1; exact (w64id _ (by omega) (by omega)).trans (by omega)
          have w3 : IntKind.i64.wrap ((i : Int) - 2) = (q3 : Int) := by clear w0 w1 w2; exact (w64id _ (by omega) (by omega)).trans (by omega)
          have g0 : q0 < ws.length := by clear w0 w1 w2 w3; omega
          have g1 : q1 < ws.length := by clear w0 w1 w2 w3; omega
          have g2 : q2 < ws.length := by clear w0 w1 w2 w3; omega
          have g3 : q3 < ws.length := by clear w0 w1 w2 w3; omega
          have g4 : i < ws.length := by clear w0 w1 w2 w3; omega
          have b0 := F.out.hw.cell q0 g0
          have b1 := F.out.hw.cell q1 g1
          have b2 := F.out.hw.cell q2 g2
          have b3 := F.out.hw.cell q3 g3
          have e0 : (q0 : Int) < 64 := by clear w0 w1 w2 w3; omega
          have e1 : (q1 : Int) < 64 := by clear w0 w1 w2 w3; omega
          have e2 : (q2 : Int) < 64 := by clear w0 w1 w2 w3; omega
          have e3 : (q3 : Int) < 64 := by clear w0 w1 w2 w3; omega
          have z0 := F.out.hw.cell i g4
          have z1 := F.out.hw.free i g4
          have H1 := Aside0.mk (step1 _ _ _ _ _ hws h16 hlt H0.out)
          rw [← hq0, ← hq1, ← hq2, ← hq3] at H1
          generalize hx0 : ws.getD q0 0 = x0 at b0 H1
          generalize hx1 : ws.getD q1 0 = x1 at b1 H1
          generalize hx2 : ws.getD q2 0 = x2 at b2 H1
          generalize hx3 : ws.getD q3 0 = x3 at b3 H1
          generalize ws.getD i 0 = xi at z0
          clear hq0 hq1 hq2 hq3 hx0 hx1 hx2 hx3 g0 g1 g2 g3 H0
          go_wp2
          refine wp_region_still_tail 32 (by kernel_rfl) (by kernel_rfl) ?_
          simp only [List.take_succ_cons, List.take_zero, List.drop_succ_cons, List.drop_zero]
          repeat still_step
          still_call (stn7 _ _)
          repeat still_step
          still_call (stn18 _ _)
          repeat still_step
          still_call (stn17 _ _)
          repeat still_step
          still_call (stn19 _ _)
          repeat still_step
          refine wpStill_nil ?_
          change wpList _ _ _ _ _ wr.drew
          have z2 : wr.drew.cell? ⟨gw, i, none⟩ = some (.int .u32 xi) := z0
          have z3 : wr.drew.frozen? ⟨gw, i, none⟩ = false := z1
          have F2 := Aside0.mk (F.out.drew.word i g4 (wordX x0 (sig x1 7 18 (x1 / 8)) x2 (sig x3 17 19 (x3 / 1024))))
          generalize wr.drew = w4 at z2 z3 F2 ⊢
          clear z0 z1 b0 b1 b2 b3 F w0 w1 w2 w3
          go_wp2
          go_roundg (64 - (i + 1))
          case measure => omega
          case rel => exact ⟨i + 1, _, by omega, by omega, by omega, by go_num, by rw [List.length_set]; exact hws, H1, F2⟩
        · have hlt2 : ¬ ((i : Int) < 64) := by omega
          have H1 := Aside0.mk (exit1 _ _ _ _ hl0 _ hlt2 H0.out)
          clear H0
          have hA0 : Aside0 (Au w g0 l0) := Aside0.mk (Au.of_R HO.out)
          have hg0 := Kd.R_lt HO.out g0 rfl
          have HG := Aside0.mk hg0
          clear hg0
          go_wp2_with (first | ((with_reducible refine gate_builtin (b := .append) (xs := #[.tmp 105, .tmp 106]) rfl ?_); at_builtin; refine append8 (l0 := l0) 175 174 rfl (.tmp 105) (.tmp 106) rfl Tryd.underlying175 info174 (by rfl) (by rfl) hl0 ((hA0.out.at (F.out.below.block g0 HG.out)).at (by first | rfl | (rw [alloc_at, if_neg (by have := HG.out; have := F.out.below.size; omega)]))) (w := w) (n := w.heap.size) (gw := gw) (lw := ws) (by first | exact F.out | exact ⟨F.out.hw.at (by rw [alloc_at, if_neg (by have := F.out.lt; omega)]), F.out.mine, by rw [alloc_sz]; have := F.out.lt; omega, ⟨F.out.below.os, F.out.below.tape, F.out.below.output, by rw [alloc_sz]; have := F.out.below.size; omega, fun k hk => by rw [alloc_at, if_neg (by have := F.out.below.size; omega)]; exact F.out.below.block k hk⟩⟩) ?_; clear F; intro gv cv w6 F0; have F := Aside0.mk F0; clear F0))
          obtain ⟨h0, h1, h2, h3, h4, h5, h6, h7, rfl⟩ := eight hl0
          go_loopg [11, 12] 64 (fun gg v11 v12 wr => ∃ (i gv cv : Nat) (a0 a1 a2 a3 a4 a5 a6 a7 : Int), i ≤ 64 ∧ gg + i = 64 ∧ v11 = .slice (some ⟨gv, 0, none⟩) 8 cv ∧ v12 = .int .i64 (i : Int) ∧ Aside0 (spec_l01Block.lv2 [h0, h1, h2, h3, h4, h5, h6, h7] l2 ws [a0, a1, a2, a3, a4, a5, a6, a7] (i : Int) = some r) ∧ Aside0 (Sv w wr w.heap.size gw gv ws [a0, a1, a2, a3, a4, a5, a6, a7]))
          case atStart => exact ⟨0, gv, cv, h0, h1, h2, h3, h4, h5, h6, h7, by omega, rfl, rfl, rfl, H1, F⟩
          case round =>
            clear F H1 hlt2 hlt hi h16
            obtain ⟨i, gv, cv, a0, a1, a2, a3, a4, a5, a6, a7, hi, hg, rfl, rfl, H0, F⟩ := hrel
            by_cases hlt : i < 64
            · have c1 : ((i : Int) < 64) := by omega
              have hk := Kept.of_below F.out.below S
              obtain ⟨⟨c0_, d1, d2, d3, d4, d5, d6, d7⟩, -⟩ := F.out.ha.eight
              have bk := HR2.out wr hk i hlt
              have bw := F.out.hw.cell i (by omega)
              clear hk
              obtain ⟨xk, hxk⟩ : ∃ x, l2.getD i 0 = x := ⟨_, rfl⟩
              obtain ⟨xw, hxw⟩ : ∃ x, ws.getD i 0 = x := ⟨_, rfl⟩
              rw [hxk] at bk
              rw [hxw] at bw
              have HX := Aside0.mk (And.intro hxk hxw)
              clear hxk hxw
              go_wp2
              refine wp_region_still_lit (by kernel_rfl) (by kernel_rfl) ?_
              repeat still_step
              still_call (stn6 _ _)
              repeat still_step
              still_call (stn11 _ _)
              repeat still_step
              still_call (stn25 _ _)
              repeat still_step
              refine wpStill_nil ?_
              have F3 := Aside0.mk F.out.drew
              have c0d : wr.drew.cell? _ = _ := c0_
              have d1_ : wr.drew.cell? _ = _ := d1
              have d2_ : wr.drew.cell? _ = _ := d2
              have d3_ : wr.drew.cell? _ = _ := d3
              have d4_ : wr.drew.cell? _ = _ := d4
              have d5_ : wr.drew.cell? _ = _ := d5
              have d6_ : wr.drew.cell? _ = _ := d6
              have d7_ : wr.drew.cell? _ = _ := d7
              clear c0_ d1 d2 d3 d4 d5 d6 d7 bk bw F
              generalize hxp : IntKind.u32.wrap (IntKind.u32.wrap (_ + xk) + xw) = xp
              have hp : pX a7 a4 a5 a6 xk xw = xp := hxp
              have HP := Aside0.mk ((pX_eq _ _ _ _ _ _).symm.trans hp)
              clear hxp hp
              rw [show ({ heap := wr.heap, tape := wr.tape, drawn := wr.drawn + 1, os := wr.os, output := wr.output } : World) = wr.drew from rfl]
              generalize wr.drew = w6 at c0d d1_ d2_ d3_ d4_ d5_ d6_ d7_ F3 ⊢
              go_wp2
              refine wp_region_still_lit (by kernel_rfl) (by kernel_rfl) ?_
              repeat still_step
              still_call (stn2 _ _)
              repeat still_step
              still_call (stn13 _ _)
              repeat still_step
              still_call (stn22 _ _)
              repeat still_step
              refine wpStill_nil ?_
              obtain ⟨⟨c0_, d1, d2, d3, d4, d5, d6, d7⟩, -⟩ := F3.out.drew.ha.eight
              have F4 := Aside0.mk F3.out.drew
              clear c0d d1_ d2_ d3_ d4_ d5_ d6_ d7_ F3
              generalize hxq : IntKind.u32.wrap (_ + Go.bits .xor .u32 _ (Go.bits .and .u32 a1 a2)) = xq
              have hq : qW a0 a1 a2 = xq := hxq
              have HQ := Aside0.mk hq
              clear hxq hq
              rw [show ({ heap := w6.heap, tape := w6.tape, drawn := w6.drawn + 1, os := w6.os, output := w6.output } : World) = w6.drew from rfl]
              generalize w6.drew = w7 at c0_ d1 d2 d3 d4 d5 d6 d7 F4 ⊢
              have H1 := Aside0.mk (step2w _ _ _ _ _ _ _ _ _ _ _ _ _ hws hl2 hlt xk xw xp xq HX.out.1 HX.out.2 HP.out HQ.out H0.out)
              clear H0
              go_wp2
              refine wp_region_still_tail 26 (by kernel_rfl) (by kernel_rfl) ?_
              simp only [List.take_succ_cons, List.take_zero, List.drop_succ_cons, List.drop_zero]
              repeat still_step
              refine wpStill_nil ?_
              change wpList _ _ _ _ _ w7.drew
              have F5 := Aside0.mk F4.out.drew
              clear c0_ d1 d2 d3 d4 d5 d6 d7 F4
              generalize w7.drew = w8 at F5 ⊢
              go_wp2
              go_roundg (64 - (i + 1))
              case measure => omega
              case rel => exact ⟨i + 1, w8.heap.size, 8, (xp + xq) % 4294967296, a0, a1, a2, (a3 + xp) % 4294967296, a4, a5, a6, by omega, by omega, rfl, by go_num, H1, ⟨F5.out.lit [(xp + xq) % 4294967296, a0, a1, a2, (a3 + xp) % 4294967296, a4, a5, a6] 174⟩⟩
            · have hlt2 : ¬ ((i : Int) < 64) := by omega
              have H1 := Aside0.mk (exit2 _ _ _ _ _ _ hlt2 H0.out)
              clear H0
              have F2 : Aside0 (St w0 w wr S g0 c0 gv [h0, h1, h2, h3, h4, h5, h6, h7] [a0, a1, a2, a3, a4, a5, a6, a7]) := Aside0.mk ⟨Kd.R_below HO.out F.out.below, F.out.ha, by have := F.out.mv; have := HG.out; omega, HB.out.trans (F.out.below.mono HB.out.size), Kept.of_below F.out.below S⟩
              clear F
              go_wp2
              go_loopg [17] 8 (fun gg v17 wr => ∃ (i : Nat) (lh : List Int), i ≤ 8 ∧ gg + i = 8 ∧ v17 = .int .i64 (i : Int) ∧ lh.length = 8 ∧ Aside0 (spec_l01Block.lv3 lh [a0, a1, a2, a3, a4, a5, a6, a7] (i : Int) = some r) ∧ Aside0 (St w0 w wr S g0 c0 gv lh [a0, a1, a2, a3, a4, a5, a6, a7]))
              case atStart => exact ⟨0, _, by omega, rfl, rfl, rfl, H1, F2⟩
              case round =>
                clear F2 H1 hlt2 hlt hi
                obtain ⟨i, lh, hi, hg, rfl, hlh, H0, F⟩ := hrel
                by_cases hlt : i < 8
                · have c1 : ((i : Int) < 8) := by omega
                  have H1 := Aside0.mk (step3 _ _ _ _ hlh rfl hlt H0.out)
                  obtain ⟨b0, z1⟩ := Kd.R_celln 0 F.out.hr (i : Int) (by omega) (by omega)
                  have b1 := F.out.ha.cell i (by simpa using hlt)
                  rw [Int.toNat_natCast] at b0 z1
                  have b0' : wr.cell? ⟨g0, i, none⟩ = some (.int .u32 (lh.getD i 0)) := by simpa [rdOf] using b0
                  clear H0 b0
                  obtain ⟨x0, hx0⟩ : ∃ x, lh.getD i 0 = x := ⟨_, rfl⟩
                  obtain ⟨x1, hx1⟩ : ∃ x, ([a0, a1, a2, a3, a4, a5, a6, a7] : List Int).getD i 0 = x := ⟨_, rfl⟩
                  rw [hx0] at b0' H1
                  rw [hx1] at b1 H1
                  rw [u32w_h] at H1
                  clear hx0 hx1
                  go_wp2
                  refine wp_region_still_tail 10 (by kernel_rfl) (by kernel_rfl) ?_
                  simp only [List.take_succ_cons, List.take_zero, List.drop_succ_cons, List.drop_zero]
                  repeat still_step
                  refine wpStill_nil ?_
                  change wpList _ _ _ _ _ wr.drew
                  have z2 : wr.drew.cell? ⟨g0, i, none⟩ = some (.int .u32 x0) := b0'
                  have z3 : wr.drew.frozen? ⟨g0, i, none⟩ = false := z1
                  have F2 := Aside0.mk (F.out.drew.set i ((x0 + x1) % 4294967296))
                  generalize wr.drew = w4 at z2 z3 F2 ⊢
                  clear z1 b0' b1 F
                  go_wp2
                  go_roundg (8 - (i + 1))
                  case measure => omega
                  case rel => exact ⟨i + 1, _, by omega, by omega, by go_num, by rw [List.length_set]; exact hlh, H1, F2⟩
                · have hlt2 : ¬ ((i : Int) < 8) := by omega
                  have e := exit3 _ _ _ _ hlt2 H0.out
                  subst e
                  clear H0
                  go_wp2
                  first | go_end0 | ((try simp only [Exit.inBlock, Exit.then]); refine bodyPost_ret (results_none rfl _ _ _) rfl ?_)
                  exact ⟨rfl, F.out.hr, F.out.below, F.out.kept⟩
end Go.Proofs.YtlifdodphkimpaaDoor.A
end

section
namespace Go.Proofs.YtlifdodphkimpaaDoor.A
open Go.RowKit Go.Proofs.YtlifdodphkimpaaDoorW.PrintWords Go.Proofs.YtlifdodphkimpaaDoorW.PrintLast Go.Proofs.YtlifdodphkimpaaDoorW.PrintMore
attribute [local go_sem] max2_int min2_int max_two min_two max_three min_three max_four min_four
theorem spec_l01Block.calls (k : Nat) (P0_ : Nat → Prop) (u9000_ : Value) (l0 : List Int) (A1 : Option Addr) (c1 : Nat) (l1 : List Int) (A2 : Option Addr) (c2 : Nat) (l2 : List Int) (r : List Int) (w0 w : World) (hB : Below w0.heap.size w0 w) (ho0 : Kd.R (Kd.int .u32) 174 w w0.heap.size P0_ u9000_ l0) (hr1 : ∀ W_,Kept w W_ (fun k_ => P0_ k_) → Kd.C (Kd.int .u8) W_ A1 l1.length l1) (hc1 : l1.length ≤ c1) (hr2 : ∀ W_,Kept w W_ (fun k_ => P0_ k_) → Kd.C (Kd.int .u32) W_ A2 l2.length l2) (hc2 : l2.length ≤ c2) (h : spec_l01Block.f k l0 l1 l2 = some r) :
  Calls Tryd.prog 154 #[u9000_,.slice A1 l1.length c1,.slice A2 l2.length c2] w fun e w' => e = .returned (.tuple #[]) ∧ Kd.R (Kd.int .u32) 174 w' w0.heap.size (fun k_ => (P0_ k_ ∨ w.heap.size ≤ k_)) u9000_ r ∧ Below w0.heap.size w0 w' ∧ Kept w w' (fun k_ => P0_ k_) := by
 unfold spec_l01Block.f at h
 by_cases c : l0.length = 8 ∧ l1.length = 64 ∧ l2.length = 64
 ·have hv : spec_l01Block.v l0 l1 l2 = some r := (spec_l01Block.v_lim l0 l1 l2).up k r h
  obtain ⟨h0,h1,h2⟩ := c
  obtain ⟨g0,c0,rfl,-,-,-⟩ := Kd.R_form ho0 (by omega)
  obtain ⟨ad1,rfl,-⟩ := C_cells (hr1 w (Kept.refl w _)) (by omega)
  obtain ⟨ad2,rfl,-⟩ := C_cells (hr2 w (Kept.refl w _)) (by omega)
  have k1 : ∀ W,Kept w W P0_ → ∀ j,j < 64 → W.cell? (ad1.add j) = some (.int .u8 (l1.getD j 0)) := fun W hk j hj => by
   obtain ⟨ad,e,hc⟩ := C_cells (hr1 W hk) (by omega)
   injection e with e
   subst e
   exact hc j (by omega)
  have k2 : ∀ W,Kept w W P0_ → ∀ j,j < 64 → W.cell? (ad2.add j) = some (.int .u32 (l2.getD j 0)) := fun W hk j hj => by
   obtain ⟨ad,e,hc⟩ := C_cells (hr2 W hk) (by omega)
   injection e with e
   subst e
   exact hc j (by omega)
  rw [h0] at ho0 ⊢
  rw [h1] at hc1 ⊢
  rw [h2] at hc2 ⊢
  exact (sblock_walk P0_ g0 c0 l0 l1 l2 r ad1 ad2 c1 c2 w0 w hB ho0 k1 k2 h0 h1 h2 hc1 hc2 hv).mono fun e w' ⟨he,hr,hb,hk⟩ => ⟨he,Kd.R_mono hr (fun k_ hk_ => .inl hk_),hb,hk⟩
 ·rw [if_neg c] at h
  cases h
set_option maxHeartbeats 8000000 in
set_option maxRecDepth 100000 in
theorem spec_l01Consts.calls  (r : List Int) (w : World) (h : spec_l01Consts.f  = some r) :
  Calls Tryd.prog 153 #[] w fun e w' => ∃ v0_ : Value,e = .returned (v0_) ∧ Kd.R (Kd.int .u32) 174 w' w.heap.size (fun _ => True) v0_ r ∧ Below w.heap.size w w' := by
 have HB := am_ (Below.refl w.heap.size w)
 have H : (some (([1116352408,1899447441,3049323471,3921009573,961987163,1508970993,2453635748,2870763221,3624381080,310598401,607225278,1426881987,1925078388,2162078206,2614888103,3248222580,3835390401,4022224774,264347078,604807628,770255983,1249150122,1555081692,1996064986,2554220882,2821834349,2952996808,3210313671,3336571891,3584528711,113926993,338241895,666307205,773529912,1294757372,1396182291,1695183700,1986661051,2177026350,2456956037,2730485921,2820302411,3259730800,3345764771,3516065817,3600352804,4094571909,275423344,430227734,506948616,659060556,883997877,958139571,1322822218,1537002063,1747873779,1955562222,2024104815,2227730452,2361852424,2428436474,2756734187,3204031479,3329325298] : List Int))) = some r := h
 clear h
 obtain ⟨y129,hy129⟩ : ∃ y_ : List Int,y_ = (([1116352408,1899447441,3049323471,3921009573,961987163,1508970993,2453635748,2870763221,3624381080,310598401,607225278,1426881987,1925078388,2162078206,2614888103,3248222580,3835390401,4022224774,264347078,604807628,770255983,1249150122,1555081692,1996064986,2554220882,2821834349,2952996808,3210313671,3336571891,3584528711,113926993,338241895,666307205,773529912,1294757372,1396182291,1695183700,1986661051,2177026350,2456956037,2730485921,2820302411,3259730800,3345764771,3516065817,3600352804,4094571909,275423344,430227734,506948616,659060556,883997877,958139571,1322822218,1537002063,1747873779,1955562222,2024104815,2227730452,2361852424,2428436474,2756734187,3204031479,3329325298] : List Int)) := ⟨_,rfl⟩
 replace H : (some y129) = some r := by first | (rw [hy129];with_reducible exact H) | (have H2_ := (Option.bind_some _ _).symm.trans H;rw [hy129];with_reducible exact H2_) | (have H2_ := (Option.bind_some _ _).symm.trans H;with_reducible exact H2_) | with_reducible exact H | (rw [hy129];exact H) | exact H
 have Ny129 := am_ hy129
 clear hy129
 obtain rfl := Option.some.inj H
 go_enter Tryd.func153,Tryd.ntmps153
 go_wp2_with (first | ((with_reducible refine gate_dst (N := 1) rfl ?_);refine Kd.R_lit (Kd.int .u32) _ 174 ?hg (N := 1) ?hd (xs := ([1116352408,1899447441,3049323471,3921009573,961987163,1508970993,2453635748,2870763221,3624381080,310598401,607225278,1426881987,1925078388,2162078206,2614888103,3248222580,3835390401,4022224774,264347078,604807628,770255983,1249150122,1555081692,1996064986,2554220882,2821834349,2952996808,3210313671,3336571891,3584528711,113926993,338241895,666307205,773529912,1294757372,1396182291,1695183700,1986661051,2177026350,2456956037,2730485921,2820302411,3259730800,3345764771,3516065817,3600352804,4094571909,275423344,430227734,506948616,659060556,883997877,958139571,1322822218,1537002063,1747873779,1955562222,2024104815,2227730452,2361852424,2428436474,2756734187,3204031479,3329325298] : List Int)) (inner := [.int .u32 1116352408,.int .u32 1899447441,.int .u32 3049323471,.int .u32 3921009573,.int .u32 961987163,.int .u32 1508970993,.int .u32 2453635748,.int .u32 2870763221,.int .u32 3624381080,.int .u32 310598401,.int .u32 607225278,.int .u32 1426881987,.int .u32 1925078388,.int .u32 2162078206,.int .u32 2614888103,.int .u32 3248222580,.int .u32 3835390401,.int .u32 4022224774,.int .u32 264347078,.int .u32 604807628,.int .u32 770255983,.int .u32 1249150122,.int .u32 1555081692,.int .u32 1996064986,.int .u32 2554220882,.int .u32 2821834349,.int .u32 2952996808,.int .u32 3210313671,.int .u32 3336571891,.int .u32 3584528711,.int .u32 113926993,.int .u32 338241895,.int .u32 666307205,.int .u32 773529912,.int .u32 1294757372,.int .u32 1396182291,.int .u32 1695183700,.int .u32 1986661051,.int .u32 2177026350,.int .u32 2456956037,.int .u32 2730485921,.int .u32 2820302411,.int .u32 3259730800,.int .u32 3345764771,.int .u32 3516065817,.int .u32 3600352804,.int .u32 4094571909,.int .u32 275423344,.int .u32 430227734,.int .u32 506948616,.int .u32 659060556,.int .u32 883997877,.int .u32 958139571,.int .u32 1322822218,.int .u32 1537002063,.int .u32 1747873779,.int .u32 1955562222,.int .u32 2024104815,.int .u32 2227730452,.int .u32 2361852424,.int .u32 2428436474,.int .u32 2756734187,.int .u32 3204031479,.int .u32 3329325298]) (ok := fun _ => True) (okp := fun _ => True) ?hr ?hp (fun _ hk => hk) trivial (Below.refl _ _) (Nat.le_refl _) (by simp) ?_;(case hd => rfl);(case hg => rfl);(case hr => first | (go_simp;done) | (go_simp;rfl));(case hp => exact (Reps.one (show Kd.M (Kd.int .u32) _ _ _ 1116352408 [.int .u32 1116352408] from rfl) (Reps.one (show Kd.M (Kd.int .u32) _ _ _ 1899447441 [.int .u32 1899447441] from rfl) (Reps.one (show Kd.M (Kd.int .u32) _ _ _ 3049323471 [.int .u32 3049323471] from rfl) (Reps.one (show Kd.M (Kd.int .u32) _ _ _ 3921009573 [.int .u32 3921009573] from rfl) (Reps.one (show Kd.M (Kd.int .u32) _ _ _ 961987163 [.int .u32 961987163] from rfl) (Reps.one (show Kd.M (Kd.int .u32) _ _ _ 1508970993 [.int .u32 1508970993] from rfl) (Reps.one (show Kd.M (Kd.int .u32) _ _ _ 2453635748 [.int .u32 2453635748] from rfl) (Reps.one (show Kd.M (Kd.int .u32) _ _ _ 2870763221 [.int .u32 2870763221] from rfl) (Reps.one (show Kd.M (Kd.int .u32) _ _ _ 3624381080 [.int .u32 3624381080] from rfl) (Reps.one (show Kd.M (Kd.int .u32) _ _ _ 310598401 [.int .u32 310598401] from rfl) (Reps.one (show Kd.M (Kd.int .u32) _ _ _ 607225278 [.int .u32 607225278] from rfl) (Reps.one (show Kd.M (Kd.int .u32) _ _ _ 1426881987 [.int .u32 1426881987] from rfl) (Reps.one (show Kd.M (Kd.int .u32) _ _ _ 1925078388 [.int .u32 1925078388] from rfl) (Reps.one (show Kd.M (Kd.int .u32) _ _ _ 2162078206 [.int .u32 2162078206] from rfl) (Reps.one (show Kd.M (Kd.int .u32) _ _ _ 2614888103 [.int .u32 2614888103] from rfl) (Reps.one (show Kd.M (Kd.int .u32) _ _ _ 3248222580 [.int .u32 3248222580] from rfl) (Reps.one (show Kd.M (Kd.int .u32) _ _ _ 3835390401 [.int .u32 3835390401] from rfl) (Reps.one (show Kd.M (Kd.int .u32) _ _ _ 4022224774 [.int .u32 4022224774] from rfl) (Reps.one (show Kd.M (Kd.int .u32) _ _ _ 264347078 [.int .u32 264347078] from rfl) (Reps.one (show Kd.M (Kd.int .u32) _ _ _ 604807628 [.int .u32 604807628] from rfl) (Reps.one (show Kd.M (Kd.int .u32) _ _ _ 770255983 [.int .u32 770255983] from rfl) (Reps.one (show Kd.M (Kd.int .u32) _ _ _ 1249150122 [.int .u32 1249150122] from rfl) (Reps.one (show Kd.M (Kd.int .u32) _ _ _ 1555081692 [.int .u32 1555081692] from rfl) (Reps.one (show Kd.M (Kd.int .u32) _ _ _ 1996064986 [.int .u32 1996064986] from rfl) (Reps.one (show Kd.M (Kd.int .u32) _ _ _ 2554220882 [.int .u32 2554220882] from rfl) (Reps.one (show Kd.M (Kd.int .u32) _ _ _ 2821834349 [.int .u32 2821834349] from rfl) (Reps.one (show Kd.M (Kd.int .u32) _ _ _ 2952996808 [.int .u32 2952996808] from rfl) (Reps.one (show Kd.M (Kd.int .u32) _ _ _ 3210313671 [.int .u32 3210313671] from rfl) (Reps.one (show Kd.M (Kd.int .u32) _ _ _ 3336571891 [.int .u32 3336571891] from rfl) (Reps.one (show Kd.M (Kd.int .u32) _ _ _ 3584528711 [.int .u32 3584528711] from rfl) (Reps.one (show Kd.M (Kd.int .u32) _ _ _ 113926993 [.int .u32 113926993] from rfl) (Reps.one (show Kd.M (Kd.int .u32) _ _ _ 338241895 [.int .u32 338241895] from rfl) (Reps.one (show Kd.M (Kd.int .u32) _ _ _ 666307205 [.int .u32 666307205] from rfl) (Reps.one (show Kd.M (Kd.int .u32) _ _ _ 773529912 [.int .u32 773529912] from rfl) (Reps.one (show Kd.M (Kd.int .u32) _ _ _ 1294757372 [.int .u32 1294757372] from rfl) (Reps.one (show Kd.M (Kd.int .u32) _ _ _ 1396182291 [.int .u32 1396182291] from rfl) (Reps.one (show Kd.M (Kd.int .u32) _ _ _ 1695183700 [.int .u32 1695183700] from rfl) (Reps.one (show Kd.M (Kd.int .u32) _ _ _ 1986661051 [.int .u32 1986661051] from rfl) (Reps.one (show Kd.M (Kd.int .u32) _ _ _ 2177026350 [.int .u32 2177026350] from rfl) (Reps.one (show Kd.M (Kd.int .u32) _ _ _ 2456956037 [.int .u32 2456956037] from rfl) (Reps.one (show Kd.M (Kd.int .u32) _ _ _ 2730485921 [.int .u32 2730485921] from rfl) (Reps.one (show Kd.M (Kd.int .u32) _ _ _ 2820302411 [.int .u32 2820302411] from rfl) (Reps.one (show Kd.M (Kd.int .u32) _ _ _ 3259730800 [.int .u32 3259730800] from rfl) (Reps.one (show Kd.M (Kd.int .u32) _ _ _ 3345764771 [.int .u32 3345764771] from rfl) (Reps.one (show Kd.M (Kd.int .u32) _ _ _ 3516065817 [.int .u32 3516065817] from rfl) (Reps.one (show Kd.M (Kd.int .u32) _ _ _ 3600352804 [.int .u32 3600352804] from rfl) (Reps.one (show Kd.M (Kd.int .u32) _ _ _ 4094571909 [.int .u32 4094571909] from rfl) (Reps.one (show Kd.M (Kd.int .u32) _ _ _ 275423344 [.int .u32 275423344] from rfl) (Reps.one (show Kd.M (Kd.int .u32) _ _ _ 430227734 [.int .u32 430227734] from rfl) (Reps.one (show Kd.M (Kd.int .u32) _ _ _ 506948616 [.int .u32 506948616] from rfl) (Reps.one (show Kd.M (Kd.int .u32) _ _ _ 659060556 [.int .u32 659060556] from rfl) (Reps.one (show Kd.M (Kd.int .u32) _ _ _ 883997877 [.int .u32 883997877] from rfl) (Reps.one (show Kd.M (Kd.int .u32) _ _ _ 958139571 [.int .u32 958139571] from rfl) (Reps.one (show Kd.M (Kd.int .u32) _ _ _ 1322822218 [.int .u32 1322822218] from rfl) (Reps.one (show Kd.M (Kd.int .u32) _ _ _ 1537002063 [.int .u32 1537002063] from rfl) (Reps.one (show Kd.M (Kd.int .u32) _ _ _ 1747873779 [.int .u32 1747873779] from rfl) (Reps.one (show Kd.M (Kd.int .u32) _ _ _ 1955562222 [.int .u32 1955562222] from rfl) (Reps.one (show Kd.M (Kd.int .u32) _ _ _ 2024104815 [.int .u32 2024104815] from rfl) (Reps.one (show Kd.M (Kd.int .u32) _ _ _ 2227730452 [.int .u32 2227730452] from rfl) (Reps.one (show Kd.M (Kd.int .u32) _ _ _ 2361852424 [.int .u32 2361852424] from rfl) (Reps.one (show Kd.M (Kd.int .u32) _ _ _ 2428436474 [.int .u32 2428436474] from rfl) (Reps.one (show Kd.M (Kd.int .u32) _ _ _ 2756734187 [.int .u32 2756734187] from rfl) (Reps.one (show Kd.M (Kd.int .u32) _ _ _ 3204031479 [.int .u32 3204031479] from rfl) (Reps.one (show Kd.M (Kd.int .u32) _ _ _ 3329325298 [.int .u32 3329325298] from rfl) (Reps.none _ _))))))))))))))))))))))))))))))))))))))))))))))))))))))))))))))))));intro v130 w1 ho2 hb hg_ hnew_;clear hg_ hnew_;(first | rw [← Ny129.out] at ho2 | (simp only [Int.reduceToNat] at ho2;rw [← Ny129.out] at ho2));have HO131 := am_ (Kd.R_lower ho2 (below_size (zl_ HB)));replace HB := zs_ HB hb;clear hb ho2))
 go_ret
 exact ⟨_,zt_,zr HO131,zl_ HB⟩
end Go.Proofs.YtlifdodphkimpaaDoor.A
end
