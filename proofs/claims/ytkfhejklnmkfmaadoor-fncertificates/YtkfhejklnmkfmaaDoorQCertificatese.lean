/- A part of the proof that FnCertificates returns true at every input: plain functions, contracts and lemmas. No conditions. -/
import Derived.Test.YtkfhejklnmkfmaaDoorQCertificatesd
set_option linter.unusedVariables false
set_option linter.unusedSimpArgs false
set_option linter.unusedSectionVars false
set_option maxHeartbeats 8000000
set_option maxRecDepth 100000
section
namespace Go.Proofs.YtkfhejklnmkfmaaDoor.A
open Go.RowKit Go.Proofs.YtkfhejklnmkfmaaDoorW.PrintWords Go.Proofs.YtkfhejklnmkfmaaDoorW.PrintLast Go.Proofs.YtkfhejklnmkfmaaDoorW.PrintMore
attribute [local go_sem] max2_int min2_int max_two min_two max_three min_three max_four min_four
theorem ZS.calls (k : Nat) (a0 : ByteArray) (r1 : ByteArray) (r2 : Int) (w : World) (h : ZS.f k a0 = some (r1,r2)) :
  Calls Tryd.prog 11 #[.string a0] w fun e w' => e = .returned (.tuple #[.string r1,.int .i64 r2]) ∧ Below w.heap.size w w' := by
 have HB := am_ (Below.refl w.heap.size w)
 have H : (if (a0.size : Int) > 65536 then (some ((⟨#[]⟩ : ByteArray),2)) else (if (a0.size : Int) = 32 then ((Zz.f k a0).bind fun t469 => ((ZB.f k t469).bind fun t472 => (some (t472,0)))) else (some ((⟨#[]⟩ : ByteArray),1)))) = some (r1,r2) := h
 clear h
 by_cases c2 : (a0.size : Int) > 65536
 ·rw [if_pos c2] at H
  have c2b0 : decide (65536 < (a0.size : Int)) = true := decide_eq_true c2
  have c2b1 : decide (65536 < a0.size) = true := decide_eq_true (by omega)
  clear c2
  simp only [Option.some.injEq,Prod.mk.injEq] at H
  obtain ⟨rfl,rfl⟩ := H
  go_enter Tryd.func11,Tryd.ntmps11
  go_wp2
  go_ret2
  exact ⟨zt_,zl_ HB⟩
 rw [if_neg c2] at H
 have c2b0 : decide (65536 < (a0.size : Int)) = false := decide_eq_false c2
 have c2b1 : decide (65536 < a0.size) = false := decide_eq_false (by omega)
 clear c2
 by_cases c3 : (a0.size : Int) = 32
 case neg =>
  rw [if_neg c3] at H
  have c3b0 := beq_eq_false_iff_ne.mpr c3
  have c3b1 := bne_iff_ne.mpr c3
  simp only [Option.some.injEq,Prod.mk.injEq] at H
  obtain ⟨rfl,rfl⟩ := H
  go_enter Tryd.func11,Tryd.ntmps11
  go_wp2
  go_ret2
  exact ⟨zt_,zl_ HB⟩
 rw [if_pos c3] at H
 have c3b0 := beq_iff_eq.mpr c3
 have c3b1 := bne_eq_false_iff_eq.mpr c3
 clear c3
 replace H := Option.bind_eq_some_iff.mp H
 obtain ⟨t469,A40,H⟩ := H
 try dsimp only at H
 have A4 := am_ A40
 clear A40
 replace H := Option.bind_eq_some_iff.mp H
 obtain ⟨t472,A50,H⟩ := H
 try dsimp only at H
 have A5 := am_ A50
 clear A50
 simp only [Option.some.injEq,Prod.mk.injEq] at H
 obtain ⟨rfl,rfl⟩ := H
 go_enter Tryd.func11,Tryd.ntmps11
 go_wp2_with (first | ((with_reducible refine gate_callee (f := 29) rfl ?_);refine zgl (some 11) Tryd.func29 #[.string a0] ?_;(with_reducible refine (Zz.calls k a0 t469 _ A4.out).mono ?_);rintro e w6 ⟨v470,rfl,ho0,hb⟩;refine ⟨_,rfl,?_⟩;have HO471 := am_ (Kd.R_lower ho0 (below_size (zl_ HB)));replace HB := zs_ HB hb;(try clear hb);(try clear ho0);obtain ⟨Ao7,co7,eo7⟩ := Kd.R_slice HO471.out;subst eo7) | ((with_reducible refine gate_callee (f := 28) rfl ?_);refine zgl (some 12) Tryd.func28 #[.slice Ao7 t469.length co7] ?_;(with_reducible refine (ZB.calls k (fun k_ => some k_ = (.slice Ao7 t469.length co7 : Value).ownBlock) _ _ t469 t472 _ ?side1 A5.out).mono ?_);(case side1 => exact Kd.R_V (Kd.R_tight rfl (HO471.out)));rintro e w8 ⟨rfl,hb⟩;refine ⟨_,rfl,?_⟩;replace HB := zs_ HB hb;(try clear hb)))
 go_ret2
 exact ⟨zt_,zl_ HB⟩
theorem ZK.calls (a0 : Int) (a1 : Int) (a2 : Int) (r : Bool) (w : World) (h : ZK.f a0 a1 a2 = some r) :
  Calls Tryd.prog 56 #[.int .i64 a0,.int .i64 a1,.int .i64 a2] w fun e w' => e = .returned (.bool r) ∧ Drawn0 w w' := by
 have H : (if a0 ≥ a1 then (some (decide (a0 ≤ a2))) else (some false)) = some r := h
 clear h
 by_cases c4 : a0 ≥ a1
 ·rw [if_pos c4] at H
  have c4b0 : decide (a1 ≤ a0) = true := decide_eq_true c4
  clear c4
  obtain rfl := Option.some.inj H
  go_enter Tryd.func56,Tryd.ntmps56
  go_wp2
  go_ret
  exact ⟨by first | rfl | (simp;done) | (simp [*];done),by repeat (first | exact Drawn0.refl _ | apply Drawn0.step)⟩
 rw [if_neg c4] at H
 have c4b0 : decide (a1 ≤ a0) = false := decide_eq_false c4
 clear c4
 obtain rfl := Option.some.inj H
 go_enter Tryd.func56,Tryd.ntmps56
 go_wp2
 go_ret
 exact ⟨by first | rfl | (simp;done) | (simp [*];done),by repeat (first | exact Drawn0.refl _ | apply Drawn0.step)⟩
theorem Zu.calls (k : Nat) (a0 : ByteArray) (r : ByteArray) (w : World) (h : Zu.f k a0 = some r) :
  Calls Tryd.prog 58 #[.string a0] w fun e w' => e = .returned (.string r) ∧ Below w.heap.size w w' := by
 have HB := am_ (Below.refl w.heap.size w)
 have H : (if 6 + a0.size ≤ 9223372036854775807 then (if ((⟨#[100,105,103,101,115,116]⟩ : ByteArray) ++ a0).size ≤ 140737488355328 then ((Zb.f k (bytesOf ((⟨#[100,105,103,101,115,116]⟩ : ByteArray) ++ a0))).bind fun t499 => (Zu.l0 k t499 (([] : List Int)) 0)) else (none)) else (none)) = some r := h
 clear h
 by_cases c2 : 6 + a0.size ≤ 9223372036854775807
 case neg =>
  rw [if_neg c2] at H
  exact absurd H (by simp)
 rw [if_pos c2] at H
 have c2b0 := eq_true c2
 have c2b1 := decide_eq_true c2
 try have c2b2 : (9223372036854775807 < 6 + a0.size) = False := eq_false (Nat.not_lt.2 c2)
 by_cases c3 : ((⟨#[100,105,103,101,115,116]⟩ : ByteArray) ++ a0).size ≤ 140737488355328
 case neg =>
  rw [if_neg c3] at H
  exact absurd H (by simp)
 rw [if_pos c3] at H
 have c3b0 := eq_true c3
 have c3b1 := decide_eq_true c3
 obtain ⟨y496,hy496⟩ : ∃ y_ : List Int,y_ = (bytesOf ((⟨#[100,105,103,101,115,116]⟩ : ByteArray) ++ a0)) := ⟨_,rfl⟩
 replace H : ((Zb.f k y496).bind fun t499 => (Zu.l0 k t499 (([] : List Int)) 0)) = some r := by first | (rw [hy496];with_reducible exact H) | (have H2_ := (Option.bind_some _ _).symm.trans H;rw [hy496];with_reducible exact H2_) | (have H2_ := (Option.bind_some _ _).symm.trans H;with_reducible exact H2_) | with_reducible exact H | (rw [hy496];exact H) | exact H
 have Ny496 := am_ hy496
 clear hy496
 replace H := Option.bind_eq_some_iff.mp H
 obtain ⟨t499,A40,H⟩ := H
 try dsimp only at H
 have A4 := am_ A40
 clear A40
 obtain ⟨y500,hy500⟩ : ∃ y_ : List Int,y_ = (([] : List Int)) := ⟨_,rfl⟩
 replace H : (Zu.l0 k t499 y500 0) = some r := by first | (rw [hy500];with_reducible exact H) | (have H2_ := (Option.bind_some _ _).symm.trans H;rw [hy500];with_reducible exact H2_) | (have H2_ := (Option.bind_some _ _).symm.trans H;with_reducible exact H2_) | with_reducible exact H | (rw [hy500];exact H) | exact H
 have Ny500 := am_ hy500
 clear hy500
 have H' := am_ H
 clear H
 go_enter Tryd.func58,Tryd.ntmps58
 go_wp2_with (first | ((with_reducible refine gate_dst (N := 8) rfl ?_);refine Kd.V_conv (Kd.int .u8) rfl _ 5 rfl (N := 8) rfl 9 22 _ rfl ((⟨#[100,105,103,101,115,116]⟩ : ByteArray) ++ a0) rfl Tryd.underlying9 Tryd.underlying22 Tryd.underlying5 (ok := fun k_ => w.heap.size ≤ k_) (okp := fun _ => False) (fun _ hk => hk.elim) (Nat.le_refl _) (by have := o1_ (by first | (with_reducible assumption) | assumption : decide (((⟨#[100,105,103,101,115,116]⟩ : ByteArray) ++ a0).size ≤ 140737488355328) = true);omega) (Below.refl _ _) (Nat.le_refl _) ?_;intro v497 w5 ho6 hb hg_ hnew_;clear hg_ hnew_;(first | rw [← Ny496.out] at ho6 | (simp only [Int.reduceToNat] at ho6;rw [← Ny496.out] at ho6));have HO498 := am_ (Kd.V_lower (Kd.V_mono (ok' := fun k_ => True) ho6 (fun k_ hk_ => trivial)) (below_size (zl_ HB)));replace HB := zs_ HB hb;clear hb ho6;obtain ⟨Ao7,co7,eo7⟩ := Kd.V_slice HO498.out;subst eo7) | ((with_reducible refine gate_callee (f := 59) rfl ?_);refine zgl (some 9) Tryd.func59 #[.slice Ao7 y496.length co7] ?_;(with_reducible refine (Zb.calls k _ _ y496 t499 _ ?side1 ?side2 A4.out).mono ?_);(case side1 => repeat (first | exact (Kd.V_reads' HO498.out).2.2 | (with_reducible refine Kd.C_alloc ?_ _) | (with_reducible refine Kd.C_drewN ?_ _) | (with_reducible refine Kd.C_drew ?_)));(case side2 => exact (Kd.V_reads' HO498.out).2.1);rintro e w8 ⟨rfl,hb⟩;refine ⟨_,rfl,?_⟩;replace HB := zs_ HB hb;(try clear hb);(try clear hi)) | ((with_reducible refine gate_dst (N := 10) rfl ?_);refine Kd.R_lit (Kd.int .u8) _ 5 ?hg (N := 10) ?hd (xs := ([] : List Int)) (inner := []) (ok := fun _ => True) (okp := fun _ => True) ?hr ?hp (fun _ hk => hk) trivial (Below.refl _ _) (Nat.le_refl _) (by simp) ?_;(case hd => rfl);(case hg => rfl);(case hr => first | (go_simp;done) | (go_simp;rfl));(case hp => exact (Reps.none _ _));intro v501 w9 ho10 hb hg_ hnew_;clear hg_ hnew_;(first | rw [← Ny500.out] at ho10 | (simp only [Int.reduceToNat] at ho10;rw [← Ny500.out] at ho10));have HO502 := am_ (Kd.R_lower ho10 (below_size (zl_ HB)));replace HB := zs_ HB hb;clear hb ho10))
 go_loopg [4,5] k (fun kq v4 v5 w' => ∃ (x4_1 : List Int) (x5_1 : Int),v5 = .int .i64 x5_1 ∧ Aside0 (Zu.l0 kq t499 x4_1 x5_1 = some r) ∧ Aside0 (kq ≤ k) ∧ Aside0 (Kd.R (Kd.int .u8) 5 w' w.heap.size (fun _ => True) v4 x4_1) ∧ Aside0 (Below w.heap.size w w'))
 case atStart => exact ⟨(y500),(0),(by first | rfl | (simp;done) | (simp [*];done)),H',⟨Nat.le_refl _⟩,⟨zr HO502⟩,⟨zl_ HB⟩⟩
 case round =>
  clear H'
  try clear c2
  try clear c2b0
  try clear c2b1
  try clear c2b2
  try clear p2
  try clear c3
  try clear c3b0
  try clear c3b1
  try clear c5
  obtain ⟨x4_1,x5_1,rfl,HA,HK1,HO_4,HB⟩ := hrel
  cases gk with
  | zero => exact absurd HA.out (by simp [Zu.l0])
  | succ k1 =>
   have H := HA.out
   clear HA
   simp only [Zu.l0] at H
   by_cases c11 : x5_1 < 32
   case neg =>
    rw [if_neg c11] at H
    have c11b0 := decide_eq_false c11
    clear c11
    obtain rfl := Option.some.inj H
    have hcv21 := own_string (P := Tryd.prog) Tryd.underlying22 Tryd.underlying5 Tryd.underlying9 (Kd.own_of_R HO_4.out)
    go_wp2
    go_ret
    exact ⟨zt_,zl_ HB⟩
   rw [if_pos c11] at H
   have c11b0 := decide_eq_true c11
   clear c11
   obtain ⟨ji12,hji12⟩ : ∃ j_ : Int,(wrap64 (Int.tdiv x5_1 8)) = j_ := ⟨_,rfl⟩
   replace H : (if 0 ≤ (ji12) then (if (ji12) < (t499.size : Int) then (if 0 ≤ (IntKind.u64.wrap (wrap64 (7 - (Int.tmod x5_1 8)))) then (if x4_1.length < 140737488355328 then (Zu.l0 k1 t499 (x4_1 ++ [(48 + (Go.bits .and .u8 (shr .u8 (bt t499 (ji12)) (IntKind.u64.wrap (wrap64 (7 - (Int.tmod x5_1 8))))) 1)) % 256]) (wrap64 (x5_1 + 1))) else (none)) else (none)) else (none)) else (none)) = some r := by first | (rw [hji12] at H;exact H) | (simp only [hji12] at H ⊢;exact H)
   have hji12w : (IntKind.i64.wrap (Int.tdiv x5_1 8)) = ji12 := (i64_w _).trans hji12
   by_cases c13 : 0 ≤ (ji12)
   case neg =>
    rw [if_neg c13] at H
    exact absurd H (by simp)
   rw [if_pos c13] at H
   have c13b0 := decide_eq_true c13
   clear c13
   by_cases c14 : (ji12) < (t499.size : Int)
   case neg =>
    rw [if_neg c14] at H
    exact absurd H (by simp)
   rw [if_pos c14] at H
   have c14b0 := decide_eq_true c14
   clear c14
   obtain ⟨ji16,hji16⟩ : ∃ j_ : Int,(IntKind.u64.wrap (wrap64 (7 - (Int.tmod x5_1 8)))) = j_ := ⟨_,rfl⟩
   replace H : (if 0 ≤ (ji16) then (if x4_1.length < 140737488355328 then (Zu.l0 k1 t499 (x4_1 ++ [(48 + (Go.bits .and .u8 (shr .u8 (bt t499 (ji12)) (ji16)) 1)) % 256]) (wrap64 (x5_1 + 1))) else (none)) else (none)) = some r := by first | (rw [hji16] at H;exact H) | (simp only [hji16] at H ⊢;exact H)
   by_cases c17 : 0 ≤ (ji16)
   case neg =>
    rw [if_neg c17] at H
    exact absurd H (by simp)
   rw [if_pos c17] at H
   have c17b0 := eq_true c17
   have c17b1 := decide_eq_true c17
   clear c17
   obtain ⟨ji18,hji18⟩ : ∃ j_ : Int,(shr .u8 (bt t499 (ji12)) (ji16)) = j_ := ⟨_,rfl⟩
   replace H : (if x4_1.length < 140737488355328 then (Zu.l0 k1 t499 (x4_1 ++ [(48 + (Go.bits .and .u8 (ji18) 1)) % 256]) (wrap64 (x5_1 + 1))) else (none)) = some r := by first | (rw [hji18] at H;exact H) | (simp only [hji18] at H ⊢;exact H)
   have hji18_ : ((bt t499 (ji12)) / 2 ^ min (ji16).toNat 8) = ji18 := hji18
   have hji18z : (ji16) ≤ 8 → ((bt t499 (ji12)) / 2 ^ (ji16).toNat) = ji18 := shr_small hji18
   by_cases c19 : x4_1.length < 140737488355328
   case neg =>
    rw [if_neg c19] at H
    exact absurd H (by simp)
   rw [if_pos c19] at H
   have LMc19 := am_ c19
   clear c19
   obtain ⟨y503,hy503⟩ : ∃ y_ : List Int,y_ = (x4_1 ++ [(48 + (Go.bits .and .u8 (ji18) 1)) % 256]) := ⟨_,rfl⟩
   replace H : (Zu.l0 k1 t499 y503 (wrap64 (x5_1 + 1))) = some r := by first | (rw [hy503];with_reducible exact H) | (have H2_ := (Option.bind_some _ _).symm.trans H;rw [hy503];with_reducible exact H2_) | (have H2_ := (Option.bind_some _ _).symm.trans H;with_reducible exact H2_) | with_reducible exact H | (rw [hy503];exact H) | exact H
   have Ny503 := am_ hy503
   clear hy503
   have H' := am_ H
   clear H
   have p15 : 0 ≤ ((ji12) : Int) := zo_
   have q15 : (ji12) < (t499.size : Int) := zo_
   have hx15 := bt_at t499 (ji12)
   replace p15 := eq_true p15
   replace q15 := eq_true q15
   go_wp2_with (first | ((with_reducible refine gate_builtin (b := .append) (xs := #[.tmp 15,.tmp 27]) rfl ?_);at_builtin;refine Kd.R_append (Kd.int .u8) (w0 := w) w.heap.size rfl (.tmp 15) (.tmp 27) 22 5 (.int .u8 0) 1 rfl Tryd.underlying22 info5 rfl (by decide) (by omega) u4 x4_1 ((48 + (Go.bits .and .u8 (ji18) 1)) % 256) [.int .u8 ((48 + (Go.bits .and .u8 (ji18) 1)) % 256)] (fun _ => True) (fun _ => False) rfl rfl ?aP (fun _ hk => hk.elim) ?aF ?aO ?aB ?aS ?aL ?_;(case aP => exact rfl);(case aB => exact (zl_ HB));(case aF => exact (fun _ _ => trivial));(case aO => exact (zr HO_4));(case aS => exact (below_size (zl_ HB)));(case aL => have := LMc19.out;omega);intro v504 w20 ho hb hg hat;rw [← Ny503.out] at ho;replace HB := am_ (hb);have HO505 := am_ (ho);clear HO_4;clear ho hb hg hat))
   go_roundg k1
   case measure => have := HK1.out;omega
   case rel => exact ⟨(y503),(wrap64 (x5_1 + 1)),(by first | rfl | (simp;done) | (simp [*];done)),H',⟨by have := HK1.out;omega⟩,⟨zr HO505⟩,⟨zl_ HB⟩⟩
theorem Zq.calls (k : Nat) (A0 : Option Addr) (c0 : Nat) (l0 : List ByteArray) (a1 : Int) (r : Bool) (w : World) (hr0 : Kd.C Kd.string w A0 l0.length l0) (hc0 : l0.length ≤ c0) (h : Zq.f k l0 a1 = some r) :
  Calls Tryd.prog 57 #[.slice A0 l0.length c0,.int .i64 a1] w fun e w' => e = .returned (.bool r) ∧ Drawn0 w w' := by
 have HR0 := am_ hr0
 have HC0 := am_ hc0
 clear hr0 hc0
 have H : (if (l0.length : Int) = a1 then (Zq.l0 k l0 a1 0) else (some false)) = some r := h
 clear h
 by_cases c3 : (l0.length : Int) = a1
 case neg =>
  rw [if_neg c3] at H
  have c3b0 := beq_eq_false_iff_ne.mpr c3
  have c3b1 := bne_iff_ne.mpr c3
  obtain rfl := Option.some.inj H
  go_enter Tryd.func57,Tryd.ntmps57
  go_wp2
  go_ret
  exact ⟨by first | rfl | (simp;done) | (simp [*];done),by repeat (first | exact Drawn0.refl _ | apply Drawn0.step)⟩
 rw [if_pos c3] at H
 have c3b0 := beq_iff_eq.mpr c3
 have c3b1 := bne_eq_false_iff_eq.mpr c3
 clear c3
 have H' := am_ H
 clear H
 go_enter Tryd.func57,Tryd.ntmps57
 go_wp2
 go_loopg [5] k (fun kq v5 w' => ∃ (x5_1 : Int),v5 = .int .i64 x5_1 ∧ Aside0 (Zq.l0 kq l0 a1 x5_1 = some r) ∧ Aside0 (kq ≤ k) ∧ Drawn0 w w')
 case atStart => exact ⟨(0),(by first | rfl | (simp;done) | (simp [*];done)),H',⟨Nat.le_refl _⟩,by repeat (first | exact Drawn0.refl _ | apply Drawn0.step)⟩
 case round =>
  clear H'
  try clear p2
  try clear c3
  try clear c3b0
  try clear c3b1
  obtain ⟨x5_1,rfl,HA,HK1,⟨m1,rfl⟩⟩ := hrel
  cases gk with
  | zero => exact absurd HA.out (by simp [Zq.l0])
  | succ k1 =>
   have H := HA.out
   clear HA
   simp only [Zq.l0] at H
   by_cases c4 : x5_1 < a1
   case neg =>
    rw [if_neg c4] at H
    have c4b0 := decide_eq_false c4
    clear c4
    obtain rfl := Option.some.inj H
    go_wp2
    go_ret
    exact ⟨by first | rfl | (simp;done) | (simp [*];done),by repeat (first | exact Drawn0.refl _ | apply Drawn0.step)⟩
   rw [if_pos c4] at H
   have c4b0 := decide_eq_true c4
   clear c4
   by_cases c5 : 0 ≤ x5_1
   case neg =>
    rw [if_neg c5] at H
    exact absurd H (by simp)
   rw [if_pos c5] at H
   have c5b0 := decide_eq_true c5
   clear c5
   by_cases c6 : x5_1 < (l0.length : Int)
   case neg =>
    rw [if_neg c6] at H
    exact absurd H (by simp)
   rw [if_pos c6] at H
   have c6b0 := decide_eq_true c6
   clear c6
   by_cases c7 : ((rdOf ByteArray.empty l0 x5_1).size : Int) = 32
   case neg =>
    rw [if_neg c7] at H
    have c7b0 := beq_eq_false_iff_ne.mpr c7
    have c7b1 := bne_iff_ne.mpr c7
    obtain rfl := Option.some.inj H
    have p495 : 0 ≤ (x5_1 : Int) := zo_
    have q495 : x5_1 < (l0.length : Int) := zo_
    obtain ⟨ad495,e495,hx495_0⟩ := Kd.at_string HR0.out x5_1 p495 q495
    cases e495
    replace p495 := eq_true p495
    replace q495 := eq_true q495
    go_wp2
    go_ret
    exact ⟨by first | rfl | (simp;done) | (simp [*];done),by repeat (first | exact Drawn0.refl _ | apply Drawn0.step)⟩
   rw [if_pos c7] at H
   have c7b0 := beq_iff_eq.mpr c7
   have c7b1 := bne_eq_false_iff_eq.mpr c7
   clear c7
   have H' := am_ H
   clear H
   have p495 : 0 ≤ (x5_1 : Int) := zo_
   have q495 : x5_1 < (l0.length : Int) := zo_
   obtain ⟨ad495,e495,hx495_0⟩ := Kd.at_string HR0.out x5_1 p495 q495
   cases e495
   replace p495 := eq_true p495
   replace q495 := eq_true q495
   go_wp2
   go_roundg k1
   case measure => have := HK1.out;omega
   case rel => exact ⟨(wrap64 (x5_1 + 1)),(by first | rfl | (simp;done) | (simp [*];done)),H',⟨by have := HK1.out;omega⟩,by repeat (first | exact Drawn0.refl _ | apply Drawn0.step)⟩
def Za.T14 : Bool × List (List Nat × List Nat) := (true,[([],[]),([],[]),([0,1],[0,1]),([],[]),([3],[3]),([],[]),([4,5],[4,5]),([6],[6]),([2,7,2],[2,7]),([8,8,0,1,2,3,4,5,6,7,8],[0,8])])
def Za.B14 : List Nat := [0,0,3,0,8,0,56,120,255,511]
theorem Za.tab14 : rtab .any (opsOf Tryd.f34 14) = Za.T14 := by kernel_rfl
theorem Za.bits14 : waitsOk Za.T14.2 Za.B14 = true := by kernel_rfl
theorem Za.calls (k : Nat) (a0 : ByteArray) (a1 : ByteArray) (a2_0 : Int) (A2_1 : Option Addr) (c2_1 : Nat) (l2_1 : List ByteArray) (A2_2 : Option Addr) (c2_2 : Nat) (l2_2 : List ByteArray) (A2_3 : Option Addr) (c2_3 : Nat) (l2_3 : List ByteArray) (r : Int) (w : World) (hr2_1 : Kd.C Kd.string w A2_1 l2_1.length l2_1) (hc2_1 : l2_1.length ≤ c2_1) (hr2_2 : Kd.C Kd.string w A2_2 l2_2.length l2_2) (hc2_2 : l2_2.length ≤ c2_2) (hr2_3 : Kd.C Kd.string w A2_3 l2_3.length l2_3) (hc2_3 : l2_3.length ≤ c2_3) (h : Za.f k a0 a1 a2_0 l2_1 l2_2 l2_3 = some r) :
  Calls Tryd.prog 34 #[.string a0,.string a1,.agg #[.int .i64 a2_0,.slice A2_1 l2_1.length c2_1,.slice A2_2 l2_2.length c2_2,.slice A2_3 l2_3.length c2_3]] w fun e w' => e = .returned (.int .i64 r) ∧ Below w.heap.size w w' := by
 have hu37 := Tryd.underlying37
 have HR2_1 := am_ hr2_1
 have HC2_1 := am_ hc2_1
 clear hr2_1 hc2_1
 have HR2_2 := am_ hr2_2
 have HC2_2 := am_ hc2_2
 clear hr2_2 hc2_2
 have HR2_3 := am_ hr2_3
 have HC2_3 := am_ hc2_3
 clear hr2_3 hc2_3
 have HB := am_ (Below.refl w.heap.size w)
 have H : (if (a1.size : Int) > 65530 then (Za.j0 k a0 a1 true a2_0 l2_1 l2_2 l2_3) else (Za.j0 k a0 a1 (decide ((a0.size : Int) > 65536)) a2_0 l2_1 l2_2 l2_3)) = some r := h
 clear h
 have HC4 := am_ H
 clear H
 go_enter Tryd.func34,Tryd.ntmps34
 go_upto_region 1 with (first | ((with_reducible refine gate_dst (N := 5) rfl ?_);(try (refine gate_guard (by rfl) ?_;dsimp only));refine zbx (N := 5) (cs := #[.int .i64 a2_0,.slice A2_1 l2_1.length c2_1,.slice A2_2 l2_2.length c2_2,.slice A2_3 l2_3.length c2_3]) (t := 37) ?_;intro gb506 hg w5 hbox hb;have BK506 := am_ (hbox);have GW506 := zw_ HB hg;have GE506 := zw_ HB hg;replace HB := zs_ HB hb;clear hb hbox hg))
 (try simp only [Act.put,p1_,p2_,p3_])
 go_cut [21] (fun v21 wc => ∃ (kq : Nat) (x21_3 : Bool),v21 = .bool x21_3 ∧ Aside0 (Za.j0 kq a0 a1 x21_3 a2_0 l2_1 l2_2 l2_3 = some r) ∧ Aside0 (kq ≤ k) ∧ Aside0 (wc.heap[gb506]? = some (.cells #[.int .i64 a2_0,(.slice A2_1 l2_1.length c2_1),(.slice A2_2 l2_2.length c2_2),(.slice A2_3 l2_3.length c2_3)] 37 (0,0))) ∧ Aside0 (Below w.heap.size w wc))
 case first =>
  have H := HC4.out
  clear HC4
  by_cases c6 : (a1.size : Int) > 65530
  ·rw [if_pos c6] at H
   have c6b0 : decide (65530 < (a1.size : Int)) = true := decide_eq_true c6
   have c6b1 : decide (65530 < a1.size) = true := decide_eq_true (by omega)
   clear c6
   (first | rw [c6b0] | (simp only [i64_w,i32_w];rw [c6b0]) | skip)
   have H' := am_ H
   clear H
   go_wp2
   go_meet
   case rel => exact ⟨_,(true),(by first | rfl | (simp;done) | (simp [*];done)),H',⟨by first | omega | exact Nat.le_refl _⟩,⟨by (with_reducible repeat (first | apply k1_ | apply k2_ | apply k3_));exact BK506.out⟩,⟨zl_ HB⟩⟩
  rw [if_neg c6] at H
  have c6b0 : decide (65530 < (a1.size : Int)) = false := decide_eq_false c6
  have c6b1 : decide (65530 < a1.size) = false := decide_eq_false (by omega)
  clear c6
  (first | rw [c6b0] | (simp only [i64_w,i32_w];rw [c6b0]) | skip)
  have H' := am_ H
  clear H
  go_wp2
  go_meet
  case rel => exact ⟨_,(decide ((a0.size : Int) > 65536)),(by first | rfl | (simp;done) | (simp [*];done)),H',⟨by first | omega | exact Nat.le_refl _⟩,⟨by (with_reducible repeat (first | apply k1_ | apply k2_ | apply k3_));exact BK506.out⟩,⟨zl_ HB⟩⟩
 case rest =>
  clear HC4
  try clear c2
  try clear p2
  try clear c3
  try clear c6
  try clear c6b0
  try clear c6b1
  obtain ⟨kq,x21_3,rfl,HA,HJ3,BK506,HB⟩ := hcut
  cases kq with
  | zero => exact absurd HA.out (by simp [Za.j0])
  | succ kj3 =>
   have H := HA.out
   clear HA
   simp only [Za.j0] at H
   by_cases c7 : x21_3 = true
   ·subst c7
    rw [if_pos rfl] at H
    obtain rfl := Option.some.inj H
    go_wp2
    go_ret
    exact ⟨zt_,zl_ HB⟩
   replace c7 := Bool.eq_false_iff.mpr c7
   subst c7
   rw [if_neg (show ¬ (false = true) by decide)] at H
   have HC8 := am_ H
   clear H
   go_upto_region 3 with (fail)
   go_cut [42] (fun v42 wc => ∃ (kq : Nat) (x42_7 : Bool),v42 = .bool x42_7 ∧ Aside0 (Za.j1 kq a0 a1 x42_7 a2_0 l2_1 l2_2 l2_3 = some r) ∧ Aside0 (kq ≤ kj3) ∧ Aside0 (wc.heap[gb506]? = some (.cells #[.int .i64 a2_0,(.slice A2_1 l2_1.length c2_1),(.slice A2_2 l2_2.length c2_2),(.slice A2_3 l2_3.length c2_3)] 37 (0,0))) ∧ Aside0 (Below w.heap.size w wc))
   case first =>
    have H := HC8.out
    clear HC8
    by_cases c9 : (a0.size : Int) = 32
    case neg =>
     rw [if_neg c9] at H
     have c9b0 := beq_eq_false_iff_ne.mpr c9
     have c9b1 := bne_iff_ne.mpr c9
     (first | rw [c9b0] | (simp only [i64_w,i32_w];rw [c9b0]) | skip)
     have H' := am_ H
     clear H
     go_wp2
     go_meet
     case rel => exact ⟨_,(true),(by first | rfl | (simp;done) | (simp [*];done)),H',⟨by have := HJ3.out;first | omega | exact Nat.le_refl _⟩,⟨by (with_reducible repeat (first | apply k1_ | apply k2_ | apply k3_));exact BK506.out⟩,⟨zl_ HB⟩⟩
    rw [if_pos c9] at H
    have c9b0 := beq_iff_eq.mpr c9
    have c9b1 := bne_eq_false_iff_eq.mpr c9
    clear c9
    (first | rw [c9b0] | (simp only [i64_w,i32_w];rw [c9b0]) | skip)
    replace H := Option.bind_eq_some_iff.mp H
    obtain ⟨t507,A100,H⟩ := H
    try dsimp only at H
    have A10 := am_ A100
    clear A100
    by_cases c11 : t507 = true
    case neg =>
     replace c11 := Bool.eq_false_iff.mpr c11
     subst c11
     rw [if_neg (show ¬ (false = true) by decide)] at H
     have H' := am_ H
     clear H
     obtain ⟨hcz17_0,hcz17_1,hcz17_2,hcz17_3,hfz17_0,hfz17_1,hfz17_2,hfz17_3⟩ := zc4 BK506
     go_wp2_with (first | (go_at_call 57;(with_reducible refine (Zq.calls kj3 _ _ l2_1 32 false _ ?side1 ?side2 A10.out).mono ?_);(case side1 => exact zc_ HR2_1 HB);(case side2 => exact HC2_1.out);rintro e w' ⟨rfl,⟨nd,rfl⟩⟩))
     go_meet
     case rel => exact ⟨_,(true),(by first | rfl | (simp;done) | (simp [*];done)),H',⟨by have := HJ3.out;first | omega | exact Nat.le_refl _⟩,⟨by (with_reducible repeat (first | apply k1_ | apply k2_ | apply k3_));exact BK506.out⟩,⟨zl_ HB⟩⟩
    subst c11
    rw [if_pos rfl] at H
    replace H := Option.bind_eq_some_iff.mp H
    obtain ⟨t508,A120,H⟩ := H
    try dsimp only at H
    have A12 := am_ A120
    clear A120
    by_cases c13 : t508 = true
    case neg =>
     replace c13 := Bool.eq_false_iff.mpr c13
     subst c13
     rw [if_neg (show ¬ (false = true) by decide)] at H
     have H' := am_ H
     clear H
     obtain ⟨hcz16_0,hcz16_1,hcz16_2,hcz16_3,hfz16_0,hfz16_1,hfz16_2,hfz16_3⟩ := zc4 BK506
     go_wp2_with (first | (go_at_call 57;(with_reducible refine (Zq.calls kj3 _ _ l2_1 32 true _ ?side1 ?side2 A10.out).mono ?_);(case side1 => exact zc_ HR2_1 HB);(case side2 => exact HC2_1.out);rintro e w' ⟨rfl,⟨nd,rfl⟩⟩) | (go_at_call 57;(with_reducible refine (Zq.calls kj3 _ _ l2_2 32 false _ ?side1 ?side2 A12.out).mono ?_);(case side1 => repeat (first | exact (Kd.C_below HR2_2.out (zl_ HB)) | (with_reducible refine Kd.C_alloc ?_ _) | (with_reducible refine Kd.C_drewN ?_ _) | (with_reducible refine Kd.C_drew ?_)));(case side2 => exact HC2_2.out);rintro e w' ⟨rfl,⟨nd,rfl⟩⟩))
     go_meet
     case rel => exact ⟨_,(true),(by first | rfl | (simp;done) | (simp [*];done)),H',⟨by have := HJ3.out;first | omega | exact Nat.le_refl _⟩,⟨by (with_reducible repeat (first | apply k1_ | apply k2_ | apply k3_));exact BK506.out⟩,⟨zl_ HB⟩⟩
    subst c13
    rw [if_pos rfl] at H
    replace H := Option.bind_eq_some_iff.mp H
    obtain ⟨t509,A140,H⟩ := H
    try dsimp only at H
    have A14 := am_ A140
    clear A140
    have H' := am_ H
    clear H
    obtain ⟨hcz15_0,hcz15_1,hcz15_2,hcz15_3,hfz15_0,hfz15_1,hfz15_2,hfz15_3⟩ := zc4 BK506
    go_wp2_with (first | (go_at_call 57;(with_reducible refine (Zq.calls kj3 _ _ l2_1 32 true _ ?side1 ?side2 A10.out).mono ?_);(case side1 => exact zc_ HR2_1 HB);(case side2 => exact HC2_1.out);rintro e w' ⟨rfl,⟨nd,rfl⟩⟩) | (go_at_call 57;(with_reducible refine (Zq.calls kj3 _ _ l2_2 32 true _ ?side1 ?side2 A12.out).mono ?_);(case side1 => repeat (first | exact (Kd.C_below HR2_2.out (zl_ HB)) | (with_reducible refine Kd.C_alloc ?_ _) | (with_reducible refine Kd.C_drewN ?_ _) | (with_reducible refine Kd.C_drew ?_)));(case side2 => exact HC2_2.out);rintro e w' ⟨rfl,⟨nd,rfl⟩⟩) | (go_at_call 57;(with_reducible refine (Zq.calls kj3 _ _ l2_3 3 t509 _ ?side1 ?side2 A14.out).mono ?_);(case side1 => repeat (first | exact (Kd.C_below HR2_3.out (zl_ HB)) | (with_reducible refine Kd.C_alloc ?_ _) | (with_reducible refine Kd.C_drewN ?_ _) | (with_reducible refine Kd.C_drew ?_)));(case side2 => exact HC2_3.out);rintro e w' ⟨rfl,⟨nd,rfl⟩⟩))
    go_meet
    case rel => exact ⟨_,(!t509),(by first | rfl | (simp;done) | (simp [*];done)),H',⟨by have := HJ3.out;first | omega | exact Nat.le_refl _⟩,⟨by (with_reducible repeat (first | apply k1_ | apply k2_ | apply k3_));exact BK506.out⟩,⟨zl_ HB⟩⟩
   case rest =>
    clear HC8
    try clear c1
    try clear c2
    try clear p2
    try clear c3
    try clear c6
    try clear c6b0
    try clear c6b1
    try clear c7
    try clear c9
    try clear c9b0
    try clear c9b1
    try clear c11
    try clear c13
    try clear hcz15_0
    try clear hcz15_1
    try clear hcz15_2
    try clear hcz15_3
    try clear hcz16_0
    try clear hcz16_1
    try clear hcz16_2
    try clear hcz16_3
    try clear hcz17_0
    try clear hcz17_1
    try clear hcz17_2
    try clear hcz17_3
    try clear hfz15_0
    try clear hfz15_1
    try clear hfz15_2
    try clear hfz15_3
    try clear hfz16_0
    try clear hfz16_1
    try clear hfz16_2
    try clear hfz16_3
    try clear hfz17_0
    try clear hfz17_1
    try clear hfz17_2
    try clear hfz17_3
    try clear p2
    obtain ⟨kq,x42_7,rfl,HA,HJ7,BK506,HB⟩ := hcut
    cases kq with
    | zero => exact absurd HA.out (by simp [Za.j1])
    | succ kj7 =>
     have H := HA.out
     clear HA
     simp only [Za.j1] at H
     by_cases c18 : x42_7 = true
     ·subst c18
      rw [if_pos rfl] at H
      obtain rfl := Option.some.inj H
      go_wp2
      go_ret
      exact ⟨zt_,zl_ HB⟩
     replace c18 := Bool.eq_false_iff.mpr c18
     subst c18
     rw [if_neg (show ¬ (false = true) by decide)] at H
     replace H := Option.bind_eq_some_iff.mp H
     obtain ⟨t510,A190,H⟩ := H
     try dsimp only at H
     have A19 := am_ A190
     clear A190
     by_cases c20 : t510 = true
     case neg =>
      replace c20 := Bool.eq_false_iff.mpr c20
      subst c20
      rw [if_neg (show ¬ (false = true) by decide)] at H
      obtain rfl := Option.some.inj H
      obtain ⟨hcz73_0,hcz73_1,hcz73_2,hcz73_3,hfz73_0,hfz73_1,hfz73_2,hfz73_3⟩ := zc4 BK506
      go_wp2_with (first | ((with_reducible refine gate_callee (f := 56) rfl ?_);refine zgl (some 45) Tryd.func56 #[.int .i64 a2_0,.int .i64 0,.int .i64 7] ?_;(with_reducible refine (ZK.calls a2_0 0 7 false _ A19.out).mono ?_);rintro e w' ⟨rfl,⟨nd,rfl⟩⟩;refine ⟨_,rfl,?_⟩))
      go_ret
      exact ⟨zt_,zl_ HB⟩
     subst c20
     rw [if_pos rfl] at H
     replace H := Option.bind_eq_some_iff.mp H
     obtain ⟨t511,A210,H⟩ := H
     try dsimp only at H
     have A21 := am_ A210
     clear A210
     obtain ⟨y512,hy512⟩ : ∃ y_ : List Int,y_ = (([107,101,121] : List Int)) := ⟨_,rfl⟩
     replace H : (Za.l0 kj7 a0 t511 y512 0 a2_0 l2_1 l2_2 l2_3) = some r := by first | (rw [hy512];with_reducible exact H) | (have H2_ := (Option.bind_some _ _).symm.trans H;rw [hy512];with_reducible exact H2_) | (have H2_ := (Option.bind_some _ _).symm.trans H;with_reducible exact H2_) | with_reducible exact H | (rw [hy512];exact H) | exact H
     have Ny512 := am_ hy512
     clear hy512
     have H' := am_ H
     clear H
     obtain ⟨hcz22_0,hcz22_1,hcz22_2,hcz22_3,hfz22_0,hfz22_1,hfz22_2,hfz22_3⟩ := zc4 BK506
     go_wp2_with (first | ((with_reducible refine gate_callee (f := 56) rfl ?_);refine zgl (some 45) Tryd.func56 #[.int .i64 a2_0,.int .i64 0,.int .i64 7] ?_;(with_reducible refine (ZK.calls a2_0 0 7 true _ A19.out).mono ?_);rintro e w' ⟨rfl,⟨nd,rfl⟩⟩;refine ⟨_,rfl,?_⟩) | ((with_reducible refine gate_callee (f := 58) rfl ?_);refine zgl (some 48) Tryd.func58 #[.string a1] ?_;(with_reducible refine (Zu.calls kj7 a1 t511 _ A21.out).mono ?_);rintro e w23 ⟨rfl,hb⟩;refine ⟨_,rfl,?_⟩;replace BK506 := zb BK506 hb;replace HB := zs_ HB hb;(try clear hb);(try clear hi)) | ((with_reducible refine gate_dst (N := 50) rfl ?_);(try (refine gate_guard (by rfl) ?_;dsimp only));refine Kd.U_lit (Kd.int .u8) rfl _ 22 5 ([107,101,121] : List Int) (ok := (fun k_ => k_ ≠ gb506)) rfl (.tmp 49) rfl Tryd.underlying22 Tryd.underlying5 rfl rfl (by decide) (by decide) rfl (Below.refl _ _) (Nat.le_refl _) ?hok ?_;(case hok => exact Nat.ne_of_gt (blk_lt (zk BK506)));intro v513 w24 ho25 hb hg_ hnew_;clear hg_ hnew_;(first | rw [← Ny512.out] at ho25 | (simp only [Int.reduceToNat] at ho25;rw [← Ny512.out] at ho25));have HO514 := am_ (Kd.U_lower ho25 (below_size (zl_ HB)));replace BK506 := zb BK506 hb;replace HB := zs_ HB hb;clear hb ho25))
     go_loopg [8,9] kj7 (fun kq v8 v9 w' => ∃ (x8_3 : List Int) (x9_3 : Int),v9 = .int .i64 x9_3 ∧ Aside0 (Za.l0 kq a0 t511 x8_3 x9_3 a2_0 l2_1 l2_2 l2_3 = some r) ∧ Aside0 (kq ≤ kj7) ∧ Aside0 (Kd.U 5 w' w.heap.size (fun k_ => k_ ≠ gb506) v8 x8_3) ∧ Aside0 (w'.heap[gb506]? = some (.cells #[.int .i64 a2_0,(.slice A2_1 l2_1.length c2_1),(.slice A2_2 l2_2.length c2_2),(.slice A2_3 l2_3.length c2_3)] 37 (0,0))) ∧ Aside0 (Below w.heap.size w w'))
     case atStart => exact ⟨(y512),(0),(by first | rfl | (simp;done) | (simp [*];done)),H',⟨Nat.le_refl _⟩,⟨Kd.zrU HO514⟩,⟨by (with_reducible repeat (first | apply k1_ | apply k2_ | apply k3_));exact BK506.out⟩,⟨zl_ HB⟩⟩
     case round =>
      clear H'
      try clear c1
      try clear c2
      try clear p2
      try clear c3
      try clear c5
      try clear c6
      try clear c6b0
      try clear c6b1
      try clear c7
      try clear c9
      try clear c9b0
      try clear c9b1
      try clear c11
      try clear c13
      try clear c18
      try clear c20
      try clear hcz15_0
      try clear hcz15_1
      try clear hcz15_2
      try clear hcz15_3
      try clear hcz16_0
      try clear hcz16_1
      try clear hcz16_2
      try clear hcz16_3
      try clear hcz17_0
      try clear hcz17_1
      try clear hcz17_2
      try clear hcz17_3
      try clear hcz22_0
      try clear hcz22_1
      try clear hcz22_2
      try clear hcz22_3
      try clear hfz15_0
      try clear hfz15_1
      try clear hfz15_2
      try clear hfz15_3
      try clear hfz16_0
      try clear hfz16_1
      try clear hfz16_2
      try clear hfz16_3
      try clear hfz17_0
      try clear hfz17_1
      try clear hfz17_2
      try clear hfz17_3
      try clear hfz22_0
      try clear hfz22_1
      try clear hfz22_2
      try clear hfz22_3
      try clear p2
      obtain ⟨x8_3,x9_3,rfl,HA,HK3,HO_8,BK506,HB⟩ := hrel
      cases gk with
      | zero => exact absurd HA.out (by simp [Za.l0])
      | succ k3 =>
       have H := HA.out
       clear HA
       simp only [Za.l0] at H
       by_cases c26 : x9_3 < 32
       case neg =>
        rw [if_neg c26] at H
        have c26b0 := decide_eq_false c26
        clear c26
        replace H := Option.bind_eq_some_iff.mp H
        obtain ⟨t534,A560,H⟩ := H
        try dsimp only at H
        have A56 := am_ A560
        clear A560
        have H' := am_ H
        clear H
        obtain ⟨Ao57,co57,eo57⟩ := Kd.U_slice HO_8.out
        subst eo57
        go_wp2_with (first | ((with_reducible refine gate_callee (f := 59) rfl ?_);refine zgl (some 85) Tryd.func59 #[.slice Ao57 x8_3.length co57] ?_;(with_reducible refine (Zb.calls k3 _ _ x8_3 t534 _ ?side1 ?side2 A56.out).mono ?_);(case side1 => repeat (first | exact (Kd.U_reads' HO_8.out).2.2 | (with_reducible refine Kd.C_alloc ?_ _) | (with_reducible refine Kd.C_drewN ?_ _) | (with_reducible refine Kd.C_drew ?_)));(case side2 => exact (Kd.U_reads' HO_8.out).2.1);rintro e w58 ⟨rfl,hb⟩;refine ⟨_,rfl,?_⟩;replace BK506 := zb BK506 hb;replace HB := zs_ HB hb;(try clear hb);obtain ⟨hcz59_0,hcz59_1,hcz59_2,hcz59_3,hfz59_0,hfz59_1,hfz59_2,hfz59_3⟩ := zc4 BK506))
        go_loopg [11,12,13] k3 (fun kq v11 v12 v13 w' => ∃ (x11_4 : ByteArray) (x12_4 : Int) (x13_4 : Int),v11 = .string x11_4 ∧ v12 = .int .i64 x12_4 ∧ v13 = .int .i64 x13_4 ∧ Aside0 (Za.l1 kq a0 x11_4 x12_4 x13_4 a2_0 l2_1 l2_2 l2_3 = some r) ∧ Aside0 (kq ≤ k3) ∧ Aside0 (w'.heap[gb506]? = some (.cells #[.int .i64 a2_0,(.slice A2_1 l2_1.length c2_1),(.slice A2_2 l2_2.length c2_2),(.slice A2_3 l2_3.length c2_3)] 37 (0,0))) ∧ Aside0 (Below w.heap.size w w'))
        case atStart => exact ⟨(t534),(a2_0),(0),(by first | rfl | (simp;done) | (simp [*];done)),(by first | rfl | (simp;done) | (simp [*];done)),(by first | rfl | (simp;done) | (simp [*];done)),H',⟨Nat.le_refl _⟩,⟨by (with_reducible repeat (first | apply k1_ | apply k2_ | apply k3_));exact BK506.out⟩,⟨zl_ HB⟩⟩
        case round =>
         clear H'
         try clear c1
         try clear c2
         try clear p2
         try clear c3
         try clear p3
         try clear q3
         try clear hx3
         try clear c4
         try clear c5
         try clear p5
         try clear q5
         try clear hx5
         try clear c6
         try clear c6b0
         try clear c6b1
         try clear p6
         try clear c7
         try clear c9
         try clear c9b0
         try clear c9b1
         try clear c11
         try clear c13
         try clear c18
         try clear c20
         try clear c26
         try clear c26b0
         try clear c27
         try clear c27b0
         try clear c28
         try clear c28b0
         try clear c29
         try clear c29b0
         try clear c29b1
         try clear c31
         try clear c31b0
         try clear p32
         try clear q32
         try clear hx32
         try clear c33
         try clear c33b0
         try clear c33b1
         try clear c34
         try clear c35
         try clear c35b0
         try clear c36
         try clear c45
         try clear c45b0
         try clear c46
         try clear c47
         try clear p51
         try clear q51
         try clear hx51
         try clear p52
         try clear q52
         try clear hx52
         try clear c56
         try clear c58
         try clear c59
         try clear hcz15_0
         try clear hcz15_1
         try clear hcz15_2
         try clear hcz15_3
         try clear hcz16_0
         try clear hcz16_1
         try clear hcz16_2
         try clear hcz16_3
         try clear hcz17_0
         try clear hcz17_1
         try clear hcz17_2
         try clear hcz17_3
         try clear hcz22_0
         try clear hcz22_1
         try clear hcz22_2
         try clear hcz22_3
         try clear hcz37_0
         try clear hcz37_1
         try clear hcz37_2
         try clear hcz37_3
         try clear hcz48_0
         try clear hcz48_1
         try clear hcz48_2
         try clear hcz48_3
         try clear hcz53_0
         try clear hcz53_1
         try clear hcz53_2
         try clear hcz53_3
         try clear hcz59_0
         try clear hcz59_1
         try clear hcz59_2
         try clear hcz59_3
         try clear hfz15_0
         try clear hfz15_1
         try clear hfz15_2
         try clear hfz15_3
         try clear hfz16_0
         try clear hfz16_1
         try clear hfz16_2
         try clear hfz16_3
         try clear hfz17_0
         try clear hfz17_1
         try clear hfz17_2
         try clear hfz17_3
         try clear hfz22_0
         try clear hfz22_1
         try clear hfz22_2
         try clear hfz22_3
         try clear hfz37_0
         try clear hfz37_1
         try clear hfz37_2
         try clear hfz37_3
         try clear hfz48_0
         try clear hfz48_1
         try clear hfz48_2
         try clear hfz48_3
         try clear hfz53_0
         try clear hfz53_1
         try clear hfz53_2
         try clear hfz53_3
         try clear hfz59_0
         try clear hfz59_1
         try clear hfz59_2
         try clear hfz59_3
         try clear hx515_0
         try clear hx523_0
         try clear hx527_0
         try clear p2
         try clear p32
         try clear p515
         try clear p523
         try clear p527
         try clear q32
         try clear q515
         try clear q523
         try clear q527
         obtain ⟨x11_4,x12_4,x13_4,rfl,rfl,rfl,HA,HK4,BK506,HB⟩ := hrel
         cases gk with
         | zero => exact absurd HA.out (by simp [Za.l1])
         | succ k4 =>
          have H := HA.out
          clear HA
          simp only [Za.l1] at H
          by_cases c60 : x13_4 < 3
          case neg =>
           rw [if_neg c60] at H
           have c60b0 := decide_eq_false c60
           clear c60
           by_cases c72 : x11_4.toList = a0.toList
           case neg =>
            rw [if_neg c72] at H
            have c72b0 := beq_eq_false_iff_ne.mpr c72
            have c72b1 := bne_iff_ne.mpr c72
            obtain rfl := Option.some.inj H
            go_wp2
            go_ret
            exact ⟨zt_,zl_ HB⟩
           rw [if_pos c72] at H
           have c72b0 := beq_iff_eq.mpr c72
           have c72b1 := bne_eq_false_iff_eq.mpr c72
           clear c72
           obtain rfl := Option.some.inj H
           go_wp2
           go_ret
           exact ⟨zt_,zl_ HB⟩
          rw [if_pos c60] at H
          have c60b0 := decide_eq_true c60
          clear c60
          by_cases c61 : (Int.tmod x12_4 2) = 0
          case neg =>
           rw [if_neg c61] at H
           have c61b0 := beq_eq_false_iff_ne.mpr c61
           have c61b1 := bne_iff_ne.mpr c61
           by_cases c67 : 0 ≤ x13_4
           case neg =>
            rw [if_neg c67] at H
            exact absurd H (by simp)
           rw [if_pos c67] at H
           have c67b0 := decide_eq_true c67
           clear c67
           by_cases c68 : x13_4 < (l2_3.length : Int)
           case neg =>
            rw [if_neg c68] at H
            exact absurd H (by simp)
           rw [if_pos c68] at H
           have c68b0 := decide_eq_true c68
           clear c68
           replace H := Option.bind_eq_some_iff.mp H
           obtain ⟨t538,A690,H⟩ := H
           try dsimp only at H
           have A69 := am_ A690
           clear A690
           have H' := am_ H
           clear H
           obtain ⟨hcz70_0,hcz70_1,hcz70_2,hcz70_3,hfz70_0,hfz70_1,hfz70_2,hfz70_3⟩ := zc4 BK506
           have p537 : 0 ≤ (x13_4 : Int) := zo_
           have q537 : x13_4 < (l2_3.length : Int) := zo_
           obtain ⟨ad537,e537,hx537_0⟩ := Kd.at_string HR2_3.out x13_4 p537 q537
           cases e537
           replace hx537_0 := zx_ HB hx537_0
           replace p537 := eq_true p537
           replace q537 := eq_true q537
           go_wp2_with (first | ((with_reducible refine gate_callee (f := 60) rfl ?_);refine zgl (some 108) Tryd.func60 #[.string (rdOf ByteArray.empty l2_3 x13_4),.string x11_4] ?_;(with_reducible refine (ZM.calls k4 (rdOf ByteArray.empty l2_3 x13_4) x11_4 t538 _ A69.out).mono ?_);rintro e w71 ⟨rfl,hb⟩;refine ⟨_,rfl,?_⟩;replace BK506 := zb BK506 hb;replace HB := zs_ HB hb;(try clear hb)))
           go_roundg k4
           case measure => have := HJ3.out;have := HJ7.out;have := HK3.out;have := HK4.out;omega
           case rel => exact ⟨(t538),(wrap64 (Int.tdiv x12_4 2)),(wrap64 (x13_4 + 1)),(by first | rfl | (simp;done) | (simp [*];done)),(by first | rfl | (simp;done) | (simp [*];done)),(by first | rfl | (simp;done) | (simp [*];done)),H',⟨by have := HJ3.out;have := HJ7.out;have := HK3.out;have := HK4.out;omega⟩,⟨by (with_reducible repeat (first | apply k1_ | apply k2_ | apply k3_));exact BK506.out⟩,⟨zl_ HB⟩⟩
          rw [if_pos c61] at H
          have c61b0 := beq_iff_eq.mpr c61
          have c61b1 := bne_eq_false_iff_eq.mpr c61
          clear c61
          by_cases c62 : 0 ≤ x13_4
          case neg =>
           rw [if_neg c62] at H
           exact absurd H (by simp)
          rw [if_pos c62] at H
          have c62b0 := decide_eq_true c62
          clear c62
          by_cases c63 : x13_4 < (l2_3.length : Int)
          case neg =>
           rw [if_neg c63] at H
           exact absurd H (by simp)
          rw [if_pos c63] at H
          have c63b0 := decide_eq_true c63
          clear c63
          replace H := Option.bind_eq_some_iff.mp H
          obtain ⟨t536,A640,H⟩ := H
          try dsimp only at H
          have A64 := am_ A640
          clear A640
          have H' := am_ H
          clear H
          obtain ⟨hcz65_0,hcz65_1,hcz65_2,hcz65_3,hfz65_0,hfz65_1,hfz65_2,hfz65_3⟩ := zc4 BK506
          have p535 : 0 ≤ (x13_4 : Int) := zo_
          have q535 : x13_4 < (l2_3.length : Int) := zo_
          obtain ⟨ad535,e535,hx535_0⟩ := Kd.at_string HR2_3.out x13_4 p535 q535
          cases e535
          replace hx535_0 := zx_ HB hx535_0
          replace p535 := eq_true p535
          replace q535 := eq_true q535
          go_wp2_with (first | ((with_reducible refine gate_callee (f := 60) rfl ?_);refine zgl (some 101) Tryd.func60 #[.string x11_4,.string (rdOf ByteArray.empty l2_3 x13_4)] ?_;(with_reducible refine (ZM.calls k4 x11_4 (rdOf ByteArray.empty l2_3 x13_4) t536 _ A64.out).mono ?_);rintro e w66 ⟨rfl,hb⟩;refine ⟨_,rfl,?_⟩;replace BK506 := zb BK506 hb;replace HB := zs_ HB hb;(try clear hb)))
          go_roundg k4
          case measure => have := HJ3.out;have := HJ7.out;have := HK3.out;have := HK4.out;omega
          case rel => exact ⟨(t536),(wrap64 (Int.tdiv x12_4 2)),(wrap64 (x13_4 + 1)),(by first | rfl | (simp;done) | (simp [*];done)),(by first | rfl | (simp;done) | (simp [*];done)),(by first | rfl | (simp;done) | (simp [*];done)),H',⟨by have := HJ3.out;have := HJ7.out;have := HK3.out;have := HK4.out;omega⟩,⟨by (with_reducible repeat (first | apply k1_ | apply k2_ | apply k3_));exact BK506.out⟩,⟨zl_ HB⟩⟩
       rw [if_pos c26] at H
       have c26b0 := decide_eq_true c26
       clear c26
       by_cases c27 : 0 ≤ x9_3
       case neg =>
        rw [if_neg c27] at H
        exact absurd H (by simp)
       rw [if_pos c27] at H
       have c27b0 := decide_eq_true c27
       clear c27
       by_cases c28 : x9_3 < (l2_1.length : Int)
       case neg =>
        rw [if_neg c28] at H
        exact absurd H (by simp)
       rw [if_pos c28] at H
       have c28b0 := decide_eq_true c28
       clear c28
       by_cases c29 : (rdOf ByteArray.empty l2_1 x9_3).size ≤ 140737488355328
       case neg =>
        rw [if_neg c29] at H
        exact absurd H (by simp)
       rw [if_pos c29] at H
       have c29b0 := eq_true c29
       have c29b1 := decide_eq_true c29
       clear c29
       obtain ⟨y516,hy516⟩ : ∃ y_ : List Int,y_ = (bytesOf (rdOf ByteArray.empty l2_1 x9_3)) := ⟨_,rfl⟩
       replace H : ((Zb.f k3 y516).bind fun t519 => (if x9_3 < (t511.size : Int) then (if (bt t511 x9_3) = 48 then (if x8_3.length + t519.size < 140737488355328 then ((some (x8_3 ++ bytesOf t519 : List Int)).bind fun y520 => (if x9_3 < (l2_2.length : Int) then (if y520.length + (rdOf ByteArray.empty l2_2 x9_3).size < 140737488355328 then (Za.l0 k3 a0 t511 (y520 ++ bytesOf (rdOf ByteArray.empty l2_2 x9_3)) (wrap64 (x9_3 + 1)) a2_0 l2_1 l2_2 l2_3) else (none)) else (none))) else (none)) else (if x9_3 < (l2_2.length : Int) then (if x8_3.length + (rdOf ByteArray.empty l2_2 x9_3).size < 140737488355328 then ((some (x8_3 ++ bytesOf (rdOf ByteArray.empty l2_2 x9_3) : List Int)).bind fun y528 => (if y528.length + t519.size < 140737488355328 then (Za.l0 k3 a0 t511 (y528 ++ bytesOf t519) (wrap64 (x9_3 + 1)) a2_0 l2_1 l2_2 l2_3) else (none))) else (none)) else (none))) else (none))) = some r := by first | (rw [hy516];with_reducible exact H) | (have H2_ := (Option.bind_some _ _).symm.trans H;rw [hy516];with_reducible exact H2_) | (have H2_ := (Option.bind_some _ _).symm.trans H;with_reducible exact H2_) | with_reducible exact H | (rw [hy516];exact H) | exact H
       have Ny516 := am_ hy516
       clear hy516
       replace H := Option.bind_eq_some_iff.mp H
       obtain ⟨t519,A300,H⟩ := H
       try dsimp only at H
       have A30 := am_ A300
       clear A300
       by_cases c31 : x9_3 < (t511.size : Int)
       case neg =>
        rw [if_neg c31] at H
        exact absurd H (by simp)
       rw [if_pos c31] at H
       have c31b0 := decide_eq_true c31
       clear c31
       by_cases c33 : (bt t511 x9_3) = 48
       case neg =>
        rw [if_neg c33] at H
        have c33b0 := beq_eq_false_iff_ne.mpr c33
        have c33b1 := bne_iff_ne.mpr c33
        by_cases c45 : x9_3 < (l2_2.length : Int)
        case neg =>
         rw [if_neg c45] at H
         exact absurd H (by simp)
        rw [if_pos c45] at H
        have c45b0 := decide_eq_true c45
        clear c45
        by_cases c46 : x8_3.length + (rdOf ByteArray.empty l2_2 x9_3).size < 140737488355328
        case neg =>
         rw [if_neg c46] at H
         exact absurd H (by simp)
        rw [if_pos c46] at H
        have LMc46 := am_ c46
        clear c46
        obtain ⟨y528,hy528⟩ : ∃ y_ : List Int,y_ = (x8_3 ++ bytesOf (rdOf ByteArray.empty l2_2 x9_3)) := ⟨_,rfl⟩
        replace H : (if y528.length + t519.size < 140737488355328 then (Za.l0 k3 a0 t511 (y528 ++ bytesOf t519) (wrap64 (x9_3 + 1)) a2_0 l2_1 l2_2 l2_3) else (none)) = some r := by first | (rw [hy528];with_reducible exact H) | (have H2_ := (Option.bind_some _ _).symm.trans H;rw [hy528];with_reducible exact H2_) | (have H2_ := (Option.bind_some _ _).symm.trans H;with_reducible exact H2_) | with_reducible exact H | (rw [hy528];exact H) | exact H
        have Ny528 := am_ hy528
        clear hy528
        by_cases c47 : y528.length + t519.size < 140737488355328
        case neg =>
         rw [if_neg c47] at H
         exact absurd H (by simp)
        rw [if_pos c47] at H
        have LMc47 := am_ c47
        clear c47
        obtain ⟨y531,hy531⟩ : ∃ y_ : List Int,y_ = (y528 ++ bytesOf t519) := ⟨_,rfl⟩
        replace H : (Za.l0 k3 a0 t511 y531 (wrap64 (x9_3 + 1)) a2_0 l2_1 l2_2 l2_3) = some r := by first | (rw [hy531];with_reducible exact H) | (have H2_ := (Option.bind_some _ _).symm.trans H;rw [hy531];with_reducible exact H2_) | (have H2_ := (Option.bind_some _ _).symm.trans H;with_reducible exact H2_) | with_reducible exact H | (rw [hy531];exact H) | exact H
        have Ny531 := am_ hy531
        clear hy531
        have H' := am_ H
        clear H
        obtain ⟨hcz48_0,hcz48_1,hcz48_2,hcz48_3,hfz48_0,hfz48_1,hfz48_2,hfz48_3⟩ := zc4 BK506
        have p515 : 0 ≤ (x9_3 : Int) := zo_
        have q515 : x9_3 < (l2_1.length : Int) := zo_
        obtain ⟨ad515,e515,hx515_0⟩ := Kd.at_string HR2_1.out x9_3 p515 q515
        cases e515
        replace hx515_0 := zx_ HB hx515_0
        replace p515 := eq_true p515
        replace q515 := eq_true q515
        go_wp2_with (first | ((with_reducible refine gate_dst (N := 60) rfl ?_);(try (refine gate_guard (by rfl) ?_;dsimp only));refine Kd.V_conv (Kd.int .u8) rfl _ 5 rfl (N := 60) rfl 9 22 _ rfl (rdOf ByteArray.empty l2_1 x9_3) rfl Tryd.underlying9 Tryd.underlying22 Tryd.underlying5 (ok := fun k_ => wr.heap.size ≤ k_) (okp := fun _ => False) (fun _ hk => hk.elim) (Nat.le_refl _) (by have := o1_ (by first | (with_reducible assumption) | assumption : decide ((rdOf ByteArray.empty l2_1 x9_3).size ≤ 140737488355328) = true);omega) (Below.refl _ _) (Nat.le_refl _) ?_;intro v517 w49 ho50 hb hg_ hnew_;clear hg_ hnew_;(first | rw [← Ny516.out] at ho50 | (simp only [Int.reduceToNat] at ho50;rw [← Ny516.out] at ho50));have HO518 := am_ (Kd.V_lower (Kd.V_mono (ok' := fun k_ => some k_ ≠ (u8 : Value).ownBlock ∧ k_ ≠ gb506) ho50 (fun k_ hk_ => ⟨(Kd.fresh' (Kd.U_lt (Kd.zrU HO_8)) k_ hk_),(Kd.freshB (g := gb506) (o := .cells #[.int .i64 a2_0,.slice (some ad515) l2_1.length c2_1,.slice A2_2 l2_2.length c2_2,.slice A2_3 l2_3.length c2_3] 37 (0,0)) (zk BK506) k_ hk_)⟩)) (below_size (zl_ HB)));replace HO_8 := Kd.zrbU HO_8 hb;replace BK506 := zb BK506 hb;replace HB := zs_ HB hb;clear hb ho50;obtain ⟨Ao51,co51,eo51⟩ := Kd.V_slice HO518.out;subst eo51) | ((with_reducible refine gate_callee (f := 59) rfl ?_);refine zgl (some 61) Tryd.func59 #[.slice Ao51 y516.length co51] ?_;(with_reducible refine (Zb.calls k3 _ _ y516 t519 _ ?side1 ?side2 A30.out).mono ?_);(case side1 => repeat (first | exact (Kd.V_reads' HO518.out).2.2 | (with_reducible refine Kd.C_alloc ?_ _) | (with_reducible refine Kd.C_drewN ?_ _) | (with_reducible refine Kd.C_drew ?_)));(case side2 => exact (Kd.V_reads' HO518.out).2.1);rintro e w52 ⟨rfl,hb⟩;refine ⟨_,rfl,?_⟩;replace HO_8 := Kd.zrbU HO_8 hb;replace BK506 := zb BK506 hb;replace HB := zs_ HB hb;(try clear hb);have p32 : 0 ≤ (x9_3 : Int) := zo_;have q32 : x9_3 < (t511.size : Int) := zo_;have hx32 := bt_at t511 x9_3;replace p32 := eq_true p32;replace q32 := eq_true q32;obtain ⟨hcz53_0,hcz53_1,hcz53_2,hcz53_3,hfz53_0,hfz53_1,hfz53_2,hfz53_3⟩ := zc4 BK506;have p527 : 0 ≤ (x9_3 : Int) := zo_;have q527 : x9_3 < (l2_2.length : Int) := zo_;obtain ⟨ad527,e527,hx527_0⟩ := Kd.at_string HR2_2.out x9_3 p527 q527;cases e527;replace hx527_0 := zx_ HB hx527_0;replace p527 := eq_true p527;replace q527 := eq_true q527) | (at_builtin;refine Kd.U_append_str (Kd.int .u8) rfl (w0 := w) w.heap.size rfl (.tmp 75) _ 22 9 5 rfl Tryd.underlying22 Tryd.underlying9 info5 u8 x8_3 (rdOf ByteArray.empty l2_2 x9_3) (fun k_ => k_ ≠ gb506) rfl rfl ?aO ?aF ?aB ?aS ?aL ?_;(case aB => exact (zl_ HB));(case aF => exact (fun k_ hk_ => Nat.ne_of_gt (Nat.lt_of_lt_of_le (blk_lt (zk BK506)) hk_)));(case aO => exact (Kd.zrU HO_8));(case aS => exact (below_size (zl_ HB)));(case aL => have := LMc46.out;omega);intro v529 w54 ho hb hg hat;rw [← Ny528.out] at ho;replace BK506 := am_ (blk_grown (g := gb506) (o := .cells #[.int .i64 a2_0,.slice (some ad515) l2_1.length c2_1,.slice (some ad527) l2_2.length c2_2,.slice A2_3 l2_3.length c2_3] 37 (0,0)) (zk BK506) hg (Kd.U_ne' HO_8.out));replace HB := am_ (hb);have HO530 := am_ (ho);clear HO_8;clear ho hb hg hat) | (at_builtin;refine Kd.U_append_str (Kd.int .u8) rfl (w0 := w) w.heap.size rfl (.tmp 81) _ 22 9 5 rfl Tryd.underlying22 Tryd.underlying9 info5 v529 y528 t519 (fun k_ => k_ ≠ gb506) rfl rfl ?aO ?aF ?aB ?aS ?aL ?_;(case aB => exact (zl_ HB));(case aF => exact (fun k_ hk_ => Nat.ne_of_gt (Nat.lt_of_lt_of_le (blk_lt (zk BK506)) hk_)));(case aO => exact (Kd.zrU HO530));(case aS => exact (below_size (zl_ HB)));(case aL => have := LMc47.out;omega);intro v532 w55 ho hb hg hat;rw [← Ny531.out] at ho;replace BK506 := am_ (blk_grown (g := gb506) (o := .cells #[.int .i64 a2_0,.slice (some ad515) l2_1.length c2_1,.slice (some ad527) l2_2.length c2_2,.slice A2_3 l2_3.length c2_3] 37 (0,0)) (zk BK506) hg (Kd.U_ne' HO530.out));replace HB := am_ (hb);have HO533 := am_ (ho);clear HO530;clear ho hb hg hat))
        go_roundg k3
        case measure => have := HJ3.out;have := HJ7.out;have := HK3.out;omega
        case rel => exact ⟨(y531),(wrap64 (x9_3 + 1)),(by first | rfl | (simp;done) | (simp [*];done)),H',⟨by have := HJ3.out;have := HJ7.out;have := HK3.out;omega⟩,⟨Kd.zrU HO533⟩,⟨by (with_reducible repeat (first | apply k1_ | apply k2_ | apply k3_));exact BK506.out⟩,⟨zl_ HB⟩⟩
       rw [if_pos c33] at H
       have c33b0 := beq_iff_eq.mpr c33
       have c33b1 := bne_eq_false_iff_eq.mpr c33
       clear c33
       by_cases c34 : x8_3.length + t519.size < 140737488355328
       case neg =>
        rw [if_neg c34] at H
        exact absurd H (by simp)
       rw [if_pos c34] at H
       have LMc34 := am_ c34
       clear c34
       obtain ⟨y520,hy520⟩ : ∃ y_ : List Int,y_ = (x8_3 ++ bytesOf t519) := ⟨_,rfl⟩
       replace H : (if x9_3 < (l2_2.length : Int) then (if y520.length + (rdOf ByteArray.empty l2_2 x9_3).size < 140737488355328 then (Za.l0 k3 a0 t511 (y520 ++ bytesOf (rdOf ByteArray.empty l2_2 x9_3)) (wrap64 (x9_3 + 1)) a2_0 l2_1 l2_2 l2_3) else (none)) else (none)) = some r := by first | (rw [hy520];with_reducible exact H) | (have H2_ := (Option.bind_some _ _).symm.trans H;rw [hy520];with_reducible exact H2_) | (have H2_ := (Option.bind_some _ _).symm.trans H;with_reducible exact H2_) | with_reducible exact H | (rw [hy520];exact H) | exact H
       have Ny520 := am_ hy520
       clear hy520
       by_cases c35 : x9_3 < (l2_2.length : Int)
       case neg =>
        rw [if_neg c35] at H
        exact absurd H (by simp)
       rw [if_pos c35] at H
       have c35b0 := decide_eq_true c35
       clear c35
       by_cases c36 : y520.length + (rdOf ByteArray.empty l2_2 x9_3).size < 140737488355328
       case neg =>
        rw [if_neg c36] at H
        exact absurd H (by simp)
       rw [if_pos c36] at H
       have LMc36 := am_ c36
       clear c36
       obtain ⟨y524,hy524⟩ : ∃ y_ : List Int,y_ = (y520 ++ bytesOf (rdOf ByteArray.empty l2_2 x9_3)) := ⟨_,rfl⟩
       replace H : (Za.l0 k3 a0 t511 y524 (wrap64 (x9_3 + 1)) a2_0 l2_1 l2_2 l2_3) = some r := by first | (rw [hy524];with_reducible exact H) | (have H2_ := (Option.bind_some _ _).symm.trans H;rw [hy524];with_reducible exact H2_) | (have H2_ := (Option.bind_some _ _).symm.trans H;with_reducible exact H2_) | with_reducible exact H | (rw [hy524];exact H) | exact H
       have Ny524 := am_ hy524
       clear hy524
       have H' := am_ H
       clear H
       obtain ⟨hcz37_0,hcz37_1,hcz37_2,hcz37_3,hfz37_0,hfz37_1,hfz37_2,hfz37_3⟩ := zc4 BK506
       have p515 : 0 ≤ (x9_3 : Int) := zo_
       have q515 : x9_3 < (l2_1.length : Int) := zo_
       obtain ⟨ad515,e515,hx515_0⟩ := Kd.at_string HR2_1.out x9_3 p515 q515
       cases e515
       replace hx515_0 := zx_ HB hx515_0
       replace p515 := eq_true p515
       replace q515 := eq_true q515
       try go_wp2_with (first | ((with_reducible refine gate_dst (N := 60) rfl ?_);(try (refine gate_guard (by rfl) ?_;dsimp only));refine Kd.V_conv (Kd.int .u8) rfl _ 5 rfl (N := 60) rfl 9 22 _ rfl (rdOf ByteArray.empty l2_1 x9_3) rfl Tryd.underlying9 Tryd.underlying22 Tryd.underlying5 (ok := fun k_ => wr.heap.size ≤ k_) (okp := fun _ => False) (fun _ hk => hk.elim) (Nat.le_refl _) (by have := o1_ (by first | (with_reducible assumption) | assumption : decide ((rdOf ByteArray.empty l2_1 x9_3).size ≤ 140737488355328) = true);omega) (Below.refl _ _) (Nat.le_refl _) ?_;intro v517 w38 ho39 hb hg_ hnew_;clear hg_ hnew_;(first | rw [← Ny516.out] at ho39 | (simp only [Int.reduceToNat] at ho39;rw [← Ny516.out] at ho39));have HO518 := am_ (Kd.V_lower (Kd.V_mono (ok' := fun k_ => some k_ ≠ (u8 : Value).ownBlock ∧ k_ ≠ gb506) ho39 (fun k_ hk_ => ⟨(Kd.fresh' (Kd.U_lt (Kd.zrU HO_8)) k_ hk_),(Kd.freshB (g := gb506) (o := .cells #[.int .i64 a2_0,.slice (some ad515) l2_1.length c2_1,.slice A2_2 l2_2.length c2_2,.slice A2_3 l2_3.length c2_3] 37 (0,0)) (zk BK506) k_ hk_)⟩)) (below_size (zl_ HB)));replace HO_8 := Kd.zrbU HO_8 hb;replace BK506 := zb BK506 hb;replace HB := zs_ HB hb;clear hb ho39;obtain ⟨Ao40,co40,eo40⟩ := Kd.V_slice HO518.out;subst eo40) | ((with_reducible refine gate_callee (f := 59) rfl ?_);refine zgl (some 61) Tryd.func59 #[.slice Ao40 y516.length co40] ?_;(with_reducible refine (Zb.calls k3 _ _ y516 t519 _ ?side1 ?side2 A30.out).mono ?_);(case side1 => repeat (first | exact (Kd.V_reads' HO518.out).2.2 | (with_reducible refine Kd.C_alloc ?_ _) | (with_reducible refine Kd.C_drewN ?_ _) | (with_reducible refine Kd.C_drew ?_)));(case side2 => exact (Kd.V_reads' HO518.out).2.1);rintro e w41 ⟨rfl,hb⟩;refine ⟨_,rfl,?_⟩;replace HO_8 := Kd.zrbU HO_8 hb;replace HO518 := am_ (Kd.V_below (by (with_reducible repeat (first | apply Kd.V_alloc | apply Kd.V_drewN | apply Kd.V_drew));exact HO518.out) hb);replace BK506 := zb BK506 hb;replace HB := zs_ HB hb;(try clear hb);have p32 : 0 ≤ (x9_3 : Int) := zo_;have q32 : x9_3 < (t511.size : Int) := zo_;have hx32 := bt_at t511 x9_3;replace p32 := eq_true p32;replace q32 := eq_true q32))
       replace HO_8 := am_ (Kd.U_drew HO_8.out)
       replace HO518 := am_ (Kd.V_drew HO518.out)
       replace BK506 := am_ (blk_drew BK506.out)
       replace HB := am_ (below_drew1 HB.out)
       have p523 : 0 ≤ (x9_3 : Int) := zo_
       have q523 : x9_3 < (l2_2.length : Int) := zo_
       obtain ⟨ad523,e523,hx523_0⟩ := Kd.at_string HR2_2.out x9_3 p523 q523
       have hw523_0 := hx523_0
       cases e523
       replace hx523_0 := zx_ HB hx523_0
       replace p523 := eq_true p523
       replace q523 := eq_true q523
       refine start_ (n := 10) (S := fun w' => w'.cell? ⟨gb506,0,none⟩ = some (.int .i64 a2_0) ∧ w'.cell? ⟨gb506,1,none⟩ = some (.slice (some ad515) l2_1.length c2_1) ∧ w'.cell? ⟨gb506,2,none⟩ = some (.slice (some ad523) l2_2.length c2_2) ∧ w'.cell? ⟨gb506,3,none⟩ = some (.slice A2_3 l2_3.length c2_3) ∧ w'.cell? (ad523.add (x9_3).toNat) = some (.string (rdOf ByteArray.empty l2_2 x9_3))) (ds := []) #[false,false,false,false,false,false,false,false,false,false] (by kernel_rfl) rfl rfl ⟨(blk_cell BK506.out 0).trans rfl,(blk_cell BK506.out 1).trans rfl,(blk_cell BK506.out 2).trans rfl,(blk_cell BK506.out 3).trans rfl,(zx_ HB hw523_0)⟩ (fun hHeld => ?_);refine with_tabW Za.tab14 Za.bits14 (fun HT_ HW_ => ?_)
       generalize w41.drew = w42 at HO_8 HO518 BK506 HB hx523_0 hHeld ⊢
       refine pu_ 0 66 HT_ ?_
       refine pu_ 1 67 HT_ ?_
       refine pu_ 3 69 HT_ ?_
       refine pu_ 5 71 HT_ ?_
       refine tk_ 4 70 HT_ HW_ hHeld ?_
       refine pu_ 6 72 HT_ ?_
       refine tk_ 7 73 HT_ HW_ hHeld ?_
       refine zon 2 (N := some 68) HT_ (fun K hK => ?_)
       refine Kd.U_append_str_step (Kd.int .u8) rfl (w0 := w) w.heap.size (by rfl) (.tmp 66) _ 22 9 5 rfl Tryd.underlying22 Tryd.underlying9 info5 u8 x8_3 t519 (fun k_ => k_ ≠ gb506) rfl rfl ?aO ?aF ?aB ?aS ?aL ?_
       (case aB => exact (zl_ HB))
       (case aF => exact (fun k_ hk_ => Nat.ne_of_gt (Nat.lt_of_lt_of_le (blk_lt (zk BK506)) hk_)))
       (case aO => exact (Kd.zrU HO_8))
       (case aS => exact (below_size (zl_ HB)))
       (case aL => have := LMc34.out;omega)
       intro v521 w43 ho hb hg hat
       rw [← Ny520.out] at ho
       replace BK506 := am_ (blk_grown (g := gb506) (o := .cells #[.int .i64 a2_0,.slice (some ad515) l2_1.length c2_1,.slice (some ad523) l2_2.length c2_2,.slice A2_3 l2_3.length c2_3] 37 (0,0)) (zk BK506) hg (Kd.U_ne' HO_8.out))
       replace HB := am_ (hb)
       have HO522 := am_ (ho)
       clear HO_8
       clear ho hb hg hat
       refine hK.out _ _ ⟨(blk_cell BK506.out 0).trans rfl,(blk_cell BK506.out 1).trans rfl,(blk_cell BK506.out 2).trans rfl,(blk_cell BK506.out 3).trans rfl,(zx_ HB hw523_0)⟩ (fun hHeld => ?_)
       clear hK K
       refine nm_ ?_
       refine zon 8 (N := some 74) HT_ (fun K hK => ?_)
       refine Kd.U_append_str_step (Kd.int .u8) rfl (w0 := w) w.heap.size (by rfl) (.tmp 68) _ 22 9 5 rfl Tryd.underlying22 Tryd.underlying9 info5 v521 y520 (rdOf ByteArray.empty l2_2 x9_3) (fun k_ => k_ ≠ gb506) rfl rfl ?aO ?aF ?aB ?aS ?aL ?_
       (case aB => exact (zl_ HB))
       (case aF => exact (fun k_ hk_ => Nat.ne_of_gt (Nat.lt_of_lt_of_le (blk_lt (zk BK506)) hk_)))
       (case aO => exact (Kd.zrU HO522))
       (case aS => exact (below_size (zl_ HB)))
       (case aL => have := LMc36.out;omega)
       intro v525 w44 ho hb hg hat
       rw [← Ny524.out] at ho
       replace BK506 := am_ (blk_grown (g := gb506) (o := .cells #[.int .i64 a2_0,.slice (some ad515) l2_1.length c2_1,.slice (some ad523) l2_2.length c2_2,.slice A2_3 l2_3.length c2_3] 37 (0,0)) (zk BK506) hg (Kd.U_ne' HO522.out))
       replace HB := am_ (hb)
       have HO526 := am_ (ho)
       clear HO522
       clear ho hb hg hat
       refine hK.out _ _ ⟨(blk_cell BK506.out 0).trans rfl,(blk_cell BK506.out 1).trans rfl,(blk_cell BK506.out 2).trans rfl,(blk_cell BK506.out 3).trans rfl,(zx_ HB hw523_0)⟩ (fun hHeld => ?_)
       clear hK K
       refine nm_ ?_
       refine pu_ 9 8 HT_ ?_
       refine done_ (done_of HT_.out (by kernel_rfl)) ?_
       try go_wp2
       go_roundg k3
       case measure => have := HJ3.out;have := HJ7.out;have := HK3.out;omega
       case rel => exact ⟨(y524),(wrap64 (x9_3 + 1)),(by first | rfl | (simp;done) | (simp [*];done)),H',⟨by have := HJ3.out;have := HJ7.out;have := HK3.out;omega⟩,⟨Kd.zrU HO526⟩,⟨by (with_reducible repeat (first | apply k1_ | apply k2_ | apply k3_));exact BK506.out⟩,⟨zl_ HB⟩⟩
theorem Yt.calls (a0 : Int) (r : Bool) (w : World) (h : Yt.f a0 = some r) :
  Calls Tryd.prog 88 #[.int .u8 a0] w fun e w' => e = .returned (.bool r) ∧ Drawn0 w w' := by
 have H : (if a0 ≥ 48 then (some (decide (a0 ≤ 57))) else (some false)) = some r := h
 clear h
 by_cases c2 : a0 ≥ 48
 ·rw [if_pos c2] at H
  have c2b0 : decide (48 ≤ a0) = true := decide_eq_true c2
  clear c2
  obtain rfl := Option.some.inj H
  go_enter Tryd.func88,Tryd.ntmps88
  go_wp2
  go_ret
  exact ⟨by first | rfl | (simp;done) | (simp [*];done),by repeat (first | exact Drawn0.refl _ | apply Drawn0.step)⟩
 rw [if_neg c2] at H
 have c2b0 : decide (48 ≤ a0) = false := decide_eq_false c2
 clear c2
 obtain rfl := Option.some.inj H
 go_enter Tryd.func88,Tryd.ntmps88
 go_wp2
 go_ret
 exact ⟨by first | rfl | (simp;done) | (simp [*];done),by repeat (first | exact Drawn0.refl _ | apply Drawn0.step)⟩
theorem Yg.calls (a0 : Int) (r : Bool) (w : World) (h : Yg.f a0 = some r) :
  Calls Tryd.prog 87 #[.int .u8 a0] w fun e w' => e = .returned (.bool r) ∧ Drawn0 w w' := by
 have H : (if a0 ≥ 97 then (if a0 ≤ 122 then (some true) else (if a0 ≥ 65 then (if a0 ≤ 90 then (some true) else (some (a0 == 95))) else (some (a0 == 95)))) else (if a0 ≥ 65 then (if a0 ≤ 90 then (some true) else (some (a0 == 95))) else (some (a0 == 95)))) = some r := h
 clear h
 by_cases c2 : a0 ≥ 97
 case neg =>
  rw [if_neg c2] at H
  have c2b0 : decide (97 ≤ a0) = false := decide_eq_false c2
  clear c2
  by_cases c6 : a0 ≥ 65
  case neg =>
   rw [if_neg c6] at H
   have c6b0 : decide (65 ≤ a0) = false := decide_eq_false c6
   clear c6
   obtain rfl := Option.some.inj H
   go_enter Tryd.func87,Tryd.ntmps87
   go_wp2
   go_ret
   exact ⟨by first | rfl | (simp;done) | (simp [*];done),by repeat (first | exact Drawn0.refl _ | apply Drawn0.step)⟩
  rw [if_pos c6] at H
  have c6b0 : decide (65 ≤ a0) = true := decide_eq_true c6
  clear c6
  by_cases c7 : a0 ≤ 90
  ·rw [if_pos c7] at H
   have c7b0 := decide_eq_true c7
   clear c7
   obtain rfl := Option.some.inj H
   go_enter Tryd.func87,Tryd.ntmps87
   go_wp2
   go_ret
   exact ⟨by first | rfl | (simp;done) | (simp [*];done),by repeat (first | exact Drawn0.refl _ | apply Drawn0.step)⟩
  rw [if_neg c7] at H
  have c7b0 := decide_eq_false c7
  clear c7
  obtain rfl := Option.some.inj H
  go_enter Tryd.func87,Tryd.ntmps87
  go_wp2
  go_ret
  exact ⟨by first | rfl | (simp;done) | (simp [*];done),by repeat (first | exact Drawn0.refl _ | apply Drawn0.step)⟩
 rw [if_pos c2] at H
 have c2b0 : decide (97 ≤ a0) = true := decide_eq_true c2
 clear c2
 by_cases c3 : a0 ≤ 122
 ·rw [if_pos c3] at H
  have c3b0 := decide_eq_true c3
  clear c3
  obtain rfl := Option.some.inj H
  go_enter Tryd.func87,Tryd.ntmps87
  go_wp2
  go_ret
  exact ⟨by first | rfl | (simp;done) | (simp [*];done),by repeat (first | exact Drawn0.refl _ | apply Drawn0.step)⟩
 rw [if_neg c3] at H
 have c3b0 := decide_eq_false c3
 clear c3
 by_cases c4 : a0 ≥ 65
 case neg =>
  rw [if_neg c4] at H
  have c4b0 : decide (65 ≤ a0) = false := decide_eq_false c4
  clear c4
  obtain rfl := Option.some.inj H
  go_enter Tryd.func87,Tryd.ntmps87
  go_wp2
  go_ret
  exact ⟨by first | rfl | (simp;done) | (simp [*];done),by repeat (first | exact Drawn0.refl _ | apply Drawn0.step)⟩
 rw [if_pos c4] at H
 have c4b0 : decide (65 ≤ a0) = true := decide_eq_true c4
 clear c4
 by_cases c5 : a0 ≤ 90
 ·rw [if_pos c5] at H
  have c5b0 := decide_eq_true c5
  clear c5
  obtain rfl := Option.some.inj H
  go_enter Tryd.func87,Tryd.ntmps87
  go_wp2
  go_ret
  exact ⟨by first | rfl | (simp;done) | (simp [*];done),by repeat (first | exact Drawn0.refl _ | apply Drawn0.step)⟩
 rw [if_neg c5] at H
 have c5b0 := decide_eq_false c5
 clear c5
 obtain rfl := Option.some.inj H
 go_enter Tryd.func87,Tryd.ntmps87
 go_wp2
 go_ret
 exact ⟨by first | rfl | (simp;done) | (simp [*];done),by repeat (first | exact Drawn0.refl _ | apply Drawn0.step)⟩
theorem Zm.calls (k : Nat) (a0 : ByteArray) (r : Bool) (w : World) (h : Zm.f k a0 = some r) :
  Calls Tryd.prog 80 #[.string a0] w fun e w' => e = .returned (.bool r) ∧ Drawn0 w w' := by
 have H : (if (a0.size : Int) < 1 then (Zm.j0 k a0 true) else (if (a0.size : Int) > 40 then (Zm.j0 k a0 true) else (if 0 < (a0.size : Int) then ((Yg.f (bt a0 0)).bind fun t480 => (Zm.j0 k a0 (!t480))) else (none)))) = some r := h
 clear h
 have HC2 := am_ H
 clear H
 go_enter Tryd.func80,Tryd.ntmps80
 go_upto_region 1 with (fail)
 go_cut [17] (fun v17 wc => ∃ (kq : Nat) (x17_1 : Bool),v17 = .bool x17_1 ∧ Aside0 (Zm.j0 kq a0 x17_1 = some r) ∧ Aside0 (kq ≤ k) ∧ Drawn0 w wc)
 case first =>
  have H := HC2.out
  clear HC2
  by_cases c3 : (a0.size : Int) < 1
  ·rw [if_pos c3] at H
   have c3b0 := decide_eq_true c3
   have c3b1 : decide (a0.size < 1) = true := decide_eq_true (by omega)
   clear c3
   (first | rw [c3b0] | (simp only [i64_w,i32_w];rw [c3b0]) | skip)
   have H' := am_ H
   clear H
   go_wp2
   go_meet
   case rel => exact ⟨_,(true),(by first | rfl | (simp;done) | (simp [*];done)),H',⟨by first | omega | exact Nat.le_refl _⟩,by repeat (first | exact Drawn0.refl _ | apply Drawn0.step)⟩
  rw [if_neg c3] at H
  have c3b0 := decide_eq_false c3
  have c3b1 : decide (a0.size < 1) = false := decide_eq_false (by omega)
  clear c3
  (first | rw [c3b0] | (simp only [i64_w,i32_w];rw [c3b0]) | skip)
  by_cases c4 : (a0.size : Int) > 40
  ·rw [if_pos c4] at H
   have c4b0 : decide (40 < (a0.size : Int)) = true := decide_eq_true c4
   have c4b1 : decide (40 < a0.size) = true := decide_eq_true (by omega)
   clear c4
   have H' := am_ H
   clear H
   go_wp2
   go_meet
   case rel => exact ⟨_,(true),(by first | rfl | (simp;done) | (simp [*];done)),H',⟨by first | omega | exact Nat.le_refl _⟩,by repeat (first | exact Drawn0.refl _ | apply Drawn0.step)⟩
  rw [if_neg c4] at H
  have c4b0 : decide (40 < (a0.size : Int)) = false := decide_eq_false c4
  have c4b1 : decide (40 < a0.size) = false := decide_eq_false (by omega)
  clear c4
  by_cases c5 : 0 < (a0.size : Int)
  case neg =>
   rw [if_neg c5] at H
   exact absurd H (by simp)
  rw [if_pos c5] at H
  have c5b0 := decide_eq_true c5
  have c5b1 : decide (0 < a0.size) = true := decide_eq_true (by omega)
  clear c5
  replace H := Option.bind_eq_some_iff.mp H
  obtain ⟨t480,A70,H⟩ := H
  try dsimp only at H
  have A7 := am_ A70
  clear A70
  have H' := am_ H
  clear H
  have p6 : 0 ≤ (0 : Int) := (by omega)
  have q6 : 0 < a0.size := (by have : (0 : Int) < (a0.size : Int) := zo_;omega)
  have hx6 : ∀ h : 0 < a0.size,((a0[0]'h).toNat : Int) = bt a0 0 := bt_at a0 0
  clear p6
  have qi6 : (0 < (a0.size : Int)) = True := eq_true (zo_)
  replace q6 := eq_true q6
  go_wp2_with (first | (go_at_call 87;(with_reducible refine (Yg.calls (bt a0 0) t480 _ A7.out).mono ?_);rintro e w' ⟨rfl,⟨nd,rfl⟩⟩))
  go_meet
  case rel => exact ⟨_,(!t480),(by first | rfl | (simp;done) | (simp [*];done)),H',⟨by first | omega | exact Nat.le_refl _⟩,by repeat (first | exact Drawn0.refl _ | apply Drawn0.step)⟩
 case rest =>
  clear HC2
  try clear p2
  try clear c3
  try clear c3b0
  try clear c3b1
  try clear c4
  try clear c4b0
  try clear c4b1
  try clear c5
  try clear c5b0
  try clear c5b1
  try clear p6
  try clear q6
  try clear hx6
  try clear qi6
  try clear p6
  try clear q6
  obtain ⟨kq,x17_1,rfl,HA,HJ1,⟨mc1,rfl⟩⟩ := hcut
  cases kq with
  | zero => exact absurd HA.out (by simp [Zm.j0])
  | succ kj1 =>
   have H := HA.out
   clear HA
   simp only [Zm.j0] at H
   by_cases c8 : x17_1 = true
   ·subst c8
    rw [if_pos rfl] at H
    obtain rfl := Option.some.inj H
    go_wp2
    go_ret
    exact ⟨by first | rfl | (simp;done) | (simp [*];done),by repeat (first | exact Drawn0.refl _ | apply Drawn0.step)⟩
   replace c8 := Bool.eq_false_iff.mpr c8
   subst c8
   rw [if_neg (show ¬ (false = true) by decide)] at H
   have H' := am_ H
   clear H
   go_wp2
   go_loopg [3] kj1 (fun kq v3 w' => ∃ (x3_2 : Int),v3 = .int .i64 x3_2 ∧ Aside0 (Zm.l0 kq a0 x3_2 = some r) ∧ Aside0 (kq ≤ kj1) ∧ Drawn0 w w')
   case atStart => exact ⟨(1),(by first | rfl | (simp;done) | (simp [*];done)),H',⟨Nat.le_refl _⟩,by repeat (first | exact Drawn0.refl _ | apply Drawn0.step)⟩
   case round =>
    clear H'
    try clear c1
    try clear p2
    try clear c3
    try clear c3b0
    try clear c3b1
    try clear c4
    try clear c4b0
    try clear c4b1
    try clear c5
    try clear c5b0
    try clear c5b1
    try clear p6
    try clear q6
    try clear hx6
    try clear qi6
    try clear c8
    try clear p2
    try clear p6
    try clear q6
    obtain ⟨x3_2,rfl,HA,HK2,⟨m2,rfl⟩⟩ := hrel
    cases gk with
    | zero => exact absurd HA.out (by simp [Zm.l0])
    | succ k2 =>
     have H := HA.out
     clear HA
     simp only [Zm.l0] at H
     by_cases c9 : x3_2 < (a0.size : Int)
     case neg =>
      rw [if_neg c9] at H
      have c9b0 := decide_eq_false c9
      clear c9
      obtain rfl := Option.some.inj H
      go_wp2
      go_ret
      exact ⟨by first | rfl | (simp;done) | (simp [*];done),by repeat (first | exact Drawn0.refl _ | apply Drawn0.step)⟩
     rw [if_pos c9] at H
     have c9b0 := decide_eq_true c9
     clear c9
     by_cases c10 : 0 ≤ x3_2
     case neg =>
      rw [if_neg c10] at H
      exact absurd H (by simp)
     rw [if_pos c10] at H
     have c10b0 := decide_eq_true c10
     clear c10
     replace H := Option.bind_eq_some_iff.mp H
     obtain ⟨t481,A120,H⟩ := H
     try dsimp only at H
     have A12 := am_ A120
     clear A120
     by_cases c13 : t481 = true
     ·subst c13
      rw [if_pos rfl] at H
      have H' := am_ H
      clear H
      have p11 : 0 ≤ (x3_2 : Int) := zo_
      have q11 : x3_2 < (a0.size : Int) := zo_
      have hx11 := bt_at a0 x3_2
      replace p11 := eq_true p11
      replace q11 := eq_true q11
      go_wp2_with (first | ((with_reducible refine gate_callee (f := 87) rfl ?_);refine zgl (some 27) Tryd.func87 #[.int .u8 (bt a0 x3_2)] ?_;(with_reducible refine (Yg.calls (bt a0 x3_2) true _ A12.out).mono ?_);rintro e w' ⟨rfl,⟨nd,rfl⟩⟩;refine ⟨_,rfl,?_⟩))
      go_roundg k2
      case measure => have := HJ1.out;have := HK2.out;omega
      case rel => exact ⟨(wrap64 (x3_2 + 1)),(by first | rfl | (simp;done) | (simp [*];done)),H',⟨by have := HJ1.out;have := HK2.out;omega⟩,by repeat (first | exact Drawn0.refl _ | apply Drawn0.step)⟩
     replace c13 := Bool.eq_false_iff.mpr c13
     subst c13
     rw [if_neg (show ¬ (false = true) by decide)] at H
     replace H := Option.bind_eq_some_iff.mp H
     obtain ⟨t482,A150,H⟩ := H
     try dsimp only at H
     have A15 := am_ A150
     clear A150
     by_cases c16 : t482 = true
     case neg =>
      replace c16 := Bool.eq_false_iff.mpr c16
      subst c16
      rw [if_neg (show ¬ (false = true) by decide)] at H
      obtain rfl := Option.some.inj H
      have p11 : 0 ≤ (x3_2 : Int) := zo_
      have q11 : x3_2 < (a0.size : Int) := zo_
      have hx11 := bt_at a0 x3_2
      replace p11 := eq_true p11
      replace q11 := eq_true q11
      go_wp2_with (first | ((with_reducible refine gate_callee (f := 87) rfl ?_);refine zgl (some 27) Tryd.func87 #[.int .u8 (bt a0 x3_2)] ?_;(with_reducible refine (Yg.calls (bt a0 x3_2) false _ A12.out).mono ?_);rintro e w' ⟨rfl,⟨nd,rfl⟩⟩;refine ⟨_,rfl,?_⟩;have p14 : 0 ≤ (x3_2 : Int) := zo_;have q14 : x3_2 < (a0.size : Int) := zo_;have hx14 := bt_at a0 x3_2;replace p14 := eq_true p14;replace q14 := eq_true q14) | (go_at_call 88;(with_reducible refine (Yt.calls (bt a0 x3_2) false _ A15.out).mono ?_);rintro e w' ⟨rfl,⟨nd,rfl⟩⟩))
      go_ret
      exact ⟨by first | rfl | (simp;done) | (simp [*];done),by repeat (first | exact Drawn0.refl _ | apply Drawn0.step)⟩
     subst c16
     rw [if_pos rfl] at H
     have H' := am_ H
     clear H
     have p11 : 0 ≤ (x3_2 : Int) := zo_
     have q11 : x3_2 < (a0.size : Int) := zo_
     have hx11 := bt_at a0 x3_2
     replace p11 := eq_true p11
     replace q11 := eq_true q11
     go_wp2_with (first | ((with_reducible refine gate_callee (f := 87) rfl ?_);refine zgl (some 27) Tryd.func87 #[.int .u8 (bt a0 x3_2)] ?_;(with_reducible refine (Yg.calls (bt a0 x3_2) false _ A12.out).mono ?_);rintro e w' ⟨rfl,⟨nd,rfl⟩⟩;refine ⟨_,rfl,?_⟩;have p14 : 0 ≤ (x3_2 : Int) := zo_;have q14 : x3_2 < (a0.size : Int) := zo_;have hx14 := bt_at a0 x3_2;replace p14 := eq_true p14;replace q14 := eq_true q14) | (go_at_call 88;(with_reducible refine (Yt.calls (bt a0 x3_2) true _ A15.out).mono ?_);rintro e w' ⟨rfl,⟨nd,rfl⟩⟩))
     go_roundg k2
     case measure => have := HJ1.out;have := HK2.out;omega
     case rel => exact ⟨(wrap64 (x3_2 + 1)),(by first | rfl | (simp;done) | (simp [*];done)),H',⟨by have := HJ1.out;have := HK2.out;omega⟩,by repeat (first | exact Drawn0.refl _ | apply Drawn0.step)⟩
theorem Yn.calls (k : Nat) (a0 : ByteArray) (r : Bool) (w : World) (h : Yn.f k a0 = some r) :
  Calls Tryd.prog 73 #[.string a0] w fun e w' => e = .returned (.bool r) ∧ Drawn0 w w' := by
 have H : ((Zm.f k a0).bind fun t483 => (some t483)) = some r := h
 clear h
 replace H := Option.bind_eq_some_iff.mp H
 obtain ⟨t483,A20,H⟩ := H
 try dsimp only at H
 have A2 := am_ A20
 clear A20
 obtain rfl := Option.some.inj H
 go_enter Tryd.func73,Tryd.ntmps73
 go_wp2_with (first | ((with_reducible refine gate_callee (f := 80) rfl ?_);refine zgl (some 4) Tryd.func80 #[.string a0] ?_;(with_reducible refine (Zm.calls k a0 t483 _ A2.out).mono ?_);rintro e w' ⟨rfl,⟨nd,rfl⟩⟩;refine ⟨_,rfl,?_⟩))
 go_ret
 exact ⟨by first | rfl | (simp;done) | (simp [*];done),by repeat (first | exact Drawn0.refl _ | apply Drawn0.step)⟩
theorem Yf.calls (k : Nat) (a0 : ByteArray) (a1 : Int) (r : Bool) (w : World) (h : Yf.f k a0 a1 = some r) :
  Calls Tryd.prog 55 #[.string a0,.int .i64 a1] w fun e w' => e = .returned (.bool r) ∧ Drawn0 w w' := by
 have H : ((ZK.f (a0.size : Int) 1 a1).bind fun t484 => (if t484 = true then ((Yn.f k a0).bind fun t485 => (some t485)) else (some false))) = some r := h
 clear h
 replace H := Option.bind_eq_some_iff.mp H
 obtain ⟨t484,A30,H⟩ := H
 try dsimp only at H
 have A3 := am_ A30
 clear A30
 by_cases c4 : t484 = true
 case neg =>
  replace c4 := Bool.eq_false_iff.mpr c4
  subst c4
  rw [if_neg (show ¬ (false = true) by decide)] at H
  obtain rfl := Option.some.inj H
  go_enter Tryd.func55,Tryd.ntmps55
  go_wp2_with (first | ((with_reducible refine gate_callee (f := 56) rfl ?_);refine zgl (some 8) Tryd.func56 #[.int .i64 (a0.size : Int),.int .i64 1,.int .i64 a1] ?_;(with_reducible refine (ZK.calls (a0.size : Int) 1 a1 false _ A3.out).mono ?_);rintro e w' ⟨rfl,⟨nd,rfl⟩⟩;refine ⟨_,rfl,?_⟩))
  go_ret
  exact ⟨by first | rfl | (simp;done) | (simp [*];done),by repeat (first | exact Drawn0.refl _ | apply Drawn0.step)⟩
 subst c4
 rw [if_pos rfl] at H
 replace H := Option.bind_eq_some_iff.mp H
 obtain ⟨t485,A50,H⟩ := H
 try dsimp only at H
 have A5 := am_ A50
 clear A50
 obtain rfl := Option.some.inj H
 go_enter Tryd.func55,Tryd.ntmps55
 go_wp2_with (first | ((with_reducible refine gate_callee (f := 56) rfl ?_);refine zgl (some 8) Tryd.func56 #[.int .i64 (a0.size : Int),.int .i64 1,.int .i64 a1] ?_;(with_reducible refine (ZK.calls (a0.size : Int) 1 a1 true _ A3.out).mono ?_);rintro e w' ⟨rfl,⟨nd,rfl⟩⟩;refine ⟨_,rfl,?_⟩) | (go_at_call 73;(with_reducible refine (Yn.calls k a0 t485 _ A5.out).mono ?_);rintro e w' ⟨rfl,⟨nd,rfl⟩⟩))
 go_ret
 exact ⟨by first | rfl | (simp;done) | (simp [*];done),by repeat (first | exact Drawn0.refl _ | apply Drawn0.step)⟩
theorem Yb.calls (k : Nat) (a0_0 : ByteArray) (a0_1 : Int) (a0_2 : Int) (a0_3 : Int) (r : Bool) (w : World) (h : Yb.f k a0_0 a0_1 a0_2 a0_3 = some r) :
  Calls Tryd.prog 31 #[.agg #[.string a0_0,.int .i64 a0_1,.int .i64 a0_2,.int .i64 a0_3]] w fun e w' => e = .returned (.bool r) ∧ Below w.heap.size w w' := by
 have hu24 := Tryd.underlying24
 have HB := am_ (Below.refl w.heap.size w)
 have H : ((Yf.f k a0_0 12).bind fun t487 => (if t487 = true then ((ZK.f a0_1 0 255).bind fun t488 => (if t488 = true then ((ZK.f a0_2 1 1000000).bind fun t489 => (if t489 = true then ((ZK.f a0_3 0 2000000000).bind fun t490 => (some t490)) else (some false))) else (some false))) else (some false))) = some r := h
 clear h
 replace H := Option.bind_eq_some_iff.mp H
 obtain ⟨t487,A20,H⟩ := H
 try dsimp only at H
 have A2 := am_ A20
 clear A20
 by_cases c3 : t487 = true
 case neg =>
  replace c3 := Bool.eq_false_iff.mpr c3
  subst c3
  rw [if_neg (show ¬ (false = true) by decide)] at H
  obtain rfl := Option.some.inj H
  go_enter Tryd.func31,Tryd.ntmps31
  go_wp2_with (first | ((with_reducible refine gate_dst (N := 1) rfl ?_);refine zbx (N := 1) (cs := #[.string a0_0,.int .i64 a0_1,.int .i64 a0_2,.int .i64 a0_3]) (t := 24) ?_;intro gb486 hg w15 hbox hb;have BK486 := am_ (hbox);have GW486 := zw_ HB hg;have GE486 := zw_ HB hg;replace HB := zs_ HB hb;clear hb hbox hg;obtain ⟨hcz16_0,hcz16_1,hcz16_2,hcz16_3,hfz16_0,hfz16_1,hfz16_2,hfz16_3⟩ := zc4 BK486) | ((with_reducible refine gate_callee (f := 55) rfl ?_);refine zgl (some 5) Tryd.func55 #[.string a0_0,.int .i64 12] ?_;(with_reducible refine (Yf.calls k a0_0 12 false _ A2.out).mono ?_);rintro e w' ⟨rfl,⟨nd,rfl⟩⟩;refine ⟨_,rfl,?_⟩))
  go_ret
  exact ⟨zt_,zl_ HB⟩
 subst c3
 rw [if_pos rfl] at H
 replace H := Option.bind_eq_some_iff.mp H
 obtain ⟨t488,A40,H⟩ := H
 try dsimp only at H
 have A4 := am_ A40
 clear A40
 by_cases c5 : t488 = true
 case neg =>
  replace c5 := Bool.eq_false_iff.mpr c5
  subst c5
  rw [if_neg (show ¬ (false = true) by decide)] at H
  obtain rfl := Option.some.inj H
  go_enter Tryd.func31,Tryd.ntmps31
  go_wp2_with (first | ((with_reducible refine gate_dst (N := 1) rfl ?_);refine zbx (N := 1) (cs := #[.string a0_0,.int .i64 a0_1,.int .i64 a0_2,.int .i64 a0_3]) (t := 24) ?_;intro gb486 hg w13 hbox hb;have BK486 := am_ (hbox);have GW486 := zw_ HB hg;have GE486 := zw_ HB hg;replace HB := zs_ HB hb;clear hb hbox hg;obtain ⟨hcz14_0,hcz14_1,hcz14_2,hcz14_3,hfz14_0,hfz14_1,hfz14_2,hfz14_3⟩ := zc4 BK486) | ((with_reducible refine gate_callee (f := 55) rfl ?_);refine zgl (some 5) Tryd.func55 #[.string a0_0,.int .i64 12] ?_;(with_reducible refine (Yf.calls k a0_0 12 true _ A2.out).mono ?_);rintro e w' ⟨rfl,⟨nd,rfl⟩⟩;refine ⟨_,rfl,?_⟩) | (go_at_call 56;(with_reducible refine (ZK.calls a0_1 0 255 false _ A4.out).mono ?_);rintro e w' ⟨rfl,⟨nd,rfl⟩⟩))
  go_ret
  exact ⟨zt_,zl_ HB⟩
 subst c5
 rw [if_pos rfl] at H
 replace H := Option.bind_eq_some_iff.mp H
 obtain ⟨t489,A60,H⟩ := H
 try dsimp only at H
 have A6 := am_ A60
 clear A60
 by_cases c7 : t489 = true
 case neg =>
  replace c7 := Bool.eq_false_iff.mpr c7
  subst c7
  rw [if_neg (show ¬ (false = true) by decide)] at H
  obtain rfl := Option.some.inj H
  go_enter Tryd.func31,Tryd.ntmps31
  go_wp2_with (first | ((with_reducible refine gate_dst (N := 1) rfl ?_);refine zbx (N := 1) (cs := #[.string a0_0,.int .i64 a0_1,.int .i64 a0_2,.int .i64 a0_3]) (t := 24) ?_;intro gb486 hg w11 hbox hb;have BK486 := am_ (hbox);have GW486 := zw_ HB hg;have GE486 := zw_ HB hg;replace HB := zs_ HB hb;clear hb hbox hg;obtain ⟨hcz12_0,hcz12_1,hcz12_2,hcz12_3,hfz12_0,hfz12_1,hfz12_2,hfz12_3⟩ := zc4 BK486) | ((with_reducible refine gate_callee (f := 55) rfl ?_);refine zgl (some 5) Tryd.func55 #[.string a0_0,.int .i64 12] ?_;(with_reducible refine (Yf.calls k a0_0 12 true _ A2.out).mono ?_);rintro e w' ⟨rfl,⟨nd,rfl⟩⟩;refine ⟨_,rfl,?_⟩) | (go_at_call 56;(with_reducible refine (ZK.calls a0_1 0 255 true _ A4.out).mono ?_);rintro e w' ⟨rfl,⟨nd,rfl⟩⟩) | (go_at_call 56;(with_reducible refine (ZK.calls a0_2 1 1000000 false _ A6.out).mono ?_);rintro e w' ⟨rfl,⟨nd,rfl⟩⟩))
  go_ret
  exact ⟨zt_,zl_ HB⟩
 subst c7
 rw [if_pos rfl] at H
 replace H := Option.bind_eq_some_iff.mp H
 obtain ⟨t490,A80,H⟩ := H
 try dsimp only at H
 have A8 := am_ A80
 clear A80
 obtain rfl := Option.some.inj H
 go_enter Tryd.func31,Tryd.ntmps31
 go_wp2_with (first | ((with_reducible refine gate_dst (N := 1) rfl ?_);refine zbx (N := 1) (cs := #[.string a0_0,.int .i64 a0_1,.int .i64 a0_2,.int .i64 a0_3]) (t := 24) ?_;intro gb486 hg w9 hbox hb;have BK486 := am_ (hbox);have GW486 := zw_ HB hg;have GE486 := zw_ HB hg;replace HB := zs_ HB hb;clear hb hbox hg;obtain ⟨hcz10_0,hcz10_1,hcz10_2,hcz10_3,hfz10_0,hfz10_1,hfz10_2,hfz10_3⟩ := zc4 BK486) | ((with_reducible refine gate_callee (f := 55) rfl ?_);refine zgl (some 5) Tryd.func55 #[.string a0_0,.int .i64 12] ?_;(with_reducible refine (Yf.calls k a0_0 12 true _ A2.out).mono ?_);rintro e w' ⟨rfl,⟨nd,rfl⟩⟩;refine ⟨_,rfl,?_⟩) | (go_at_call 56;(with_reducible refine (ZK.calls a0_1 0 255 true _ A4.out).mono ?_);rintro e w' ⟨rfl,⟨nd,rfl⟩⟩) | (go_at_call 56;(with_reducible refine (ZK.calls a0_2 1 1000000 true _ A6.out).mono ?_);rintro e w' ⟨rfl,⟨nd,rfl⟩⟩) | (go_at_call 56;(with_reducible refine (ZK.calls a0_3 0 2000000000 t490 _ A8.out).mono ?_);rintro e w' ⟨rfl,⟨nd,rfl⟩⟩))
 go_ret
 exact ⟨zt_,zl_ HB⟩
theorem Yr.calls (a0 : Int) (r : Bool) (w : World) (h : Yr.f a0 = some r) :
  Calls Tryd.prog 32 #[.int .i64 a0] w fun e w' => e = .returned (.bool r) ∧ Drawn0 w w' := by
 have H : (if a0 = 1 then (some true) else (if a0 = 4 then (some true) else (some (a0 == 7)))) = some r := h
 clear h
 by_cases c2 : a0 = 1
 ·rw [if_pos c2] at H
  have c2b0 := beq_iff_eq.mpr c2
  have c2b1 := bne_eq_false_iff_eq.mpr c2
  clear c2
  obtain rfl := Option.some.inj H
  go_enter Tryd.func32,Tryd.ntmps32
  go_wp2
  go_ret
  exact ⟨by first | rfl | (simp;done) | (simp [*];done),by repeat (first | exact Drawn0.refl _ | apply Drawn0.step)⟩
 rw [if_neg c2] at H
 have c2b0 := beq_eq_false_iff_ne.mpr c2
 have c2b1 := bne_iff_ne.mpr c2
 by_cases c3 : a0 = 4
 case neg =>
  rw [if_neg c3] at H
  have c3b0 := beq_eq_false_iff_ne.mpr c3
  have c3b1 := bne_iff_ne.mpr c3
  obtain rfl := Option.some.inj H
  go_enter Tryd.func32,Tryd.ntmps32
  go_wp2
  go_ret
  exact ⟨by first | rfl | (simp;done) | (simp [*];done),by repeat (first | exact Drawn0.refl _ | apply Drawn0.step)⟩
 rw [if_pos c3] at H
 have c3b0 := beq_iff_eq.mpr c3
 have c3b1 := bne_eq_false_iff_eq.mpr c3
 clear c3
 obtain rfl := Option.some.inj H
 go_enter Tryd.func32,Tryd.ntmps32
 go_wp2
 go_ret
 exact ⟨by first | rfl | (simp;done) | (simp [*];done),by repeat (first | exact Drawn0.refl _ | apply Drawn0.step)⟩
theorem ZC.calls (k : Nat) (a0 : Int) (A1 : Option Addr) (c1 : Nat) (l1 : List Int) (r : Bool) (w : World) (hr1 : Kd.C (Kd.int .i64) w A1 l1.length l1) (hc1 : l1.length ≤ c1) (h : ZC.f k a0 l1 = some r) :
  Calls Tryd.prog 33 #[.int .i64 a0,.slice A1 l1.length c1] w fun e w' => e = .returned (.bool r) ∧ Drawn0 w w' := by
 have HR1 := am_ hr1
 have HC1 := am_ hc1
 clear hr1 hc1
 have H : (if (l1.length : Int) = (wrap64 ((wrap64 (Int.tdiv (wrap64 (a0 - 1)) 3)) + 1)) then (ZC.l0 k a0 l1 0) else (some false)) = some r := h
 clear h
 by_cases c3 : (l1.length : Int) = (wrap64 ((wrap64 (Int.tdiv (wrap64 (a0 - 1)) 3)) + 1))
 case neg =>
  rw [if_neg c3] at H
  have c3b0 := beq_eq_false_iff_ne.mpr c3
  have c3b1 := bne_iff_ne.mpr c3
  obtain rfl := Option.some.inj H
  go_enter Tryd.func33,Tryd.ntmps33
  go_wp2
  repeat (go_quiet (fail);try go_wp2)
  go_ret
  exact ⟨by first | rfl | (simp;done) | (simp [*];done),by repeat (first | exact Drawn0.refl _ | apply Drawn0.step)⟩
 rw [if_pos c3] at H
 have c3b0 := beq_iff_eq.mpr c3
 have c3b1 := bne_eq_false_iff_eq.mpr c3
 clear c3
 have H' := am_ H
 clear H
 go_enter Tryd.func33,Tryd.ntmps33
 go_wp2
 repeat (go_quiet (fail);try go_wp2)
 go_loopg [5] k (fun kq v5 w' => ∃ (x5_1 : Int),v5 = .int .i64 x5_1 ∧ Aside0 (ZC.l0 kq a0 l1 x5_1 = some r) ∧ Aside0 (kq ≤ k) ∧ Drawn0 w w')
 case atStart => exact ⟨(0),(by first | rfl | (simp;done) | (simp [*];done)),H',⟨Nat.le_refl _⟩,by repeat (first | exact Drawn0.refl _ | apply Drawn0.step)⟩
 case round =>
  clear H'
  try clear c1
  try clear p2
  try clear c3
  try clear c3b0
  try clear c3b1
  obtain ⟨x5_1,rfl,HA,HK1,⟨m1,rfl⟩⟩ := hrel
  cases gk with
  | zero => exact absurd HA.out (by simp [ZC.l0])
  | succ k1 =>
   have H := HA.out
   clear HA
   simp only [ZC.l0] at H
   by_cases c4 : x5_1 < (l1.length : Int)
   case neg =>
    rw [if_neg c4] at H
    have c4b0 := decide_eq_false c4
    clear c4
    obtain rfl := Option.some.inj H
    go_wp2
    repeat (go_quiet (fail);try go_wp2)
    go_ret
    exact ⟨by first | rfl | (simp;done) | (simp [*];done),by repeat (first | exact Drawn0.refl _ | apply Drawn0.step)⟩
   rw [if_pos c4] at H
   have c4b0 := decide_eq_true c4
   clear c4
   by_cases c5 : 0 ≤ x5_1
   case neg =>
    rw [if_neg c5] at H
    exact absurd H (by simp)
   rw [if_pos c5] at H
   have c5b0 := decide_eq_true c5
   clear c5
   replace H := Option.bind_eq_some_iff.mp H
   obtain ⟨t492,A60,H⟩ := H
   try dsimp only at H
   have A6 := am_ A60
   clear A60
   by_cases c7 : t492 = true
   case neg =>
    replace c7 := Bool.eq_false_iff.mpr c7
    subst c7
    rw [if_neg (show ¬ (false = true) by decide)] at H
    obtain rfl := Option.some.inj H
    have p491 : 0 ≤ (x5_1 : Int) := zo_
    have q491 : x5_1 < (l1.length : Int) := zo_
    obtain ⟨ad491,e491,hx491_0⟩ := Kd.at_int HR1.out x5_1 p491 q491
    cases e491
    replace p491 := eq_true p491
    replace q491 := eq_true q491
    go_wp2_with (first | (go_at_call 56;(with_reducible refine (ZK.calls (rd l1 x5_1) 0 (wrap64 (a0 - 1)) false _ A6.out).mono ?_);rintro e w' ⟨rfl,⟨nd,rfl⟩⟩;(try first | exact ⟨rfl,_,World.drewN_drewN _ _ _⟩ | exact ⟨rfl,_,Eq.trans (World.drewN_drewN _ _ _) (congrArg (World.drewN _) (Nat.add_assoc _ _ _))⟩)))
    repeat (go_quiet (first | (go_at_call 56;(with_reducible refine (ZK.calls (rd l1 x5_1) 0 (wrap64 (a0 - 1)) false _ A6.out).mono ?_);rintro e w' ⟨rfl,⟨nd,rfl⟩⟩;(try first | exact ⟨rfl,_,World.drewN_drewN _ _ _⟩ | exact ⟨rfl,_,Eq.trans (World.drewN_drewN _ _ _) (congrArg (World.drewN _) (Nat.add_assoc _ _ _))⟩)));try go_wp2_with (first | (go_at_call 56;(with_reducible refine (ZK.calls (rd l1 x5_1) 0 (wrap64 (a0 - 1)) false _ A6.out).mono ?_);rintro e w' ⟨rfl,⟨nd,rfl⟩⟩;(try first | exact ⟨rfl,_,World.drewN_drewN _ _ _⟩ | exact ⟨rfl,_,Eq.trans (World.drewN_drewN _ _ _) (congrArg (World.drewN _) (Nat.add_assoc _ _ _))⟩))))
    go_ret
    exact ⟨by first | rfl | (simp;done) | (simp [*];done),by repeat (first | exact Drawn0.refl _ | apply Drawn0.step)⟩
   subst c7
   rw [if_pos rfl] at H
   by_cases c8 : x5_1 > 0
   case neg =>
    rw [if_neg c8] at H
    have c8b0 : decide (0 < x5_1) = false := decide_eq_false c8
    clear c8
    have H' := am_ H
    clear H
    have p491 : 0 ≤ (x5_1 : Int) := zo_
    have q491 : x5_1 < (l1.length : Int) := zo_
    obtain ⟨ad491,e491,hx491_0⟩ := Kd.at_int HR1.out x5_1 p491 q491
    cases e491
    replace p491 := eq_true p491
    replace q491 := eq_true q491
    go_wp2_with (first | (go_at_call 56;(with_reducible refine (ZK.calls (rd l1 x5_1) 0 (wrap64 (a0 - 1)) true _ A6.out).mono ?_);rintro e w' ⟨rfl,⟨nd,rfl⟩⟩;(try first | exact ⟨rfl,_,World.drewN_drewN _ _ _⟩ | exact ⟨rfl,_,Eq.trans (World.drewN_drewN _ _ _) (congrArg (World.drewN _) (Nat.add_assoc _ _ _))⟩)))
    repeat (go_quiet (first | (go_at_call 56;(with_reducible refine (ZK.calls (rd l1 x5_1) 0 (wrap64 (a0 - 1)) true _ A6.out).mono ?_);rintro e w' ⟨rfl,⟨nd,rfl⟩⟩;(try first | exact ⟨rfl,_,World.drewN_drewN _ _ _⟩ | exact ⟨rfl,_,Eq.trans (World.drewN_drewN _ _ _) (congrArg (World.drewN _) (Nat.add_assoc _ _ _))⟩)));try go_wp2_with (first | (go_at_call 56;(with_reducible refine (ZK.calls (rd l1 x5_1) 0 (wrap64 (a0 - 1)) true _ A6.out).mono ?_);rintro e w' ⟨rfl,⟨nd,rfl⟩⟩;(try first | exact ⟨rfl,_,World.drewN_drewN _ _ _⟩ | exact ⟨rfl,_,Eq.trans (World.drewN_drewN _ _ _) (congrArg (World.drewN _) (Nat.add_assoc _ _ _))⟩))))
    go_roundg k1
    case measure => have := HK1.out;omega
    case rel => exact ⟨(wrap64 (x5_1 + 1)),(by first | rfl | (simp;done) | (simp [*];done)),H',⟨by have := HK1.out;omega⟩,by repeat (first | exact Drawn0.refl _ | apply Drawn0.step)⟩
   rw [if_pos c8] at H
   have c8b0 : decide (0 < x5_1) = true := decide_eq_true c8
   clear c8
   obtain ⟨ji9,hji9⟩ : ∃ j_ : Int,(wrap64 (x5_1 - 1)) = j_ := ⟨_,rfl⟩
   replace H : (if 0 ≤ (ji9) then (if (ji9) < (l1.length : Int) then (if (rd l1 (ji9)) ≥ (rd l1 x5_1) then (some false) else (ZC.l0 k1 a0 l1 (wrap64 (x5_1 + 1)))) else (none)) else (none)) = some r := by first | (rw [hji9] at H;exact H) | (simp only [hji9] at H ⊢;exact H)
   (try rw [hji9] at A6)
   have hji9w : (IntKind.i64.wrap (x5_1 - 1)) = ji9 := (i64_w _).trans hji9
   by_cases c10 : 0 ≤ (ji9)
   case neg =>
    rw [if_neg c10] at H
    exact absurd H (by simp)
   rw [if_pos c10] at H
   have c10b0 := decide_eq_true c10
   clear c10
   by_cases c11 : (ji9) < (l1.length : Int)
   case neg =>
    rw [if_neg c11] at H
    exact absurd H (by simp)
   rw [if_pos c11] at H
   have c11b0 := decide_eq_true c11
   clear c11
   by_cases c12 : (rd l1 (ji9)) ≥ (rd l1 x5_1)
   ·rw [if_pos c12] at H
    have c12b0 : decide ((rd l1 x5_1) ≤ (rd l1 (ji9))) = true := decide_eq_true c12
    clear c12
    obtain rfl := Option.some.inj H
    have p491 : 0 ≤ (x5_1 : Int) := zo_
    have q491 : x5_1 < (l1.length : Int) := zo_
    obtain ⟨ad491,e491,hx491_0⟩ := Kd.at_int HR1.out x5_1 p491 q491
    cases e491
    replace p491 := eq_true p491
    replace q491 := eq_true q491
    have p493 : 0 ≤ ((ji9) : Int) := zo_
    have q493 : (ji9) < (l1.length : Int) := zo_
    obtain ⟨ad493,e493,hx493_0⟩ := Kd.at_int HR1.out (ji9) p493 q493
    obtain rfl : ad491 = ad493 := (by injection e493)
    replace p493 := eq_true p493
    replace q493 := eq_true q493
    have p494 : 0 ≤ (x5_1 : Int) := zo_
    have q494 : x5_1 < (l1.length : Int) := zo_
    obtain ⟨ad494,e494,hx494_0⟩ := Kd.at_int HR1.out x5_1 p494 q494
    obtain rfl : ad491 = ad494 := (by injection e494)
    replace p494 := eq_true p494
    replace q494 := eq_true q494
    go_wp2_with (first | (go_at_call 56;(with_reducible refine (ZK.calls (rd l1 x5_1) 0 (wrap64 (a0 - 1)) true _ A6.out).mono ?_);rintro e w' ⟨rfl,⟨nd,rfl⟩⟩;(try first | exact ⟨rfl,_,World.drewN_drewN _ _ _⟩ | exact ⟨rfl,_,Eq.trans (World.drewN_drewN _ _ _) (congrArg (World.drewN _) (Nat.add_assoc _ _ _))⟩)))
    repeat (go_quiet (first | (go_at_call 56;(with_reducible refine (ZK.calls (rd l1 x5_1) 0 (wrap64 (a0 - 1)) true _ A6.out).mono ?_);rintro e w' ⟨rfl,⟨nd,rfl⟩⟩;(try first | exact ⟨rfl,_,World.drewN_drewN _ _ _⟩ | exact ⟨rfl,_,Eq.trans (World.drewN_drewN _ _ _) (congrArg (World.drewN _) (Nat.add_assoc _ _ _))⟩)));try go_wp2_with (first | (go_at_call 56;(with_reducible refine (ZK.calls (rd l1 x5_1) 0 (wrap64 (a0 - 1)) true _ A6.out).mono ?_);rintro e w' ⟨rfl,⟨nd,rfl⟩⟩;(try first | exact ⟨rfl,_,World.drewN_drewN _ _ _⟩ | exact ⟨rfl,_,Eq.trans (World.drewN_drewN _ _ _) (congrArg (World.drewN _) (Nat.add_assoc _ _ _))⟩))))
    go_ret
    exact ⟨by first | rfl | (simp;done) | (simp only [← hji9] <;> (first | rfl | simp)) | (simp [*];done),by repeat (first | exact Drawn0.refl _ | apply Drawn0.step)⟩
   rw [if_neg c12] at H
   have c12b0 : decide ((rd l1 x5_1) ≤ (rd l1 (ji9))) = false := decide_eq_false c12
   clear c12
   have H' := am_ H
   clear H
   have p491 : 0 ≤ (x5_1 : Int) := zo_
   have q491 : x5_1 < (l1.length : Int) := zo_
   obtain ⟨ad491,e491,hx491_0⟩ := Kd.at_int HR1.out x5_1 p491 q491
   cases e491
   replace p491 := eq_true p491
   replace q491 := eq_true q491
   have p493 : 0 ≤ ((ji9) : Int) := zo_
   have q493 : (ji9) < (l1.length : Int) := zo_
   obtain ⟨ad493,e493,hx493_0⟩ := Kd.at_int HR1.out (ji9) p493 q493
   obtain rfl : ad491 = ad493 := (by injection e493)
   replace p493 := eq_true p493
   replace q493 := eq_true q493
   have p494 : 0 ≤ (x5_1 : Int) := zo_
   have q494 : x5_1 < (l1.length : Int) := zo_
   obtain ⟨ad494,e494,hx494_0⟩ := Kd.at_int HR1.out x5_1 p494 q494
   obtain rfl : ad491 = ad494 := (by injection e494)
   replace p494 := eq_true p494
   replace q494 := eq_true q494
   go_wp2_with (first | (go_at_call 56;(with_reducible refine (ZK.calls (rd l1 x5_1) 0 (wrap64 (a0 - 1)) true _ A6.out).mono ?_);rintro e w' ⟨rfl,⟨nd,rfl⟩⟩;(try first | exact ⟨rfl,_,World.drewN_drewN _ _ _⟩ | exact ⟨rfl,_,Eq.trans (World.drewN_drewN _ _ _) (congrArg (World.drewN _) (Nat.add_assoc _ _ _))⟩)))
   repeat (go_quiet (first | (go_at_call 56;(with_reducible refine (ZK.calls (rd l1 x5_1) 0 (wrap64 (a0 - 1)) true _ A6.out).mono ?_);rintro e w' ⟨rfl,⟨nd,rfl⟩⟩;(try first | exact ⟨rfl,_,World.drewN_drewN _ _ _⟩ | exact ⟨rfl,_,Eq.trans (World.drewN_drewN _ _ _) (congrArg (World.drewN _) (Nat.add_assoc _ _ _))⟩)));try go_wp2_with (first | (go_at_call 56;(with_reducible refine (ZK.calls (rd l1 x5_1) 0 (wrap64 (a0 - 1)) true _ A6.out).mono ?_);rintro e w' ⟨rfl,⟨nd,rfl⟩⟩;(try first | exact ⟨rfl,_,World.drewN_drewN _ _ _⟩ | exact ⟨rfl,_,Eq.trans (World.drewN_drewN _ _ _) (congrArg (World.drewN _) (Nat.add_assoc _ _ _))⟩))))
   go_roundg k1
   case measure => have := HK1.out;omega
   case rel => exact ⟨(wrap64 (x5_1 + 1)),(by first | rfl | (simp;done) | (simp [*];done)),H',⟨by have := HK1.out;omega⟩,by repeat (first | exact Drawn0.refl _ | apply Drawn0.step)⟩
theorem Yi.calls (k : Nat) (a0 : Int) (r : ByteArray) (w : World) (h : Yi.f k a0 = some r) :
  Calls Tryd.prog 35 #[.int .i64 a0] w fun e w' => e = .returned (.string r) ∧ Below w.heap.size w w' := by
 have HB := am_ (Below.refl w.heap.size w)
 have H : ((some (([(a0) % 256] : List Int) : List Int)).bind fun y539 => (if 9 + (strOfNums y539).size ≤ 9223372036854775807 then (if ((⟨#[110,111,100,101,32,115,101,101,100]⟩ : ByteArray) ++ (strOfNums y539)).size ≤ 140737488355328 then ((Zb.f k (bytesOf ((⟨#[110,111,100,101,32,115,101,101,100]⟩ : ByteArray) ++ (strOfNums y539)))).bind fun t545 => (some t545)) else (none)) else (none))) = some r := h
 clear h
 obtain ⟨y539,hy539⟩ : ∃ y_ : List Int,y_ = (([(a0) % 256] : List Int)) := ⟨_,rfl⟩
 replace H : (if 9 + (strOfNums y539).size ≤ 9223372036854775807 then (if ((⟨#[110,111,100,101,32,115,101,101,100]⟩ : ByteArray) ++ (strOfNums y539)).size ≤ 140737488355328 then ((Zb.f k (bytesOf ((⟨#[110,111,100,101,32,115,101,101,100]⟩ : ByteArray) ++ (strOfNums y539)))).bind fun t545 => (some t545)) else (none)) else (none)) = some r := by first | (rw [hy539];with_reducible exact H) | (have H2_ := (Option.bind_some _ _).symm.trans H;rw [hy539];with_reducible exact H2_) | (have H2_ := (Option.bind_some _ _).symm.trans H;with_reducible exact H2_) | with_reducible exact H | (rw [hy539];exact H) | exact H
 have Ny539 := am_ hy539
 clear hy539
 by_cases c2 : 9 + (strOfNums y539).size ≤ 9223372036854775807
 case neg =>
  rw [if_neg c2] at H
  exact absurd H (by simp)
 rw [if_pos c2] at H
 have c2b0 := eq_true c2
 have c2b1 := decide_eq_true c2
 try have c2b2 : (9223372036854775807 < 9 + (strOfNums y539).size) = False := eq_false (Nat.not_lt.2 c2)
 by_cases c3 : ((⟨#[110,111,100,101,32,115,101,101,100]⟩ : ByteArray) ++ (strOfNums y539)).size ≤ 140737488355328
 case neg =>
  rw [if_neg c3] at H
  exact absurd H (by simp)
 rw [if_pos c3] at H
 have c3b0 := eq_true c3
 have c3b1 := decide_eq_true c3
 obtain ⟨y542,hy542⟩ : ∃ y_ : List Int,y_ = (bytesOf ((⟨#[110,111,100,101,32,115,101,101,100]⟩ : ByteArray) ++ (strOfNums y539))) := ⟨_,rfl⟩
 replace H : ((Zb.f k y542).bind fun t545 => (some t545)) = some r := by first | (rw [hy542];with_reducible exact H) | (have H2_ := (Option.bind_some _ _).symm.trans H;rw [hy542];with_reducible exact H2_) | (have H2_ := (Option.bind_some _ _).symm.trans H;with_reducible exact H2_) | with_reducible exact H | (rw [hy542];exact H) | exact H
 have Ny542 := am_ hy542
 clear hy542
 replace H := Option.bind_eq_some_iff.mp H
 obtain ⟨t545,A40,H⟩ := H
 try dsimp only at H
 have A4 := am_ A40
 clear A40
 obtain rfl := Option.some.inj H
 go_enter Tryd.func35,Tryd.ntmps35
 go_wp2_with (first | ((with_reducible refine gate_dst (N := 5) rfl ?_);refine Kd.R_lit (Kd.int .u8) _ 5 ?hg (N := 5) ?hd (xs := ([(a0) % 256] : List Int)) (inner := [.int .u8 ((a0) % 256)]) (ok := fun _ => True) (okp := fun _ => True) ?hr ?hp (fun _ hk => hk) trivial (Below.refl _ _) (Nat.le_refl _) (by simp) ?_;(case hd => rfl);(case hg => rfl);(case hr => first | (go_simp;done) | (go_simp;rfl));(case hp => exact (Reps.one (show Kd.M (Kd.int .u8) _ _ _ ((a0) % 256) [.int .u8 ((a0) % 256)] from rfl) (Reps.none _ _)));intro v540 w5 ho6 hb hg_ hnew_;clear hg_ hnew_;(first | rw [← Ny539.out] at ho6 | (simp only [Int.reduceToNat] at ho6;rw [← Ny539.out] at ho6));have HO541 := am_ (Kd.R_lower ho6 (below_size (zl_ HB)));replace HB := zs_ HB hb;clear hb ho6;have hcv7 := own_string (P := Tryd.prog) Tryd.underlying22 Tryd.underlying5 Tryd.underlying9 (Kd.own_of_R HO541.out)) | ((with_reducible refine gate_dst (N := 8) rfl ?_);refine Kd.V_conv (Kd.int .u8) rfl _ 5 rfl (N := 8) rfl 9 22 _ rfl ((⟨#[110,111,100,101,32,115,101,101,100]⟩ : ByteArray) ++ (strOfNums y539)) rfl Tryd.underlying9 Tryd.underlying22 Tryd.underlying5 (ok := fun k_ => w5.heap.size ≤ k_) (okp := fun _ => False) (fun _ hk => hk.elim) (Nat.le_refl _) (by have := o1_ (by first | (with_reducible assumption) | assumption : decide (((⟨#[110,111,100,101,32,115,101,101,100]⟩ : ByteArray) ++ (strOfNums y539)).size ≤ 140737488355328) = true);omega) (Below.refl _ _) (Nat.le_refl _) ?_;intro v543 w8 ho9 hb hg_ hnew_;clear hg_ hnew_;(first | rw [← Ny542.out] at ho9 | (simp only [Int.reduceToNat] at ho9;rw [← Ny542.out] at ho9));have HO544 := am_ (Kd.V_lower (Kd.V_mono (ok' := fun k_ => some k_ ≠ (v540 : Value).ownBlock) ho9 (fun k_ hk_ => (Kd.fresh' (Kd.R_lt (zr HO541)) k_ hk_))) (below_size (zl_ HB)));replace HB := zs_ HB hb;clear hb ho9;obtain ⟨Ao10,co10,eo10⟩ := Kd.V_slice HO544.out;subst eo10) | ((with_reducible refine gate_callee (f := 59) rfl ?_);refine zgl (some 9) Tryd.func59 #[.slice Ao10 y542.length co10] ?_;(with_reducible refine (Zb.calls k _ _ y542 t545 _ ?side1 ?side2 A4.out).mono ?_);(case side1 => repeat (first | exact (Kd.V_reads' HO544.out).2.2 | (with_reducible refine Kd.C_alloc ?_ _) | (with_reducible refine Kd.C_drewN ?_ _) | (with_reducible refine Kd.C_drew ?_)));(case side2 => exact (Kd.V_reads' HO544.out).2.1);rintro e w11 ⟨rfl,hb⟩;refine ⟨_,rfl,?_⟩;replace HB := zs_ HB hb;(try clear hb)))
 go_ret
 exact ⟨zt_,zl_ HB⟩
def Zx.T7 : Bool × List (List Nat × List Nat) := (true,[([],[]),([0],[0]),([1],[1]),([],[]),([3],[3]),([4],[4]),([5],[5]),([6],[6]),([7],[7]),([2,8],[2,8]),([9,2,0,1,2,3,4,5,6,7,8,9],[9])])
def Zx.B7 : List Nat := [0,1,3,0,8,24,56,120,248,511,1023]
theorem Zx.tab7 : rtab .any (opsOf Tryd.f61 7) = Zx.T7 := by kernel_rfl
theorem Zx.bits7 : waitsOk Zx.T7.2 Zx.B7 = true := by kernel_rfl
theorem Zx.calls (k : Nat) : ∀ (a0 : Int) (r : ByteArray) (w : World) (h : Zx.f k a0 = some r),
  Calls Tryd.prog 61 #[.int .i64 a0] w fun e w' => e = .returned (.string r) ∧ Below w.heap.size w w' := by
 induction k using Nat.strongRecOn with
 | _ k ih =>
 intro a0 r w h
 cases k with
 | zero => exact absurd h (by simp [Zx.f])
 | succ k =>
 simp only [Zx.f] at h
 have HB := am_ (Below.refl w.heap.size w)
 have H : (if a0 = (-9223372036854775808) then (some (⟨#[45,57,50,50,51,51,55,50,48,51,54,56,53,52,55,55,53,56,48,56]⟩ : ByteArray)) else (if a0 < 0 then ((Zx.f k (wrap64 (-a0))).bind fun t546 => (if 1 + t546.size ≤ 9223372036854775807 then (some ((⟨#[45]⟩ : ByteArray) ++ t546)) else (none))) else (if a0 < 10 then (some (strOfNums (([(wrap64 (48 + a0)) % 256] : List Int)))) else ((Zx.f k (wrap64 (Int.tdiv a0 10))).bind fun t550 => ((some (([(wrap64 (48 + (Int.tmod a0 10))) % 256] : List Int) : List Int)).bind fun y551 => (if t550.size + (strOfNums y551).size ≤ 9223372036854775807 then (some (t550 ++ (strOfNums y551))) else (none))))))) = some r := h
 clear h
 by_cases c2 : a0 = (-9223372036854775808)
 ·rw [if_pos c2] at H
  have c2b0 := beq_iff_eq.mpr c2
  have c2b1 := bne_eq_false_iff_eq.mpr c2
  clear c2
  obtain rfl := Option.some.inj H
  go_enter Tryd.func61,Tryd.ntmps61
  go_wp2
  go_ret
  exact ⟨zt_,zl_ HB⟩
 rw [if_neg c2] at H
 have c2b0 := beq_eq_false_iff_ne.mpr c2
 have c2b1 := bne_iff_ne.mpr c2
 by_cases c3 : a0 < 0
 ·rw [if_pos c3] at H
  have c3b0 := decide_eq_true c3
  clear c3
  replace H := Option.bind_eq_some_iff.mp H
  obtain ⟨t546,A40,H⟩ := H
  try dsimp only at H
  have A4 := am_ A40
  clear A40
  by_cases c5 : 1 + t546.size ≤ 9223372036854775807
  case neg =>
   rw [if_neg c5] at H
   exact absurd H (by simp)
  rw [if_pos c5] at H
  have c5b0 := eq_true c5
  have c5b1 := decide_eq_true c5
  try have c5b2 : (9223372036854775807 < 1 + t546.size) = False := eq_false (Nat.not_lt.2 c5)
  obtain rfl := Option.some.inj H
  go_enter Tryd.func61,Tryd.ntmps61
  go_wp2_with (first | ((with_reducible refine gate_callee (f := 61) rfl ?_);refine zgl (some 9) Tryd.func61 #[.int .i64 (wrap64 (-a0))] ?_;(with_reducible refine (ih k (by omega) (wrap64 (-a0)) t546 _ A4.out).mono ?_);rintro e w6 ⟨rfl,hb⟩;refine ⟨_,rfl,?_⟩;replace HB := zs_ HB hb;(try clear hb)))
  go_ret
  exact ⟨zt_,zl_ HB⟩
 rw [if_neg c3] at H
 have c3b0 := decide_eq_false c3
 clear c3
 by_cases c7 : a0 < 10
 ·rw [if_pos c7] at H
  have c7b0 := decide_eq_true c7
  clear c7
  obtain ⟨y547,hy547⟩ : ∃ y_ : List Int,y_ = (([(wrap64 (48 + a0)) % 256] : List Int)) := ⟨_,rfl⟩
  replace H : (some (strOfNums y547)) = some r := by first | (rw [hy547];with_reducible exact H) | (have H2_ := (Option.bind_some _ _).symm.trans H;rw [hy547];with_reducible exact H2_) | (have H2_ := (Option.bind_some _ _).symm.trans H;with_reducible exact H2_) | with_reducible exact H | (rw [hy547];exact H) | exact H
  have Ny547 := am_ hy547
  clear hy547
  obtain rfl := Option.some.inj H
  go_enter Tryd.func61,Tryd.ntmps61
  go_wp2_with (first | ((with_reducible refine gate_dst (N := 16) rfl ?_);refine Kd.R_lit (Kd.int .u8) _ 5 ?hg (N := 16) ?hd (xs := ([(wrap64 (48 + a0)) % 256] : List Int)) (inner := [.int .u8 ((wrap64 (48 + a0)) % 256)]) (ok := fun _ => True) (okp := fun _ => True) ?hr ?hp (fun _ hk => hk) trivial (Below.refl _ _) (Nat.le_refl _) (by simp) ?_;(case hd => rfl);(case hg => rfl);(case hr => first | (go_simp;done) | (go_simp;rfl));(case hp => exact (Reps.one (show Kd.M (Kd.int .u8) _ _ _ ((wrap64 (48 + a0)) % 256) [.int .u8 ((wrap64 (48 + a0)) % 256)] from rfl) (Reps.none _ _)));intro v548 w8 ho9 hb hg_ hnew_;clear hg_ hnew_;(first | rw [← Ny547.out] at ho9 | (simp only [Int.reduceToNat] at ho9;rw [← Ny547.out] at ho9));have HO549 := am_ (Kd.R_lower ho9 (below_size (zl_ HB)));replace HB := zs_ HB hb;clear hb ho9;have hcv10 := own_string (P := Tryd.prog) Tryd.underlying22 Tryd.underlying5 Tryd.underlying9 (Kd.own_of_R HO549.out)))
  go_ret
  exact ⟨zt_,zl_ HB⟩
 rw [if_neg c7] at H
 have c7b0 := decide_eq_false c7
 clear c7
 replace H := Option.bind_eq_some_iff.mp H
 obtain ⟨t550,A110,H⟩ := H
 try dsimp only at H
 have A11 := am_ A110
 clear A110
 obtain ⟨y551,hy551⟩ : ∃ y_ : List Int,y_ = (([(wrap64 (48 + (Int.tmod a0 10))) % 256] : List Int)) := ⟨_,rfl⟩
 replace H : (if t550.size + (strOfNums y551).size ≤ 9223372036854775807 then (some (t550 ++ (strOfNums y551))) else (none)) = some r := by first | (rw [hy551];with_reducible exact H) | (have H2_ := (Option.bind_some _ _).symm.trans H;rw [hy551];with_reducible exact H2_) | (have H2_ := (Option.bind_some _ _).symm.trans H;with_reducible exact H2_) | with_reducible exact H | (rw [hy551];exact H) | exact H
 have Ny551 := am_ hy551
 clear hy551
 by_cases c12 : t550.size + (strOfNums y551).size ≤ 9223372036854775807
 case neg =>
  rw [if_neg c12] at H
  exact absurd H (by simp)
 rw [if_pos c12] at H
 have c12b0 := eq_true c12
 have c12b1 := decide_eq_true c12
 try have c12b2 : (9223372036854775807 < t550.size + (strOfNums y551).size) = False := eq_false (Nat.not_lt.2 c12)
 obtain rfl := Option.some.inj H
 go_enter Tryd.func61,Tryd.ntmps61
 try go_wp2
 replace HB := am_ (below_drew1 HB.out)
 refine start_ (n := 11) (S := fun w' => True) (ds := []) #[false,false,false,false,false,false,false,false,false,false,false] (by kernel_rfl) rfl rfl trivial (fun hHeld => ?_);refine with_tabW Zx.tab7 Zx.bits7 (fun HT_ HW_ => ?_)
 generalize w.drew = w13 at HB hHeld ⊢
 refine pu_ 0 18 HT_ ?_
 refine pu_ 1 19 HT_ ?_
 refine pu_ 3 21 HT_ ?_
 refine pu_ 4 22 HT_ ?_
 refine pu_ 5 23 HT_ ?_
 refine pu_ 6 24 HT_ ?_
 refine join_ (σ := Value) 2 #[true,true,true,true,true,true,true,true,true,false,false] (fun s_ => [(20,.string t550),(25,s_),(26,.string (strOfNums y551))]) (fun s_ w' => (Kd.R (Kd.int .u8) 5 w' w.heap.size (fun _ => True) s_ y551) ∧ (Below w.heap.size w w')) ?_ ?_
 rotate_left
 ·intro hCont
  refine two_ (i := 2) (j := 7) (Ni := some 20) (Nj := some 25) #[true,true,true,true,true,true,true,false,false,false,false] #[true,true,false,true,true,true,true,true,false,false,false] rfl rfl rfl rfl (two_of HT_.out (by kernel_rfl)) (by decide) (by decide) (fun K hK => ?_) (fun K hK => ?_)
  ·skip
   refine zgo Tryd.func61 #[.int .i64 (wrap64 (Int.tdiv a0 10))] ?_
   with_reducible refine (ih k (by omega) (wrap64 (Int.tdiv a0 10)) t550 _ A11.out).mono ?_
   rintro e w14 ⟨rfl,hb⟩
   refine ⟨_,rfl,?_⟩
   replace HB := zs_ HB hb
   try clear hb
   refine hK.out _ _ trivial (fun hHeld => ?_)
   clear hK K
   refine nm_ ?_
   refine zon 7 (N := some 25) HT_ (fun K hK => ?_)
   refine Kd.R_lit_step (Kd.int .u8) _ 5 ?hg (N := 25) ?hd (xs := ([(wrap64 (48 + (Int.tmod a0 10))) % 256] : List Int)) (inner := [.int .u8 ((wrap64 (48 + (Int.tmod a0 10))) % 256)]) (ok := fun _ => True) (okp := fun _ => True) ?hr ?hp (fun _ hk => hk) trivial (Below.refl _ _) (Nat.le_refl _) (by simp) ?_;(case hd => rfl);(case hg => rfl);(case hr => first | (go_simp;done) | (go_simp;rfl));(case hp => exact (Reps.one (show Kd.M (Kd.int .u8) _ _ _ ((wrap64 (48 + (Int.tmod a0 10))) % 256) [.int .u8 ((wrap64 (48 + (Int.tmod a0 10))) % 256)] from rfl) (Reps.none _ _)))
   intro v552 w15 ho16 hb hg_ hnew_
   clear hg_ hnew_
   (first | rw [← Ny551.out] at ho16 | (simp only [Int.reduceToNat] at ho16;rw [← Ny551.out] at ho16))
   have HO553 := am_ (Kd.R_lower ho16 (below_size (zl_ HB)))
   replace HB := zs_ HB hb
   clear hb ho16
   refine hK.out _ _ trivial (fun hHeld => ?_)
   clear hK K
   refine nm_ ?_
   refine zon 8 (N := some 26) HT_ (fun K hK => ?_)
   have hcv17 := own_string (P := Tryd.prog) Tryd.underlying22 Tryd.underlying5 Tryd.underlying9 (Kd.own_of_R HO553.out)
   refine value_ (w1 := ?_) (v := ?_) (by rfl) rfl ?_ ?_
   rotate_left 2
   ·go_simp
    constructor
    ·rfl
    ·rfl
   clear hcv17
   refine hK.out _ _ trivial (fun hHeld => ?_)
   clear hK K
   refine nm_ ?_
   exact norm_ (by simp only [putAll,Act.put,p1_,p2_,p3_]) (hCont (v552) _ ⟨(zr HO553),(zl_ HB)⟩)
  ·skip
   refine Kd.R_lit_step (Kd.int .u8) _ 5 ?hg (N := 25) ?hd (xs := ([(wrap64 (48 + (Int.tmod a0 10))) % 256] : List Int)) (inner := [.int .u8 ((wrap64 (48 + (Int.tmod a0 10))) % 256)]) (ok := fun _ => True) (okp := fun _ => True) ?hr ?hp (fun _ hk => hk) trivial (Below.refl _ _) (Nat.le_refl _) (by simp) ?_;(case hd => rfl);(case hg => rfl);(case hr => first | (go_simp;done) | (go_simp;rfl));(case hp => exact (Reps.one (show Kd.M (Kd.int .u8) _ _ _ ((wrap64 (48 + (Int.tmod a0 10))) % 256) [.int .u8 ((wrap64 (48 + (Int.tmod a0 10))) % 256)] from rfl) (Reps.none _ _)))
   intro v552 w14 ho15 hb hg_ hnew_
   clear hg_ hnew_
   (first | rw [← Ny551.out] at ho15 | (simp only [Int.reduceToNat] at ho15;rw [← Ny551.out] at ho15))
   have HO553 := am_ (Kd.R_lower ho15 (below_size (zl_ HB)))
   replace HB := zs_ HB hb
   clear hb ho15
   refine hK.out _ _ trivial (fun hHeld => ?_)
   clear hK K
   refine nm_ ?_
   refine two_ (i := 2) (j := 8) (Ni := some 20) (Nj := some 26) #[true,true,true,true,true,true,true,true,false,false,false] #[true,true,false,true,true,true,true,true,true,false,false] rfl rfl rfl rfl (two_of HT_.out (by kernel_rfl)) (by decide) (by decide) (fun K hK => ?_) (fun K hK => ?_)
   ·skip
    refine zgo Tryd.func61 #[.int .i64 (wrap64 (Int.tdiv a0 10))] ?_
    with_reducible refine (ih k (by omega) (wrap64 (Int.tdiv a0 10)) t550 _ A11.out).mono ?_
    rintro e w16 ⟨rfl,hb⟩
    refine ⟨_,rfl,?_⟩
    replace HO553 := zrb HO553 hb
    replace HB := zs_ HB hb
    try clear hb
    refine hK.out _ _ trivial (fun hHeld => ?_)
    clear hK K
    refine nm_ ?_
    refine zon 8 (N := some 26) HT_ (fun K hK => ?_)
    have hcv17 := own_string (P := Tryd.prog) Tryd.underlying22 Tryd.underlying5 Tryd.underlying9 (Kd.own_of_R HO553.out)
    refine value_ (w1 := ?_) (v := ?_) (by rfl) rfl ?_ ?_
    rotate_left 2
    ·go_simp
     constructor
     ·rfl
     ·rfl
    clear hcv17
    refine hK.out _ _ trivial (fun hHeld => ?_)
    clear hK K
    refine nm_ ?_
    exact norm_ (by simp only [putAll,Act.put,p1_,p2_,p3_]) (hCont (v552) _ ⟨(zr HO553),(zl_ HB)⟩)
   ·skip
    have hcv16 := own_string (P := Tryd.prog) Tryd.underlying22 Tryd.underlying5 Tryd.underlying9 (Kd.own_of_R HO553.out)
    refine value_ (w1 := ?_) (v := ?_) (by rfl) rfl ?_ ?_
    rotate_left 2
    ·go_simp
     constructor
     ·rfl
     ·rfl
    clear hcv16
    refine hK.out _ _ trivial (fun hHeld => ?_)
    clear hK K
    refine nm_ ?_
    refine zon 2 (N := some 20) HT_ (fun K hK => ?_)
    refine zgo Tryd.func61 #[.int .i64 (wrap64 (Int.tdiv a0 10))] ?_
    with_reducible refine (ih k (by omega) (wrap64 (Int.tdiv a0 10)) t550 _ A11.out).mono ?_
    rintro e w17 ⟨rfl,hb⟩
    refine ⟨_,rfl,?_⟩
    replace HO553 := zrb HO553 hb
    replace HB := zs_ HB hb
    try clear hb
    refine hK.out _ _ trivial (fun hHeld => ?_)
    clear hK K
    refine nm_ ?_
    exact norm_ (by simp only [putAll,Act.put,p1_,p2_,p3_]) (hCont (v552) _ ⟨(zr HO553),(zl_ HB)⟩)
 rintro v552 w18 ⟨h0_,h1_⟩
 have n0_ : Aside0 (Kd.R (Kd.int .u8) 5 w18 w.heap.size (fun _ => True) v552 y551) := ⟨h0_⟩
 have n1_ : Aside0 (Below w.heap.size w w18) := ⟨h1_⟩
 clear HB
 clear h0_ h1_
 have HB := n1_
 clear n0_ n1_
 have hHeld := trivial
 refine norm_ (a' := ?_) ?_ ?_
 rotate_left
 ·simp only [putAll,Act.put,p1_,p2_,p3_]
  rfl
 refine pu_ 9 27 HT_ ?_
 refine pu_ 10 2 HT_ ?_
 refine done_ (done_of HT_.out (by kernel_rfl)) ?_
 try go_wp2
 go_ret
 exact ⟨zt_,zl_ HB⟩
def ZR.T1 : Bool × List (List Nat × List Nat) := (true,[([],[]),([0],[0]),([1],[1]),([2],[2]),([],[]),([4],[4]),([5],[5]),([3,6],[3,6]),([7],[7]),([],[]),([9],[9]),([10,6],[10]),([8,11],[8,11]),([12],[12]),([],[]),([14],[14]),([15,11],[15]),([13,16],[13,16]),([17,16,0,1,2,3,4,5,6,7,8,9,10,11,12,13,14,15,16,17],[17])])
def ZR.B1 : List Nat := [0,1,3,7,0,16,48,127,255,0,512,1648,4095,8191,0,16384,52848,131071,262143]
theorem ZR.tab1 : rtab .any (opsOf Tryd.f36 1) = ZR.T1 := by kernel_rfl
theorem ZR.bits1 : waitsOk ZR.T1.2 ZR.B1 = true := by kernel_rfl
theorem ZR.calls (k : Nat) (a0_0 : ByteArray) (a0_1 : Int) (a0_2 : Int) (a0_3 : Int) (r : ByteArray) (w : World) (h : ZR.f k a0_0 a0_1 a0_2 a0_3 = some r) :
  Calls Tryd.prog 36 #[.agg #[.string a0_0,.int .i64 a0_1,.int .i64 a0_2,.int .i64 a0_3]] w fun e w' => e = .returned (.string r) ∧ Below w.heap.size w w' := by
 have hu24 := Tryd.underlying24
 have HB := am_ (Below.refl w.heap.size w)
 have H : (if 6 + a0_0.size ≤ 9223372036854775807 then (if ((⟨#[103,114,97,110,116,32]⟩ : ByteArray) ++ a0_0).size + 1 ≤ 9223372036854775807 then ((Zx.f k a0_1).bind fun t555 => (if (((⟨#[103,114,97,110,116,32]⟩ : ByteArray) ++ a0_0) ++ (⟨#[32]⟩ : ByteArray)).size + t555.size ≤ 9223372036854775807 then (if ((((⟨#[103,114,97,110,116,32]⟩ : ByteArray) ++ a0_0) ++ (⟨#[32]⟩ : ByteArray)) ++ t555).size + 1 ≤ 9223372036854775807 then ((Zx.f k a0_2).bind fun t556 => (if (((((⟨#[103,114,97,110,116,32]⟩ : ByteArray) ++ a0_0) ++ (⟨#[32]⟩ : ByteArray)) ++ t555) ++ (⟨#[32]⟩ : ByteArray)).size + t556.size ≤ 9223372036854775807 then (if ((((((⟨#[103,114,97,110,116,32]⟩ : ByteArray) ++ a0_0) ++ (⟨#[32]⟩ : ByteArray)) ++ t555) ++ (⟨#[32]⟩ : ByteArray)) ++ t556).size + 1 ≤ 9223372036854775807 then ((Zx.f k a0_3).bind fun t557 => (if (((((((⟨#[103,114,97,110,116,32]⟩ : ByteArray) ++ a0_0) ++ (⟨#[32]⟩ : ByteArray)) ++ t555) ++ (⟨#[32]⟩ : ByteArray)) ++ t556) ++ (⟨#[32]⟩ : ByteArray)).size + t557.size ≤ 9223372036854775807 then (some ((((((((⟨#[103,114,97,110,116,32]⟩ : ByteArray) ++ a0_0) ++ (⟨#[32]⟩ : ByteArray)) ++ t555) ++ (⟨#[32]⟩ : ByteArray)) ++ t556) ++ (⟨#[32]⟩ : ByteArray)) ++ t557)) else (none))) else (none)) else (none))) else (none)) else (none))) else (none)) else (none)) = some r := h
 clear h
 by_cases c2 : 6 + a0_0.size ≤ 9223372036854775807
 case neg =>
  rw [if_neg c2] at H
  exact absurd H (by simp)
 rw [if_pos c2] at H
 have c2b0 := eq_true c2
 have c2b1 := decide_eq_true c2
 try have c2b2 : (9223372036854775807 < 6 + a0_0.size) = False := eq_false (Nat.not_lt.2 c2)
 by_cases c3 : ((⟨#[103,114,97,110,116,32]⟩ : ByteArray) ++ a0_0).size + 1 ≤ 9223372036854775807
 case neg =>
  rw [if_neg c3] at H
  exact absurd H (by simp)
 rw [if_pos c3] at H
 have c3b0 := eq_true c3
 have c3b1 := decide_eq_true c3
 try have c3b2 : (9223372036854775807 < ((⟨#[103,114,97,110,116,32]⟩ : ByteArray) ++ a0_0).size + 1) = False := eq_false (Nat.not_lt.2 c3)
 (try have c3b3 := c3b2;simp only [ByteArray.size_append,show (⟨#[103,114,97,110,116,32]⟩ : ByteArray).size = 6 from rfl] at c3b3)
 replace H := Option.bind_eq_some_iff.mp H
 obtain ⟨t555,A40,H⟩ := H
 try dsimp only at H
 have A4 := am_ A40
 clear A40
 by_cases c5 : (((⟨#[103,114,97,110,116,32]⟩ : ByteArray) ++ a0_0) ++ (⟨#[32]⟩ : ByteArray)).size + t555.size ≤ 9223372036854775807
 case neg =>
  rw [if_neg c5] at H
  exact absurd H (by simp)
 rw [if_pos c5] at H
 have c5b0 := eq_true c5
 have c5b1 := decide_eq_true c5
 try have c5b2 : (9223372036854775807 < (((⟨#[103,114,97,110,116,32]⟩ : ByteArray) ++ a0_0) ++ (⟨#[32]⟩ : ByteArray)).size + t555.size) = False := eq_false (Nat.not_lt.2 c5)
 (try have c5b3 := c5b2;simp only [ByteArray.size_append,show (⟨#[103,114,97,110,116,32]⟩ : ByteArray).size = 6 from rfl,show (⟨#[32]⟩ : ByteArray).size = 1 from rfl] at c5b3)
 by_cases c6 : ((((⟨#[103,114,97,110,116,32]⟩ : ByteArray) ++ a0_0) ++ (⟨#[32]⟩ : ByteArray)) ++ t555).size + 1 ≤ 9223372036854775807
 case neg =>
  rw [if_neg c6] at H
  exact absurd H (by simp)
 rw [if_pos c6] at H
 have c6b0 := eq_true c6
 have c6b1 := decide_eq_true c6
 try have c6b2 : (9223372036854775807 < ((((⟨#[103,114,97,110,116,32]⟩ : ByteArray) ++ a0_0) ++ (⟨#[32]⟩ : ByteArray)) ++ t555).size + 1) = False := eq_false (Nat.not_lt.2 c6)
 (try have c6b3 := c6b2;simp only [ByteArray.size_append,show (⟨#[103,114,97,110,116,32]⟩ : ByteArray).size = 6 from rfl,show (⟨#[32]⟩ : ByteArray).size = 1 from rfl] at c6b3)
 replace H := Option.bind_eq_some_iff.mp H
 obtain ⟨t556,A70,H⟩ := H
 try dsimp only at H
 have A7 := am_ A70
 clear A70
 by_cases c8 : (((((⟨#[103,114,97,110,116,32]⟩ : ByteArray) ++ a0_0) ++ (⟨#[32]⟩ : ByteArray)) ++ t555) ++ (⟨#[32]⟩ : ByteArray)).size + t556.size ≤ 9223372036854775807
 case neg =>
  rw [if_neg c8] at H
  exact absurd H (by simp)
 rw [if_pos c8] at H
 have c8b0 := eq_true c8
 have c8b1 := decide_eq_true c8
 try have c8b2 : (9223372036854775807 < (((((⟨#[103,114,97,110,116,32]⟩ : ByteArray) ++ a0_0) ++ (⟨#[32]⟩ : ByteArray)) ++ t555) ++ (⟨#[32]⟩ : ByteArray)).size + t556.size) = False := eq_false (Nat.not_lt.2 c8)
 (try have c8b3 := c8b2;simp only [ByteArray.size_append,show (⟨#[103,114,97,110,116,32]⟩ : ByteArray).size = 6 from rfl,show (⟨#[32]⟩ : ByteArray).size = 1 from rfl] at c8b3)
 by_cases c9 : ((((((⟨#[103,114,97,110,116,32]⟩ : ByteArray) ++ a0_0) ++ (⟨#[32]⟩ : ByteArray)) ++ t555) ++ (⟨#[32]⟩ : ByteArray)) ++ t556).size + 1 ≤ 9223372036854775807
 case neg =>
  rw [if_neg c9] at H
  exact absurd H (by simp)
 rw [if_pos c9] at H
 have c9b0 := eq_true c9
 have c9b1 := decide_eq_true c9
 try have c9b2 : (9223372036854775807 < ((((((⟨#[103,114,97,110,116,32]⟩ : ByteArray) ++ a0_0) ++ (⟨#[32]⟩ : ByteArray)) ++ t555) ++ (⟨#[32]⟩ : ByteArray)) ++ t556).size + 1) = False := eq_false (Nat.not_lt.2 c9)
 (try have c9b3 := c9b2;simp only [ByteArray.size_append,show (⟨#[103,114,97,110,116,32]⟩ : ByteArray).size = 6 from rfl,show (⟨#[32]⟩ : ByteArray).size = 1 from rfl] at c9b3)
 replace H := Option.bind_eq_some_iff.mp H
 obtain ⟨t557,A100,H⟩ := H
 try dsimp only at H
 have A10 := am_ A100
 clear A100
 by_cases c11 : (((((((⟨#[103,114,97,110,116,32]⟩ : ByteArray) ++ a0_0) ++ (⟨#[32]⟩ : ByteArray)) ++ t555) ++ (⟨#[32]⟩ : ByteArray)) ++ t556) ++ (⟨#[32]⟩ : ByteArray)).size + t557.size ≤ 9223372036854775807
 case neg =>
  rw [if_neg c11] at H
  exact absurd H (by simp)
 rw [if_pos c11] at H
 have c11b0 := eq_true c11
 have c11b1 := decide_eq_true c11
 try have c11b2 : (9223372036854775807 < (((((((⟨#[103,114,97,110,116,32]⟩ : ByteArray) ++ a0_0) ++ (⟨#[32]⟩ : ByteArray)) ++ t555) ++ (⟨#[32]⟩ : ByteArray)) ++ t556) ++ (⟨#[32]⟩ : ByteArray)).size + t557.size) = False := eq_false (Nat.not_lt.2 c11)
 (try have c11b3 := c11b2;simp only [ByteArray.size_append,show (⟨#[103,114,97,110,116,32]⟩ : ByteArray).size = 6 from rfl,show (⟨#[32]⟩ : ByteArray).size = 1 from rfl] at c11b3)
 obtain rfl := Option.some.inj H
 go_enter Tryd.func36,Tryd.ntmps36
 try go_wp2_with (first | ((with_reducible refine gate_dst (N := 1) rfl ?_);refine zbx (N := 1) (cs := #[.string a0_0,.int .i64 a0_1,.int .i64 a0_2,.int .i64 a0_3]) (t := 24) ?_;intro gb554 hg w12 hbox hb;have BK554 := am_ (hbox);have GW554 := zw_ HB hg;have GE554 := zw_ HB hg;replace HB := zs_ HB hb;clear hb hbox hg))
 replace BK554 := am_ (blk_drew BK554.out)
 replace HB := am_ (below_drew1 HB.out)
 refine start_ (n := 19) (S := fun w' => w'.cell? ⟨gb554,0,none⟩ = some (.string a0_0) ∧ w'.cell? ⟨gb554,1,none⟩ = some (.int .i64 a0_1) ∧ w'.cell? ⟨gb554,2,none⟩ = some (.int .i64 a0_2) ∧ w'.cell? ⟨gb554,3,none⟩ = some (.int .i64 a0_3)) (ds := []) #[false,false,false,false,false,false,false,false,false,false,false,false,false,false,false,false,false,false,false] (by kernel_rfl) rfl rfl ⟨(blk_cell BK554.out 0).trans rfl,(blk_cell BK554.out 1).trans rfl,(blk_cell BK554.out 2).trans rfl,(blk_cell BK554.out 3).trans rfl⟩ (fun hHeld => ?_);refine with_tabW ZR.tab1 ZR.bits1 (fun HT_ HW_ => ?_)
 generalize w12.drew = w13 at BK554 HB hHeld ⊢
 refine pu_ 0 3 HT_ ?_
 refine pu_ 4 7 HT_ ?_
 refine pu_ 9 12 HT_ ?_
 refine pu_ 14 17 HT_ ?_
 refine tk_ 1 4 HT_ HW_ hHeld ?_
 refine pu_ 2 5 HT_ ?_
 refine pu_ 3 6 HT_ ?_
 refine tk_ 5 8 HT_ HW_ hHeld ?_
 refine tk_ 10 13 HT_ HW_ hHeld ?_
 refine tk_ 15 18 HT_ HW_ hHeld ?_
 refine zon 6 (N := some 9) HT_ (fun K hK => ?_)
 refine zgo Tryd.func61 #[.int .i64 a0_1] ?_
 with_reducible refine (Zx.calls k a0_1 t555 _ A4.out).mono ?_
 rintro e w14 ⟨rfl,hb⟩
 refine ⟨_,rfl,?_⟩
 replace BK554 := zb BK554 hb
 replace HB := zs_ HB hb
 try clear hb
 refine hK.out _ _ ⟨(blk_cell BK554.out 0).trans rfl,(blk_cell BK554.out 1).trans rfl,(blk_cell BK554.out 2).trans rfl,(blk_cell BK554.out 3).trans rfl⟩ (fun hHeld => ?_)
 clear hK K
 refine nm_ ?_
 refine pu_ 7 10 HT_ ?_
 refine pu_ 8 11 HT_ ?_
 refine zon 11 (N := some 14) HT_ (fun K hK => ?_)
 refine zgo Tryd.func61 #[.int .i64 a0_2] ?_
 with_reducible refine (Zx.calls k a0_2 t556 _ A7.out).mono ?_
 rintro e w15 ⟨rfl,hb⟩
 refine ⟨_,rfl,?_⟩
 replace BK554 := zb BK554 hb
 replace HB := zs_ HB hb
 try clear hb
 refine hK.out _ _ ⟨(blk_cell BK554.out 0).trans rfl,(blk_cell BK554.out 1).trans rfl,(blk_cell BK554.out 2).trans rfl,(blk_cell BK554.out 3).trans rfl⟩ (fun hHeld => ?_)
 clear hK K
 refine nm_ ?_
 refine pu_ 12 15 HT_ ?_
 refine pu_ 13 16 HT_ ?_
 refine zon 16 (N := some 19) HT_ (fun K hK => ?_)
 refine zgo Tryd.func61 #[.int .i64 a0_3] ?_
 with_reducible refine (Zx.calls k a0_3 t557 _ A10.out).mono ?_
 rintro e w16 ⟨rfl,hb⟩
 refine ⟨_,rfl,?_⟩
 replace BK554 := zb BK554 hb
 replace HB := zs_ HB hb
 try clear hb
 refine hK.out _ _ ⟨(blk_cell BK554.out 0).trans rfl,(blk_cell BK554.out 1).trans rfl,(blk_cell BK554.out 2).trans rfl,(blk_cell BK554.out 3).trans rfl⟩ (fun hHeld => ?_)
 clear hK K
 refine nm_ ?_
 refine pu_ 17 20 HT_ ?_
 refine pu_ 18 2 HT_ ?_
 refine done_ (done_of HT_.out (by kernel_rfl)) ?_
 try go_wp2
 go_ret
 exact ⟨zt_,zl_ HB⟩
def Zf.T10 : Bool × List (List Nat × List Nat) := (true,[([],[]),([0],[0]),([],[]),([1,2],[1,2]),([3],[3]),([4],[4]),([5,5],[5]),([6,6],[6]),([],[]),([8],[8]),([9,7],[9]),([],[]),([11],[11]),([],[]),([12,13],[12,13]),([14],[14]),([7,10,15,10],[7,10,15]),([16,16,0,1,2,3,4,5,6,7,8,9,10,11,12,13,14,15,16],[16])])
def Zf.B10 : List Nat := [0,1,0,7,15,31,63,127,0,256,1023,0,2048,0,14336,30720,65535,131071]
theorem Zf.tab10 : rtab .any (opsOf Tryd.f13 10) = Zf.T10 := by kernel_rfl
theorem Zf.bits10 : waitsOk Zf.T10.2 Zf.B10 = true := by kernel_rfl
theorem Zf.calls (k : Nat) (a0 : Int) (a1_0 : ByteArray) (a1_1 : Int) (a1_2 : Int) (a1_3 : Int) (A1_4 : Option Addr) (c1_4 : Nat) (l1_4 : List Int) (A1_5 : Option Addr) (c1_5 : Nat) (l1_5 : List (S37)) (r : Int) (w : World) (hr1_4 : Kd.C (Kd.int .i64) w A1_4 l1_4.length l1_4) (hc1_4 : l1_4.length ≤ c1_4) (hr1_5 : Kd.C k37 w A1_5 l1_5.length l1_5) (hc1_5 : l1_5.length ≤ c1_5) (h : Zf.f k a0 a1_0 a1_1 a1_2 a1_3 l1_4 l1_5 = some r) :
  Calls Tryd.prog 13 #[.int .i64 a0,.agg #[.string a1_0,.int .i64 a1_1,.int .i64 a1_2,.int .i64 a1_3,.slice A1_4 l1_4.length c1_4,.slice A1_5 l1_5.length c1_5]] w fun e w' => e = .returned (.int .i64 r) ∧ Below w.heap.size w w' := by
 have hu31 := Tryd.underlying31
 have hu24 := Tryd.underlying24
 have hu37 := Tryd.underlying37
 have HR1_4 := am_ hr1_4
 have HC1_4 := am_ hc1_4
 clear hr1_4 hc1_4
 have HR1_5 := am_ hr1_5
 have HC1_5 := am_ hc1_5
 clear hr1_5 hc1_5
 have HB := am_ (Below.refl w.heap.size w)
 have H : ((Yb.f k a1_0 a1_1 a1_2 a1_3).bind fun t559 => (if t559 = true then ((Yr.f a0).bind fun t560 => (if t560 = true then ((ZC.f k a0 l1_4).bind fun t561 => (if t561 = true then (Zf.j0 k ((l1_5.length : Int) != (l1_4.length : Int)) a1_0 a1_1 a1_2 a1_3 l1_4 l1_5) else (Zf.j0 k true a1_0 a1_1 a1_2 a1_3 l1_4 l1_5))) else (some 4))) else (some 1))) = some r := h
 clear h
 replace H := Option.bind_eq_some_iff.mp H
 obtain ⟨t559,A30,H⟩ := H
 try dsimp only at H
 have A3 := am_ A30
 clear A30
 by_cases c4 : t559 = true
 case neg =>
  replace c4 := Bool.eq_false_iff.mpr c4
  subst c4
  rw [if_neg (show ¬ (false = true) by decide)] at H
  obtain rfl := Option.some.inj H
  go_enter Tryd.func13,Tryd.ntmps13
  go_wp2_with (first | ((with_reducible refine gate_dst (N := 3) rfl ?_);(try (refine gate_guard (by rfl) ?_;dsimp only));refine zbx (N := 3) (cs := #[.string a1_0,.int .i64 a1_1,.int .i64 a1_2,.int .i64 a1_3,.slice A1_4 l1_4.length c1_4,.slice A1_5 l1_5.length c1_5]) (t := 31) ?_;intro gb558 hg w45 hbox hb;have BK558 := am_ (hbox);have GW558 := zw_ HB hg;have GE558 := zw_ HB hg;replace HB := zs_ HB hb;clear hb hbox hg;obtain ⟨hcz46_0,hcz46_1,hcz46_2,hcz46_3,hcz46_4,hcz46_5,hfz46_0,hfz46_1,hfz46_2,hfz46_3,hfz46_4,hfz46_5⟩ := zc6 BK558) | ((with_reducible refine gate_callee (f := 31) rfl ?_);refine zgl (some 9) Tryd.func31 #[.agg #[.string a1_0,.int .i64 a1_1,.int .i64 a1_2,.int .i64 a1_3]] ?_;(with_reducible refine (Yb.calls k a1_0 a1_1 a1_2 a1_3 false _ A3.out).mono ?_);rintro e w47 ⟨rfl,hb⟩;refine ⟨_,rfl,?_⟩;replace HB := zs_ HB hb;(try clear hb)))
  go_ret
  exact ⟨zt_,zl_ HB⟩
 subst c4
 rw [if_pos rfl] at H
 replace H := Option.bind_eq_some_iff.mp H
 obtain ⟨t560,A50,H⟩ := H
 try dsimp only at H
 have A5 := am_ A50
 clear A50
 by_cases c6 : t560 = true
 case neg =>
  replace c6 := Bool.eq_false_iff.mpr c6
  subst c6
  rw [if_neg (show ¬ (false = true) by decide)] at H
  obtain rfl := Option.some.inj H
  go_enter Tryd.func13,Tryd.ntmps13
  go_wp2_with (first | ((with_reducible refine gate_dst (N := 3) rfl ?_);(try (refine gate_guard (by rfl) ?_;dsimp only));refine zbx (N := 3) (cs := #[.string a1_0,.int .i64 a1_1,.int .i64 a1_2,.int .i64 a1_3,.slice A1_4 l1_4.length c1_4,.slice A1_5 l1_5.length c1_5]) (t := 31) ?_;intro gb558 hg w42 hbox hb;have BK558 := am_ (hbox);have GW558 := zw_ HB hg;have GE558 := zw_ HB hg;replace HB := zs_ HB hb;clear hb hbox hg;obtain ⟨hcz43_0,hcz43_1,hcz43_2,hcz43_3,hcz43_4,hcz43_5,hfz43_0,hfz43_1,hfz43_2,hfz43_3,hfz43_4,hfz43_5⟩ := zc6 BK558) | ((with_reducible refine gate_callee (f := 31) rfl ?_);refine zgl (some 9) Tryd.func31 #[.agg #[.string a1_0,.int .i64 a1_1,.int .i64 a1_2,.int .i64 a1_3]] ?_;(with_reducible refine (Yb.calls k a1_0 a1_1 a1_2 a1_3 true _ A3.out).mono ?_);rintro e w44 ⟨rfl,hb⟩;refine ⟨_,rfl,?_⟩;replace HB := zs_ HB hb;(try clear hb);(try clear hi)) | ((with_reducible refine gate_callee (f := 32) rfl ?_);refine zgl (some 12) Tryd.func32 #[.int .i64 a0] ?_;(with_reducible refine (Yr.calls a0 false _ A5.out).mono ?_);rintro e w' ⟨rfl,⟨nd,rfl⟩⟩;refine ⟨_,rfl,?_⟩))
  go_ret
  exact ⟨zt_,zl_ HB⟩
 subst c6
 rw [if_pos rfl] at H
 have HC7 := am_ H
 clear H
 go_enter Tryd.func13,Tryd.ntmps13
 go_upto_region 5 with (first | ((with_reducible refine gate_dst (N := 3) rfl ?_);(try (refine gate_guard (by rfl) ?_;dsimp only));refine zbx (N := 3) (cs := #[.string a1_0,.int .i64 a1_1,.int .i64 a1_2,.int .i64 a1_3,.slice A1_4 l1_4.length c1_4,.slice A1_5 l1_5.length c1_5]) (t := 31) ?_;intro gb558 hg w8 hbox hb;have BK558 := am_ (hbox);have GW558 := zw_ HB hg;have GE558 := zw_ HB hg;replace HB := zs_ HB hb;clear hb hbox hg;obtain ⟨hcz9_0,hcz9_1,hcz9_2,hcz9_3,hcz9_4,hcz9_5,hfz9_0,hfz9_1,hfz9_2,hfz9_3,hfz9_4,hfz9_5⟩ := zc6 BK558) | ((with_reducible refine gate_callee (f := 31) rfl ?_);refine zgl (some 9) Tryd.func31 #[.agg #[.string a1_0,.int .i64 a1_1,.int .i64 a1_2,.int .i64 a1_3]] ?_;(with_reducible refine (Yb.calls k a1_0 a1_1 a1_2 a1_3 true _ A3.out).mono ?_);rintro e w10 ⟨rfl,hb⟩;refine ⟨_,rfl,?_⟩;replace BK558 := zb BK558 hb;replace HB := zs_ HB hb;(try clear hb);(try clear hi)) | ((with_reducible refine gate_callee (f := 32) rfl ?_);refine zgl (some 12) Tryd.func32 #[.int .i64 a0] ?_;(with_reducible refine (Yr.calls a0 true _ A5.out).mono ?_);rintro e w' ⟨rfl,⟨nd,rfl⟩⟩;refine ⟨_,rfl,?_⟩))
 (try simp only [Act.put,p1_,p2_,p3_])
 go_cut [27] (fun v27 wc => ∃ (kq : Nat) (x27_6 : Bool),v27 = .bool x27_6 ∧ Aside0 (Zf.j0 kq x27_6 a1_0 a1_1 a1_2 a1_3 l1_4 l1_5 = some r) ∧ Aside0 (kq ≤ k) ∧ Aside0 (wc.heap[gb558]? = some (.cells #[.string a1_0,.int .i64 a1_1,.int .i64 a1_2,.int .i64 a1_3,(.slice A1_4 l1_4.length c1_4),(.slice A1_5 l1_5.length c1_5)] 31 (0,0))) ∧ Aside0 (Below w.heap.size w wc))
 case first =>
  have H := HC7.out
  clear HC7
  replace H := Option.bind_eq_some_iff.mp H
  obtain ⟨t561,A110,H⟩ := H
  try dsimp only at H
  have A11 := am_ A110
  clear A110
  by_cases c12 : t561 = true
  ·subst c12
   rw [if_pos rfl] at H
   have H' := am_ H
   clear H
   obtain ⟨hcz13_0,hcz13_1,hcz13_2,hcz13_3,hcz13_4,hcz13_5,hfz13_0,hfz13_1,hfz13_2,hfz13_3,hfz13_4,hfz13_5⟩ := zc6 BK558
   go_wp2_with (first | ((with_reducible refine gate_callee (f := 33) rfl ?_);refine zgl (some 17) Tryd.func33 #[.int .i64 a0,.slice A1_4 l1_4.length c1_4] ?_;(with_reducible refine (ZC.calls k a0 _ _ l1_4 true _ ?side1 ?side2 A11.out).mono ?_);(case side1 => exact zc_ HR1_4 HB);(case side2 => exact HC1_4.out);rintro e w' ⟨rfl,⟨nd,rfl⟩⟩;refine ⟨_,rfl,?_⟩))
   go_meet
   case rel => exact ⟨_,(((l1_5.length : Int) != (l1_4.length : Int))),(by first | rfl | (simp;done) | (simp [*];done)),H',⟨by first | omega | exact Nat.le_refl _⟩,⟨by (with_reducible repeat (first | apply k1_ | apply k2_ | apply k3_));exact BK558.out⟩,⟨zl_ HB⟩⟩
  replace c12 := Bool.eq_false_iff.mpr c12
  subst c12
  rw [if_neg (show ¬ (false = true) by decide)] at H
  have H' := am_ H
  clear H
  obtain ⟨hcz14_0,hcz14_1,hcz14_2,hcz14_3,hcz14_4,hcz14_5,hfz14_0,hfz14_1,hfz14_2,hfz14_3,hfz14_4,hfz14_5⟩ := zc6 BK558
  go_wp2_with (first | ((with_reducible refine gate_callee (f := 33) rfl ?_);refine zgl (some 17) Tryd.func33 #[.int .i64 a0,.slice A1_4 l1_4.length c1_4] ?_;(with_reducible refine (ZC.calls k a0 _ _ l1_4 false _ ?side1 ?side2 A11.out).mono ?_);(case side1 => exact zc_ HR1_4 HB);(case side2 => exact HC1_4.out);rintro e w' ⟨rfl,⟨nd,rfl⟩⟩;refine ⟨_,rfl,?_⟩))
  go_meet
  case rel => exact ⟨_,(true),(by first | rfl | (simp;done) | (simp [*];done)),H',⟨by first | omega | exact Nat.le_refl _⟩,⟨by (with_reducible repeat (first | apply k1_ | apply k2_ | apply k3_));exact BK558.out⟩,⟨zl_ HB⟩⟩
 case rest =>
  clear HC7
  try clear c1
  try clear p2
  try clear c3
  try clear c4
  try clear c6
  try clear c12
  try clear c13
  try clear hcz13_0
  try clear hcz13_1
  try clear hcz13_2
  try clear hcz13_3
  try clear hcz13_4
  try clear hcz13_5
  try clear hcz14_0
  try clear hcz14_1
  try clear hcz14_2
  try clear hcz14_3
  try clear hcz14_4
  try clear hcz14_5
  try clear hcz9_0
  try clear hcz9_1
  try clear hcz9_2
  try clear hcz9_3
  try clear hcz9_4
  try clear hcz9_5
  try clear hfz13_0
  try clear hfz13_1
  try clear hfz13_2
  try clear hfz13_3
  try clear hfz13_4
  try clear hfz13_5
  try clear hfz14_0
  try clear hfz14_1
  try clear hfz14_2
  try clear hfz14_3
  try clear hfz14_4
  try clear hfz14_5
  try clear hfz9_0
  try clear hfz9_1
  try clear hfz9_2
  try clear hfz9_3
  try clear hfz9_4
  try clear hfz9_5
  obtain ⟨kq,x27_6,rfl,HA,HJ6,BK558,HB⟩ := hcut
  cases kq with
  | zero => exact absurd HA.out (by simp [Zf.j0])
  | succ kj6 =>
   have H := HA.out
   clear HA
   simp only [Zf.j0] at H
   by_cases c15 : x27_6 = true
   ·subst c15
    rw [if_pos rfl] at H
    obtain rfl := Option.some.inj H
    go_wp2
    go_ret
    exact ⟨zt_,zl_ HB⟩
   replace c15 := Bool.eq_false_iff.mpr c15
   subst c15
   rw [if_neg (show ¬ (false = true) by decide)] at H
   have H' := am_ H
   clear H
   go_wp2
   go_loopg [5] kj6 (fun kq v5 w' => ∃ (x5_2 : Int),v5 = .int .i64 x5_2 ∧ Aside0 (Zf.l0 kq x5_2 a1_0 a1_1 a1_2 a1_3 l1_4 l1_5 = some r) ∧ Aside0 (kq ≤ kj6) ∧ Aside0 (w'.heap[gb558]? = some (.cells #[.string a1_0,.int .i64 a1_1,.int .i64 a1_2,.int .i64 a1_3,(.slice A1_4 l1_4.length c1_4),(.slice A1_5 l1_5.length c1_5)] 31 (0,0))) ∧ Aside0 (Below w.heap.size w w'))
   case atStart => exact ⟨(0),(by first | rfl | (simp;done) | (simp [*];done)),H',⟨Nat.le_refl _⟩,⟨by (with_reducible repeat (first | apply k1_ | apply k2_ | apply k3_));exact BK558.out⟩,⟨zl_ HB⟩⟩
   case round =>
    clear H'
    try clear c1
    try clear p2
    try clear c3
    try clear c4
    try clear c6
    try clear c12
    try clear c13
    try clear c15
    try clear hcz13_0
    try clear hcz13_1
    try clear hcz13_2
    try clear hcz13_3
    try clear hcz13_4
    try clear hcz13_5
    try clear hcz14_0
    try clear hcz14_1
    try clear hcz14_2
    try clear hcz14_3
    try clear hcz14_4
    try clear hcz14_5
    try clear hcz9_0
    try clear hcz9_1
    try clear hcz9_2
    try clear hcz9_3
    try clear hcz9_4
    try clear hcz9_5
    try clear hfz13_0
    try clear hfz13_1
    try clear hfz13_2
    try clear hfz13_3
    try clear hfz13_4
    try clear hfz13_5
    try clear hfz14_0
    try clear hfz14_1
    try clear hfz14_2
    try clear hfz14_3
    try clear hfz14_4
    try clear hfz14_5
    try clear hfz9_0
    try clear hfz9_1
    try clear hfz9_2
    try clear hfz9_3
    try clear hfz9_4
    try clear hfz9_5
    try clear p2
    obtain ⟨x5_2,rfl,HA,HK2,BK558,HB⟩ := hrel
    cases gk with
    | zero => exact absurd HA.out (by simp [Zf.l0])
    | succ k2 =>
     have H := HA.out
     clear HA
     simp only [Zf.l0] at H
     by_cases c16 : x5_2 < (l1_4.length : Int)
     case neg =>
      rw [if_neg c16] at H
      have c16b0 := decide_eq_false c16
      clear c16
      obtain rfl := Option.some.inj H
      obtain ⟨hcz41_0,hcz41_1,hcz41_2,hcz41_3,hcz41_4,hcz41_5,hfz41_0,hfz41_1,hfz41_2,hfz41_3,hfz41_4,hfz41_5⟩ := zc6 BK558
      go_wp2
      go_ret
      exact ⟨zt_,zl_ HB⟩
     rw [if_pos c16] at H
     have c16b0 := decide_eq_true c16
     clear c16
     by_cases c17 : 0 ≤ x5_2
     case neg =>
      rw [if_neg c17] at H
      exact absurd H (by simp)
     rw [if_pos c17] at H
     have c17b0 := decide_eq_true c17
     clear c17
     replace H := Option.bind_eq_some_iff.mp H
     obtain ⟨t563,A180,H⟩ := H
     try dsimp only at H
     have A18 := am_ A180
     clear A180
     replace H := Option.bind_eq_some_iff.mp H
     obtain ⟨t564,A190,H⟩ := H
     try dsimp only at H
     have A19 := am_ A190
     clear A190
     replace H := Option.bind_eq_some_iff.mp H
     obtain ⟨t567,A200,H⟩ := H
     try dsimp only at H
     have A20 := am_ A200
     clear A200
     replace H := Option.bind_eq_some_iff.mp H
     obtain ⟨t568,A210,H⟩ := H
     try dsimp only at H
     have A21 := am_ A210
     clear A210
     by_cases c22 : x5_2 < (l1_5.length : Int)
     case neg =>
      rw [if_neg c22] at H
      exact absurd H (by simp)
     rw [if_pos c22] at H
     have c22b0 := decide_eq_true c22
     clear c22
     replace H := Option.bind_eq_some_iff.mp H
     obtain ⟨t570,A230,H⟩ := H
     try dsimp only at H
     have A23 := am_ A230
     clear A230
     obtain ⟨hcz25_0,hcz25_1,hcz25_2,hcz25_3,hcz25_4,hcz25_5,hfz25_0,hfz25_1,hfz25_2,hfz25_3,hfz25_4,hfz25_5⟩ := zc6 BK558
     try go_wp2
     replace BK558 := am_ (blk_drew BK558.out)
     replace HB := am_ (below_drew1 HB.out)
     have p562 : 0 ≤ (x5_2 : Int) := zo_
     have q562 : x5_2 < (l1_4.length : Int) := zo_
     obtain ⟨ad562,e562,hx562_0⟩ := Kd.at_int HR1_4.out x5_2 p562 q562
     have hw562_0 := hx562_0
     cases e562
     replace hx562_0 := zx_ HB hx562_0
     replace p562 := eq_true p562
     replace q562 := eq_true q562
     have p569 : 0 ≤ (x5_2 : Int) := zo_
     have q569 : x5_2 < (l1_5.length : Int) := zo_
     obtain ⟨ad569,A569_1,c569_1,A569_2,c569_2,A569_3,c569_3,e569,hx569_0,hx569_1,hx569_2,hx569_3,hl569_1,hi569_1,hl569_2,hi569_2,hl569_3,hi569_3⟩ := at_T37 HR1_5.out x5_2 p569 q569
     have hw569_3 := hx569_3
     have hw569_2 := hx569_2
     have hw569_1 := hx569_1
     have hw569_0 := hx569_0
     have hv569_1 := hx569_1
     have hv569_2 := hx569_2
     have hv569_3 := hx569_3
     cases e569
     replace hx569_0 := zx_ HB hx569_0
     replace hx569_1 := zx_ HB hx569_1
     replace hx569_2 := zx_ HB hx569_2
     replace hx569_3 := zx_ HB hx569_3
     have HR569_1 := am_ hi569_1
     have HC569_1 := am_ hl569_1
     clear hi569_1 hl569_1
     have HR569_2 := am_ hi569_2
     have HC569_2 := am_ hl569_2
     clear hi569_2 hl569_2
     have HR569_3 := am_ hi569_3
     have HC569_3 := am_ hl569_3
     clear hi569_3 hl569_3
     replace p569 := eq_true p569
     replace q569 := eq_true q569
     refine start_ (n := 18) (S := fun w' => w'.cell? ⟨gb558,0,none⟩ = some (.string a1_0) ∧ w'.cell? ⟨gb558,1,none⟩ = some (.int .i64 a1_1) ∧ w'.cell? ⟨gb558,2,none⟩ = some (.int .i64 a1_2) ∧ w'.cell? ⟨gb558,3,none⟩ = some (.int .i64 a1_3) ∧ w'.cell? ⟨gb558,4,none⟩ = some (.slice (some ad562) l1_4.length c1_4) ∧ w'.cell? ⟨gb558,5,none⟩ = some (.slice (some ad569) l1_5.length c1_5) ∧ w'.cell? (ad562.add (x5_2).toNat) = some (.int .i64 (rd l1_4 x5_2)) ∧ w'.cell? (ad569.add ((x5_2).toNat * 4)) = some (.int .i64 ((rd_T37 l1_5 x5_2).f0)) ∧ w'.cell? ⟨(ad569.add ((x5_2).toNat * 4)).block,(ad569.add ((x5_2).toNat * 4)).off + 1,none⟩ = some (.slice A569_1 ((rd_T37 l1_5 x5_2).f1).length c569_1) ∧ w'.cell? ⟨(ad569.add ((x5_2).toNat * 4)).block,(ad569.add ((x5_2).toNat * 4)).off + 2,none⟩ = some (.slice A569_2 ((rd_T37 l1_5 x5_2).f2).length c569_2) ∧ w'.cell? ⟨(ad569.add ((x5_2).toNat * 4)).block,(ad569.add ((x5_2).toNat * 4)).off + 3,none⟩ = some (.slice A569_3 ((rd_T37 l1_5 x5_2).f3).length c569_3)) (ds := []) #[false,false,false,false,false,false,false,false,false,false,false,false,false,false,false,false,false,false] (by kernel_rfl) rfl rfl ⟨(blk_cell BK558.out 0).trans rfl,(blk_cell BK558.out 1).trans rfl,(blk_cell BK558.out 2).trans rfl,(blk_cell BK558.out 3).trans rfl,(blk_cell BK558.out 4).trans rfl,(blk_cell BK558.out 5).trans rfl,(zx_ HB hw562_0),(zx_ HB hw569_0),(zx_ HB hw569_1),(zx_ HB hw569_2),(zx_ HB hw569_3)⟩ (fun hHeld => ?_);refine with_tabW Zf.tab10 Zf.bits10 (fun HT_ HW_ => ?_)
     generalize wr.drew = w26 at BK558 HB HR569_1 HR569_2 HR569_3 hx562_0 hx569_0 hx569_1 hx569_2 hx569_3 hHeld ⊢
     refine pu_ 0 35 HT_ ?_
     refine pu_ 2 37 HT_ ?_
     refine pu_ 8 43 HT_ ?_
     refine pu_ 11 46 HT_ ?_
     refine pu_ 13 48 HT_ ?_
     refine tk_ 1 36 HT_ HW_ hHeld ?_
     refine pu_ 3 38 HT_ ?_
     refine tk_ 4 39 HT_ HW_ hHeld ?_
     refine tk_ 9 44 HT_ HW_ hHeld ?_
     refine tk_ 12 47 HT_ HW_ hHeld ?_
     refine pu_ 14 49 HT_ ?_
     refine tk_ 15 50 HT_ HW_ hHeld ?_
     refine zon 5 (N := some 40) HT_ (fun K hK => ?_)
     refine zgo Tryd.func35 #[.int .i64 (rd l1_4 x5_2)] ?_
     with_reducible refine (Yi.calls k2 (rd l1_4 x5_2) t563 _ A18.out).mono ?_
     rintro e w27 ⟨rfl,hb⟩
     refine ⟨_,rfl,?_⟩
     replace BK558 := zb BK558 hb
     replace HB := zs_ HB hb
     try clear hb
     refine hK.out _ _ ⟨(blk_cell BK558.out 0).trans rfl,(blk_cell BK558.out 1).trans rfl,(blk_cell BK558.out 2).trans rfl,(blk_cell BK558.out 3).trans rfl,(blk_cell BK558.out 4).trans rfl,(blk_cell BK558.out 5).trans rfl,(zx_ HB hw562_0),(zx_ HB hw569_0),(zx_ HB hw569_1),(zx_ HB hw569_2),(zx_ HB hw569_3)⟩ (fun hHeld => ?_)
     clear hK K
     refine nm_ ?_
     refine zon 6 (N := some 41) HT_ (fun K hK => ?_)
     refine zgo Tryd.func29 #[.string t563] ?_
     with_reducible refine (Zz.calls k2 t563 t564 _ A19.out).mono ?_
     rintro e w28 ⟨v565,rfl,ho0,hb⟩
     refine ⟨_,rfl,?_⟩
     have HO566 := am_ (Kd.R_lower ho0 (below_size (zl_ HB)))
     replace BK558 := zb BK558 hb
     replace HB := zs_ HB hb
     try clear hb
     (try clear ho0)
     obtain ⟨Ao29,co29,eo29⟩ := Kd.R_slice HO566.out
     (first | subst eo29 | (injection eo29 with f1_ f2_ f3_;have f4_ := f1_.symm;have f5_ := f3_.symm;clear f1_ f2_ f3_;subst f4_;subst f5_))
     refine hK.out _ _ ⟨(blk_cell BK558.out 0).trans rfl,(blk_cell BK558.out 1).trans rfl,(blk_cell BK558.out 2).trans rfl,(blk_cell BK558.out 3).trans rfl,(blk_cell BK558.out 4).trans rfl,(blk_cell BK558.out 5).trans rfl,(zx_ HB hw562_0),(zx_ HB hw569_0),(zx_ HB hw569_1),(zx_ HB hw569_2),(zx_ HB hw569_3)⟩ (fun hHeld => ?_)
     clear hK K
     refine nm_ ?_
     refine zon 7 (N := some 42) HT_ (fun K hK => ?_)
     refine zgo Tryd.func28 #[.slice Ao29 t564.length co29] ?_
     with_reducible refine (ZB.calls k2 (fun k_ => some k_ = (.slice Ao29 t564.length co29 : Value).ownBlock) _ _ t564 t567 _ ?side1 A20.out).mono ?_
     (case side1 => exact Kd.R_V (Kd.R_tight rfl (Kd.R_types (HO566.out) BK558.out (by decide))))
     rintro e w30 ⟨rfl,hb⟩
     refine ⟨_,rfl,?_⟩
     replace HO566 := zrb HO566 hb
     replace BK558 := zb BK558 hb
     replace HB := zs_ HB hb
     try clear hb
     refine hK.out _ _ ⟨(blk_cell BK558.out 0).trans rfl,(blk_cell BK558.out 1).trans rfl,(blk_cell BK558.out 2).trans rfl,(blk_cell BK558.out 3).trans rfl,(blk_cell BK558.out 4).trans rfl,(blk_cell BK558.out 5).trans rfl,(zx_ HB hw562_0),(zx_ HB hw569_0),(zx_ HB hw569_1),(zx_ HB hw569_2),(zx_ HB hw569_3)⟩ (fun hHeld => ?_)
     clear hK K
     refine nm_ ?_
     refine zon 10 (N := some 45) HT_ (fun K hK => ?_)
     refine zgo Tryd.func36 #[.agg #[.string a1_0,.int .i64 a1_1,.int .i64 a1_2,.int .i64 a1_3]] ?_
     with_reducible refine (ZR.calls k2 a1_0 a1_1 a1_2 a1_3 t568 _ A21.out).mono ?_
     rintro e w31 ⟨rfl,hb⟩
     refine ⟨_,rfl,?_⟩
     replace HO566 := zrb HO566 hb
     replace BK558 := zb BK558 hb
     replace HB := zs_ HB hb
     try clear hb
     refine hK.out _ _ ⟨(blk_cell BK558.out 0).trans rfl,(blk_cell BK558.out 1).trans rfl,(blk_cell BK558.out 2).trans rfl,(blk_cell BK558.out 3).trans rfl,(blk_cell BK558.out 4).trans rfl,(blk_cell BK558.out 5).trans rfl,(zx_ HB hw562_0),(zx_ HB hw569_0),(zx_ HB hw569_1),(zx_ HB hw569_2),(zx_ HB hw569_3)⟩ (fun hHeld => ?_)
     clear hK K
     refine nm_ ?_
     refine zon 16 (N := some 51) HT_ (fun K hK => ?_)
     refine zgo Tryd.func34 #[.string t567,.string t568,.agg #[.int .i64 ((rd_T37 l1_5 x5_2).f0),.slice A569_1 ((rd_T37 l1_5 x5_2).f1).length c569_1,.slice A569_2 ((rd_T37 l1_5 x5_2).f2).length c569_2,.slice A569_3 ((rd_T37 l1_5 x5_2).f3).length c569_3]] ?_
     with_reducible refine (Za.calls k2 t567 t568 ((rd_T37 l1_5 x5_2).f0) _ _ ((rd_T37 l1_5 x5_2).f1) _ _ ((rd_T37 l1_5 x5_2).f2) _ _ ((rd_T37 l1_5 x5_2).f3) t570 _ ?side1 ?side2 ?side3 ?side4 ?side5 ?side6 A23.out).mono ?_
     (case side1 => exact zc_ HR569_1 HB)
     (case side2 => exact HC569_1.out)
     (case side3 => exact zc_ HR569_2 HB)
     (case side4 => exact HC569_2.out)
     (case side5 => exact zc_ HR569_3 HB)
     (case side6 => exact HC569_3.out)
     rintro e w32 ⟨rfl,hb⟩
     refine ⟨_,rfl,?_⟩
     replace HO566 := zrb HO566 hb
     replace BK558 := zb BK558 hb
     replace HB := zs_ HB hb
     try clear hb
     refine hK.out _ _ ⟨(blk_cell BK558.out 0).trans rfl,(blk_cell BK558.out 1).trans rfl,(blk_cell BK558.out 2).trans rfl,(blk_cell BK558.out 3).trans rfl,(blk_cell BK558.out 4).trans rfl,(blk_cell BK558.out 5).trans rfl,(zx_ HB hw562_0),(zx_ HB hw569_0),(zx_ HB hw569_1),(zx_ HB hw569_2),(zx_ HB hw569_3)⟩ (fun hHeld => ?_)
     clear hK K
     refine nm_ ?_
     by_cases c24 : t570 = 0
     case neg =>
      rw [if_neg c24] at H
      have c24b0 := beq_eq_false_iff_ne.mpr c24
      have c24b1 := bne_iff_ne.mpr c24
      obtain rfl := Option.some.inj H
      refine pu_ 17 6 HT_ ?_
      refine done_ (done_of HT_.out (by kernel_rfl)) ?_
      try go_wp2
      go_ret
      exact ⟨zt_,zl_ HB⟩
     rw [if_pos c24] at H
     have c24b0 := beq_iff_eq.mpr c24
     have c24b1 := bne_eq_false_iff_eq.mpr c24
     clear c24
     have H' := am_ H
     clear H
     refine pu_ 17 6 HT_ ?_
     refine done_ (done_of HT_.out (by kernel_rfl)) ?_
     try go_wp2
     go_roundg k2
     case measure => have := HJ6.out;have := HK2.out;omega
     case rel => exact ⟨(wrap64 (x5_2 + 1)),(by first | rfl | (simp;done) | (simp [*];done)),H',⟨by have := HJ6.out;have := HK2.out;omega⟩,⟨by (with_reducible repeat (first | apply k1_ | apply k2_ | apply k3_));exact BK558.out⟩,⟨zl_ HB⟩⟩
theorem Yw.calls (A0 : Option Addr) (c0 : Nat) (l0 : List Int) (r1 : List Int) (r2 : Int) (r3 : Int) (w0 w : World) (hB : Below w0.heap.size w0 w) (hr0 : Kd.C (Kd.int .u8) w0 A0 l0.length l0) (hc0 : l0.length ≤ c0) (h : Yw.f l0 = some (r1,r2,r3)) :
  Calls Tryd.prog 14 #[.slice A0 l0.length c0] w fun e w' => ∃ g_ : Nat,e = .returned (.pointer (some ⟨g_,0,none⟩)) ∧ IsS63 w0 w' g_ r1 r2 r3 ∧ Below w0.heap.size w0 w' ∧ Below w.heap.size w w' := by
 have hu63 := Tryd.underlying63
 have HR0 := am_ hr0
 have HC0 := am_ hc0
 clear hr0 hc0
 have HBW := am_ (Below.refl w.heap.size w)
 have HW0 := am_ hB.size
 have HB := am_ hB
 clear hB
 have H : (some (l0,0,(l0.length : Int) % 1000)) = some (r1,r2,r3) := h
 clear h
 simp only [Option.some.injEq,Prod.mk.injEq] at H
 obtain ⟨rfl,rfl,rfl⟩ := H
 go_enter Tryd.func14,Tryd.ntmps14
 go_wp2_with (first | ((with_reducible refine gate_dst (N := 8) rfl ?_);refine zbx (N := 8) (cs := #[.slice A0 l0.length c0,.int .i64 0,.int .i64 ((l0.length : Int) % 1000)]) (t := 63) ?_;intro gb101 hg w2 hbox hb;replace HB := zs_ HB hb;have BK101 := am_ (hbox);have GW101 := am_ ((by rw [hg];exact (below_size (by repeat (first | (with_reducible first | exact HBW.out | apply b1_ | apply b2_ | apply b3_) | exact HBW.out))) : w.heap.size ≤ gb101));have GE101 := am_ ((Nat.le_trans HW0.out (by rw [hg];exact (below_size (by repeat (first | (with_reducible first | exact HBW.out | apply b1_ | apply b2_ | apply b3_) | exact HBW.out))) : w.heap.size ≤ gb101) : w0.heap.size ≤ gb101));replace HBW := am_ (below_step HBW.out hb);clear hb hbox hg))
 go_ret
 exact ⟨_,rfl,(show IsS63 w0 _ gb101 l0 0 ((l0.length : Int) % 1000) from ⟨_,_,by (with_reducible repeat (first | apply k1_ | apply k2_ | apply k3_));exact BK101.out,GE101.out,HR0.out⟩),zl_ HB,by repeat (first | (with_reducible first | exact HBW.out | apply b1_ | apply b2_ | apply b3_ | refine below_set ?_ GW101.out) | exact HBW.out)⟩
def Zv.T2 : Bool × List (List Nat × List Nat) := (true,[([],[]),([0],[0]),([1],[1]),([2],[2]),([],[]),([4],[4]),([5],[5]),([6],[6]),([7],[7]),([3,8],[3,8])])
def Zv.B2 : List Nat := [0,1,3,7,0,16,48,112,240,511]
theorem Zv.tab2 : rtab .any (opsOf Tryd.f62 2) = Zv.T2 := by kernel_rfl
theorem Zv.bits2 : waitsOk Zv.T2.2 Zv.B2 = true := by kernel_rfl
def Zv.T3 : Bool × List (List Nat × List Nat) := (true,[([],[]),([],[]),([1],[1]),([2],[2]),([3],[3]),([4],[4]),([],[]),([6],[6]),([7],[7]),([8],[8]),([],[]),([10],[10]),([11],[11]),([12],[12]),([13],[13]),([9,14],[9,14]),([15],[15]),([16],[16]),([5,17],[5,17]),([18],[18]),([19],[19]),([0,0,1,2,3,4,5,6,7,8,9,10,11,12,13,14,15,16,17,18,19,20],[0]),([21,0,1,2,3,4,5,6,7,8,9,10,11,12,13,14,15,16,17,18,19,20],[21]),([22,20,0,1,2,3,4,5,6,7,8,9,10,11,12,13,14,15,16,17,18,19,20],[20,22])])
def Zv.B3 : List Nat := [0,0,2,6,14,30,0,64,192,448,0,1024,3072,7168,15360,32704,65472,131008,262142,524286,1048574,2097151,4194303,8388607]
theorem Zv.tab3 : rtab .any (opsOf Tryd.f62 3) = Zv.T3 := by kernel_rfl
theorem Zv.bits3 : waitsOk Zv.T3.2 Zv.B3 = true := by kernel_rfl
def Zv.T4 : Bool × List (List Nat × List Nat) := (true,[([],[]),([0],[0]),([1],[1]),([2],[2]),([],[]),([4],[4]),([5],[5]),([6],[6]),([7],[7]),([3,8],[3,8]),([9],[9]),([10],[10]),([11,0,1,2,3,4,5,6,7,8,9,10,11],[11])])
def Zv.B4 : List Nat := [0,1,3,7,0,16,48,112,240,511,1023,2047,4095]
theorem Zv.tab4 : rtab .any (opsOf Tryd.f62 4) = Zv.T4 := by kernel_rfl
theorem Zv.bits4 : waitsOk Zv.T4.2 Zv.B4 = true := by kernel_rfl
theorem Zv.calls (g : Nat) (s0_0 : List Int) (s0_1 : Int) (s0_2 : Int) (r1 : Int) (r2 : Int) (r3 : Int) (w0 w : World) (hI : IsS63 w0 w g s0_0 s0_1 s0_2) (hB : Below w0.heap.size w0 w) (h : Zv.f s0_0 s0_1 s0_2 = some (r1,r2,r3)) :
  Calls Tryd.prog 62 #[.pointer (some ⟨g,0,none⟩)] w fun e w' => e = .returned (.int .i64 r1) ∧ IsS63 w0 w' g s0_0 r2 r3 ∧ Below w0.heap.size w0 w' ∧ KeepBut w w' g none := by
 have HI0 := am_ hI
 have HK := am_ (KeepBut.refl w g none)
 have HL := am_ hB.size
 clear hI
 have HW0 := am_ hB.size
 have HB := am_ hB
 clear hB
 have H : (if (wrap64 (s0_1 + 1)) ≤ (s0_0.length : Int) then (if 0 ≤ (wrap64 ((wrap64 (s0_1 + 1)) - 1)) then (if (wrap64 ((wrap64 (s0_1 + 1)) - 1)) < (s0_0.length : Int) then (some (wrap64 (rd s0_0 (wrap64 ((wrap64 (s0_1 + 1)) - 1))),wrap64 (s0_1 + 1),Int.tmod (wrap64 ((wrap64 ((wrap64 (s0_2 * 31)) + (wrap64 (rd s0_0 (wrap64 ((wrap64 (s0_1 + 1)) - 1)))))) + 7)) 2147483648)) else (none)) else (none)) else (if (wrap64 (s0_1 + 1)) > 3000 then (some (0,wrap64 (s0_1 + 1),s0_2)) else (some (Int.tmod (wrap64 (Int.tdiv (Int.tmod (wrap64 ((wrap64 (s0_2 * 1103515245)) + 12345)) 2147483648) 65536)) 256,wrap64 (s0_1 + 1),Int.tmod (wrap64 ((wrap64 (s0_2 * 1103515245)) + 12345)) 2147483648)))) = some (r1,r2,r3) := h
 clear h
 by_cases c2 : (wrap64 (s0_1 + 1)) ≤ (s0_0.length : Int)
 case neg =>
  rw [if_neg c2] at H
  have c2b0 := decide_eq_false c2
  clear c2
  by_cases c16 : (wrap64 (s0_1 + 1)) > 3000
  ·rw [if_pos c16] at H
   have c16b0 : decide (3000 < (wrap64 (s0_1 + 1))) = true := decide_eq_true c16
   clear c16
   simp only [Option.some.injEq,Prod.mk.injEq] at H
   obtain ⟨rfl,rfl,rfl⟩ := H
   obtain ⟨ASz17_0,cSz17_0,HGz17,hgz17,HSz17_0⟩ := HI0.out
   have hcz17_0 := cellS63_0 HGz17
   have hcz17_1 := cellS63_1 HGz17
   have hcz17_2 := cellS63_2 HGz17
   have hfz17_1 := blk_frozen HGz17 1
   have hfz17_2 := blk_frozen HGz17 2
   clear HGz17 hgz17
   go_enter Tryd.func62,Tryd.ntmps62
   try go_wp2
   have n0_ : Aside0 (IsS63 w0 (w.setCell ⟨g,1,none⟩ (.int .i64 (wrap64 (s0_1 + 1)))) g s0_0 (wrap64 (s0_1 + 1)) s0_2) := ⟨(zi63 HI0)⟩
   have n1_ : Aside0 (KeepBut w (w.setCell ⟨g,1,none⟩ (.int .i64 (wrap64 (s0_1 + 1)))) g none) := ⟨zh_ HK⟩
   have n2_ : Aside0 (Below w0.heap.size w0 (w.setCell ⟨g,1,none⟩ (.int .i64 (wrap64 (s0_1 + 1))))) := ⟨zl_ HB⟩
   (try clear HI0)
   (try clear HK)
   (try clear HB)
   generalize (w.setCell ⟨g,1,none⟩ (.int .i64 (wrap64 (s0_1 + 1)))) = w18 at n0_ n1_ n2_ ⊢
   have HI0 := n0_
   have HK := n1_
   have HB := n2_
   clear n0_ n1_ n2_
   replace HI0 := am_ (IsS63.drew HI0.out)
   replace HK := am_ (keep_drew HK.out)
   replace HB := am_ (below_drew1 HB.out)
   obtain ⟨ASz20_0,cSz20_0,HGz20,hgz20,HSz20_0⟩ := HI0.out
   have hcz20_0 := cellS63_0 HGz20
   have hcz20_1 := cellS63_1 HGz20
   have hcz20_2 := cellS63_2 HGz20
   have hfz20_1 := blk_frozen HGz20 1
   have hfz20_2 := blk_frozen HGz20 2
   clear HGz20 hgz20
   refine start_ (n := 10) (S := fun w' => w'.cell? ⟨g,0,none⟩ = some (.slice ASz20_0 s0_0.length cSz20_0) ∧ w'.cell? ⟨g,1,none⟩ = some (.int .i64 (wrap64 (s0_1 + 1))) ∧ w'.cell? ⟨g,2,none⟩ = some (.int .i64 s0_2)) (ds := []) #[false,false,false,false,false,false,false,false,false,false] (by kernel_rfl) rfl rfl ⟨hcz20_0,hcz20_1,hcz20_2⟩ (fun hHeld => ?_);refine with_tabW Zv.tab2 Zv.bits2 (fun HT_ HW_ => ?_)
   generalize w18.drew = w19 at HI0 HK HB hHeld ⊢
   refine pu_ 0 10 HT_ ?_
   refine pu_ 1 11 HT_ ?_
   refine pu_ 2 12 HT_ ?_
   refine pu_ 4 14 HT_ ?_
   refine pu_ 5 15 HT_ ?_
   refine pu_ 6 16 HT_ ?_
   refine tk_ 3 13 HT_ HW_ hHeld ?_
   refine tk_ 7 17 HT_ HW_ hHeld ?_
   refine pu_ 8 18 HT_ ?_
   refine pu_ 9 19 HT_ ?_
   refine done_ (done_of HT_.out (by kernel_rfl)) ?_
   obtain ⟨ASz21_0,cSz21_0,HGz21,hgz21,HSz21_0⟩ := HI0.out
   have hcz21_0 := cellS63_0 HGz21
   have hcz21_1 := cellS63_1 HGz21
   have hcz21_2 := cellS63_2 HGz21
   have hfz21_1 := blk_frozen HGz21 1
   have hfz21_2 := blk_frozen HGz21 2
   clear HGz21 hgz21
   try go_wp2
   go_ret
   exact ⟨zt_,(zi63 HI0),zl_ HB,zh_ HK⟩
  rw [if_neg c16] at H
  have c16b0 : decide (3000 < (wrap64 (s0_1 + 1))) = false := decide_eq_false c16
  clear c16
  simp only [Option.some.injEq,Prod.mk.injEq] at H
  obtain ⟨rfl,rfl,rfl⟩ := H
  obtain ⟨ASz22_0,cSz22_0,HGz22,hgz22,HSz22_0⟩ := HI0.out
  have hcz22_0 := cellS63_0 HGz22
  have hcz22_1 := cellS63_1 HGz22
  have hcz22_2 := cellS63_2 HGz22
  have hfz22_1 := blk_frozen HGz22 1
  have hfz22_2 := blk_frozen HGz22 2
  clear HGz22 hgz22
  go_enter Tryd.func62,Tryd.ntmps62
  try go_wp2
  have n0_ : Aside0 (IsS63 w0 (w.setCell ⟨g,1,none⟩ (.int .i64 (wrap64 (s0_1 + 1)))) g s0_0 (wrap64 (s0_1 + 1)) s0_2) := ⟨(zi63 HI0)⟩
  have n1_ : Aside0 (KeepBut w (w.setCell ⟨g,1,none⟩ (.int .i64 (wrap64 (s0_1 + 1)))) g none) := ⟨zh_ HK⟩
  have n2_ : Aside0 (Below w0.heap.size w0 (w.setCell ⟨g,1,none⟩ (.int .i64 (wrap64 (s0_1 + 1))))) := ⟨zl_ HB⟩
  (try clear HI0)
  (try clear HK)
  (try clear HB)
  generalize (w.setCell ⟨g,1,none⟩ (.int .i64 (wrap64 (s0_1 + 1)))) = w23 at n0_ n1_ n2_ ⊢
  have HI0 := n0_
  have HK := n1_
  have HB := n2_
  clear n0_ n1_ n2_
  replace HI0 := am_ (IsS63.drew HI0.out)
  replace HK := am_ (keep_drew HK.out)
  replace HB := am_ (below_drew1 HB.out)
  obtain ⟨ASz25_0,cSz25_0,HGz25,hgz25,HSz25_0⟩ := HI0.out
  have hcz25_0 := cellS63_0 HGz25
  have hcz25_1 := cellS63_1 HGz25
  have hcz25_2 := cellS63_2 HGz25
  have hfz25_1 := blk_frozen HGz25 1
  have hfz25_2 := blk_frozen HGz25 2
  clear HGz25 hgz25
  refine start_ (n := 10) (S := fun w' => w'.cell? ⟨g,0,none⟩ = some (.slice ASz25_0 s0_0.length cSz25_0) ∧ w'.cell? ⟨g,1,none⟩ = some (.int .i64 (wrap64 (s0_1 + 1))) ∧ w'.cell? ⟨g,2,none⟩ = some (.int .i64 s0_2)) (ds := []) #[false,false,false,false,false,false,false,false,false,false] (by kernel_rfl) rfl rfl ⟨hcz25_0,hcz25_1,hcz25_2⟩ (fun hHeld => ?_);refine with_tabW Zv.tab2 Zv.bits2 (fun HT_ HW_ => ?_)
  generalize w23.drew = w24 at HI0 HK HB hHeld ⊢
  refine pu_ 0 10 HT_ ?_
  refine pu_ 1 11 HT_ ?_
  refine pu_ 2 12 HT_ ?_
  refine pu_ 4 14 HT_ ?_
  refine pu_ 5 15 HT_ ?_
  refine pu_ 6 16 HT_ ?_
  refine tk_ 3 13 HT_ HW_ hHeld ?_
  refine tk_ 7 17 HT_ HW_ hHeld ?_
  refine pu_ 8 18 HT_ ?_
  refine pu_ 9 19 HT_ ?_
  refine done_ (done_of HT_.out (by kernel_rfl)) ?_
  obtain ⟨ASz26_0,cSz26_0,HGz26,hgz26,HSz26_0⟩ := HI0.out
  have hcz26_0 := cellS63_0 HGz26
  have hcz26_1 := cellS63_1 HGz26
  have hcz26_2 := cellS63_2 HGz26
  have hfz26_1 := blk_frozen HGz26 1
  have hfz26_2 := blk_frozen HGz26 2
  clear HGz26 hgz26
  try go_wp2
  go_ret
  exact ⟨zt_,(zi63 HI0),zl_ HB,zh_ HK⟩
 rw [if_pos c2] at H
 have c2b0 := decide_eq_true c2
 clear c2
 obtain ⟨ji3,hji3⟩ : ∃ j_ : Int,(wrap64 ((wrap64 (s0_1 + 1)) - 1)) = j_ := ⟨_,rfl⟩
 replace H : (if 0 ≤ (ji3) then (if (ji3) < (s0_0.length : Int) then (some (wrap64 (rd s0_0 (ji3)),wrap64 (s0_1 + 1),Int.tmod (wrap64 ((wrap64 ((wrap64 (s0_2 * 31)) + (wrap64 (rd s0_0 (ji3))))) + 7)) 2147483648)) else (none)) else (none)) = some (r1,r2,r3) := by first | (rw [hji3] at H;exact H) | (simp only [hji3] at H ⊢;exact H)
 have hji3w : (IntKind.i64.wrap ((wrap64 (s0_1 + 1)) - 1)) = ji3 := (i64_w _).trans hji3
 by_cases c4 : 0 ≤ (ji3)
 case neg =>
  rw [if_neg c4] at H
  exact absurd H (by simp)
 rw [if_pos c4] at H
 have c4b0 := decide_eq_true c4
 clear c4
 by_cases c5 : (ji3) < (s0_0.length : Int)
 case neg =>
  rw [if_neg c5] at H
  exact absurd H (by simp)
 rw [if_pos c5] at H
 have c5b0 := decide_eq_true c5
 clear c5
 simp only [Option.some.injEq,Prod.mk.injEq] at H
 obtain ⟨rfl,rfl,rfl⟩ := H
 obtain ⟨ASz6_0,cSz6_0,HGz6,hgz6,HSz6_0⟩ := HI0.out
 have hcz6_0 := cellS63_0 HGz6
 have hcz6_1 := cellS63_1 HGz6
 have hcz6_2 := cellS63_2 HGz6
 have hfz6_1 := blk_frozen HGz6 1
 have hfz6_2 := blk_frozen HGz6 2
 clear HGz6 hgz6
 go_enter Tryd.func62,Tryd.ntmps62
 try go_wp2
 have n0_ : Aside0 (IsS63 w0 (w.setCell ⟨g,1,none⟩ (.int .i64 (wrap64 (s0_1 + 1)))) g s0_0 (wrap64 (s0_1 + 1)) s0_2) := ⟨(zi63 HI0)⟩
 have n1_ : Aside0 (KeepBut w (w.setCell ⟨g,1,none⟩ (.int .i64 (wrap64 (s0_1 + 1)))) g none) := ⟨zh_ HK⟩
 have n2_ : Aside0 (Below w0.heap.size w0 (w.setCell ⟨g,1,none⟩ (.int .i64 (wrap64 (s0_1 + 1))))) := ⟨zl_ HB⟩
 (try clear HI0)
 (try clear HK)
 (try clear HB)
 generalize (w.setCell ⟨g,1,none⟩ (.int .i64 (wrap64 (s0_1 + 1)))) = w7 at n0_ n1_ n2_ ⊢
 have HI0 := n0_
 have HK := n1_
 have HB := n2_
 clear n0_ n1_ n2_
 replace HI0 := am_ (IsS63.drew HI0.out)
 replace HK := am_ (keep_drew HK.out)
 replace HB := am_ (below_drew1 HB.out)
 obtain ⟨ASz9_0,cSz9_0,HGz9,hgz9,HSz9_0⟩ := HI0.out
 have hcz9_0 := cellS63_0 HGz9
 have hcz9_1 := cellS63_1 HGz9
 have hcz9_2 := cellS63_2 HGz9
 have hfz9_1 := blk_frozen HGz9 1
 have hfz9_2 := blk_frozen HGz9 2
 clear HGz9 hgz9
 refine start_ (n := 10) (S := fun w' => w'.cell? ⟨g,0,none⟩ = some (.slice ASz9_0 s0_0.length cSz9_0) ∧ w'.cell? ⟨g,1,none⟩ = some (.int .i64 (wrap64 (s0_1 + 1))) ∧ w'.cell? ⟨g,2,none⟩ = some (.int .i64 s0_2)) (ds := []) #[false,false,false,false,false,false,false,false,false,false] (by kernel_rfl) rfl rfl ⟨hcz9_0,hcz9_1,hcz9_2⟩ (fun hHeld => ?_);refine with_tabW Zv.tab2 Zv.bits2 (fun HT_ HW_ => ?_)
 generalize w7.drew = w8 at HI0 HK HB hHeld ⊢
 refine pu_ 0 10 HT_ ?_
 refine pu_ 1 11 HT_ ?_
 refine pu_ 2 12 HT_ ?_
 refine pu_ 4 14 HT_ ?_
 refine pu_ 5 15 HT_ ?_
 refine pu_ 6 16 HT_ ?_
 refine tk_ 3 13 HT_ HW_ hHeld ?_
 refine tk_ 7 17 HT_ HW_ hHeld ?_
 refine pu_ 8 18 HT_ ?_
 refine pu_ 9 19 HT_ ?_
 refine done_ (done_of HT_.out (by kernel_rfl)) ?_
 try go_wp2
 replace HI0 := am_ (IsS63.drew HI0.out)
 replace HK := am_ (keep_drew HK.out)
 replace HB := am_ (below_drew1 HB.out)
 obtain ⟨ASz11_0,cSz11_0,HGz11,hgz11,HSz11_0⟩ := HI0.out
 have hcz11_0 := cellS63_0 HGz11
 have hcz11_1 := cellS63_1 HGz11
 have hcz11_2 := cellS63_2 HGz11
 have hfz11_1 := blk_frozen HGz11 1
 have hfz11_2 := blk_frozen HGz11 2
 clear HGz11 hgz11
 have p102 : 0 ≤ ((ji3) : Int) := zo_
 have q102 : (ji3) < (s0_0.length : Int) := zo_
 obtain ⟨ad102,e102,hx102_0⟩ := Kd.at_int HSz11_0 (ji3) p102 q102
 have hw102_0 := hx102_0
 cases e102
 replace hx102_0 := pw_cell_below HB.out hx102_0
 replace p102 := eq_true p102
 replace q102 := eq_true q102
 refine start_ (n := 24) (S := fun w' => w'.cell? ⟨g,0,none⟩ = some (.slice (some ad102) s0_0.length cSz11_0) ∧ w'.cell? ⟨g,1,none⟩ = some (.int .i64 (wrap64 (s0_1 + 1))) ∧ w'.cell? ⟨g,2,none⟩ = some (.int .i64 s0_2) ∧ w'.cell? (ad102.add ((ji3)).toNat) = some (.int .u8 (rd s0_0 (ji3)))) (ds := [23]) #[false,false,false,false,false,false,false,false,false,false,false,false,false,false,false,false,false,false,false,false,false,false,false,false] (by kernel_rfl) rfl rfl ⟨hcz11_0,hcz11_1,hcz11_2,((HB.out.cell (World.block_lt_of_cell? w0 _ hw102_0)).trans hw102_0)⟩ (fun hHeld => ?_);refine with_tabW Zv.tab3 Zv.bits3 (fun HT_ HW_ => ?_)
 generalize w8.drew = w10 at HI0 HK HB hx102_0 hHeld ⊢
 refine pu_ 0 20 HT_ ?_
 refine pu_ 1 21 HT_ ?_
 refine pu_ 2 22 HT_ ?_
 refine pu_ 3 23 HT_ ?_
 refine pu_ 6 26 HT_ ?_
 refine pu_ 7 27 HT_ ?_
 refine pu_ 8 28 HT_ ?_
 refine pu_ 10 30 HT_ ?_
 refine pu_ 11 31 HT_ ?_
 refine pu_ 12 32 HT_ ?_
 refine tk_ 4 24 HT_ HW_ hHeld ?_
 refine pu_ 5 25 HT_ ?_
 refine tk_ 9 29 HT_ HW_ hHeld ?_
 refine tk_ 13 33 HT_ HW_ hHeld ?_
 refine pu_ 14 34 HT_ ?_
 refine pu_ 15 35 HT_ ?_
 refine tk_ 16 36 HT_ HW_ hHeld ?_
 refine pu_ 17 37 HT_ ?_
 refine pu_ 18 38 HT_ ?_
 refine pu_ 19 39 HT_ ?_
 refine pu_ 20 40 HT_ ?_
 refine pu_ 21 41 HT_ ?_
 refine pu_ 22 42 HT_ ?_
 refine last_ (i := 23) (N := none) #[true,true,true,true,true,true,true,true,true,true,true,true,true,true,true,true,true,true,true,true,true,true,true,true] rfl rfl (one_of HT_.out (by kernel_rfl)) (by decide) (fun K hK => ?_)
 obtain ⟨Ars12_0,crs12_0,HGrs12,hgrs12,HSrs12_0⟩ := HI0.out
 have hfrs12 := blk_frozen HGrs12 2
 refine skip_ (w1 := ?_) (by rfl) rfl ?_ ?_
 rotate_left
 ·go_simp
  rfl
 refine hK.out _ _ ?_
 clear hK K
 refine done_ (done_of HT_.out (by kernel_rfl)) ?_
 try go_wp2
 have n0_ : Aside0 (IsS63 w0 (w10.setCell ⟨g,2,none⟩ (.int .i64 (Int.tmod (wrap64 ((wrap64 ((wrap64 (s0_2 * 31)) + (wrap64 (rd s0_0 (ji3))))) + 7)) 2147483648))) g s0_0 (wrap64 (s0_1 + 1)) (Int.tmod (wrap64 ((wrap64 ((wrap64 (s0_2 * 31)) + (wrap64 (rd s0_0 (ji3))))) + 7)) 2147483648)) := ⟨(zi63 HI0)⟩
 have n1_ : Aside0 (KeepBut w (w10.setCell ⟨g,2,none⟩ (.int .i64 (Int.tmod (wrap64 ((wrap64 ((wrap64 (s0_2 * 31)) + (wrap64 (rd s0_0 (ji3))))) + 7)) 2147483648))) g none) := ⟨zh_ HK⟩
 have n2_ : Aside0 (Below w0.heap.size w0 (w10.setCell ⟨g,2,none⟩ (.int .i64 (Int.tmod (wrap64 ((wrap64 ((wrap64 (s0_2 * 31)) + (wrap64 (rd s0_0 (ji3))))) + 7)) 2147483648)))) := ⟨zl_ HB⟩
 (try clear HI0)
 (try clear HK)
 (try clear HB)
 generalize (w10.setCell ⟨g,2,none⟩ (.int .i64 (Int.tmod (wrap64 ((wrap64 ((wrap64 (s0_2 * 31)) + (wrap64 (rd s0_0 (ji3))))) + 7)) 2147483648))) = w13 at n0_ n1_ n2_ ⊢
 have HI0 := n0_
 have HK := n1_
 have HB := n2_
 clear n0_ n1_ n2_
 replace HI0 := am_ (IsS63.drew HI0.out)
 replace HK := am_ (keep_drew HK.out)
 replace HB := am_ (below_drew1 HB.out)
 obtain ⟨ASz15_0,cSz15_0,HGz15,hgz15,HSz15_0⟩ := HI0.out
 have hcz15_0 := cellS63_0 HGz15
 have hcz15_1 := cellS63_1 HGz15
 have hcz15_2 := cellS63_2 HGz15
 have hfz15_1 := blk_frozen HGz15 1
 have hfz15_2 := blk_frozen HGz15 2
 clear HGz15 hgz15
 have p103 : 0 ≤ ((ji3) : Int) := zo_
 have q103 : (ji3) < (s0_0.length : Int) := zo_
 obtain ⟨ad103,e103,hx103_0⟩ := Kd.at_int HSz15_0 (ji3) p103 q103
 have hw103_0 := hx103_0
 cases e103
 replace hx103_0 := pw_cell_below HB.out hx103_0
 replace p103 := eq_true p103
 replace q103 := eq_true q103
 refine start_ (n := 13) (S := fun w' => w'.cell? ⟨g,0,none⟩ = some (.slice (some ad103) s0_0.length cSz15_0) ∧ w'.cell? ⟨g,1,none⟩ = some (.int .i64 (wrap64 (s0_1 + 1))) ∧ w'.cell? ⟨g,2,none⟩ = some (.int .i64 (Int.tmod (wrap64 ((wrap64 ((wrap64 (s0_2 * 31)) + (wrap64 (rd s0_0 (ji3))))) + 7)) 2147483648)) ∧ w'.cell? (ad103.add ((ji3)).toNat) = some (.int .u8 (rd s0_0 (ji3)))) (ds := []) #[false,false,false,false,false,false,false,false,false,false,false,false,false] (by kernel_rfl) rfl rfl ⟨hcz15_0,hcz15_1,hcz15_2,((HB.out.cell (World.block_lt_of_cell? w0 _ hw103_0)).trans hw103_0)⟩ (fun hHeld => ?_);refine with_tabW Zv.tab4 Zv.bits4 (fun HT_ HW_ => ?_)
 generalize w13.drew = w14 at HI0 HK HB hx103_0 hHeld ⊢
 refine pu_ 0 43 HT_ ?_
 refine pu_ 1 44 HT_ ?_
 refine pu_ 2 45 HT_ ?_
 refine pu_ 4 47 HT_ ?_
 refine pu_ 5 48 HT_ ?_
 refine pu_ 6 49 HT_ ?_
 refine tk_ 3 46 HT_ HW_ hHeld ?_
 refine tk_ 7 50 HT_ HW_ hHeld ?_
 refine pu_ 8 51 HT_ ?_
 refine pu_ 9 52 HT_ ?_
 refine tk_ 10 53 HT_ HW_ hHeld ?_
 refine pu_ 11 54 HT_ ?_
 refine pu_ 12 2 HT_ ?_
 refine done_ (done_of HT_.out (by kernel_rfl)) ?_
 try go_wp2
 go_ret
 exact ⟨by first | rfl | (simp [e1_,e2_] <;> rfl) | (simp only [← hji3];first | rfl | (simp [e1_,e2_] <;> rfl)) | (simp [*,e1_,e2_] <;> rfl) | (simp [e3_,e4_];done) | (simp [*,e3_,e4_];done),(zi63 HI0),zl_ HB,zh_ HK⟩
theorem ZQ.calls (g : Nat) (s0_0 : List Int) (s0_1 : Int) (s0_2 : Int) (a1 : Int) (r1 : Int) (r2 : Int) (r3 : Int) (w0 w : World) (hI : IsS63 w0 w g s0_0 s0_1 s0_2) (hB : Below w0.heap.size w0 w) (h : ZQ.f s0_0 s0_1 s0_2 a1 = some (r1,r2,r3)) :
  Calls Tryd.prog 38 #[.pointer (some ⟨g,0,none⟩),.int .i64 a1] w fun e w' => e = .returned (.int .i64 r1) ∧ IsS63 w0 w' g s0_0 r2 r3 ∧ Below w0.heap.size w0 w' ∧ KeepBut w w' g none := by
 have HI0 := am_ hI
 have HK := am_ (KeepBut.refl w g none)
 have HL := am_ hB.size
 clear hI
 have HW0 := am_ hB.size
 have HB := am_ hB
 clear hB
 have H : (if a1 ≤ 1 then (some (0,s0_1,s0_2)) else (if a1 ≤ 256 then ((Zv.f s0_0 s0_1 s0_2).bind fun bt104 => (if a1 = 0 then (none) else (some (Int.tmod bt104.1 a1,bt104.2.1,bt104.2.2)))) else ((Zv.f s0_0 s0_1 s0_2).bind fun bt107 => ((Zv.f s0_0 bt107.2.1 bt107.2.2).bind fun bt110 => ((Zv.f s0_0 bt110.2.1 bt110.2.2).bind fun bt113 => (if a1 = 0 then (none) else (some (Int.tmod (wrap64 ((wrap64 ((wrap64 (bt107.1 * 65536)) + (wrap64 (bt110.1 * 256)))) + bt113.1)) a1,bt113.2.1,bt113.2.2)))))))) = some (r1,r2,r3) := h
 clear h
 by_cases c3 : a1 ≤ 1
 ·rw [if_pos c3] at H
  have c3b0 := decide_eq_true c3
  clear c3
  simp only [Option.some.injEq,Prod.mk.injEq] at H
  obtain ⟨rfl,rfl,rfl⟩ := H
  go_enter Tryd.func38,Tryd.ntmps38
  go_wp2
  go_ret
  exact ⟨zt_,(zi63 HI0),zl_ HB,zh_ HK⟩
 rw [if_neg c3] at H
 have c3b0 := decide_eq_false c3
 clear c3
 by_cases c4 : a1 ≤ 256
 ·rw [if_pos c4] at H
  have c4b0 := decide_eq_true c4
  clear c4
  replace H := Option.bind_eq_some_iff.mp H
  obtain ⟨⟨t104,t105,t106⟩,A50,H⟩ := H
  try dsimp only at H
  have A5 := am_ A50
  clear A50
  by_cases c6 : a1 = 0
  ·rw [if_pos c6] at H
   exact absurd H (by simp)
  rw [if_neg c6] at H
  have c6b0 := beq_eq_false_iff_ne.mpr c6
  have c6b1 := bne_iff_ne.mpr c6
  simp only [Option.some.injEq,Prod.mk.injEq] at H
  obtain ⟨rfl,rfl,rfl⟩ := H
  go_enter Tryd.func38,Tryd.ntmps38
  go_wp2_with (first | ((with_reducible refine gate_callee (f := 62) rfl ?_);refine zgl (some 13) Tryd.func62 #[.pointer (some ⟨g,0,none⟩)] ?_;(with_reducible refine (Zv.calls g s0_0 s0_1 s0_2 t104 t105 t106 w0 _ ?side1 ?side2 A5.out).mono ?_);(case side1 => exact zi63 HI0);(case side2 => exact zl_ HB);rintro e w7 ⟨rfl,hi,hb,hk⟩;refine ⟨_,rfl,?_⟩;replace HK := am_ (KeepBut.trans (zh_ HK) hk (.inl rfl));replace HB := am_ (hb);replace HI0 := am_ (hi);(try clear hb);(try clear hk);(try clear hi)))
  go_ret
  exact ⟨zt_,(zi63 HI0),zl_ HB,zh_ HK⟩
 rw [if_neg c4] at H
 have c4b0 := decide_eq_false c4
 clear c4
 replace H := Option.bind_eq_some_iff.mp H
 obtain ⟨⟨t107,t108,t109⟩,A80,H⟩ := H
 try dsimp only at H
 have A8 := am_ A80
 clear A80
 replace H := Option.bind_eq_some_iff.mp H
 obtain ⟨⟨t110,t111,t112⟩,A90,H⟩ := H
 try dsimp only at H
 have A9 := am_ A90
 clear A90
 replace H := Option.bind_eq_some_iff.mp H
 obtain ⟨⟨t113,t114,t115⟩,A100,H⟩ := H
 try dsimp only at H
 have A10 := am_ A100
 clear A100
 by_cases c11 : a1 = 0
 ·rw [if_pos c11] at H
  exact absurd H (by simp)
 rw [if_neg c11] at H
 have c11b0 := beq_eq_false_iff_ne.mpr c11
 have c11b1 := bne_iff_ne.mpr c11
 simp only [Option.some.injEq,Prod.mk.injEq] at H
 obtain ⟨rfl,rfl,rfl⟩ := H
 go_enter Tryd.func38,Tryd.ntmps38
 go_wp2_with (first | ((with_reducible refine gate_callee (f := 62) rfl ?_);refine zgl (some 17) Tryd.func62 #[.pointer (some ⟨g,0,none⟩)] ?_;(with_reducible refine (Zv.calls g s0_0 s0_1 s0_2 t107 t108 t109 w0 _ ?side1 ?side2 A8.out).mono ?_);(case side1 => exact zi63 HI0);(case side2 => exact zl_ HB);rintro e w12 ⟨rfl,hi,hb,hk⟩;refine ⟨_,rfl,?_⟩;replace HK := am_ (KeepBut.trans (zh_ HK) hk (.inl rfl));replace HB := am_ (hb);replace HI0 := am_ (hi);(try clear hb);(try clear hk);(try clear hi)) | ((with_reducible refine gate_callee (f := 62) rfl ?_);refine zgl (some 19) Tryd.func62 #[.pointer (some ⟨g,0,none⟩)] ?_;(with_reducible refine (Zv.calls g s0_0 t108 t109 t110 t111 t112 w0 _ ?side1 ?side2 A9.out).mono ?_);(case side1 => exact zi63 HI0);(case side2 => exact zl_ HB);rintro e w13 ⟨rfl,hi,hb,hk⟩;refine ⟨_,rfl,?_⟩;replace HK := am_ (KeepBut.trans (zh_ HK) hk (.inl rfl));replace HB := am_ (hb);replace HI0 := am_ (hi);(try clear hb);(try clear hk);(try clear hi)) | ((with_reducible refine gate_callee (f := 62) rfl ?_);refine zgl (some 21) Tryd.func62 #[.pointer (some ⟨g,0,none⟩)] ?_;(with_reducible refine (Zv.calls g s0_0 t111 t112 t113 t114 t115 w0 _ ?side1 ?side2 A10.out).mono ?_);(case side1 => exact zi63 HI0);(case side2 => exact zl_ HB);rintro e w14 ⟨rfl,hi,hb,hk⟩;refine ⟨_,rfl,?_⟩;replace HK := am_ (KeepBut.trans (zh_ HK) hk (.inl rfl));replace HB := am_ (hb);replace HI0 := am_ (hi);(try clear hb);(try clear hk);(try clear hi)))
 go_ret
 exact ⟨zt_,(zi63 HI0),zl_ HB,zh_ HK⟩
theorem Yp.calls (g : Nat) (s0_0 : List Int) (s0_1 : Int) (s0_2 : Int) (A1 : Option Addr) (c1 : Nat) (l1 : List ByteArray) (r1 : ByteArray) (r2 : Int) (r3 : Int) (w0 w : World) (hI : IsS63 w0 w g s0_0 s0_1 s0_2) (hB : Below w0.heap.size w0 w) (hr1 : Kd.C Kd.string w A1 l1.length l1) (hc1 : l1.length ≤ c1) (hf1 : ∀ ad,A1 = some ad → 0 < l1.length → ad.block ≠ g) (h : Yp.f s0_0 s0_1 s0_2 l1 = some (r1,r2,r3)) :
  Calls Tryd.prog 37 #[.pointer (some ⟨g,0,none⟩),.slice A1 l1.length c1] w fun e w' => e = .returned (.string r1) ∧ IsS63 w0 w' g s0_0 r2 r3 ∧ Below w0.heap.size w0 w' ∧ KeepBut w w' g none := by
 have HR1 := am_ hr1
 have HC1 := am_ hc1
 clear hr1 hc1
 have HI0 := am_ hI
 have HK := am_ (KeepBut.refl w g none)
 have HL := am_ hB.size
 clear hI
 have HW0 := am_ hB.size
 have HB := am_ hB
 clear hB
 have H : (if (l1.length : Int) = 0 then (some ((⟨#[]⟩ : ByteArray),s0_1,s0_2)) else ((ZQ.f s0_0 s0_1 s0_2 (l1.length : Int)).bind fun bt116 => (if 0 ≤ bt116.1 then (if bt116.1 < (l1.length : Int) then (some (rdOf ByteArray.empty l1 bt116.1,bt116.2.1,bt116.2.2)) else (none)) else (none)))) = some (r1,r2,r3) := h
 clear h
 by_cases c3 : (l1.length : Int) = 0
 ·rw [if_pos c3] at H
  have c3b0 := beq_iff_eq.mpr c3
  have c3b1 := bne_eq_false_iff_eq.mpr c3
  clear c3
  simp only [Option.some.injEq,Prod.mk.injEq] at H
  obtain ⟨rfl,rfl,rfl⟩ := H
  go_enter Tryd.func37,Tryd.ntmps37
  go_wp2
  go_ret
  exact ⟨zt_,(zi63 HI0),zl_ HB,zh_ HK⟩
 rw [if_neg c3] at H
 have c3b0 := beq_eq_false_iff_ne.mpr c3
 have c3b1 := bne_iff_ne.mpr c3
 have c3b2 : ¬ (l1 = []) := fun h_ => c3 (by rw [h_];rfl)
 replace H := Option.bind_eq_some_iff.mp H
 obtain ⟨⟨t116,t117,t118⟩,A40,H⟩ := H
 try dsimp only at H
 have A4 := am_ A40
 clear A40
 by_cases c5 : 0 ≤ t116
 case neg =>
  rw [if_neg c5] at H
  exact absurd H (by simp)
 rw [if_pos c5] at H
 have c5b0 := decide_eq_true c5
 clear c5
 by_cases c6 : t116 < (l1.length : Int)
 case neg =>
  rw [if_neg c6] at H
  exact absurd H (by simp)
 rw [if_pos c6] at H
 have c6b0 := decide_eq_true c6
 clear c6
 simp only [Option.some.injEq,Prod.mk.injEq] at H
 obtain ⟨rfl,rfl,rfl⟩ := H
 go_enter Tryd.func37,Tryd.ntmps37
 go_wp2_with (first | ((with_reducible refine gate_callee (f := 38) rfl ?_);refine zgl (some 12) Tryd.func38 #[.pointer (some ⟨g,0,none⟩),.int .i64 (l1.length : Int)] ?_;(with_reducible refine (ZQ.calls g s0_0 s0_1 s0_2 (l1.length : Int) t116 t117 t118 w0 _ ?side1 ?side2 A4.out).mono ?_);(case side1 => exact zi63 HI0);(case side2 => exact zl_ HB);rintro e w7 ⟨rfl,hi,hb,hk⟩;refine ⟨_,rfl,?_⟩;replace HK := am_ (KeepBut.trans (zh_ HK) hk (.inl rfl));replace HB := am_ (hb);replace HI0 := am_ (hi);(try clear hb);(try clear hk);(try clear hi);have p119 : 0 ≤ (t116 : Int) := zo_;have q119 : t116 < (l1.length : Int) := zo_;obtain ⟨ad119,e119,hx119_0⟩ := Kd.at_string HR1.out t116 p119 q119;cases e119;replace hx119_0 := keep_cell HK.out hx119_0 (by first | (rw [add_block];exact hf1 _ rfl (by omega)) | exact hf1 _ rfl (by omega) | exact hf1 ad119 rfl (by omega));replace p119 := eq_true p119;replace q119 := eq_true q119))
 go_ret
 exact ⟨zt_,(zi63 HI0),zl_ HB,zh_ HK⟩
theorem Yu.calls (g : Nat) (s0_0 : List Int) (s0_1 : Int) (s0_2 : Int) (r1 : ByteArray) (r2 : Int) (r3 : Int) (r4 : Int) (r5 : Int) (r6 : Int) (w0 w : World) (hI : IsS63 w0 w g s0_0 s0_1 s0_2) (hB : Below w0.heap.size w0 w) (h : Yu.f s0_0 s0_1 s0_2 = some (r1,r2,r3,r4,r5,r6)) :
  Calls Tryd.prog 15 #[.pointer (some ⟨g,0,none⟩)] w fun e w' => e = .returned (.agg #[.string r1,.int .i64 r2,.int .i64 r3,.int .i64 r4]) ∧ IsS63 w0 w' g s0_0 r5 r6 ∧ Below w0.heap.size w0 w' ∧ KeepBut w w' g none := by
 have hu24 := Tryd.underlying24
 have HI0 := am_ hI
 have HK := am_ (KeepBut.refl w g none)
 have HL := am_ hB.size
 clear hI
 have HW0 := am_ hB.size
 have HB := am_ hB
 clear hB
 have H : ((Yp.f s0_0 s0_1 s0_2 (([(⟨#[97]⟩ : ByteArray),(⟨#[98]⟩ : ByteArray),(⟨#[108,111,99,107]⟩ : ByteArray)] : List ByteArray))).bind fun bt124 => ((ZQ.f s0_0 bt124.2.1 bt124.2.2 3).bind fun bt127 => ((ZQ.f s0_0 bt127.2.1 bt127.2.2 3).bind fun bt130 => ((ZQ.f s0_0 bt130.2.1 bt130.2.2 3).bind fun bt133 => (some (bt124.1,bt127.1,wrap64 (1 + bt130.1),wrap64 (bt133.1 * 10),bt133.2.1,bt133.2.2)))))) = some (r1,r2,r3,r4,r5,r6) := h
 clear h
 obtain ⟨y121,hy121⟩ : ∃ y_ : List ByteArray,y_ = (([(⟨#[97]⟩ : ByteArray),(⟨#[98]⟩ : ByteArray),(⟨#[108,111,99,107]⟩ : ByteArray)] : List ByteArray)) := ⟨_,rfl⟩
 replace H : ((Yp.f s0_0 s0_1 s0_2 y121).bind fun bt124 => ((ZQ.f s0_0 bt124.2.1 bt124.2.2 3).bind fun bt127 => ((ZQ.f s0_0 bt127.2.1 bt127.2.2 3).bind fun bt130 => ((ZQ.f s0_0 bt130.2.1 bt130.2.2 3).bind fun bt133 => (some (bt124.1,bt127.1,wrap64 (1 + bt130.1),wrap64 (bt133.1 * 10),bt133.2.1,bt133.2.2)))))) = some (r1,r2,r3,r4,r5,r6) := by first | (rw [hy121];with_reducible exact H) | (have H2_ := (Option.bind_some _ _).symm.trans H;rw [hy121];with_reducible exact H2_) | (have H2_ := (Option.bind_some _ _).symm.trans H;with_reducible exact H2_) | with_reducible exact H | (rw [hy121];exact H) | exact H
 have Ny121 := am_ hy121
 clear hy121
 replace H := Option.bind_eq_some_iff.mp H
 obtain ⟨⟨t124,t125,t126⟩,A20,H⟩ := H
 try dsimp only at H
 have A2 := am_ A20
 clear A20
 replace H := Option.bind_eq_some_iff.mp H
 obtain ⟨⟨t127,t128,t129⟩,A30,H⟩ := H
 try dsimp only at H
 have A3 := am_ A30
 clear A30
 replace H := Option.bind_eq_some_iff.mp H
 obtain ⟨⟨t130,t131,t132⟩,A40,H⟩ := H
 try dsimp only at H
 have A4 := am_ A40
 clear A40
 replace H := Option.bind_eq_some_iff.mp H
 obtain ⟨⟨t133,t134,t135⟩,A50,H⟩ := H
 try dsimp only at H
 have A5 := am_ A50
 clear A50
 simp only [Option.some.injEq,Prod.mk.injEq] at H
 obtain ⟨rfl,rfl,rfl,rfl,rfl,rfl⟩ := H
 go_enter Tryd.func15,Tryd.ntmps15
 go_wp2_with (first | ((with_reducible refine gate_dst (N := 2) rfl ?_);refine zbx (N := 2) (cs := #[.string ⟨#[]⟩,.int .i64 0,.int .i64 0,.int .i64 0]) (t := 24) ?_;intro gb120 hg w6 hbox hb;replace HB := zs_ HB hb;have BK120 := am_ (hbox);have GW120 := am_ ((by rw [hg];exact (keep_size (w := w) (g := g) (row := none) (zh_ HK)) : w.heap.size ≤ gb120));have GE120 := am_ ((Nat.le_trans HW0.out (by rw [hg];exact (keep_size (w := w) (g := g) (row := none) (zh_ HK)) : w.heap.size ≤ gb120) : w0.heap.size ≤ gb120));replace HK := am_ (KeepBut.trans (zh_ HK) (KeepBut.of_below hb g none) (.inl rfl));have NB0_120 := am_ ((by rw [hg];exact Nat.ne_of_lt (IsS63.lt (show IsS63 w0 _ g s0_0 s0_1 s0_2 from (zi63 HI0))) : g ≠ gb120));have NB120_0 := am_ ((by rw [hg];exact Nat.ne_of_gt (IsS63.lt (show IsS63 w0 _ g s0_0 s0_1 s0_2 from (zi63 HI0))) : gb120 ≠ g));replace HI0 := am_ (IsS63.below (zi63 HI0) hb);clear hb hbox hg) | ((with_reducible refine gate_dst (N := 4) rfl ?_);refine Kd.R_lit Kd.string _ 9 ?hg (N := 4) ?hd (xs := ([(⟨#[97]⟩ : ByteArray),(⟨#[98]⟩ : ByteArray),(⟨#[108,111,99,107]⟩ : ByteArray)] : List ByteArray)) (inner := [.string ⟨#[97]⟩,.string ⟨#[98]⟩,.string ⟨#[108,111,99,107]⟩]) (ok := fun _ => True) (okp := fun _ => True) ?hr ?hp (fun _ hk => hk) trivial (Below.refl _ _) (Nat.le_refl _) (by simp) ?_;(case hd => rfl);(case hg => rfl);(case hr => first | (go_simp;done) | (go_simp;rfl));(case hp => exact (Reps.one (show Kd.M Kd.string _ _ _ (⟨#[97]⟩ : ByteArray) [.string ⟨#[97]⟩] from rfl) (Reps.one (show Kd.M Kd.string _ _ _ (⟨#[98]⟩ : ByteArray) [.string ⟨#[98]⟩] from rfl) (Reps.one (show Kd.M Kd.string _ _ _ (⟨#[108,111,99,107]⟩ : ByteArray) [.string ⟨#[108,111,99,107]⟩] from rfl) (Reps.none _ _)))));intro v122 w7 ho8 hb hg_ hnew_;clear hg_ hnew_;(first | rw [← Ny121.out] at ho8 | (simp only [Int.reduceToNat] at ho8;rw [← Ny121.out] at ho8));have HO123 := am_ (Kd.R_lower ho8 (keep_size (w := w) (g := g) (row := none) (zh_ HK)));replace HI0 := am_ (IsS63.below (zi63 HI0) hb);replace BK120 := zb BK120 hb;replace HK := am_ (KeepBut.trans (zh_ HK) (KeepBut.of_below hb g none) (.inl rfl));replace HB := zs_ HB hb;clear hb ho8;obtain ⟨Ao9,co9,eo9⟩ := Kd.R_slice HO123.out;subst eo9) | ((with_reducible refine gate_callee (f := 37) rfl ?_);refine zgl (some 5) Tryd.func37 #[.pointer (some ⟨g,0,none⟩),.slice Ao9 y121.length co9] ?_;(with_reducible refine (Yp.calls g s0_0 s0_1 s0_2 _ _ y121 t124 t125 t126 w0 _ ?side1 ?side2 ?side3 ?side4 ?side5 A2.out).mono ?_);(case side1 => exact zi63 HI0);(case side2 => exact zl_ HB);(case side3 => repeat (first | exact (Kd.R_reads' HO123.out).2.2 | (with_reducible refine Kd.C_alloc ?_ _) | (with_reducible refine Kd.C_drewN ?_ _) | (with_reducible refine Kd.C_drew ?_)));(case side4 => exact (Kd.R_reads' HO123.out).2.1);(case side5 => exact far_slice (IsS63.own_ne HI0.out HO123.out (by decide)));rintro e w10 ⟨rfl,hi,hb,hk⟩;refine ⟨_,rfl,?_⟩;replace BK120 := zkb hk BK120 NB120_0;replace HK := am_ (KeepBut.trans (zh_ HK) hk (.inl rfl));replace HB := am_ (hb);replace HI0 := am_ (hi);(try clear hb);(try clear hk);(try clear hi)) | ((with_reducible refine gate_callee (f := 38) rfl ?_);refine zgl (some 7) Tryd.func38 #[.pointer (some ⟨g,0,none⟩),.int .i64 3] ?_;(with_reducible refine (ZQ.calls g s0_0 t125 t126 3 t127 t128 t129 w0 _ ?side1 ?side2 A3.out).mono ?_);(case side1 => exact zi63 HI0);(case side2 => exact zl_ HB);rintro e w11 ⟨rfl,hi,hb,hk⟩;refine ⟨_,rfl,?_⟩;replace BK120 := zkb hk BK120 NB120_0;replace HK := am_ (KeepBut.trans (zh_ HK) hk (.inl rfl));replace HB := am_ (hb);replace HI0 := am_ (hi);(try clear hb);(try clear hk);(try clear hi)) | ((with_reducible refine gate_callee (f := 38) rfl ?_);refine zgl (some 9) Tryd.func38 #[.pointer (some ⟨g,0,none⟩),.int .i64 3] ?_;(with_reducible refine (ZQ.calls g s0_0 t128 t129 3 t130 t131 t132 w0 _ ?side1 ?side2 A4.out).mono ?_);(case side1 => exact zi63 HI0);(case side2 => exact zl_ HB);rintro e w12 ⟨rfl,hi,hb,hk⟩;refine ⟨_,rfl,?_⟩;replace BK120 := zkb hk BK120 NB120_0;replace HK := am_ (KeepBut.trans (zh_ HK) hk (.inl rfl));replace HB := am_ (hb);replace HI0 := am_ (hi);(try clear hb);(try clear hk);(try clear hi)) | ((with_reducible refine gate_callee (f := 38) rfl ?_);refine zgl (some 12) Tryd.func38 #[.pointer (some ⟨g,0,none⟩),.int .i64 3] ?_;(with_reducible refine (ZQ.calls g s0_0 t131 t132 3 t133 t134 t135 w0 _ ?side1 ?side2 A5.out).mono ?_);(case side1 => exact zi63 HI0);(case side2 => exact zl_ HB);rintro e w13 ⟨rfl,hi,hb,hk⟩;refine ⟨_,rfl,?_⟩;replace BK120 := zkb hk BK120 NB120_0;replace HK := am_ (KeepBut.trans (zh_ HK) hk (.inl rfl));replace HB := am_ (hb);replace HI0 := am_ (hi);(try clear hb);(try clear hk);(try clear hi);have hnb14 := NB120_0.out;have hnc14 := NB0_120.out;obtain ⟨hcz15_0,hcz15_1,hcz15_2,hcz15_3,hfz15_0,hfz15_1,hfz15_2,hfz15_3⟩ := zc4 BK120))
 refine bodyPost_ret (results_cell_row rfl _ _ gb120 24 #[.string t124,.int .i64 t127,.int .i64 (wrap64 (1 + t130)),.int .i64 (wrap64 (t133 * 10))] (0,0) _ rfl (zq BK120) Tryd.underlying24 rfl (by kernel_rfl)) rfl ?_
 exact ⟨zt_,(zi63 HI0),zl_ HB,zh_ HK⟩
theorem Yv.calls (A0 : Option Addr) (c0 : Nat) (l0 : List Int) (r1 : ByteArray) (r2 : Int) (r3 : Int) (r4 : Int) (w : World) (hr0 : Kd.C (Kd.int .u8) w A0 l0.length l0) (hc0 : l0.length ≤ c0) (h : Yv.f l0 = some (r1,r2,r3,r4)) :
  Calls Tryd.prog 4 #[.slice A0 l0.length c0] w fun e w' => e = .returned (.agg #[.string r1,.int .i64 r2,.int .i64 r3,.int .i64 r4]) ∧ Below w.heap.size w w' := by
 have hu24 := Tryd.underlying24
 have HR0 := am_ hr0
 have HC0 := am_ hc0
 clear hr0 hc0
 have HB := am_ (Below.refl w.heap.size w)
 have H : ((Yw.f l0).bind fun bt137 => ((Yu.f bt137.1 bt137.2.1 bt137.2.2).bind fun bt141 => (some (bt141.1,bt141.2.1,bt141.2.2.1,bt141.2.2.2.1)))) = some (r1,r2,r3,r4) := h
 clear h
 replace H := Option.bind_eq_some_iff.mp H
 obtain ⟨⟨t137,t138,t139⟩,A20,H⟩ := H
 try dsimp only at H
 have A2 := am_ A20
 clear A20
 replace H := Option.bind_eq_some_iff.mp H
 obtain ⟨⟨t141,t142,t143,t144,t145,t146⟩,A30,H⟩ := H
 try dsimp only at H
 have A3 := am_ A30
 clear A30
 simp only [Option.some.injEq,Prod.mk.injEq] at H
 obtain ⟨rfl,rfl,rfl,rfl⟩ := H
 go_enter Tryd.func4,Tryd.ntmps4
 go_wp2_with (first | ((with_reducible refine gate_dst (N := 2) rfl ?_);refine zbx (N := 2) (cs := #[.string ⟨#[]⟩,.int .i64 0,.int .i64 0,.int .i64 0]) (t := 24) ?_;intro gb136 hg w4 hbox hb;have BK136 := am_ (hbox);have GW136 := zw_ HB hg;have GE136 := zw_ HB hg;replace HB := zs_ HB hb;clear hb hbox hg) | ((with_reducible refine gate_callee (f := 14) rfl ?_);refine zgl (some 4) Tryd.func14 #[.slice A0 l0.length c0] ?_;(with_reducible refine (Yw.calls _ _ l0 t137 t138 t139 w _ ?side1 ?side2 ?side3 A2.out).mono ?_);(case side1 => exact zl_ HB);(case side2 => exact HR0.out);(case side3 => exact HC0.out);rintro e w5 ⟨g140,rfl,hi,hb,hb2⟩;refine ⟨_,rfl,?_⟩;replace HB := am_ (hb);have HI140 := am_ (hi);have NB140_136 := am_ (IsS63.ne_blk hi (blk_below (g := gb136) (o := .cells #[.string ⟨#[]⟩,.int .i64 0,.int .i64 0,.int .i64 0] 24 (0,0)) (zk BK136) hb2) (by decide));have NB136_140 := am_ (Ne.symm (IsS63.ne_blk hi (blk_below (g := gb136) (o := .cells #[.string ⟨#[]⟩,.int .i64 0,.int .i64 0,.int .i64 0] 24 (0,0)) (zk BK136) hb2) (by decide)));replace BK136 := am_ (blk_below (g := gb136) (o := .cells #[.string ⟨#[]⟩,.int .i64 0,.int .i64 0,.int .i64 0] 24 (0,0)) (zk BK136) hb2);(try clear hb);(try clear hb2);(try clear hi)) | ((with_reducible refine gate_callee (f := 15) rfl ?_);refine zgl (some 5) Tryd.func15 #[.pointer (some ⟨g140,0,none⟩)] ?_;(with_reducible refine (Yu.calls g140 t137 t138 t139 t141 t142 t143 t144 t145 t146 w _ ?side1 ?side2 A3.out).mono ?_);(case side1 => exact zi63 HI140);(case side2 => exact zl_ HB);rintro e w6 ⟨rfl,hi,hb,hk⟩;refine ⟨_,rfl,?_⟩;replace BK136 := zkb hk BK136 NB136_140;replace HB := am_ (hb);replace HI140 := am_ (hi);(try clear hb);(try clear hk);(try clear hi);have hnb7 := NB136_140.out;have hnc7 := NB140_136.out;obtain ⟨hcz8_0,hcz8_1,hcz8_2,hcz8_3,hfz8_0,hfz8_1,hfz8_2,hfz8_3⟩ := zc4 BK136))
 refine bodyPost_ret (results_cell_row rfl _ _ gb136 24 #[.string t141,.int .i64 t142,.int .i64 t143,.int .i64 t144] (0,0) _ rfl (zq BK136) Tryd.underlying24 rfl (by kernel_rfl)) rfl ?_
 exact ⟨zt_,zl_ HB⟩
end Go.Proofs.YtkfhejklnmkfmaaDoor.A
end
