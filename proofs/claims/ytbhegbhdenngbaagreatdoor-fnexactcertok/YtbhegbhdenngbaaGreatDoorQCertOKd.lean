/- A part of the proof that FnExactCertOK returns true at every input: plain functions, contracts and lemmas. No conditions. -/
import Derived.Test.YtbhegbhdenngbaaGreatDoorQCertOKc
set_option linter.unusedVariables false
set_option linter.unusedSimpArgs false
set_option linter.unusedSectionVars false
set_option maxHeartbeats 8000000
set_option maxRecDepth 100000
section
namespace Go.Proofs.YtbhegbhdenngbaaGreatDoor.A
open Go.RowKit Go.Proofs.YtbhegbhdenngbaaGreatDoorW.PrintWords Go.Proofs.YtbhegbhdenngbaaGreatDoorW.PrintLast Go.Proofs.YtbhegbhdenngbaaGreatDoorW.PrintMore
attribute [local go_sem] max2_int min2_int max_two min_two max_three min_three max_four min_four
def Zm.T10 : Bool × List (List Nat × List Nat) := (true,[([],[]),([0],[0]),([],[]),([2],[2]),([],[]),([4,3],[4]),([],[]),([6,5],[6]),([3,5,7],[3,5,7]),([8],[8]),([1,9,7],[1,9]),([0,1,2,3,4,5,6,7,8,9,10],[]),([11,10,10,0,1,2,3,4,5,6,7,8,9,10],[10,11])])
def Zm.B10 : List Nat := [0,1,0,4,0,28,0,124,252,508,1023,2047,4095]
theorem Zm.tab10 : rtab .any (opsOf Tryz.f39 10) = Zm.T10 := by kernel_rfl
theorem Zm.bits10 : waitsOk Zm.T10.2 Zm.B10 = true := by kernel_rfl
theorem Zm.calls (k : Nat) (a0 : ByteArray) (r1 : Bool) (r2 : Int) (r3 : Int) (r4 : Int) (r5 : Int) (r6 : ByteArray) (r7 : List (S76)) (r8 : Bool) (w : World) (h : Zm.f k a0 = some (r1,r2,r3,r4,r5,r6,r7,r8)) :
  Calls Tryz.prog 39 #[.string a0] w fun e w' => ∃ v6_ : Value,e = .returned (.tuple #[.agg #[.bool r1,.int .i64 r2,.int .i64 r3,.int .i64 r4,.int .i64 r5,.string r6,v6_],.bool r8]) ∧ Kd.R k76 76 w' w.heap.size (fun _ => True) v6_ r7 ∧ Below w.heap.size w w' := by
 have hu55 := Tryz.underlying55
 have hu92 := Tryz.underlying92
 have hu76 := Tryz.underlying76
 have hu52 := Tryz.underlying52
 have HB := am_ (Below.refl w.heap.size w)
 have H : (if a0.toList = ([0] : List UInt8) then (some (true,0,0,0,0,(⟨#[]⟩ : ByteArray),([] : List (S76)),true)) else ((Zd.f k a0 false 1).bind fun bt432 => (if (wrap64 (bt432.1 - 1)) > 7 then (some (false,0,0,0,0,(⟨#[]⟩ : ByteArray),([] : List (S76)),false)) else (Zm.l0 k (wrap64 (bt432.1 - 1)) (mx (wrap64 (bt432.1 - 1)) 0) 0 bt432.2.1 bt432.2.2 false 0 0 0 0 (⟨#[]⟩ : ByteArray) ([] : List (S76)))))) = some (r1,r2,r3,r4,r5,r6,r7,r8) := h
 clear h
 by_cases c2 : a0.toList = ([0] : List UInt8)
 ·rw [if_pos c2] at H
  have c2b0 := beq_iff_eq.mpr c2
  have c2b1 := bne_eq_false_iff_eq.mpr c2
  clear c2
  simp only [Option.some.injEq,Prod.mk.injEq] at H
  obtain ⟨rfl,rfl,rfl,rfl,rfl,rfl,rfl,rfl⟩ := H
  go_enter Tryz.func39,Tryz.ntmps39
  go_wp2_with (first | ((with_reducible refine gate_dst (N := 2) rfl ?_);refine zbx (N := 2) (cs := #[.bool false,.int .i64 0,.int .i64 0,.int .i64 0,.int .i64 0,.string ⟨#[]⟩,.slice none 0 0]) (t := 55) ?_;intro gb430 hg w3 hbox hb;have BK430 := am_ (hbox);have GW430 := zw_ HB hg;have GE430 := zw_ HB hg;replace HB := zs_ HB hb;clear hb hbox hg;obtain ⟨hcz4_0,hcz4_1,hcz4_2,hcz4_3,hcz4_4,hcz4_5,hcz4_6,hfz4_0,hfz4_1,hfz4_2,hfz4_3,hfz4_4,hfz4_5,hfz4_6⟩ := zc7 BK430))
  refine bodyPost_ret (results_ct rfl _ _ gb430 55 #[.bool true,.int .i64 0,.int .i64 0,.int .i64 0,.int .i64 0,.string ⟨#[]⟩,.slice none 0 0] (0,0) _ rfl (zq BK430) Tryz.underlying55 rfl (by kernel_rfl)) rfl ?_
  exact ⟨_,zt_,by first | exact Kd.R_nil _ _ _ _ _ | exact Kd.N_nil _ _ _ _ _ | exact Kd.V_nil _ _ _ _ _ | exact Kd.Q_nil _ _ _ _ _ | exact Kd.S_nil _ _ _ _ _,zl_ HB⟩
 rw [if_neg c2] at H
 have c2b0 := beq_eq_false_iff_ne.mpr c2
 have c2b1 := bne_iff_ne.mpr c2
 replace H := Option.bind_eq_some_iff.mp H
 obtain ⟨⟨t432,t433,t434⟩,A50,H⟩ := H
 try dsimp only at H
 have A5 := am_ A50
 clear A50
 by_cases c6 : (wrap64 (t432 - 1)) > 7
 ·rw [if_pos c6] at H
  have c6b0 : decide (7 < (wrap64 (t432 - 1))) = true := decide_eq_true c6
  clear c6
  simp only [Option.some.injEq,Prod.mk.injEq] at H
  obtain ⟨rfl,rfl,rfl,rfl,rfl,rfl,rfl,rfl⟩ := H
  go_enter Tryz.func39,Tryz.ntmps39
  go_wp2_with (first | ((with_reducible refine gate_dst (N := 2) rfl ?_);refine zbx (N := 2) (cs := #[.bool false,.int .i64 0,.int .i64 0,.int .i64 0,.int .i64 0,.string ⟨#[]⟩,.slice none 0 0]) (t := 55) ?_;intro gb430 hg w7 hbox hb;have BK430 := am_ (hbox);have GW430 := zw_ HB hg;have GE430 := zw_ HB hg;replace HB := zs_ HB hb;clear hb hbox hg) | ((with_reducible refine gate_dst (N := 12) rfl ?_);refine zbx (N := 12) (cs := #[.string a0,.bool false]) (t := 92) ?_;intro g431 hg w8 hbox hb;have HI431 := am_ ((show IsS92 w _ g431 a0 false from ⟨hbox,(by rw [hg];exact (below_size (zl_ HB)) : w.heap.size ≤ g431)⟩));replace HB := zs_ HB hb;have NB431_430 := zg hg BK430;have NB430_431 := zl hg BK430;replace BK430 := zb BK430 hb;clear hb hbox hg) | ((with_reducible refine gate_callee (f := 57) rfl ?_);refine zgl (some 14) Tryz.func57 #[.pointer (some ⟨g431,0,none⟩),.int .i64 1] ?_;(with_reducible refine (Zd.calls k g431 a0 false 1 t432 t433 t434 w _ ?side1 ?side2 A5.out).mono ?_);(case side1 => exact zi92 HI431);(case side2 => exact zl_ HB);rintro e w9 ⟨rfl,hi,hb,hk⟩;refine ⟨_,rfl,?_⟩;replace BK430 := zkb hk BK430 NB430_431;replace HB := am_ (hb);replace HI431 := am_ (hi);(try clear hb);(try clear hk);(try clear hi);have hnb10 := NB430_431.out;have hnc10 := NB431_430.out;obtain ⟨hcz11_0,hcz11_1,hcz11_2,hcz11_3,hcz11_4,hcz11_5,hcz11_6,hfz11_0,hfz11_1,hfz11_2,hfz11_3,hfz11_4,hfz11_5,hfz11_6⟩ := zc7 BK430))
  refine bodyPost_ret (results_ct rfl _ _ gb430 55 #[.bool false,.int .i64 0,.int .i64 0,.int .i64 0,.int .i64 0,.string ⟨#[]⟩,.slice none 0 0] (0,0) _ rfl (zq BK430) Tryz.underlying55 rfl (by kernel_rfl)) rfl ?_
  exact ⟨_,zt_,by first | exact Kd.R_nil _ _ _ _ _ | exact Kd.N_nil _ _ _ _ _ | exact Kd.V_nil _ _ _ _ _ | exact Kd.Q_nil _ _ _ _ _ | exact Kd.S_nil _ _ _ _ _,zl_ HB⟩
 rw [if_neg c6] at H
 have c6b0 : decide (7 < (wrap64 (t432 - 1))) = false := decide_eq_false c6
 clear c6
 obtain ⟨ji12,hji12⟩ : ∃ j_ : Int,(mx (wrap64 (t432 - 1)) 0) = j_ := ⟨_,rfl⟩
 replace H : (Zm.l0 k (wrap64 (t432 - 1)) ji12 0 t433 t434 false 0 0 0 0 (⟨#[]⟩ : ByteArray) ([] : List (S76))) = some (r1,r2,r3,r4,r5,r6,r7,r8) := by first | (rw [hji12] at H;exact H) | (simp only [hji12] at H ⊢;exact H)
 (try rw [hji12] at A5)
 (try (have hji12l : 0 ≤ ji12 := by (rw [← hji12];unfold mx;(repeat' split) <;> omega)))
 (try (have hji12m : 0 ≤ ji12 := by omega))
 have hji12_ : (if (wrap64 (t432 - 1)) < 0 then 0 else (wrap64 (t432 - 1))) = ji12 := hji12
 have H' := am_ H
 clear H
 go_enter Tryz.func39,Tryz.ntmps39
 go_wp2_with (first | ((with_reducible refine gate_dst (N := 2) rfl ?_);refine zbx (N := 2) (cs := #[.bool false,.int .i64 0,.int .i64 0,.int .i64 0,.int .i64 0,.string ⟨#[]⟩,.slice none 0 0]) (t := 55) ?_;intro gb430 hg w13 hbox hb;have BK430 := am_ (hbox);have GW430 := zw_ HB hg;have GE430 := zw_ HB hg;replace HB := zs_ HB hb;clear hb hbox hg) | ((with_reducible refine gate_dst (N := 12) rfl ?_);refine zbx (N := 12) (cs := #[.string a0,.bool false]) (t := 92) ?_;intro g431 hg w14 hbox hb;have HI431 := am_ ((show IsS92 w _ g431 a0 false from ⟨hbox,(by rw [hg];exact (below_size (zl_ HB)) : w.heap.size ≤ g431)⟩));replace HB := zs_ HB hb;have NB431_430 := zg hg BK430;have NB430_431 := zl hg BK430;replace BK430 := zb BK430 hb;clear hb hbox hg) | ((with_reducible refine gate_callee (f := 57) rfl ?_);refine zgl (some 14) Tryz.func57 #[.pointer (some ⟨g431,0,none⟩),.int .i64 1] ?_;(with_reducible refine (Zd.calls k g431 a0 false 1 t432 t433 t434 w _ ?side1 ?side2 A5.out).mono ?_);(case side1 => exact zi92 HI431);(case side2 => exact zl_ HB);rintro e w15 ⟨rfl,hi,hb,hk⟩;refine ⟨_,rfl,?_⟩;replace BK430 := zkb hk BK430 NB430_431;replace HB := am_ (hb);replace HI431 := am_ (hi);(try clear hb);(try clear hk);(try clear hi)) | ((with_reducible refine gate_dst (N := 6) rfl ?_);refine zbx (N := 6) (cs := #[.bool false,.int .i64 0,.int .i64 0,.int .i64 0,.int .i64 0,.string ⟨#[]⟩,.slice none 0 0]) (t := 55) ?_;intro gb435 hg w16 hbox hb;have BK435 := am_ (hbox);have GW435 := zw_ HB hg;have GE435 := zw_ HB hg;replace HB := zs_ HB hb;have NB430_435 := zl hg BK430;have NB435_430 := zg hg BK430;replace BK430 := zb BK430 hb;have NB431_435 := am_ ((by rw [hg];exact Nat.ne_of_lt (IsS92.lt (show IsS92 w _ g431 t433 t434 from (zi92 HI431))) : g431 ≠ gb435));have NB435_431 := am_ ((by rw [hg];exact Nat.ne_of_gt (IsS92.lt (show IsS92 w _ g431 t433 t434 from (zi92 HI431))) : gb435 ≠ g431));replace HI431 := am_ (IsS92.below (zi92 HI431) hb);clear hb hbox hg))
 go_loopg [21] k (fun kq v21 w' => ∃ (x21_1 : Int) (x432000_1 : ByteArray) (x432001_1 : Bool) (x436006_1 : List (S76)) (u436006 : Value),v21 = .int .i64 x21_1 ∧ Aside0 (Zm.l0 kq (wrap64 (t432 - 1)) ji12 x21_1 x432000_1 x432001_1 false 0 0 0 0 (⟨#[]⟩ : ByteArray) x436006_1 = some (r1,r2,r3,r4,r5,r6,r7,r8)) ∧ Aside0 (kq ≤ k) ∧ Aside0 (Kd.R k76 76 w' w.heap.size (fun _ => True) u436006 x436006_1) ∧ Aside0 (w'.heap[gb430]? = some (.cells #[.bool false,.int .i64 0,.int .i64 0,.int .i64 0,.int .i64 0,.string ⟨#[]⟩,(.slice none 0 0)] 55 (0,0))) ∧ Aside0 (w'.heap[gb435]? = some (.cells #[.bool false,.int .i64 0,.int .i64 0,.int .i64 0,.int .i64 0,.string ⟨#[]⟩,u436006] 55 (0,0))) ∧ Aside0 (IsS92 w w' g431 x432000_1 x432001_1) ∧ Aside0 (Below w.heap.size w w'))
 case atStart => exact ⟨(0),(t433),(t434),(([] : List (S76))),(.slice none 0 0),(by first | rfl | (simp;done) | (simp [*];done)),H',⟨Nat.le_refl _⟩,⟨by first | exact Kd.R_nil _ _ _ _ _ | exact Kd.N_nil _ _ _ _ _ | exact Kd.V_nil _ _ _ _ _ | exact Kd.Q_nil _ _ _ _ _ | exact Kd.S_nil _ _ _ _ _⟩,⟨by (with_reducible repeat (first | apply k1_ | apply k2_ | apply k3_));exact BK430.out⟩,⟨by (with_reducible repeat (first | apply k1_ | apply k2_ | apply k3_));exact BK435.out⟩,⟨(zi92 HI431)⟩,⟨zl_ HB⟩⟩
 case round =>
  clear H'
  try clear c1
  try clear c2
  try clear c2b0
  try clear c2b1
  try clear p2
  try clear c3
  try clear c5
  try clear c6
  try clear c6b0
  try clear p6
  try clear c10
  try clear hcz11_0
  try clear hcz11_1
  try clear hcz11_2
  try clear hcz11_3
  try clear hcz11_4
  try clear hcz11_5
  try clear hcz11_6
  try clear hcz4_0
  try clear hcz4_1
  try clear hcz4_2
  try clear hcz4_3
  try clear hcz4_4
  try clear hcz4_5
  try clear hcz4_6
  try clear hfz11_0
  try clear hfz11_1
  try clear hfz11_2
  try clear hfz11_3
  try clear hfz11_4
  try clear hfz11_5
  try clear hfz11_6
  try clear hfz4_0
  try clear hfz4_1
  try clear hfz4_2
  try clear hfz4_3
  try clear hfz4_4
  try clear hfz4_5
  try clear hfz4_6
  obtain ⟨x21_1,x432000_1,x432001_1,x436006_1,u436006,rfl,HA,HK1,HO_436006,BK430,BK435,HI431,HB⟩ := hrel
  cases gk with
  | zero => exact absurd HA.out (by simp [Zm.l0])
  | succ k1 =>
   have H := HA.out
   clear HA
   simp only [Zm.l0] at H
   by_cases c17 : x21_1 < ji12
   ·rw [if_pos c17] at H
    have c17b0 := decide_eq_true c17
    clear c17
    replace H := Option.bind_eq_some_iff.mp H
    obtain ⟨⟨t436,t437,t438⟩,A180,H⟩ := H
    try dsimp only at H
    have A18 := am_ A180
    clear A180
    replace H := Option.bind_eq_some_iff.mp H
    obtain ⟨⟨t439,t440,t441⟩,A190,H⟩ := H
    try dsimp only at H
    have A19 := am_ A190
    clear A190
    replace H := Option.bind_eq_some_iff.mp H
    obtain ⟨⟨t442,t443,t444⟩,A200,H⟩ := H
    try dsimp only at H
    have A20 := am_ A200
    clear A200
    by_cases c21 : x436006_1.length < 4398046511104
    case neg =>
     rw [if_neg c21] at H
     exact absurd H (by simp)
    rw [if_pos c21] at H
    have LMc21 := am_ c21
    clear c21
    obtain ⟨y445,hy445⟩ : ∃ y_ : List (S76),y_ = (x436006_1 ++ [(⟨t436,t439,t442⟩ : S76)]) := ⟨_,rfl⟩
    replace H : (Zm.l0 k1 (wrap64 (t432 - 1)) ji12 (wrap64 (x21_1 + 1)) t443 t444 false 0 0 0 0 (⟨#[]⟩ : ByteArray) y445) = some (r1,r2,r3,r4,r5,r6,r7,r8) := by first | (rw [hy445];with_reducible exact H) | (have H2_ := (Option.bind_some _ _).symm.trans H;rw [hy445];with_reducible exact H2_) | (have H2_ := (Option.bind_some _ _).symm.trans H;with_reducible exact H2_) | with_reducible exact H | (rw [hy445];exact H) | exact H
    have Ny445 := am_ hy445
    clear hy445
    have H' := am_ H
    clear H
    try go_wp2
    replace HO_436006 := am_ (Kd.R_drew HO_436006.out)
    replace BK430 := am_ (blk_drew BK430.out)
    replace BK435 := am_ (blk_drew BK435.out)
    replace HI431 := am_ (IsS92.drew HI431.out)
    replace HB := am_ (below_drew1 HB.out)
    refine start_ (n := 13) (S := fun w' => w'.cell? ⟨gb435,0,none⟩ = some (.bool false) ∧ w'.cell? ⟨gb435,1,none⟩ = some (.int .i64 0) ∧ w'.cell? ⟨gb435,2,none⟩ = some (.int .i64 0) ∧ w'.cell? ⟨gb435,3,none⟩ = some (.int .i64 0) ∧ w'.cell? ⟨gb435,4,none⟩ = some (.int .i64 0) ∧ w'.cell? ⟨gb435,5,none⟩ = some (.string ⟨#[]⟩) ∧ w'.cell? ⟨gb435,6,none⟩ = some (u436006)) (ds := [12]) #[false,false,false,false,false,false,false,false,false,false,false,false,false] (by kernel_rfl) rfl rfl ⟨(blk_cell BK435.out 0).trans rfl,(blk_cell BK435.out 1).trans rfl,(blk_cell BK435.out 2).trans rfl,(blk_cell BK435.out 3).trans rfl,(blk_cell BK435.out 4).trans rfl,(blk_cell BK435.out 5).trans rfl,(blk_cell BK435.out 6).trans rfl⟩ (fun hHeld => ?_);refine with_tabW Zm.tab10 Zm.bits10 (fun HT_ HW_ => ?_)
    generalize wr.drew = w22 at HO_436006 BK430 BK435 HI431 HB hHeld ⊢
    refine pu_ 0 23 HT_ ?_
    refine pu_ 2 25 HT_ ?_
    refine pu_ 4 27 HT_ ?_
    refine pu_ 6 29 HT_ ?_
    refine tk_ 1 24 HT_ HW_ hHeld ?_
    refine zon 3 (N := some 26) HT_ (fun K hK => ?_)
    refine zgo Tryz.func57 #[.pointer (some ⟨g431,0,none⟩),.int .i64 1] ?_
    with_reducible refine (Zd.calls k1 g431 x432000_1 x432001_1 1 t436 t437 t438 w _ ?side1 ?side2 A18.out).mono ?_
    (case side1 => exact zi92 HI431)
    (case side2 => exact zl_ HB)
    rintro e w23 ⟨rfl,hi,hb,hk⟩
    refine ⟨_,rfl,?_⟩
    replace HO_436006 := am_ (Kd.R_mono (Kd.R_keep (IsS92.apart (show IsS92 w _ g431 x432000_1 x432001_1 from (zi92 HI431)) (zr HO_436006) (by decide)) hk (fun _ h => h.2)) (fun _ h => h.1))
    replace BK430 := zkb hk BK430 NB430_431
    replace BK435 := zkb hk BK435 NB435_431
    replace HB := am_ (hb)
    replace HI431 := am_ (hi)
    try clear hb
    try clear hk
    try clear hi
    refine hK.out _ _ ⟨(blk_cell BK435.out 0).trans rfl,(blk_cell BK435.out 1).trans rfl,(blk_cell BK435.out 2).trans rfl,(blk_cell BK435.out 3).trans rfl,(blk_cell BK435.out 4).trans rfl,(blk_cell BK435.out 5).trans rfl,(blk_cell BK435.out 6).trans rfl⟩ (fun hHeld => ?_)
    clear hK K
    refine nm_ ?_
    refine zon 5 (N := some 28) HT_ (fun K hK => ?_)
    refine zgo Tryz.func57 #[.pointer (some ⟨g431,0,none⟩),.int .i64 4] ?_
    with_reducible refine (Zd.calls k1 g431 t437 t438 4 t439 t440 t441 w _ ?side1 ?side2 A19.out).mono ?_
    (case side1 => exact zi92 HI431)
    (case side2 => exact zl_ HB)
    rintro e w24 ⟨rfl,hi,hb,hk⟩
    refine ⟨_,rfl,?_⟩
    replace HO_436006 := am_ (Kd.R_mono (Kd.R_keep (IsS92.apart (show IsS92 w _ g431 t437 t438 from (zi92 HI431)) (zr HO_436006) (by decide)) hk (fun _ h => h.2)) (fun _ h => h.1))
    replace BK430 := zkb hk BK430 NB430_431
    replace BK435 := zkb hk BK435 NB435_431
    replace HB := am_ (hb)
    replace HI431 := am_ (hi)
    try clear hb
    try clear hk
    try clear hi
    refine hK.out _ _ ⟨(blk_cell BK435.out 0).trans rfl,(blk_cell BK435.out 1).trans rfl,(blk_cell BK435.out 2).trans rfl,(blk_cell BK435.out 3).trans rfl,(blk_cell BK435.out 4).trans rfl,(blk_cell BK435.out 5).trans rfl,(blk_cell BK435.out 6).trans rfl⟩ (fun hHeld => ?_)
    clear hK K
    refine nm_ ?_
    refine zon 7 (N := some 30) HT_ (fun K hK => ?_)
    refine zgo Tryz.func58 #[.pointer (some ⟨g431,0,none⟩),.int .i64 8] ?_
    with_reducible refine (ZG.calls g431 t440 t441 8 t442 t443 t444 w _ ?side1 ?side2 A20.out).mono ?_
    (case side1 => exact zi92 HI431)
    (case side2 => exact zl_ HB)
    rintro e w25 ⟨rfl,hi,hb,hk⟩
    refine ⟨_,rfl,?_⟩
    replace HO_436006 := am_ (Kd.R_mono (Kd.R_keep (IsS92.apart (show IsS92 w _ g431 t440 t441 from (zi92 HI431)) (zr HO_436006) (by decide)) hk (fun _ h => h.2)) (fun _ h => h.1))
    replace BK430 := zkb hk BK430 NB430_431
    replace BK435 := zkb hk BK435 NB435_431
    replace HB := am_ (hb)
    replace HI431 := am_ (hi)
    try clear hb
    try clear hk
    try clear hi
    refine hK.out _ _ ⟨(blk_cell BK435.out 0).trans rfl,(blk_cell BK435.out 1).trans rfl,(blk_cell BK435.out 2).trans rfl,(blk_cell BK435.out 3).trans rfl,(blk_cell BK435.out 4).trans rfl,(blk_cell BK435.out 5).trans rfl,(blk_cell BK435.out 6).trans rfl⟩ (fun hHeld => ?_)
    clear hK K
    refine nm_ ?_
    refine pu_ 8 31 HT_ ?_
    refine zon 9 (N := some 32) HT_ (fun K hK => ?_)
    refine value_ (w1 := ?_) (v := ?_) (by rfl) rfl ?_ ?_
    rotate_left 2
    ·go_simp
     constructor
     ·rfl
     ·rfl
    refine hK.out _ _ ⟨(blk_cell (blk_alloc BK435.out _) 0).trans rfl,(blk_cell (blk_alloc BK435.out _) 1).trans rfl,(blk_cell (blk_alloc BK435.out _) 2).trans rfl,(blk_cell (blk_alloc BK435.out _) 3).trans rfl,(blk_cell (blk_alloc BK435.out _) 4).trans rfl,(blk_cell (blk_alloc BK435.out _) 5).trans rfl,(blk_cell (blk_alloc BK435.out _) 6).trans rfl⟩ (fun hHeld => ?_)
    clear hK K
    refine nm_ ?_
    refine zon 10 (N := some 33) HT_ (fun K hK => ?_)
    refine Kd.R_append_step k76 (w0 := w) w.heap.size (by rfl) (.tmp 24) (.tmp 32) 53 76 (.agg #[(.int .i64 0),(.int .i64 0),(.string ⟨#[]⟩)]) 32 rfl Tryz.underlying53 info76 rfl (by decide) (by omega) u436006 x436006_1 (⟨t436,t439,t442⟩ : S76) [.int .i64 t436,.int .i64 t439,.string t442] (fun _ => True) (fun _ => False) rfl rfl ?aP (fun _ hk => hk.elim) ?aF ?aO ?aB ?aS ?aL ?_
    (case aP => exact k76_mkM _ _ _ (⟨t436,t439,t442⟩ : S76))
    (case aB => exact (zl_ HB))
    (case aF => exact (fun _ _ => trivial))
    (case aO => exact (zr HO_436006))
    (case aS => exact (below_size (zl_ HB)))
    (case aL => have := LMc21.out;omega)
    intro v446 w26 ho hb hg hat
    rw [← Ny445.out] at ho
    replace BK430 := am_ (blk_grown (g := gb430) (o := .cells #[.bool false,.int .i64 0,.int .i64 0,.int .i64 0,.int .i64 0,.string ⟨#[]⟩,.slice none 0 0] 55 (0,0)) (zk BK430) hg (Kd.R_ne HO_436006.out BK430.out (by decide)))
    replace BK435 := am_ (blk_grown (g := gb435) (o := .cells #[.bool false,.int .i64 0,.int .i64 0,.int .i64 0,.int .i64 0,.string ⟨#[]⟩,u436006] 55 (0,0)) (zk BK435) hg (Kd.R_ne HO_436006.out BK435.out (by decide)))
    replace HI431 := am_ (IsS92.grown (zi92 HI431) hg (IsS92.own_ne HI431.out HO_436006.out (by decide)))
    replace HB := am_ (hb)
    have HO447 := am_ (ho)
    clear HO_436006
    clear ho hb hg hat
    obtain ⟨Ao27,co27,eo27⟩ := Kd.R_slice HO447.out
    (first | subst eo27 | (injection eo27 with f1_ f2_ f3_;have f4_ := f1_.symm;have f5_ := f3_.symm;clear f1_ f2_ f3_;subst f4_;subst f5_))
    refine hK.out _ _ ⟨(blk_cell BK435.out 0).trans rfl,(blk_cell BK435.out 1).trans rfl,(blk_cell BK435.out 2).trans rfl,(blk_cell BK435.out 3).trans rfl,(blk_cell BK435.out 4).trans rfl,(blk_cell BK435.out 5).trans rfl,(blk_cell BK435.out 6).trans rfl⟩ (fun hHeld => ?_)
    clear hK K
    refine nm_ ?_
    refine pu_ 11 34 HT_ ?_
    refine last_ (i := 12) (N := none) #[true,true,true,true,true,true,true,true,true,true,true,true,true] rfl rfl (one_of HT_.out (by kernel_rfl)) (by decide) (fun K hK => ?_)
    have hs28 : w26.cell? ⟨gb435,6,none⟩ = some (u436006) := (blk_cell BK435.out 6).trans rfl
    have hfs28 := blk_frozen BK435.out 6
    have hns28_0 := NB430_435.out
    have hms28_0 := NB435_430.out
    refine skip_ (w1 := ?_) (by rfl) rfl ?_ ?_
    rotate_left
    ·go_simp
     rfl
    refine hK.out _ _ ?_
    clear hK K
    refine done_ (done_of HT_.out (by kernel_rfl)) ?_
    try go_wp2
    go_roundg k1
    case measure => have := HK1.out;omega
    case rel => exact ⟨(wrap64 (x21_1 + 1)),(t443),(t444),(y445),(.slice Ao27 y445.length co27),(by first | rfl | (simp;done) | (simp [*];done)),H',⟨by have := HK1.out;omega⟩,⟨by (with_reducible repeat (first | apply r1_ | apply r2_ | apply r3_));exact Kd.R_mono (zrf (Kd.R_types HO447.out BK435.out (by decide))) (fun _ hk => trivial)⟩,⟨zq BK430⟩,⟨zq BK435⟩,⟨(zi92 HI431)⟩,⟨zl_ HB⟩⟩
   rw [if_neg c17] at H
   have c17b0 := decide_eq_false c17
   clear c17
   replace H := Option.bind_eq_some_iff.mp H
   obtain ⟨⟨t448,t449,t450,t451,t452,t453,t454⟩,A290,H⟩ := H
   try dsimp only at H
   have A29 := am_ A290
   clear A290
   by_cases c30 : (wrap64 (t432 - 1)) < 0
   ·rw [if_pos c30] at H
    have c30b0 := decide_eq_true c30
    clear c30
    simp only [Option.some.injEq,Prod.mk.injEq] at H
    obtain ⟨rfl,rfl,rfl,rfl,rfl,rfl,rfl,rfl⟩ := H
    go_wp2_with (first | ((with_reducible refine gate_callee (f := 59) rfl ?_);refine zgl (some 37) Tryz.func59 #[.pointer (some ⟨g431,0,none⟩)] ?_;(with_reducible refine (ZE.calls k1 g431 x432000_1 x432001_1 t448 t449 t450 t451 t452 t453 t454 w _ ?side1 ?side2 A29.out).mono ?_);(case side1 => exact zi92 HI431);(case side2 => exact zl_ HB);rintro e w31 ⟨rfl,hi,hb,hk⟩;refine ⟨_,rfl,?_⟩;replace HO_436006 := am_ (Kd.R_mono (Kd.R_keep (IsS92.apart (show IsS92 w _ g431 x432000_1 x432001_1 from (zi92 HI431)) (zr HO_436006) (by decide)) hk (fun _ h => h.2)) (fun _ h => h.1));replace BK430 := zkb hk BK430 NB430_431;replace BK435 := zkb hk BK435 NB435_431;replace HB := am_ (hb);replace HI431 := am_ (hi);(try clear hb);(try clear hk);(try clear hi);have hnb32 := NB435_430.out;have hnc32 := NB430_435.out;have hnb33 := NB435_431.out;have hnc33 := NB431_435.out;obtain ⟨hcz34_0,hcz34_1,hcz34_2,hcz34_3,hcz34_4,hcz34_5,hcz34_6,hfz34_0,hfz34_1,hfz34_2,hfz34_3,hfz34_4,hfz34_5,hfz34_6⟩ := zc7 BK435;have hnb35 := NB430_431.out;have hnc35 := NB431_430.out;obtain ⟨hcz36_0,hcz36_1,hcz36_2,hcz36_3,hcz36_4,hcz36_5,hcz36_6,hfz36_0,hfz36_1,hfz36_2,hfz36_3,hfz36_4,hfz36_5,hfz36_6⟩ := zc7 BK430))
    refine bodyPost_ret (results_ct rfl _ _ gb430 55 #[.bool false,.int .i64 0,.int .i64 0,.int .i64 0,.int .i64 0,.string ⟨#[]⟩,.slice none 0 0] (0,0) _ rfl (zq BK430) Tryz.underlying55 rfl (by kernel_rfl)) rfl ?_
    exact ⟨_,by first | rfl | (simp [e1_,e2_] <;> rfl) | (simp only [← hji12];first | rfl | (simp [e1_,e2_] <;> rfl)) | (simp [*,e1_,e2_] <;> rfl) | (simp [e3_,e4_];done) | (simp [*,e3_,e4_];done),by first | exact Kd.R_nil _ _ _ _ _ | exact Kd.N_nil _ _ _ _ _ | exact Kd.V_nil _ _ _ _ _ | exact Kd.Q_nil _ _ _ _ _ | exact Kd.S_nil _ _ _ _ _,zl_ HB⟩
   rw [if_neg c30] at H
   have c30b0 := decide_eq_false c30
   clear c30
   replace H := Option.bind_eq_some_iff.mp H
   obtain ⟨⟨t455,t456,t457⟩,A370,H⟩ := H
   try dsimp only at H
   have A37 := am_ A370
   clear A370
   by_cases c38 : t455 = true
   case neg =>
    replace c38 := Bool.eq_false_iff.mpr c38
    subst c38
    rw [if_neg (show ¬ (false = true) by decide)] at H
    simp only [Option.some.injEq,Prod.mk.injEq] at H
    obtain ⟨rfl,rfl,rfl,rfl,rfl,rfl,rfl,rfl⟩ := H
    go_wp2_with (first | ((with_reducible refine gate_callee (f := 59) rfl ?_);refine zgl (some 37) Tryz.func59 #[.pointer (some ⟨g431,0,none⟩)] ?_;(with_reducible refine (ZE.calls k1 g431 x432000_1 x432001_1 t448 t449 t450 t451 t452 t453 t454 w _ ?side1 ?side2 A29.out).mono ?_);(case side1 => exact zi92 HI431);(case side2 => exact zl_ HB);rintro e w62 ⟨rfl,hi,hb,hk⟩;refine ⟨_,rfl,?_⟩;replace BK430 := zkb hk BK430 NB430_431;replace BK435 := zkb hk BK435 NB435_431;replace HB := am_ (hb);replace HI431 := am_ (hi);(try clear hb);(try clear hk);(try clear hi);have hnb63 := NB435_430.out;have hnc63 := NB430_435.out;have hnb64 := NB435_431.out;have hnc64 := NB431_435.out;obtain ⟨hcz65_0,hcz65_1,hcz65_2,hcz65_3,hcz65_4,hcz65_5,hcz65_6,hfz65_0,hfz65_1,hfz65_2,hfz65_3,hfz65_4,hfz65_5,hfz65_6⟩ := zc7 BK435) | (go_at_call 60;(with_reducible refine (Yb.calls g431 t453 t454 false t456 t457 w _ ?side1 ?side2 A37.out).mono ?_);(case side1 => exact zi92 HI431);(case side2 => exact zl_ HB);rintro e w66 ⟨rfl,hi,hb,hk⟩;replace BK430 := am_ (KeepBut.blk hk (g' := gb430) (o := .cells #[.bool false,.int .i64 0,.int .i64 0,.int .i64 0,.int .i64 0,.string ⟨#[]⟩,.slice none 0 0] 55 (0,0)) (zq BK430) NB430_431.out (by simp));replace HB := am_ (hb);replace HI431 := am_ (hi);(try clear hb);(try clear hk);(try clear hi);have hnb67 := NB430_431.out;have hnc67 := NB431_430.out;obtain ⟨hcz68_0,hcz68_1,hcz68_2,hcz68_3,hcz68_4,hcz68_5,hcz68_6,hfz68_0,hfz68_1,hfz68_2,hfz68_3,hfz68_4,hfz68_5,hfz68_6⟩ := zc7 BK430))
    refine bodyPost_ret (results_ct rfl _ _ gb430 55 #[.bool false,.int .i64 0,.int .i64 0,.int .i64 0,.int .i64 0,.string ⟨#[]⟩,.slice none 0 0] (0,0) _ rfl (zq BK430) Tryz.underlying55 rfl (by kernel_rfl)) rfl ?_
    exact ⟨_,by first | rfl | (simp [e1_,e2_] <;> rfl) | (simp only [← hji12];first | rfl | (simp [e1_,e2_] <;> rfl)) | (simp [*,e1_,e2_] <;> rfl) | (simp [e3_,e4_];done) | (simp [*,e3_,e4_];done),by first | exact Kd.R_nil _ _ _ _ _ | exact Kd.N_nil _ _ _ _ _ | exact Kd.V_nil _ _ _ _ _ | exact Kd.Q_nil _ _ _ _ _ | exact Kd.S_nil _ _ _ _ _,zl_ HB⟩
   subst c38
   rw [if_pos rfl] at H
   replace H := Option.bind_eq_some_iff.mp H
   obtain ⟨t458,A390,H⟩ := H
   try dsimp only at H
   have A39 := am_ A390
   clear A390
   by_cases c40 : t458 = true
   case neg =>
    replace c40 := Bool.eq_false_iff.mpr c40
    subst c40
    rw [if_neg (show ¬ (false = true) by decide)] at H
    simp only [Option.some.injEq,Prod.mk.injEq] at H
    obtain ⟨rfl,rfl,rfl,rfl,rfl,rfl,rfl,rfl⟩ := H
    go_wp2_with (first | ((with_reducible refine gate_callee (f := 59) rfl ?_);refine zgl (some 37) Tryz.func59 #[.pointer (some ⟨g431,0,none⟩)] ?_;(with_reducible refine (ZE.calls k1 g431 x432000_1 x432001_1 t448 t449 t450 t451 t452 t453 t454 w _ ?side1 ?side2 A29.out).mono ?_);(case side1 => exact zi92 HI431);(case side2 => exact zl_ HB);rintro e w52 ⟨rfl,hi,hb,hk⟩;refine ⟨_,rfl,?_⟩;replace HO_436006 := am_ (Kd.R_mono (Kd.R_keep (IsS92.apart (show IsS92 w _ g431 x432000_1 x432001_1 from (zi92 HI431)) (zr HO_436006) (by decide)) hk (fun _ h => h.2)) (fun _ h => h.1));replace BK430 := zkb hk BK430 NB430_431;replace BK435 := zkb hk BK435 NB435_431;replace HB := am_ (hb);replace HI431 := am_ (hi);(try clear hb);(try clear hk);(try clear hi);have hnb53 := NB435_430.out;have hnc53 := NB430_435.out;have hnb54 := NB435_431.out;have hnc54 := NB431_435.out;obtain ⟨hcz55_0,hcz55_1,hcz55_2,hcz55_3,hcz55_4,hcz55_5,hcz55_6,hfz55_0,hfz55_1,hfz55_2,hfz55_3,hfz55_4,hfz55_5,hfz55_6⟩ := zc7 BK435) | (go_at_call 60;(with_reducible refine (Yb.calls g431 t453 t454 true t456 t457 w _ ?side1 ?side2 A37.out).mono ?_);(case side1 => exact zi92 HI431);(case side2 => exact zl_ HB);rintro e w56 ⟨rfl,hi,hb,hk⟩;replace HO_436006 := am_ (Kd.R_mono (Kd.R_keep (IsS92.apart (show IsS92 w _ g431 t453 t454 from (zi92 HI431)) (by (with_reducible repeat (first | apply r1_ | apply r2_ | apply r3_));exact (Kd.R_mono (zrf (Kd.R_types HO_436006.out BK435.out (by decide))) (fun _ h_ => h_.1))) (by decide)) hk (fun _ h => h.2)) (fun _ h => h.1));replace BK430 := am_ (KeepBut.blk hk (g' := gb430) (o := .cells #[.bool false,.int .i64 0,.int .i64 0,.int .i64 0,.int .i64 0,.string ⟨#[]⟩,.slice none 0 0] 55 (0,0)) (zq BK430) NB430_431.out (by simp));replace BK435 := am_ (KeepBut.blk hk (g' := gb435) (o := .cells #[.bool false,.int .i64 t448,.int .i64 t449,.int .i64 t450,.int .i64 t451,.string t452,u436006] 55 (0,0)) (zq BK435) NB435_431.out (by simp));replace HB := am_ (hb);replace HI431 := am_ (hi);(try clear hb);(try clear hk);(try clear hi);obtain ⟨hcz57_0,hcz57_1,hcz57_2,hcz57_3,hcz57_4,hcz57_5,hcz57_6,hfz57_0,hfz57_1,hfz57_2,hfz57_3,hfz57_4,hfz57_5,hfz57_6⟩ := zc7 BK435;obtain ⟨Ao58,co58,eo58⟩ := Kd.R_slice HO_436006.out;subst eo58) | (go_at_call 61;(with_reducible refine (Zj.calls k1 false t448 t449 t450 t451 t452 _ _ x436006_1 false _ ?side1 ?side2 A39.out).mono ?_);(case side1 => repeat (first | exact (Kd.R_reads' HO_436006.out).2.2 | (with_reducible refine Kd.C_alloc ?_ _) | (with_reducible refine Kd.C_drewN ?_ _) | (with_reducible refine Kd.C_drew ?_)));(case side2 => exact (Kd.R_reads' HO_436006.out).2.1);rintro e w59 ⟨rfl,hb⟩;replace BK430 := zb BK430 hb;replace HI431 := am_ (IsS92.below (zi92 HI431) hb);replace HB := zs_ HB hb;(try clear hb);have hnb60 := NB430_431.out;have hnc60 := NB431_430.out;obtain ⟨hcz61_0,hcz61_1,hcz61_2,hcz61_3,hcz61_4,hcz61_5,hcz61_6,hfz61_0,hfz61_1,hfz61_2,hfz61_3,hfz61_4,hfz61_5,hfz61_6⟩ := zc7 BK430))
    refine bodyPost_ret (results_ct rfl _ _ gb430 55 #[.bool false,.int .i64 0,.int .i64 0,.int .i64 0,.int .i64 0,.string ⟨#[]⟩,.slice none 0 0] (0,0) _ rfl (zq BK430) Tryz.underlying55 rfl (by kernel_rfl)) rfl ?_
    exact ⟨_,by first | rfl | (simp [e1_,e2_] <;> rfl) | (simp only [← hji12];first | rfl | (simp [e1_,e2_] <;> rfl)) | (simp [*,e1_,e2_] <;> rfl) | (simp [e3_,e4_];done) | (simp [*,e3_,e4_];done),by first | exact Kd.R_nil _ _ _ _ _ | exact Kd.N_nil _ _ _ _ _ | exact Kd.V_nil _ _ _ _ _ | exact Kd.Q_nil _ _ _ _ _ | exact Kd.S_nil _ _ _ _ _,zl_ HB⟩
   subst c40
   rw [if_pos rfl] at H
   simp only [Option.some.injEq,Prod.mk.injEq] at H
   obtain ⟨rfl,rfl,rfl,rfl,rfl,rfl,rfl,rfl⟩ := H
   go_wp2_with (first | ((with_reducible refine gate_callee (f := 59) rfl ?_);refine zgl (some 37) Tryz.func59 #[.pointer (some ⟨g431,0,none⟩)] ?_;(with_reducible refine (ZE.calls k1 g431 x432000_1 x432001_1 t448 t449 t450 t451 t452 t453 t454 w _ ?side1 ?side2 A29.out).mono ?_);(case side1 => exact zi92 HI431);(case side2 => exact zl_ HB);rintro e w41 ⟨rfl,hi,hb,hk⟩;refine ⟨_,rfl,?_⟩;replace HO_436006 := am_ (Kd.R_mono (Kd.R_keep (IsS92.apart (show IsS92 w _ g431 x432000_1 x432001_1 from (zi92 HI431)) (zr HO_436006) (by decide)) hk (fun _ h => h.2)) (fun _ h => h.1));replace BK430 := zkb hk BK430 NB430_431;replace BK435 := zkb hk BK435 NB435_431;replace HB := am_ (hb);replace HI431 := am_ (hi);(try clear hb);(try clear hk);(try clear hi);have hnb42 := NB435_430.out;have hnc42 := NB430_435.out;have hnb43 := NB435_431.out;have hnc43 := NB431_435.out;obtain ⟨hcz44_0,hcz44_1,hcz44_2,hcz44_3,hcz44_4,hcz44_5,hcz44_6,hfz44_0,hfz44_1,hfz44_2,hfz44_3,hfz44_4,hfz44_5,hfz44_6⟩ := zc7 BK435) | (go_at_call 60;(with_reducible refine (Yb.calls g431 t453 t454 true t456 t457 w _ ?side1 ?side2 A37.out).mono ?_);(case side1 => exact zi92 HI431);(case side2 => exact zl_ HB);rintro e w45 ⟨rfl,hi,hb,hk⟩;replace HO_436006 := am_ (Kd.R_mono (Kd.R_keep (IsS92.apart (show IsS92 w _ g431 t453 t454 from (zi92 HI431)) (by (with_reducible repeat (first | apply r1_ | apply r2_ | apply r3_));exact (Kd.R_mono (zrf (Kd.R_types HO_436006.out BK435.out (by decide))) (fun _ h_ => h_.1))) (by decide)) hk (fun _ h => h.2)) (fun _ h => h.1));replace BK430 := am_ (KeepBut.blk hk (g' := gb430) (o := .cells #[.bool false,.int .i64 0,.int .i64 0,.int .i64 0,.int .i64 0,.string ⟨#[]⟩,.slice none 0 0] 55 (0,0)) (zq BK430) NB430_431.out (by simp));replace BK435 := am_ (KeepBut.blk hk (g' := gb435) (o := .cells #[.bool false,.int .i64 t448,.int .i64 t449,.int .i64 t450,.int .i64 t451,.string t452,u436006] 55 (0,0)) (zq BK435) NB435_431.out (by simp));replace HB := am_ (hb);replace HI431 := am_ (hi);(try clear hb);(try clear hk);(try clear hi);obtain ⟨hcz46_0,hcz46_1,hcz46_2,hcz46_3,hcz46_4,hcz46_5,hcz46_6,hfz46_0,hfz46_1,hfz46_2,hfz46_3,hfz46_4,hfz46_5,hfz46_6⟩ := zc7 BK435;obtain ⟨Ao47,co47,eo47⟩ := Kd.R_slice HO_436006.out;subst eo47) | (go_at_call 61;(with_reducible refine (Zj.calls k1 false t448 t449 t450 t451 t452 _ _ x436006_1 true _ ?side1 ?side2 A39.out).mono ?_);(case side1 => repeat (first | exact (Kd.R_reads' HO_436006.out).2.2 | (with_reducible refine Kd.C_alloc ?_ _) | (with_reducible refine Kd.C_drewN ?_ _) | (with_reducible refine Kd.C_drew ?_)));(case side2 => exact (Kd.R_reads' HO_436006.out).2.1);rintro e w48 ⟨rfl,hb⟩;replace HO_436006 := zrb HO_436006 hb;replace BK430 := zb BK430 hb;replace BK435 := zb BK435 hb;replace HI431 := am_ (IsS92.below (zi92 HI431) hb);replace HB := zs_ HB hb;(try clear hb);obtain ⟨hcz49_0,hcz49_1,hcz49_2,hcz49_3,hcz49_4,hcz49_5,hcz49_6,hfz49_0,hfz49_1,hfz49_2,hfz49_3,hfz49_4,hfz49_5,hfz49_6⟩ := zc7 BK435;have hnb50 := NB430_431.out;have hnc50 := NB431_430.out;obtain ⟨hcz51_0,hcz51_1,hcz51_2,hcz51_3,hcz51_4,hcz51_5,hcz51_6,hfz51_0,hfz51_1,hfz51_2,hfz51_3,hfz51_4,hfz51_5,hfz51_6⟩ := zc7 BK430))
   refine bodyPost_ret (results_ct rfl _ _ gb430 55 #[.bool false,.int .i64 t448,.int .i64 t449,.int .i64 t450,.int .i64 t451,.string t452,.slice Ao47 x436006_1.length co47] (0,0) _ rfl (zq BK430) Tryz.underlying55 rfl (by kernel_rfl)) rfl ?_
   exact ⟨_,by first | rfl | (simp [e1_,e2_] <;> rfl) | (simp only [← hji12];first | rfl | (simp [e1_,e2_] <;> rfl)) | (simp [*,e1_,e2_] <;> rfl) | (simp [e3_,e4_];done) | (simp [*,e3_,e4_];done),by (with_reducible repeat (first | apply r1_ | apply r2_ | apply r3_));exact Kd.R_mono (zrf (Kd.R_types HO_436006.out BK430.out (by decide))) (fun _ hk => trivial),zl_ HB⟩
theorem Yo.calls (a0 : Int) (r : Bool) (w : World) (h : Yo.f a0 = some r) :
  Calls Tryz.prog 105 #[.int .i64 a0] w fun e w' => e = .returned (.bool r) ∧ Drawn0 w w' := by
 have H : (some (a0 != a0)) = some r := h
 clear h
 obtain rfl := Option.some.inj H
 go_enter Tryz.func105,Tryz.ntmps105
 go_wp2
 go_ret
 exact ⟨by first | rfl | (simp;done) | (simp [*];done),by repeat (first | exact Drawn0.refl _ | apply Drawn0.step)⟩
theorem Yu.calls (a0 : Int) (a1 : Int) (r : Bool) (w : World) (h : Yu.f a0 a1 = some r) :
  Calls Tryz.prog 93 #[.int .i64 a0,.int .i64 a1] w fun e w' => e = .returned (.bool r) ∧ Drawn0 w w' := by
 have H : ((Yo.f a0).bind fun t469 => (if t469 = true then ((Yo.f a1).bind fun t470 => (if t470 = true then (some (decide (a0 < a1))) else (some true))) else (some (decide (a0 < a1))))) = some r := h
 clear h
 replace H := Option.bind_eq_some_iff.mp H
 obtain ⟨t469,A30,H⟩ := H
 try dsimp only at H
 have A3 := am_ A30
 clear A30
 by_cases c4 : t469 = true
 case neg =>
  replace c4 := Bool.eq_false_iff.mpr c4
  subst c4
  rw [if_neg (show ¬ (false = true) by decide)] at H
  obtain rfl := Option.some.inj H
  go_enter Tryz.func93,Tryz.ntmps93
  go_wp2_with (first | ((with_reducible refine gate_callee (f := 105) rfl ?_);refine zgl (some 6) Tryz.func105 #[.int .i64 a0] ?_;(with_reducible refine (Yo.calls a0 false _ A3.out).mono ?_);rintro e w' ⟨rfl,⟨nd,rfl⟩⟩;refine ⟨_,rfl,?_⟩))
  go_ret
  exact ⟨by first | rfl | (simp;done) | (simp [*];done),by repeat (first | exact Drawn0.refl _ | apply Drawn0.step)⟩
 subst c4
 rw [if_pos rfl] at H
 replace H := Option.bind_eq_some_iff.mp H
 obtain ⟨t470,A50,H⟩ := H
 try dsimp only at H
 have A5 := am_ A50
 clear A50
 by_cases c6 : t470 = true
 ·subst c6
  rw [if_pos rfl] at H
  obtain rfl := Option.some.inj H
  go_enter Tryz.func93,Tryz.ntmps93
  go_wp2_with (first | ((with_reducible refine gate_callee (f := 105) rfl ?_);refine zgl (some 6) Tryz.func105 #[.int .i64 a0] ?_;(with_reducible refine (Yo.calls a0 true _ A3.out).mono ?_);rintro e w' ⟨rfl,⟨nd,rfl⟩⟩;refine ⟨_,rfl,?_⟩) | (go_at_call 105;(with_reducible refine (Yo.calls a1 true _ A5.out).mono ?_);rintro e w' ⟨rfl,⟨nd,rfl⟩⟩))
  go_ret
  exact ⟨by first | rfl | (simp;done) | (simp [*];done),by repeat (first | exact Drawn0.refl _ | apply Drawn0.step)⟩
 replace c6 := Bool.eq_false_iff.mpr c6
 subst c6
 rw [if_neg (show ¬ (false = true) by decide)] at H
 obtain rfl := Option.some.inj H
 go_enter Tryz.func93,Tryz.ntmps93
 go_wp2_with (first | ((with_reducible refine gate_callee (f := 105) rfl ?_);refine zgl (some 6) Tryz.func105 #[.int .i64 a0] ?_;(with_reducible refine (Yo.calls a0 true _ A3.out).mono ?_);rintro e w' ⟨rfl,⟨nd,rfl⟩⟩;refine ⟨_,rfl,?_⟩) | (go_at_call 105;(with_reducible refine (Yo.calls a1 false _ A5.out).mono ?_);rintro e w' ⟨rfl,⟨nd,rfl⟩⟩))
 go_ret
 exact ⟨by first | rfl | (simp;done) | (simp [*];done),by repeat (first | exact Drawn0.refl _ | apply Drawn0.step)⟩
def Za.T4 : Bool × List (List Nat × List Nat) := (true,[([],[]),([],[]),([0,1],[0,1]),([2],[2]),([3],[3]),([3],[3]),([4,5,3],[3,4,5]),([6,3],[3,6]),([3],[3]),([3],[3]),([9,3],[3,9]),([8,10,3],[3,8,10]),([11,3],[3,11]),([7,12,3,3],[3,7,12]),([3,13],[3,13])])
def Za.B4 : List Nat := [0,0,3,7,15,15,63,127,15,15,527,1807,3855,8191,16383]
theorem Za.tab4 : rtab .any (opsOf Tryz.f87 4) = Za.T4 := by kernel_rfl
theorem Za.bits4 : waitsOk Za.T4.2 Za.B4 = true := by kernel_rfl
def Za.T6 : Bool × List (List Nat × List Nat) := (true,[([],[]),([],[]),([],[]),([],[]),([3],[3]),([],[]),([],[]),([6],[6]),([5,7],[5,7]),([8],[8]),([],[]),([],[]),([10,11],[10,11]),([12],[12]),([0,1,0,1,5,6,7,8,9,13],[0,1]),([14,9,0,1,5,6,7,8,9,13],[9,14]),([2,4,0,1,2,3,4,5,6,7,8,9,10,11,12,13,14,15],[2,4]),([16,13,15,0,1,2,3,4,5,6,7,8,9,10,11,12,13,14,15],[13,16])])
def Za.B6 : List Nat := [0,0,0,0,8,0,0,64,224,480,0,0,3072,7168,16355,32739,65535,131071]
theorem Za.tab6 : rtab .any (opsOf Tryz.f87 6) = Za.T6 := by kernel_rfl
theorem Za.bits6 : waitsOk Za.T6.2 Za.B6 = true := by kernel_rfl
theorem Za.calls (k : Nat) (P0_ : Nat → Prop) (u9000_ : Value) (l0 : List Int) (a1 : Int) (a2 : Int) (r : List Int) (w0 w : World) (hB : Below w0.heap.size w0 w) (ho0 : Kd.R (Kd.int .i64) 3 w w0.heap.size P0_ u9000_ l0) (h : Za.f k l0 a1 a2 = some r) :
  Calls Tryz.prog 87 #[u9000_,.int .i64 a1,.int .i64 a2] w fun e w' => e = .returned (.tuple #[]) ∧ Kd.R (Kd.int .i64) 3 w' w0.heap.size (fun k_ => (P0_ k_ ∨ w.heap.size ≤ k_)) u9000_ r ∧ Below w0.heap.size w0 w' ∧ Kept w w' (fun k_ => P0_ k_) := by
 have HO0 := am_ (show Kd.R (Kd.int .i64) 3 w w0.heap.size (fun k_ => (P0_ k_ ∨ w.heap.size ≤ k_)) u9000_ l0 from Kd.R_mono ho0 (fun k_ hk => (.inl hk)))
 have HK := am_ (Kept.refl w (fun k_ => P0_ k_))
 have HW0 := am_ hB.size
 have HB := am_ hB
 clear hB
 have H : (Za.l0 k l0 a1 a2 (wrap64 (a1 + 1))) = some r := h
 clear h
 have H' := am_ H
 clear H
 go_enter Tryz.func87,Tryz.ntmps87
 go_wp2
 go_loopg [6] k (fun kq v6 w' => ∃ (x0_1 : List Int) (x6_1 : Int),v6 = .int .i64 x6_1 ∧ Aside0 (Za.l0 kq x0_1 a1 a2 x6_1 = some r) ∧ Aside0 (kq ≤ k) ∧ Aside0 (Kd.R (Kd.int .i64) 3 w' w0.heap.size (fun k_ => (P0_ k_ ∨ w.heap.size ≤ k_)) u9000_ x0_1) ∧ Aside0 (Kept w w' (fun k_ => P0_ k_)) ∧ Aside0 (Below w0.heap.size w0 w'))
 case atStart => exact ⟨(l0),(wrap64 (a1 + 1)),(by first | rfl | (simp;done) | (simp [*];done)),H',⟨Nat.le_refl _⟩,⟨zr HO0⟩,⟨by repeat (first | (with_reducible first | exact HK.out | apply Kept.alloc | apply Kept.drewN | apply Kept.drew) | exact HK.out)⟩,⟨zl_ HB⟩⟩
 case round =>
  clear H'
  try clear p2
  obtain ⟨x0_1,x6_1,rfl,HA,HK1,HO_0,HK,HB⟩ := hrel
  cases gk with
  | zero => exact absurd HA.out (by simp [Za.l0])
  | succ k1 =>
   have H := HA.out
   clear HA
   simp only [Za.l0] at H
   by_cases c4 : x6_1 < a2
   case neg =>
    rw [if_neg c4] at H
    have c4b0 := decide_eq_false c4
    clear c4
    obtain rfl := Option.some.inj H
    go_wp2
    first | go_end0 | ((try simp only [Exit.inBlock,Exit.then]);refine bodyPost_ret (results_none rfl _ _ _) rfl ?_)
    exact ⟨zt_,zr HO_0,zl_ HB,by repeat (first | (with_reducible first | exact HK.out | apply Kept.alloc | apply Kept.drewN | apply Kept.drew) | exact HK.out)⟩
   rw [if_pos c4] at H
   have c4b0 := decide_eq_true c4
   clear c4
   have H' := am_ H
   clear H
   go_wp2
   go_loopg [7] k1 (fun kq v7 w' => ∃ (x0_2 : List Int) (x7_2 : Int),v7 = .int .i64 x7_2 ∧ Aside0 (Za.l1 kq x0_2 a1 a2 x6_1 x7_2 = some r) ∧ Aside0 (kq ≤ k1) ∧ Aside0 (Kd.R (Kd.int .i64) 3 w' w0.heap.size (fun k_ => (P0_ k_ ∨ w.heap.size ≤ k_)) u9000_ x0_2) ∧ Aside0 (Kept w w' (fun k_ => P0_ k_)) ∧ Aside0 (Below w0.heap.size w0 w'))
   case atStart => exact ⟨(x0_1),(x6_1),(by first | rfl | (simp;done) | (simp [*];done)),H',⟨Nat.le_refl _⟩,⟨zr HO_0⟩,⟨by repeat (first | (with_reducible first | exact HK.out | apply Kept.alloc | apply Kept.drewN | apply Kept.drew) | exact HK.out)⟩,⟨zl_ HB⟩⟩
   case round =>
    clear H'
    try clear p2
    try clear c4
    try clear c4b0
    try clear p2
    obtain ⟨x0_2,x7_2,rfl,HA,HK2,HO_0,HK,HB⟩ := hrel
    cases gk with
    | zero => exact absurd HA.out (by simp [Za.l1])
    | succ k2 =>
     have H := HA.out
     clear HA
     simp only [Za.l1] at H
     by_cases c5 : x7_2 > a1
     case neg =>
      rw [if_neg c5] at H
      have c5b0 : decide (a1 < x7_2) = false := decide_eq_false c5
      clear c5
      have H' := am_ H
      clear H
      try go_wp2
      replace HO_0 := am_ (Kd.R_drew HO_0.out)
      replace HK := am_ (Kept.drew HK.out)
      replace HB := am_ (below_drew1 HB.out)
      refine start_ (n := 15) (S := fun w' => True) (ds := []) #[false,false,false,false,false,false,false,false,false,false,false,false,false,false,false] (by kernel_rfl) rfl rfl trivial (fun hHeld => ?_);refine with_tabW Za.tab4 Za.bits4 (fun HT_ HW_ => ?_)
      generalize wr.drew = w22 at HO_0 HK HB hHeld ⊢
      refine pu_ 0 16 HT_ ?_
      refine pu_ 1 17 HT_ ?_
      refine pu_ 2 18 HT_ ?_
      refine pu_ 3 19 HT_ ?_
      refine px_ 4 20 HT_ ?_
      refine px_ 5 21 HT_ ?_
      refine px_ 6 22 HT_ ?_
      refine px_ 7 23 HT_ ?_
      refine px_ 8 24 HT_ ?_
      refine px_ 9 25 HT_ ?_
      refine px_ 10 26 HT_ ?_
      refine px_ 11 27 HT_ ?_
      refine px_ 12 28 HT_ ?_
      refine px_ 13 29 HT_ ?_
      refine pu_ 14 30 HT_ ?_
      refine done_ (done_of HT_.out (by kernel_rfl)) ?_
      try go_wp2
      go_roundg k2
      case measure => have := HK1.out;have := HK2.out;omega
      case rel => exact ⟨(x0_2),(wrap64 (x6_1 + 1)),(by first | rfl | (simp;done) | (simp [*];done)),H',⟨by have := HK1.out;have := HK2.out;omega⟩,⟨zr HO_0⟩,⟨by repeat (first | (with_reducible first | exact HK.out | apply Kept.alloc | apply Kept.drewN | apply Kept.drew) | exact HK.out)⟩,⟨zl_ HB⟩⟩
     rw [if_pos c5] at H
     have c5b0 : decide (a1 < x7_2) = true := decide_eq_true c5
     clear c5
     by_cases c6 : 0 ≤ x7_2
     case neg =>
      rw [if_neg c6] at H
      exact absurd H (by simp)
     rw [if_pos c6] at H
     have c6b0 := decide_eq_true c6
     clear c6
     by_cases c7 : x7_2 < (x0_2.length : Int)
     case neg =>
      rw [if_neg c7] at H
      exact absurd H (by simp)
     rw [if_pos c7] at H
     have c7b0 := decide_eq_true c7
     clear c7
     obtain ⟨ji8,hji8⟩ : ∃ j_ : Int,(wrap64 (x7_2 - 1)) = j_ := ⟨_,rfl⟩
     replace H : (if 0 ≤ (ji8) then (if (ji8) < (x0_2.length : Int) then ((Yu.f (rd x0_2 x7_2) (rd x0_2 (ji8))).bind fun t473 => (if t473 = true then (Za.l1 k2 ((x0_2.set (x7_2 : Int).toNat (rd x0_2 (ji8))).set ((ji8) : Int).toNat (rd x0_2 x7_2)) a1 a2 x6_1 ji8) else (Za.l0 k2 x0_2 a1 a2 (wrap64 (x6_1 + 1))))) else (none)) else (none)) = some r := by first | (rw [hji8] at H;exact H) | (simp only [hji8] at H ⊢;exact H)
     have hji8w : (IntKind.i64.wrap (x7_2 - 1)) = ji8 := (i64_w _).trans hji8
     by_cases c9 : 0 ≤ (ji8)
     case neg =>
      rw [if_neg c9] at H
      exact absurd H (by simp)
     rw [if_pos c9] at H
     have c9b0 := decide_eq_true c9
     clear c9
     by_cases c10 : (ji8) < (x0_2.length : Int)
     case neg =>
      rw [if_neg c10] at H
      exact absurd H (by simp)
     rw [if_pos c10] at H
     have c10b0 := decide_eq_true c10
     clear c10
     replace H := Option.bind_eq_some_iff.mp H
     obtain ⟨t473,A110,H⟩ := H
     try dsimp only at H
     have A11 := am_ A110
     clear A110
     try go_wp2
     replace HO_0 := am_ (Kd.R_drew HO_0.out)
     replace HK := am_ (Kept.drew HK.out)
     replace HB := am_ (below_drew1 HB.out)
     obtain ⟨Ao16,co16,eo16⟩ := Kd.R_slice HO_0.out
     (first | subst eo16 | (injection eo16 with f1_ f2_ f3_;have f4_ := f1_.symm;have f5_ := f3_.symm;clear f1_ f2_ f3_;subst f4_;subst f5_))
     have p471 : 0 ≤ (x7_2 : Int) := zo_
     have q471 : x7_2 < (x0_2.length : Int) := zo_
     obtain ⟨ad471,e471,hx471_0⟩ := Kd.at_int (Kd.R_reads' HO_0.out).2.2 x7_2 p471 q471
     cases e471
     replace p471 := eq_true p471
     replace q471 := eq_true q471
     have p472 : 0 ≤ ((ji8) : Int) := zo_
     have q472 : (ji8) < (x0_2.length : Int) := zo_
     obtain ⟨ad472,e472,hx472_0⟩ := Kd.at_int (Kd.R_reads' HO_0.out).2.2 (ji8) p472 q472
     obtain rfl : ad471 = ad472 := (by injection e472)
     replace p472 := eq_true p472
     replace q472 := eq_true q472
     refine start_ (n := 15) (S := fun w' => w'.cell? (ad471.add (x7_2).toNat) = some (.int .i64 (rd x0_2 x7_2)) ∧ w'.cell? (ad471.add ((ji8)).toNat) = some (.int .i64 (rd x0_2 (ji8)))) (ds := []) #[false,false,false,false,false,false,false,false,false,false,false,false,false,false,false] (by kernel_rfl) rfl rfl ⟨hx471_0,hx472_0⟩ (fun hHeld => ?_);refine with_tabW Za.tab4 Za.bits4 (fun HT_ HW_ => ?_)
     generalize wr.drew = w15 at HO_0 HK HB hx471_0 hx472_0 hHeld ⊢
     refine pu_ 0 16 HT_ ?_
     refine pu_ 1 17 HT_ ?_
     refine pu_ 2 18 HT_ ?_
     refine pu_ 3 19 HT_ ?_
     refine pu_ 4 20 HT_ ?_
     refine pu_ 5 21 HT_ ?_
     refine pu_ 6 22 HT_ ?_
     refine pu_ 8 24 HT_ ?_
     refine pu_ 9 25 HT_ ?_
     refine pu_ 10 26 HT_ ?_
     refine pu_ 11 27 HT_ ?_
     refine tk_ 7 23 HT_ HW_ hHeld ?_
     refine tk_ 12 28 HT_ HW_ hHeld ?_
     refine zon 13 (N := some 29) HT_ (fun K hK => ?_)
     refine goes_ Tryz.func93 (by kernel_rfl) rfl #[.int .i64 (rd x0_2 x7_2),.int .i64 (rd x0_2 (ji8))] (by rfl) rfl rfl (by (try simp only [m1_,m2_,m3_]);first | done | (simp only [hji8];rfl) | rfl | (simp only [d1_,d2_];rfl)) ?_
     with_reducible refine (Yu.calls (rd x0_2 x7_2) (rd x0_2 (ji8)) t473 _ A11.out).mono ?_
     rintro e w' ⟨rfl,⟨nd,rfl⟩⟩
     refine ⟨_,rfl,?_⟩
     refine hK.out _ _ ⟨hHeld.1,hHeld.2⟩ (fun hHeld => ?_)
     clear hK K
     refine nm_ ?_
     by_cases c12 : t473 = true
     case neg =>
      replace c12 := Bool.eq_false_iff.mpr c12
      subst c12
      rw [if_neg (show ¬ (false = true) by decide)] at H
      have H' := am_ H
      clear H
      refine pu_ 14 30 HT_ ?_
      refine done_ (done_of HT_.out (by kernel_rfl)) ?_
      try go_wp2
      go_roundg k2
      case measure => have := HK1.out;have := HK2.out;omega
      case rel => exact ⟨(x0_2),(wrap64 (x6_1 + 1)),(by first | rfl | (simp;done) | (simp [*];done)),H',⟨by have := HK1.out;have := HK2.out;omega⟩,⟨zr HO_0⟩,⟨by repeat (first | (with_reducible first | exact HK.out | apply Kept.alloc | apply Kept.drewN | apply Kept.drew) | exact HK.out)⟩,⟨zl_ HB⟩⟩
     subst c12
     rw [if_pos rfl] at H
     obtain ⟨y476,hy476⟩ : ∃ y_ : List Int,y_ = (x0_2.set (x7_2 : Int).toNat (rd x0_2 (ji8))) := ⟨_,rfl⟩
     replace H : (Za.l1 k2 (y476.set ((ji8) : Int).toNat (rd x0_2 x7_2)) a1 a2 x6_1 ji8) = some r := by first | (rw [hy476];with_reducible exact H) | (have H2_ := (Option.bind_some _ _).symm.trans H;rw [hy476];with_reducible exact H2_) | (have H2_ := (Option.bind_some _ _).symm.trans H;with_reducible exact H2_) | with_reducible exact H | (rw [hy476];exact H) | exact H
     have Ny476 := am_ hy476
     clear hy476
     obtain ⟨y477,hy477⟩ : ∃ y_ : List Int,y_ = (y476.set ((ji8) : Int).toNat (rd x0_2 x7_2)) := ⟨_,rfl⟩
     replace H : (Za.l1 k2 y477 a1 a2 x6_1 ji8) = some r := by first | (rw [hy477];with_reducible exact H) | (have H2_ := (Option.bind_some _ _).symm.trans H;rw [hy477];with_reducible exact H2_) | (have H2_ := (Option.bind_some _ _).symm.trans H;with_reducible exact H2_) | with_reducible exact H | (rw [hy477];exact H) | exact H
     have Ny477 := am_ hy477
     clear hy477
     have H' := am_ H
     clear H
     refine pu_ 14 30 HT_ ?_
     refine done_ (done_of HT_.out (by kernel_rfl)) ?_
     try go_wp2
     (try (rw [drewN_self w15];generalize hq_ : World.drewN w15 _ = w15;have n0_ : Aside0 (Kd.R (Kd.int .i64) 3 w15 w0.heap.size (fun k_ => (P0_ k_ ∨ w.heap.size ≤ k_)) (.slice (some ad471) x0_2.length co16) x0_2) := ⟨by rw [← hq_];exact (zr HO_0)⟩;have n1_ : Aside0 (Kept w w15 (fun k_ => P0_ k_)) := ⟨by rw [← hq_];exact (by repeat (first | (with_reducible first | exact HK.out | apply Kept.alloc | apply Kept.drewN | apply Kept.drew) | exact HK.out))⟩;have n2_ : Aside0 (Below w0.heap.size w0 w15) := ⟨by rw [← hq_];exact (zl_ HB)⟩;clear HO_0 HK HB hq_;have HO_0 := n0_;have HK := n1_;have HB := n2_;clear n0_ n1_ n2_))
     replace HO_0 := am_ (Kd.R_drew HO_0.out)
     replace HK := am_ (Kept.drew HK.out)
     replace HB := am_ (below_drew1 HB.out)
     have p474 : 0 ≤ ((ji8) : Int) := zo_
     have q474 : (ji8) < (x0_2.length : Int) := zo_
     obtain ⟨ad474,e474,hx474_0⟩ := Kd.at_int (Kd.R_reads' HO_0.out).2.2 (ji8) p474 q474
     obtain rfl : ad471 = ad474 := (by injection e474)
     replace p474 := eq_true p474
     replace q474 := eq_true q474
     have p475 : 0 ≤ (x7_2 : Int) := zo_
     have q475 : x7_2 < (x0_2.length : Int) := zo_
     obtain ⟨ad475,e475,hx475_0⟩ := Kd.at_int (Kd.R_reads' HO_0.out).2.2 x7_2 p475 q475
     obtain rfl : ad471 = ad475 := (by injection e475)
     replace p475 := eq_true p475
     replace q475 := eq_true q475
     have p13 : 0 ≤ (x7_2 : Int) := zo_
     have q13 : (x7_2 : Int) < ((x0_2.length : Int) : Int) := zo_
     obtain ⟨go13,co13,eo13,gb13,gl13,cl13,HG13⟩ := Kd.R_form HO_0.out (by omega)
     (first | cases eo13 | (injection eo13 with ea_ en_ ec_;(first | subst ea_ | (injection ea_ with ea_;subst ea_));subst ec_;clear en_))
     have GB13 := am_ gb13
     have GG13 := am_ HG13
     clear gb13 gl13 HG13
     have HMgo13 := am_ (show (P0_ go13 ∨ w.heap.size ≤ go13) from (HO_0.out.1 _ rfl))
     (first | simp only [add_plain] at hx471_0 | skip)
     (first | simp only [add_plain] at hx472_0 | skip)
     (first | simp only [add_plain] at hx474_0 | skip)
     (first | simp only [add_plain] at hx475_0 | skip)
     obtain ⟨hx13_0,hf13_0⟩ := Kd.R_celln 0 HO_0.out (x7_2 : Int) p13 q13
     replace p13 := eq_true p13
     replace q13 := eq_true q13
     have HP18 := Kd.R_putn HO_0.out (x7_2 : Int) (rd x0_2 (ji8))
     rw [← Ny476.out] at HP18
     have HQ18 := am_ HP18
     clear HP18
     have p14 : 0 ≤ ((ji8) : Int) := zo_
     have q14 : ((ji8) : Int) < ((x0_2.length : Int) : Int) := zo_
     obtain ⟨hx14_0,hf14_0⟩ := Kd.R_celln 0 HQ18.out ((ji8) : Int) p14 q14
     replace p14 := eq_true p14
     replace q14 := eq_true q14
     have HP19 := Kd.R_putn HQ18.out ((ji8) : Int) (rd x0_2 x7_2)
     rw [← Ny477.out] at HP19
     have HQ19 := am_ HP19
     clear HP19
     refine start_ (n := 18) (S := fun w' => w'.cell? ⟨go13,((ji8)).toNat,none⟩ = some (.int .i64 (rd x0_2 (ji8))) ∧ w'.cell? ⟨go13,(x7_2).toNat,none⟩ = some (.int .i64 (rd x0_2 x7_2))) (ds := [15,17]) #[false,false,false,false,false,false,false,false,false,false,false,false,false,false,false,false,false,false] (by kernel_rfl) rfl rfl ⟨hx474_0,hx475_0⟩ (fun hHeld => ?_);refine with_tabW Za.tab6 Za.bits6 (fun HT_ HW_ => ?_)
     generalize w15.drew = w17 at HO_0 HK HB GG13 HQ18 HQ19 hf13_0 hf14_0 hx13_0 hx14_0 hx471_0 hx472_0 hx474_0 hx475_0 hHeld ⊢
     refine pu_ 0 33 HT_ ?_
     refine pu_ 1 34 HT_ ?_
     refine pu_ 2 35 HT_ ?_
     refine pu_ 3 36 HT_ ?_
     refine pu_ 4 37 HT_ ?_
     refine pu_ 5 38 HT_ ?_
     refine pu_ 6 39 HT_ ?_
     refine pu_ 7 40 HT_ ?_
     refine pu_ 8 41 HT_ ?_
     refine pu_ 10 43 HT_ ?_
     refine pu_ 11 44 HT_ ?_
     refine pu_ 12 45 HT_ ?_
     refine tk_ 9 42 HT_ HW_ hHeld ?_
     refine tk_ 13 46 HT_ HW_ hHeld ?_
     refine pu_ 14 47 HT_ ?_
     refine last_ (i := 15) (N := none) #[true,true,true,true,true,true,true,true,true,true,true,true,true,true,true,true,false,false] rfl rfl (one_of HT_.out (by kernel_rfl)) (by decide) (fun K hK => ?_)
     refine skip_ (w1 := ?_) (by rfl) rfl ?_ ?_
     rotate_left
     ·go_simp
      rfl
     refine hK.out _ _ ?_
     clear hK K
     refine pu_ 16 48 HT_ ?_
     refine last_ (i := 17) (N := none) #[true,true,true,true,true,true,true,true,true,true,true,true,true,true,true,true,true,true] rfl rfl (one_of HT_.out (by kernel_rfl)) (by decide) (fun K hK => ?_)
     refine skip_ (w1 := ?_) (by rfl) rfl ?_ ?_
     rotate_left
     ·go_simp
      rfl
     refine hK.out _ _ ?_
     clear hK K
     refine done_ (done_of HT_.out (by kernel_rfl)) ?_
     try go_wp2
     go_roundg k2
     case measure => have := HK1.out;have := HK2.out;omega
     case rel => exact ⟨(y477),(ji8),(by first | rfl | (simp;done) | (simp only [← hji8] <;> (first | rfl | simp)) | (simp [*];done)),H',⟨by have := HK1.out;have := HK2.out;omega⟩,⟨by (with_reducible repeat (first | apply r1_ | apply r2_ | apply r3_));exact HQ19.out⟩,⟨by repeat (first | (with_reducible first | exact HK.out | apply Kept.alloc | apply Kept.drewN | apply Kept.drew | refine Kept.setCell ?_ HMgo13.out _ | refine Kept.setCell ?_ HMgo13.out _) | exact HK.out)⟩,⟨by repeat (first | (with_reducible first | exact HB.out | apply b1_ | apply b2_ | apply b3_ | refine below_set ?_ GB13.out | refine below_set ?_ GB13.out) | exact HB.out)⟩⟩
end Go.Proofs.YtbhegbhdenngbaaGreatDoor.A
end

section
namespace Go.Proofs.YtbhegbhdenngbaaGreatDoor.A
open Go Go.RowKit Go.Shelf Go.Proofs.YtbhegbhdenngbaaGreatDoorW.PrintWords
attribute [local go_sem] Oper.semAt_some
def upto {α : Type} (f : Nat → α) (k : Nat) : List α := (List.range k).map f
theorem add_block (ad : Addr) (j : Nat) : (ad.add j).block = ad.block := by unfold Addr.add;split <;> rfl
theorem upto_succ {α : Type} (f : Nat → α) (k : Nat) : upto f (k + 1) = upto f k ++ [f k] := by simp [upto,List.range_succ]
theorem upto_length {α : Type} (f : Nat → α) (k : Nat) : (upto f k).length = k := by simp [upto]
theorem upto_all (zs : List Int) : upto (fun j => zs[j]?.getD 0) zs.length = zs := by
 apply List.ext_getElem
 ·simp [upto]
 ·intro i h1 h2
  simp [upto,h2]
set_option maxRecDepth 100000 in
set_option maxHeartbeats 2000000 in
theorem vals1 (F : Fence) (n : Nat) (h7 : F.fn 79) (hro : F.round = none) (hn : 1 ≤ n) (l Bs n₀ len cap : Nat) (ad : Addr) (zs : List Int) (hreach : len * 8 ≤ 140737488351232) (hb : ad.block < n₀) (J Jx : List Int → World → Prop)
  (hY : ∀ pre x W,J pre W → pre.length < len → YieldAt F (n - 1) Tryz.prog l #[.int .i64 x] W fun e W' =>
   (e = .returned (.bool true) ∧ J (pre ++ [x]) W' ∧ Below n₀ W W') ∨ (e = .returned (.bool false) ∧ Jx (pre ++ [x]) W'))
  (W : World) (hBs : W.cell? ⟨Bs,0,none⟩ = some (.slice (some ad) len cap)) (hc : ∀ j,j < len → W.cell? (ad.add j) = some (.int .i64 (zs[j]?.getD 0))) (h0 : J [] W) :
  CallsIn F n Tryz.prog 79 #[.func (.yield l) #[] #[],.pointer (some ⟨Bs,0,none⟩)] W fun e W' => (∃ v,e = .returned v) ∧
   ((∃ ys,ys = upto (fun j => zs[j]?.getD 0) len ∧ J ys W') ∨ (∃ pre,(∃ k,k ≤ len ∧ pre = upto (fun j => zs[j]?.getD 0) k) ∧ Jx pre W')) := by
 refine callsIn_of_wp Tryz.func79 rfl h7 ?_ hro
 simp only [Tryz.ntmps79,List.size_toArray,List.length_cons,List.length_nil,Nat.reduceAdd,Nat.reduceSub,Array.replicate_succ,Array.replicate_zero,List.push_toArray,List.append_toArray,List.nil_append,List.cons_append]
 gi_wp2
 gi_loopw [7] (fun i wr => ∃ k : Nat,k ≤ len ∧ i = .int .i64 k ∧ J (upto (fun j => zs[j]?.getD 0) k) wr ∧ Below n₀ W wr)
  (fun i _ => len - (intOf i).toNat)
 case atStart => exact ⟨0,Nat.zero_le _,rfl,h0,Below.refl _ _⟩
 case round =>
  obtain ⟨k,hk,rfl,hJs,hnx⟩ := hrel
  have hcx : k < len → wr.cell? (ad.add k) = some (.int .i64 (zs[k]?.getD 0)) := fun h => (hnx.cell (p := ad.add k) (by rw [add_block];exact hb)).trans (hc k h)
  by_cases hlt : k < len
  ·obtain ⟨fn,tmps,assign,body,hy,hR⟩ := hY _ (zs[k]?.getD 0) wr hJs (by rw [upto_length];exact hlt)
   have hcx' := hcx hlt
   gi_wp2
   refine hR.mono ?_
   rintro e W3 (⟨rfl,hJ3,hk3⟩ | ⟨rfl,hJx3⟩)
   ·gi_wp2
    go_roundw
    case rel => exact ⟨k + 1,by omega,by simp,by rw [upto_succ];exact hJ3,hnx.trans hk3⟩
    case measure => simp [intOf];omega
   ·gi_wp2
    refine bodyPost_ret (results_none rfl _ _ _) rfl ?_
    exact ⟨⟨_,rfl⟩,.inr ⟨_,⟨k + 1,by omega,(upto_succ _ _).symm⟩,hJx3⟩⟩
  ·obtain rfl : k = len := by omega
   gi_wp2
   go_end0
   exact ⟨⟨_,rfl⟩,.inl ⟨_,rfl,hJs⟩⟩
set_option maxHeartbeats 1000000 in
theorem vals_in (F : Fence) (n : Nat) (h5 : F.fn 73) (hro : F.round = none) (a : Option Addr) (len cap : Nat) (w : World) :
  CallsIn F n Tryz.prog 73 #[.slice a len cap] w fun e w' => e = .returned (.func (.func 79) #[] #[.pointer (some ⟨w.heap.size,0,none⟩)]) ∧ w' = w.alloc (.cells #[.slice a len cap] 80) := by
 refine callsIn_of_wp Tryz.func73 rfl h5 ?_ hro
 simp only [Tryz.ntmps73,List.size_toArray,List.length_cons,List.length_nil,Nat.reduceAdd,Nat.reduceSub,Array.replicate_succ,Array.replicate_zero,List.push_toArray,List.append_toArray,List.nil_append,List.cons_append]
 gi_wp2
 go_ret
 exact ⟨rfl,rfl⟩
theorem vals_stops (F : Fence) (n : Nat) (h7 : F.fn 79) (hro : F.round = none) (hn : 1 ≤ n) (Bs n₀ cap : Nat) (ad : Addr) (zs : List Int) (hreach : zs.length * 8 ≤ 140737488351232) (w : World) (hBs : Bs < w.heap.size) (hn₀ : n₀ ≤ w.heap.size)
  (hc : w.cell? ⟨Bs,0,none⟩ = some (.slice (some ad) zs.length cap)) (hb : ad.block < n₀) (hcs : ∀ j,j < zs.length → w.cell? (ad.add j) = some (.int .i64 (zs[j]?.getD 0))) :
  SeqStopsK F n Tryz.prog 79 #[.pointer (some ⟨Bs,0,none⟩)] (fun x : Int => #[Value.int .i64 x]) (Below n₀) (fun ys => ys = zs) (fun _ => True) zs.length w := fun l J Jx W hW _ _ hY h0 => by
 have hc' := (hW.cell (p := ⟨Bs,0,none⟩) hBs).trans hc
 have hcs' : ∀ j,j < zs.length → W.cell? (ad.add j) = some (.int .i64 (zs[j]?.getD 0)) := fun j hj => (hW.cell (p := ad.add j) (by rw [add_block];exact Nat.lt_of_lt_of_le hb hn₀)).trans (hcs j hj)
 refine (vals1 F n h7 hro hn l Bs n₀ zs.length cap ad zs hreach hb J Jx hY W hc' hcs' h0).mono ?_
 rintro e W' ⟨he,⟨ys,rfl,hJ⟩ | ⟨pre,_,hJ⟩⟩
 ·exact ⟨he,.inl ⟨_,upto_all zs,hJ⟩⟩
 ·exact ⟨he,.inr ⟨pre,trivial,hJ⟩⟩
theorem med_info : (Tryz.prog.info? 3).map (fun i => (i.zero,i.size,i.bytes)) = some (some (.int .i64 0),1,8) := by kernel_rfl
set_option maxRecDepth 100000 in
set_option maxHeartbeats 2000000 in
theorem aps_in (F : Fence) (n : Nat) (h3 : F.fn 82) (h5 : F.fn 79) (hro : F.round = none) (hn : 3 ≤ n) (Bv cap n₀ : Nat) (ad : Addr) (xs : List Int) (hlen : xs.length ≤ 1000000) (w : World) (hBv : Bv < w.heap.size) (hn₀ : n₀ ≤ w.heap.size)
  (hcv : w.cell? ⟨Bv,0,none⟩ = some (.slice (some ad) xs.length cap)) (hb : ad.block < n₀) (hcs : ∀ j,j < xs.length → w.cell? (ad.add j) = some (.int .i64 (xs[j]?.getD 0))) :
  CallsIn F n Tryz.prog 82 #[.slice none 0 0,.func (.func 79) #[] #[.pointer (some ⟨Bv,0,none⟩)]] w fun e W' => ∃ v,e = .returned v ∧ W'.ownsRow w.heap.size 3 1 v xs.length (xs.map (Value.int .i64)) ∧ Below w.heap.size w W' := by
 have h1 : 1 ≤ n := by omega
 obtain ⟨i0,hi,hz0,hz1,hz2⟩ := info_parts med_info
 refine callsIn_of_wp_marks Tryz.func82 rfl h3 ?_ hro
 simp only [Tryz.ntmps82,List.size_toArray,List.length_cons,List.length_nil,Nat.reduceAdd,Nat.reduceSub,Array.replicate_succ,Array.replicate_zero,List.push_toArray,List.append_toArray,List.nil_append,List.cons_append]
 gi_wp2
 have bO := Boxed.new w 80 (.slice none 0 0)
 have hB0 : Below w.heap.size w (w.alloc (.cells #[.slice none 0 0] 80)) := (Below.refl _ w).alloc (Nat.le_refl _) _
 have hcv0 := (hB0.cell (p := ⟨Bv,0,none⟩) hBv).trans hcv
 have hcs0 : ∀ j,j < xs.length → (w.alloc (.cells #[.slice none 0 0] 80)).cell? (ad.add j) = some (.int .i64 (xs[j]?.getD 0)) := fun j hj => (hB0.cell (p := ad.add j) (by rw [add_block];exact Nat.lt_of_lt_of_le hb hn₀)).trans (hcs j hj)
 refine wpIn_rangeFunc_ownG hro h1 (gf := 79) (lb := #[.pointer (some ⟨Bv,0,none⟩)]) rfl h5 (enters_of Tryz.func79 (by kernel_rfl) rfl)
  (vals_stops F (n - 1) h5 hro (by omega) Bv w.heap.size cap ad xs (by omega) _ (by simp;omega) (by simp) hcv0 (Nat.lt_of_lt_of_le hb hn₀) hcs0) belowK_t (belowK_b (by simp)) (Below.refl _ _) (fun _ => rfl)
  (fun pre W => (∃ v,Boxed W w.heap.size 80 v ∧ W.ownsRow w.heap.size 3 1 v pre.length (pre.map (Value.int .i64)) ∧ (v = .slice none 0 0 ↔ pre = [])) ∧ Below w.heap.size w W)
  (fun _ _ _ => False)
  (OwnFrom.and (Own.from (holdsRow_own w.heap.size w.heap.size 80 3 1 (fun pre => pre.length) (fun pre => pre.map (Value.int .i64)) (fun pre v => v = .slice none 0 0 ↔ pre = [])) _) (ownFrom_below (Nat.le_refl _) (by simp)))
  (fun _ _ _ _ _ hs _ _ => hs)
  ⟨⟨_,bO,World.ownsRow_nil _ _ _ _,by simp⟩,hB0⟩
  (fun x => { tmps := #[.slice none 0 0,.func (.func 79) #[] #[.pointer (some ⟨Bv,0,none⟩)],.pointer (some ⟨w.heap.size,0,none⟩),undef,.slice none 0 0,.int .i64 x,.func (.func 79) #[] #[.pointer (some ⟨Bv,0,none⟩)],.int .i64 x,undef,undef,undef,undef,undef],defers := [] }) ?assign ?body ?done ?stop
 case assign =>
  intro l x W K hK
  gi_wp2
  exact hK
 case body =>
  rintro l pre x W ⟨⟨v,hv,hrow,hnil⟩,hB⟩ hlt
  have hc := hv.cell
  gi_wp2_with (gi_at_builtin;refine wpListIn_append_own _ rfl _ _ 80 rfl w.heap.size 3 i0 (.int .i64 0) 1 8 Tryz.underlying80 hi hz0 hz1 hz2 rfl (by decide) _ _ _ rfl (hrow.alloc _) ⟨W.heap.size,0,none⟩ 1 1 [.int .i64 x] rfl rfl (cell_one_new _ _ _) (by simp [Value.oneCell']) (by unfold maxLen;omega) (by omega) (by have := hB.size;simp;omega) ?_;intro v' w1 hown' hgrow _;obtain ⟨g',cap',rfl⟩ := ownsRow_succ hown';obtain ⟨hv1,hv2,hr2,hk2,hb2⟩ := hv.appended (by decide) hrow hB.size (Nat.le_refl _) hown' hgrow;have hc1 := hv1.cell;have hf1 := hv1.frozen)
  exact ⟨hk2.from _,hb2,⟨_,hv2,by simpa using hr2,by simp⟩,hB.trans hb2⟩
 case done =>
  rintro D ys W hD rfl ⟨⟨v,hv,hrow,hnil⟩,hB⟩ hK
  have hc := hv.cell
  gi_wp2
  refine ⟨by simp,.inl ⟨_,_,rfl,run_takeDeferred hK,?_⟩⟩
  exact ⟨_,results_tmp rfl _ _ _,v,rfl,ownsRow_putObj hrow _ hK rfl,hB.trans (belowK_b (w := w) (Nat.le_refl _) W D _ _ (by simp at hD;omega) hK rfl rfl)⟩
 case stop =>
  rintro D c pre W _ _ h _
  exact h.elim
set_option maxHeartbeats 1000000 in
theorem col_in (F : Fence) (n : Nat) (h2 : F.fn 77) (h3 : F.fn 82) (h5 : F.fn 79) (hro : F.round = none) (hn : 4 ≤ n) (Bv cap n₀ : Nat) (ad : Addr) (xs : List Int) (hlen : xs.length ≤ 1000000) (w : World) (hBv : Bv < w.heap.size) (hn₀ : n₀ ≤ w.heap.size)
  (hcv : w.cell? ⟨Bv,0,none⟩ = some (.slice (some ad) xs.length cap)) (hb : ad.block < n₀) (hcs : ∀ j,j < xs.length → w.cell? (ad.add j) = some (.int .i64 (xs[j]?.getD 0))) :
  CallsIn F n Tryz.prog 77 #[.func (.func 79) #[] #[.pointer (some ⟨Bv,0,none⟩)]] w fun e W' => ∃ v,e = .returned v ∧ W'.ownsRow w.heap.size 3 1 v xs.length (xs.map (Value.int .i64)) ∧ Below w.heap.size w W' := by
 have h1 : 1 ≤ n := by omega
 refine callsIn_of_wp Tryz.func77 rfl h2 ?_ hro
 simp only [Tryz.ntmps77,List.size_toArray,List.length_cons,List.length_nil,Nat.reduceAdd,Nat.reduceSub,Array.replicate_succ,Array.replicate_zero,List.push_toArray,List.append_toArray,List.nil_append,List.cons_append]
 gi_wp2_with (gi_at_call 82;refine (aps_in F (n - 1) h3 h5 hro (by omega) Bv cap n₀ ad xs hlen w hBv hn₀ hcv hb hcs).mono ?_;rintro e w' ⟨v,rfl,hrow,hb⟩)
 go_ret
 exact ⟨v,rfl,hrow,hb⟩
theorem col_calls (Bv cap n₀ : Nat) (ad : Addr) (xs : List Int) (hlen : xs.length ≤ 1000000) (w : World) (hBv : Bv < w.heap.size) (hn₀ : n₀ ≤ w.heap.size)
  (hcv : w.cell? ⟨Bv,0,none⟩ = some (.slice (some ad) xs.length cap)) (hb : ad.block < n₀) (hcs : ∀ j,j < xs.length → w.cell? (ad.add j) = some (.int .i64 (xs[j]?.getD 0))) :
  Calls Tryz.prog 77 #[.func (.func 79) #[] #[.pointer (some ⟨Bv,0,none⟩)]] w fun e W' => ∃ v,e = .returned v ∧ W'.ownsRow w.heap.size 3 1 v xs.length (xs.map (Value.int .i64)) ∧ Below w.heap.size w W' :=
 (callsIn_wide (n := 6)).1 (col_in Fence.wide 6 trivial trivial trivial rfl (by omega) Bv cap n₀ ad xs hlen w hBv hn₀ hcv hb hcs)
theorem vals_calls (a : Option Addr) (len cap : Nat) (w : World) : Calls Tryz.prog 73 #[.slice a len cap] w fun e w' => e = .returned (.func (.func 79) #[] #[.pointer (some ⟨w.heap.size,0,none⟩)]) ∧ w' = w.alloc (.cells #[.slice a len cap] 80) :=
 (callsIn_wide (n := 3)).1 (vals_in Fence.wide 3 trivial rfl a len cap w)
theorem ins_len : ∀ k : Nat,(∀ x0 x1 x2 x6 r,Za.l0 k x0 x1 x2 x6 = some r → r.length = x0.length) ∧ (∀ x0 x1 x2 x6 x7 r,Za.l1 k x0 x1 x2 x6 x7 = some r → r.length = x0.length)
 | 0 => ⟨fun x0 x1 x2 x6 r h => by simp [Za.l0] at h,fun x0 x1 x2 x6 x7 r h => by simp [Za.l1] at h⟩
 | k + 1 => by
  obtain ⟨ih0,ih1⟩ := ins_len k
  refine ⟨fun x0 x1 x2 x6 r h => ?_,fun x0 x1 x2 x6 x7 r h => ?_⟩
  ·simp only [Za.l0] at h
   split at h
   ·exact ih1 _ _ _ _ _ _ h
   ·rw [← Option.some.inj h]
  ·simp only [Za.l1] at h
   repeat' split at h
   all_goals first | cases h | skip
   all_goals try exact ih0 _ _ _ _ _ h
   obtain ⟨b,_,h⟩ := Option.bind_eq_some_iff.1 h
   split at h
   ·have := ih1 _ _ _ _ _ _ h
    simpa using this
   ·exact ih0 _ _ _ _ _ h
theorem len_at (n : Int) (h : n = 1 ∨ n = 3 ∨ n = 5) (w : World) : Calls Tryz.prog 84 #[.int .u64 n] w fun e w' => (∃ i,e = .returned (.int .i64 i)) ∧ w' = w := by
 rcases h with rfl | rfl | rfl
 all_goals
  go_enter Tryz.func84,Tryz.ntmps84
  go_wp2_with go_in
  go_ret
  exact ⟨⟨_,rfl⟩,rfl⟩
set_option maxHeartbeats 2000000 in
theorem pdq_at (k : Nat) (n : Nat) (hn : n = 1 ∨ n = 3 ∨ n = 5) (lim : Int) (u : Value) (l0 r : List Int) (w0 w : World) (hB : Below w0.heap.size w0 w) (ho0 : Kd.R (Kd.int .i64) 3 w w0.heap.size (fun _ => True) u l0) (h : Za.f k l0 0 (n : Int) = some r) :
  Calls Tryz.prog 83 #[u,.int .i64 0,.int .i64 n,.int .i64 lim] w fun e w' => e = .returned (.tuple #[]) ∧ Kd.R (Kd.int .i64) 3 w' w0.heap.size (fun _ => True) u r ∧ Below w0.heap.size w0 w' := by
 have hc := Za.calls k (fun _ => True) u l0 0 (n : Int) r w0 w hB ho0 h
 clear h ho0
 rcases hn with rfl | rfl | rfl
 all_goals
  have HC := Aside0.mk hc
  clear hc
  go_enter Tryz.func83,Tryz.ntmps83
  go_wp2
  refine wp_loop_rounds 1 ?_
  rw [rounds_succ]
  go_wp2_with (go_at_call 87;refine HC.out.mono ?_;rintro e w' ⟨rfl,hr,hb,hk⟩)
  refine bodyPost_ret (results_none rfl _ _ _) rfl ?_
  exact ⟨rfl,Kd.R_mono hr (fun _ _ => trivial),hb⟩
set_option maxHeartbeats 2000000 in
theorem sort_at (k : Nat) (n : Nat) (hn : n = 1 ∨ n = 3 ∨ n = 5) (a : Option Addr) (c : Nat) (l0 r : List Int) (hl : l0.length = n) (w0 w : World) (hB : Below w0.heap.size w0 w) (ho0 : Kd.R (Kd.int .i64) 3 w w0.heap.size (fun _ => True) (.slice a n c) l0) (h : Za.f k l0 0 (n : Int) = some r) :
  Calls Tryz.prog 78 #[.slice a n c] w fun e w' => e = .returned (.tuple #[]) ∧ Kd.R (Kd.int .i64) 3 w' w0.heap.size (fun _ => True) (.slice a n c) r ∧ Below w0.heap.size w0 w' := by
 have hp := fun lim => pdq_at k n hn lim (.slice a n c) l0 r w0 w hB ho0 h
 have HL := Aside0.mk len_at
 clear h ho0
 rcases hn with rfl | rfl | rfl
 all_goals
  have HP := Aside0.mk hp
  clear hp
  go_enter Tryz.func78,Tryz.ntmps78
  go_wp2_with (first | (go_at_call 84;refine (HL.out _ (by decide) _).mono ?_;rintro e w' ⟨⟨i_,rfl⟩,rfl⟩) | (go_at_call 83;refine (HP.out _).mono ?_;rintro e w' ⟨rfl,hr,hb⟩))
  go_end0
  exact ⟨rfl,hr,hb⟩
set_option maxHeartbeats 2000000 in
theorem sorted_at (k : Nat) (n : Nat) (hn : n = 1 ∨ n = 3 ∨ n = 5) (Bv cap n₀ : Nat) (ad : Addr) (xs r : List Int) (hl : xs.length = n) (w : World) (hBv : Bv < w.heap.size) (hn₀ : n₀ ≤ w.heap.size)
  (hcv : w.cell? ⟨Bv,0,none⟩ = some (.slice (some ad) n cap)) (hb : ad.block < n₀) (hcs : ∀ j,j < xs.length → w.cell? (ad.add j) = some (.int .i64 (xs[j]?.getD 0))) (h : Za.f k xs 0 (n : Int) = some r) :
  Calls Tryz.prog 72 #[.func (.func 79) #[] #[.pointer (some ⟨Bv,0,none⟩)]] w fun e w' => ∃ a c,e = .returned (.slice a n c) ∧ Kd.R (Kd.int .i64) 3 w' w.heap.size (fun _ => True) (.slice a n c) r ∧ Below w.heap.size w w' := by
 have hcol := col_calls Bv cap n₀ ad xs (by omega) w hBv hn₀ (by rw [hl];exact hcv) hb hcs
 have HC := Aside0.mk hcol
 have HS := Aside0.mk (fun (a : Option Addr) (c : Nat) (W : World) (hB : Below w.heap.size w W) ho => sort_at k n hn a c xs r hl w W hB ho h)
 clear hcol h
 go_enter Tryz.func72,Tryz.ntmps72
 go_wp2_with (first
  | (go_at_call 77;refine HC.out.mono ?_;rintro e w1 ⟨v,rfl,hrow,hB1⟩;have hR := Kd.R_of_own (h1 := fun _ => rfl) (enc := Value.int .i64) (ok := fun _ => True) (xs := xs) hrow (fun _ _ => trivial);obtain ⟨a_,c_,rfl⟩ := Kd.R_slice hR;rw [hl] at hR ⊢;have HR := Aside0.mk hR;have HB1 := Aside0.mk hB1;clear hR hB1 hrow)
  | (go_at_call 78;refine (HS.out a_ c_ _ HB1.out HR.out).mono ?_;rintro e w2 ⟨rfl,hR2,hB2⟩;have HR2 := Aside0.mk hR2;have HB2 := Aside0.mk hB2;clear hR2 hB2))
 go_ret
 exact ⟨_,_,rfl,HR2.out,HB2.out⟩
set_option maxRecDepth 100000 in
set_option maxHeartbeats 2000000 in
theorem median_walk (k : Nat) (A0 : Option Addr) (c0 : Nat) (l0 s : List Int) (w : World) (hr0 : Kd.C (Kd.int .i64) w A0 l0.length l0) (hc0 : l0.length ≤ c0) (hn : l0.length = 1 ∨ l0.length = 3 ∨ l0.length = 5) (h : Za.f k l0 0 (l0.length : Int) = some s) :
  Calls Tryz.prog 64 #[.slice A0 l0.length c0] w fun e w' => e = .returned (.int .i64 (rd s (Int.tdiv (l0.length : Int) 2))) ∧ Below w.heap.size w w' := by
 obtain ⟨ad,e0,_⟩ := Kd.at_int hr0 0 (by omega) (by omega)
 subst e0
 have hlen : s.length = l0.length := (ins_len k).1 _ _ _ _ _ h
 have hcs' : ∀ j,j < l0.length → w.cell? (ad.add j) = some (.int .i64 (l0[j]?.getD 0)) := fun j hj => by
  obtain ⟨ad',e',hx⟩ := Kd.at_int hr0 (j : Int) (by omega) (by omega)
  injection e' with e'
  subst e'
  simpa [rd,List.getD] using hx
 have hblk : ad.block < w.heap.size := by have := World.block_lt_of_cell? w _ (hcs' 0 (by omega));rwa [add_block] at this
 obtain ⟨n,hnl⟩ : ∃ n,l0.length = n := ⟨_,rfl⟩
 rw [hnl] at hn h hlen ⊢
 have HS := Aside0.mk (fun (W : World) (Bv : Nat) (h1 : Bv < W.heap.size) (h2 : w.heap.size ≤ W.heap.size) (h3 : W.cell? ⟨Bv,0,none⟩ = some (.slice (some ad) n c0)) (h4 : ∀ j,j < l0.length → W.cell? (ad.add j) = some (.int .i64 (l0[j]?.getD 0))) => sorted_at k n hn Bv c0 w.heap.size ad l0 s hnl W h1 h2 h3 hblk h4 h)
 have HV := Aside0.mk vals_calls
 have HCS := Aside0.mk hcs'
 have HBK := Aside0.mk hblk
 have HL := Aside0.mk hlen
 clear hr0 hc0 hcs' h hblk hlen
 rcases hn with rfl | rfl | rfl
 all_goals
  go_enter Tryz.func64,Tryz.ntmps64
  go_wp2_with (first
   | (go_at_call 73;refine (HV.out _ _ _ _).mono ?_;rintro e w1 ⟨rfl,rfl⟩)
   | (go_at_call 72;refine (HS.out _ w.heap.size (by simp) (by simp) (blk_cell (blk_new w _) 0 |>.trans rfl) (fun j hj => (((Below.refl w.heap.size w).alloc (Nat.le_refl _) _).cell (p := ad.add j) (by rw [add_block];exact HBK.out)).trans (HCS.out j hj))).mono ?_;rintro e w2 ⟨a_,c_,rfl,hR2,hB2⟩;obtain ⟨g_,cp_,e2,-,-,-⟩ := Kd.R_form hR2 (by rw [HL.out];decide);rw [HL.out] at e2;simp only [Value.slice.injEq] at e2;obtain ⟨e3,-,-⟩ := e2;subst e3;have hxa : w2.cell? ⟨g_,0,none⟩ = some (.int .i64 (rd s 0)) := (Kd.R_celln 0 hR2 0 (by decide) (by decide)).1;(try have hxb : w2.cell? ⟨g_,1,none⟩ = some (.int .i64 (rd s 1)) := (Kd.R_celln 0 hR2 1 (by decide) (by decide)).1);(try have hxc : w2.cell? ⟨g_,2,none⟩ = some (.int .i64 (rd s 2)) := (Kd.R_celln 0 hR2 2 (by decide) (by decide)).1);have HB2 := Aside0.mk hB2;clear hR2 hB2))
  go_ret
  exact ⟨rfl,((Below.refl w.heap.size w).alloc (Nat.le_refl _) _).trans (HB2.out.mono (by simp))⟩
end Go.Proofs.YtbhegbhdenngbaaGreatDoor.A
end

section
namespace Go.Proofs.YtbhegbhdenngbaaGreatDoor.A
open Go.RowKit Go.Proofs.YtbhegbhdenngbaaGreatDoorW.PrintWords Go.Proofs.YtbhegbhdenngbaaGreatDoorW.PrintLast Go.Proofs.YtbhegbhdenngbaaGreatDoorW.PrintMore
attribute [local go_sem] max2_int min2_int max_two min_two max_three min_three max_four min_four
theorem Yl.calls (k : Nat) (A0 : Option Addr) (c0 : Nat) (l0 : List Int) (r : Int) (w : World) (hr0 : Kd.C (Kd.int .i64) w A0 l0.length l0) (hc0 : l0.length ≤ c0) (h : Yl.f k l0 = some r) :
  Calls Tryz.prog 64 #[.slice A0 l0.length c0] w fun e w' => e = .returned (.int .i64 r) ∧ Below w.heap.size w w' := by
 unfold Yl.f at h
 by_cases c : l0.length = 1 ∨ l0.length = 3 ∨ l0.length = 5
 case neg =>
  rw [if_neg c] at h
  cases h
 rw [if_pos c] at h
 obtain ⟨s,hs,h⟩ := Option.bind_eq_some_iff.1 h
 obtain rfl := Option.some.inj h
 exact median_walk k A0 c0 l0 s w hr0 hc0 c hs
theorem Yi.calls (a0 : Int) (r : Int) (w : World) (h : Yi.f a0 = some r) :
  Calls Tryz.prog 15 #[.int .i64 a0] w fun e w' => e = .returned (.int .i64 r) ∧ Drawn0 w w' := by
 have H : (some (wrap64 ((wrap64 ((wrap64 (Int.tdiv (wrap64 (a0 - 1)) 3)) * 2)) + 1))) = some r := h
 clear h
 obtain rfl := Option.some.inj H
 go_enter Tryz.func15,Tryz.ntmps15
 go_wp2
 go_ret
 exact ⟨by first | rfl | (simp;done) | (simp [*];done),by repeat (first | exact Drawn0.refl _ | apply Drawn0.step)⟩
theorem ZM.calls (k : Nat) (a0 : Int) (a1 : Int) (r : ByteArray) (w : World) (hL : Laid w) (h : ZM.f k a0 a1 = some r) :
  Calls Tryz.prog 63 #[.int .i64 a0,.int .i64 a1] w fun e w' => e = .returned (.string r) ∧ Below w.heap.size w w' := by
 have HLD := am_ hL
 clear hL
 have HB := am_ (Below.refl w.heap.size w)
 have H : ((Zh.f k a1 4).bind fun t467 => (if 5 + t467.size ≤ 9223372036854775807 then ((Yg.f k a0 ((⟨#[99,108,111,99,107]⟩ : ByteArray) ++ t467)).bind fun t468 => (some t468)) else (none))) = some r := h
 clear h
 replace H := Option.bind_eq_some_iff.mp H
 obtain ⟨t467,A30,H⟩ := H
 try dsimp only at H
 have A3 := am_ A30
 clear A30
 by_cases c4 : 5 + t467.size ≤ 9223372036854775807
 case neg =>
  rw [if_neg c4] at H
  exact absurd H (by simp)
 rw [if_pos c4] at H
 have c4b0 := eq_true c4
 have c4b1 := decide_eq_true c4
 try have c4b2 : (9223372036854775807 < 5 + t467.size) = False := eq_false (Nat.not_lt.2 c4)
 replace H := Option.bind_eq_some_iff.mp H
 obtain ⟨t468,A50,H⟩ := H
 try dsimp only at H
 have A5 := am_ A50
 clear A50
 obtain rfl := Option.some.inj H
 go_enter Tryz.func63,Tryz.ntmps63
 go_wp2_with (first | ((with_reducible refine gate_callee (f := 41) rfl ?_);refine zgl (some 7) Tryz.func41 #[.int .i64 a1,.int .i64 4] ?_;(with_reducible refine (Zh.calls k a1 4 t467 _ A3.out).mono ?_);rintro e w6 ⟨rfl,hb⟩;refine ⟨_,rfl,?_⟩;replace HB := zs_ HB hb;(try clear hb);(try clear hi)) | ((with_reducible refine gate_callee (f := 44) rfl ?_);refine zgl (some 9) Tryz.func44 #[.int .i64 a0,.string ((⟨#[99,108,111,99,107]⟩ : ByteArray) ++ t467)] ?_;(with_reducible refine (Yg.calls k a0 ((⟨#[99,108,111,99,107]⟩ : ByteArray) ++ t467) t468 _ ?side1 A5.out).mono ?_);(case side1 => exact HLD.out.on (zl_ HB));rintro e w7 ⟨rfl,hb⟩;refine ⟨_,rfl,?_⟩;replace HB := zs_ HB hb;(try clear hb)))
 go_ret
 exact ⟨zt_,zl_ HB⟩
def Zi.T7 : Bool × List (List Nat × List Nat) := (true,[([],[]),([0],[0]),([1],[1]),([2,1],[2]),([3],[3]),([4,3],[3,4]),([3],[3]),([5,6,3],[3,5,6]),([3,7],[3,7]),([8,3],[8]),([9],[9]),([10,9],[9,10]),([11,9,9],[9,11]),([12],[12]),([12],[12]),([14,12],[12,14]),([13,15,12],[12,13,15]),([16,12],[12,16]),([17,12],[12,17]),([12],[12]),([19,12],[12,19]),([18,20,12],[12,18,20]),([12,21,9],[9,12,21]),([9,22],[9,22]),([23,12],[23]),([24],[24]),([25,24],[24,25]),([24],[24]),([27,24],[24,27]),([24],[24]),([29,24],[24,29]),([28,30,24,24],[24,28,30]),([26,31,24],[24,26,31]),([24,32],[24,32])])
def Zi.B7 : List Nat := [0,1,3,7,15,31,15,127,255,511,1023,2047,4095,8191,8191,24575,65535,131071,262143,8191,532479,2097151,4194303,8388607,16777215,33554431,67108863,33554431,167772159,33554431,570425343,2046820351,4294967295,8589934591]
theorem Zi.tab7 : rtab .any (opsOf Tryz.f40 7) = Zi.T7 := by kernel_rfl
theorem Zi.bits7 : waitsOk Zi.T7.2 Zi.B7 = true := by kernel_rfl
theorem Zi.calls (k : Nat) (a0 : Int) (A1 : Option Addr) (c1 : Nat) (l1 : List (S76)) (r1 : Int) (r2 : Bool) (w : World) (hr1 : Kd.C k76 w A1 l1.length l1) (hc1 : l1.length ≤ c1) (hL : Laid w) (h : Zi.f k a0 l1 = some (r1,r2)) :
  Calls Tryz.prog 40 #[.int .i64 a0,.slice A1 l1.length c1] w fun e w' => e = .returned (.tuple #[.int .i64 r1,.bool r2]) ∧ Below w.heap.size w w' := by
 have hu76 := Tryz.underlying76
 have HR1 := am_ hr1
 have HC1 := am_ hc1
 clear hr1 hc1
 have HLD := am_ hL
 clear hL
 have HB := am_ (Below.refl w.heap.size w)
 have H : ((Yi.f a0).bind fun t478 => (if (l1.length : Int) = t478 then (Zi.l0 k a0 l1 ([] : List Int) l1 (l1.length : Int) 0) else (some (0,false)))) = some (r1,r2) := h
 clear h
 replace H := Option.bind_eq_some_iff.mp H
 obtain ⟨t478,A30,H⟩ := H
 try dsimp only at H
 have A3 := am_ A30
 clear A30
 by_cases c4 : (l1.length : Int) = t478
 case neg =>
  rw [if_neg c4] at H
  have c4b0 := beq_eq_false_iff_ne.mpr c4
  have c4b1 := bne_iff_ne.mpr c4
  simp only [Option.some.injEq,Prod.mk.injEq] at H
  obtain ⟨rfl,rfl⟩ := H
  go_enter Tryz.func40,Tryz.ntmps40
  go_wp2_with (first | ((with_reducible refine gate_callee (f := 15) rfl ?_);refine zgl (some 12) Tryz.func15 #[.int .i64 a0] ?_;(with_reducible refine (Yi.calls a0 t478 _ A3.out).mono ?_);rintro e w' ⟨rfl,⟨nd,rfl⟩⟩;refine ⟨_,rfl,?_⟩))
  go_ret2
  exact ⟨zt_,zl_ HB⟩
 rw [if_pos c4] at H
 have c4b0 := beq_iff_eq.mpr c4
 have c4b1 := bne_eq_false_iff_eq.mpr c4
 clear c4
 have H' := am_ H
 clear H
 go_enter Tryz.func40,Tryz.ntmps40
 go_wp2_with (first | ((with_reducible refine gate_callee (f := 15) rfl ?_);refine zgl (some 12) Tryz.func15 #[.int .i64 a0] ?_;(with_reducible refine (Yi.calls a0 t478 _ A3.out).mono ?_);rintro e w' ⟨rfl,⟨nd,rfl⟩⟩;refine ⟨_,rfl,?_⟩))
 go_loopg [6,16] k (fun kq v6 v16 w' => ∃ (x6_1 : List Int) (x16_1 : Int),v16 = .int .i64 x16_1 ∧ Aside0 (Zi.l0 kq a0 l1 x6_1 l1 (l1.length : Int) x16_1 = some (r1,r2)) ∧ Aside0 (kq ≤ k) ∧ Aside0 (Kd.R (Kd.int .i64) 3 w' w.heap.size (fun _ => True) v6 x6_1) ∧ Aside0 (Below w.heap.size w w'))
 case atStart => exact ⟨(([] : List Int)),(0),(by first | rfl | (simp;done) | (simp [*];done)),H',⟨Nat.le_refl _⟩,⟨by first | exact Kd.R_nil _ _ _ _ _ | exact Kd.N_nil _ _ _ _ _ | exact Kd.V_nil _ _ _ _ _ | exact Kd.Q_nil _ _ _ _ _ | exact Kd.S_nil _ _ _ _ _⟩,⟨zl_ HB⟩⟩
 case round =>
  clear H'
  try clear c1
  try clear p2
  try clear c4
  try clear c4b0
  try clear c4b1
  obtain ⟨x6_1,x16_1,rfl,HA,HK1,HO_6,HB⟩ := hrel
  cases gk with
  | zero => exact absurd HA.out (by simp [Zi.l0])
  | succ k1 =>
   have H := HA.out
   clear HA
   simp only [Zi.l0] at H
   by_cases c5 : x16_1 < (l1.length : Int)
   case neg =>
    rw [if_neg c5] at H
    have c5b0 := decide_eq_false c5
    clear c5
    replace H := Option.bind_eq_some_iff.mp H
    obtain ⟨t479,A650,H⟩ := H
    try dsimp only at H
    have A65 := am_ A650
    clear A650
    simp only [Option.some.injEq,Prod.mk.injEq] at H
    obtain ⟨rfl,rfl⟩ := H
    obtain ⟨Ao66,co66,eo66⟩ := Kd.R_slice HO_6.out
    subst eo66
    go_wp2_with (first | ((with_reducible refine gate_callee (f := 64) rfl ?_);refine zgl (some 62) Tryz.func64 #[.slice Ao66 x6_1.length co66] ?_;(with_reducible refine (Yl.calls k1 _ _ x6_1 t479 _ ?side1 ?side2 A65.out).mono ?_);(case side1 => repeat (first | exact (Kd.R_reads' HO_6.out).2.2 | (with_reducible refine Kd.C_alloc ?_ _) | (with_reducible refine Kd.C_drewN ?_ _) | (with_reducible refine Kd.C_drew ?_)));(case side2 => exact (Kd.R_reads' HO_6.out).2.1);rintro e w67 ⟨rfl,hb⟩;refine ⟨_,rfl,?_⟩;replace HB := zs_ HB hb;(try clear hb)))
    go_ret2
    exact ⟨zt_,zl_ HB⟩
   rw [if_pos c5] at H
   have c5b0 := decide_eq_true c5
   clear c5
   by_cases c6 : 0 ≤ x16_1
   case neg =>
    rw [if_neg c6] at H
    exact absurd H (by simp)
   rw [if_pos c6] at H
   have c6b0 := decide_eq_true c6
   clear c6
   by_cases c7 : x16_1 < (l1.length : Int)
   case neg =>
    rw [if_neg c7] at H
    exact absurd H (by simp)
   rw [if_pos c7] at H
   have c7b0 := decide_eq_true c7
   clear c7
   replace H := Option.bind_eq_some_iff.mp H
   obtain ⟨t482,A80,H⟩ := H
   try dsimp only at H
   have A8 := am_ A80
   clear A80
   have p480 : 0 ≤ (x16_1 : Int) := zo_
   have q480 : x16_1 < (l1.length : Int) := zo_
   obtain ⟨ad480,e480,hx480_0,hx480_1,hx480_2⟩ := at_T76 HR1.out x16_1 p480 q480
   cases e480
   replace hx480_0 := zx_ HB hx480_0
   replace hx480_1 := zx_ HB hx480_1
   replace hx480_2 := zx_ HB hx480_2
   replace p480 := eq_true p480
   replace q480 := eq_true q480
   try go_wp2_with (first | ((with_reducible refine gate_dst (N := 8) rfl ?_);refine zbx (N := 8) (cs := #[.int .i64 0,.int .i64 0,.string ⟨#[]⟩]) (t := 76) ?_;intro gb481 hg w11 hbox hb;replace HO_6 := zrb HO_6 hb;have BK481 := am_ (hbox);have GW481 := zw_ HB hg;have GE481 := zw_ HB hg;replace HB := zs_ HB hb;clear hb hbox hg;obtain ⟨hcz12_0,hcz12_1,hcz12_2,hfz12_0,hfz12_1,hfz12_2⟩ := zc3 BK481))
   have n0_ : Aside0 (Kd.R (Kd.int .i64) 3 (((w11.setCell ⟨gb481,0,none⟩ (.int .i64 ((rd_T76 l1 x16_1).f0))).setCell ⟨gb481,1,none⟩ (.int .i64 ((rd_T76 l1 x16_1).f1))).setCell ⟨gb481,2,none⟩ (.string ((rd_T76 l1 x16_1).f2))) w.heap.size (fun _ => True) u6 x6_1) := ⟨by (with_reducible repeat (first | apply r1_ | apply r2_ | apply r3_));exact Kd.R_mono (zrf (Kd.R_types HO_6.out BK481.out (by decide))) (fun _ hk => trivial)⟩
   have n1_ : Aside0 ((((w11.setCell ⟨gb481,0,none⟩ (.int .i64 ((rd_T76 l1 x16_1).f0))).setCell ⟨gb481,1,none⟩ (.int .i64 ((rd_T76 l1 x16_1).f1))).setCell ⟨gb481,2,none⟩ (.string ((rd_T76 l1 x16_1).f2))).heap[gb481]? = some (.cells #[.int .i64 ((rd_T76 l1 x16_1).f0),.int .i64 ((rd_T76 l1 x16_1).f1),.string ((rd_T76 l1 x16_1).f2)] 76 (0,0))) := ⟨zq BK481⟩
   have n2_ : Aside0 (Below w.heap.size w (((w11.setCell ⟨gb481,0,none⟩ (.int .i64 ((rd_T76 l1 x16_1).f0))).setCell ⟨gb481,1,none⟩ (.int .i64 ((rd_T76 l1 x16_1).f1))).setCell ⟨gb481,2,none⟩ (.string ((rd_T76 l1 x16_1).f2)))) := ⟨zl_ HB⟩
   (try clear HO_6)
   (try clear BK481)
   (try clear HB)
   generalize (((w11.setCell ⟨gb481,0,none⟩ (.int .i64 ((rd_T76 l1 x16_1).f0))).setCell ⟨gb481,1,none⟩ (.int .i64 ((rd_T76 l1 x16_1).f1))).setCell ⟨gb481,2,none⟩ (.string ((rd_T76 l1 x16_1).f2))) = w13 at n0_ n1_ n2_ ⊢
   have HO_6 := n0_
   have BK481 := n1_
   have HB := n2_
   clear n0_ n1_ n2_
   replace HO_6 := am_ (Kd.R_drew HO_6.out)
   replace BK481 := am_ (blk_drew BK481.out)
   replace HB := am_ (below_drew1 HB.out)
   by_cases c9 : t482 = true
   case neg =>
    replace c9 := Bool.eq_false_iff.mpr c9
    subst c9
    rw [if_neg (show ¬ (false = true) by decide)] at H
    simp only [Option.some.injEq,Prod.mk.injEq] at H
    obtain ⟨rfl,rfl⟩ := H
    refine start_ (n := 34) (S := fun w' => w'.cell? ⟨gb481,0,none⟩ = some (.int .i64 ((rd_T76 l1 x16_1).f0)) ∧ w'.cell? ⟨gb481,1,none⟩ = some (.int .i64 ((rd_T76 l1 x16_1).f1)) ∧ w'.cell? ⟨gb481,2,none⟩ = some (.string ((rd_T76 l1 x16_1).f2))) (ds := []) #[false,false,false,false,false,false,false,false,false,false,false,false,false,false,false,false,false,false,false,false,false,false,false,false,false,false,false,false,false,false,false,false,false,false] (by kernel_rfl) rfl rfl ⟨(blk_cell BK481.out 0).trans rfl,(blk_cell BK481.out 1).trans rfl,(blk_cell BK481.out 2).trans rfl⟩ (fun hHeld => ?_);refine with_tabW Zi.tab7 Zi.bits7 (fun HT_ HW_ => ?_)
    generalize w13.drew = w63 at HO_6 BK481 HB hHeld ⊢
    refine tk_ 0 21 HT_ HW_ hHeld ?_
    refine zon 1 (N := some 22) HT_ (fun K hK => ?_)
    refine zgo Tryz.func62 #[.agg #[.int .i64 ((rd_T76 l1 x16_1).f0),.int .i64 ((rd_T76 l1 x16_1).f1),.string ((rd_T76 l1 x16_1).f2)]] ?_
    with_reducible refine (ZU.calls ((rd_T76 l1 x16_1).f0) ((rd_T76 l1 x16_1).f1) ((rd_T76 l1 x16_1).f2) false _ A8.out).mono ?_
    rintro e w64 ⟨rfl,hb⟩
    refine ⟨_,rfl,?_⟩
    replace BK481 := zb BK481 hb
    replace HB := zs_ HB hb
    try clear hb
    refine hK.out _ _ ⟨(blk_cell BK481.out 0).trans rfl,(blk_cell BK481.out 1).trans rfl,(blk_cell BK481.out 2).trans rfl⟩ (fun hHeld => ?_)
    clear hK K
    refine nm_ ?_
    refine pu_ 2 23 HT_ ?_
    refine pu_ 3 24 HT_ ?_
    refine px_ 4 25 HT_ ?_
    refine px_ 5 26 HT_ ?_
    refine px_ 6 27 HT_ ?_
    refine px_ 7 28 HT_ ?_
    refine pu_ 8 29 HT_ ?_
    refine pu_ 9 30 HT_ ?_
    refine px_ 10 31 HT_ ?_
    refine px_ 11 32 HT_ ?_
    refine px_ 12 33 HT_ ?_
    refine px_ 13 34 HT_ ?_
    refine px_ 14 35 HT_ ?_
    refine px_ 15 36 HT_ ?_
    refine px_ 16 37 HT_ ?_
    refine px_ 17 38 HT_ ?_
    refine px_ 18 39 HT_ ?_
    refine px_ 19 40 HT_ ?_
    refine px_ 20 41 HT_ ?_
    refine px_ 21 42 HT_ ?_
    refine px_ 22 43 HT_ ?_
    refine pu_ 23 44 HT_ ?_
    refine pu_ 24 45 HT_ ?_
    refine px_ 25 46 HT_ ?_
    refine px_ 26 47 HT_ ?_
    refine px_ 27 48 HT_ ?_
    refine px_ 28 49 HT_ ?_
    refine px_ 29 50 HT_ ?_
    refine px_ 30 51 HT_ ?_
    refine px_ 31 52 HT_ ?_
    refine px_ 32 53 HT_ ?_
    refine pu_ 33 54 HT_ ?_
    refine done_ (done_of HT_.out (by kernel_rfl)) ?_
    try go_wp2
    go_ret2
    exact ⟨zt_,zl_ HB⟩
   subst c9
   rw [if_pos rfl] at H
   by_cases c10 : ((rd_T76 l1 x16_1).f0) ≥ a0
   ·rw [if_pos c10] at H
    have c10b0 : decide (a0 ≤ ((rd_T76 l1 x16_1).f0)) = true := decide_eq_true c10
    clear c10
    simp only [Option.some.injEq,Prod.mk.injEq] at H
    obtain ⟨rfl,rfl⟩ := H
    refine start_ (n := 34) (S := fun w' => w'.cell? ⟨gb481,0,none⟩ = some (.int .i64 ((rd_T76 l1 x16_1).f0)) ∧ w'.cell? ⟨gb481,1,none⟩ = some (.int .i64 ((rd_T76 l1 x16_1).f1)) ∧ w'.cell? ⟨gb481,2,none⟩ = some (.string ((rd_T76 l1 x16_1).f2))) (ds := []) #[false,false,false,false,false,false,false,false,false,false,false,false,false,false,false,false,false,false,false,false,false,false,false,false,false,false,false,false,false,false,false,false,false,false] (by kernel_rfl) rfl rfl ⟨(blk_cell BK481.out 0).trans rfl,(blk_cell BK481.out 1).trans rfl,(blk_cell BK481.out 2).trans rfl⟩ (fun hHeld => ?_);refine with_tabW Zi.tab7 Zi.bits7 (fun HT_ HW_ => ?_)
    generalize w13.drew = w14 at HO_6 BK481 HB hHeld ⊢
    refine tk_ 0 21 HT_ HW_ hHeld ?_
    refine zon 1 (N := some 22) HT_ (fun K hK => ?_)
    refine zgo Tryz.func62 #[.agg #[.int .i64 ((rd_T76 l1 x16_1).f0),.int .i64 ((rd_T76 l1 x16_1).f1),.string ((rd_T76 l1 x16_1).f2)]] ?_
    with_reducible refine (ZU.calls ((rd_T76 l1 x16_1).f0) ((rd_T76 l1 x16_1).f1) ((rd_T76 l1 x16_1).f2) true _ A8.out).mono ?_
    rintro e w15 ⟨rfl,hb⟩
    refine ⟨_,rfl,?_⟩
    replace HO_6 := zrb HO_6 hb
    replace BK481 := zb BK481 hb
    replace HB := zs_ HB hb
    try clear hb
    refine hK.out _ _ ⟨(blk_cell BK481.out 0).trans rfl,(blk_cell BK481.out 1).trans rfl,(blk_cell BK481.out 2).trans rfl⟩ (fun hHeld => ?_)
    clear hK K
    refine nm_ ?_
    refine pu_ 2 23 HT_ ?_
    refine pu_ 3 24 HT_ ?_
    refine pu_ 4 25 HT_ ?_
    refine pu_ 6 27 HT_ ?_
    refine tk_ 5 26 HT_ HW_ hHeld ?_
    refine pu_ 7 28 HT_ ?_
    refine pu_ 8 29 HT_ ?_
    refine pu_ 9 30 HT_ ?_
    refine px_ 10 31 HT_ ?_
    refine px_ 11 32 HT_ ?_
    refine px_ 12 33 HT_ ?_
    refine px_ 13 34 HT_ ?_
    refine px_ 14 35 HT_ ?_
    refine px_ 15 36 HT_ ?_
    refine px_ 16 37 HT_ ?_
    refine px_ 17 38 HT_ ?_
    refine px_ 18 39 HT_ ?_
    refine px_ 19 40 HT_ ?_
    refine px_ 20 41 HT_ ?_
    refine px_ 21 42 HT_ ?_
    refine px_ 22 43 HT_ ?_
    refine pu_ 23 44 HT_ ?_
    refine pu_ 24 45 HT_ ?_
    refine px_ 25 46 HT_ ?_
    refine px_ 26 47 HT_ ?_
    refine px_ 27 48 HT_ ?_
    refine px_ 28 49 HT_ ?_
    refine px_ 29 50 HT_ ?_
    refine px_ 30 51 HT_ ?_
    refine px_ 31 52 HT_ ?_
    refine px_ 32 53 HT_ ?_
    refine pu_ 33 54 HT_ ?_
    refine done_ (done_of HT_.out (by kernel_rfl)) ?_
    try go_wp2
    go_ret2
    exact ⟨zt_,zl_ HB⟩
   rw [if_neg c10] at H
   have c10b0 : decide (a0 ≤ ((rd_T76 l1 x16_1).f0)) = false := decide_eq_false c10
   clear c10
   by_cases c16 : x16_1 > 0
   case neg =>
    rw [if_neg c16] at H
    have c16b0 : decide (0 < x16_1) = false := decide_eq_false c16
    clear c16
    replace H := Option.bind_eq_some_iff.mp H
    obtain ⟨t488,A430,H⟩ := H
    try dsimp only at H
    have A43 := am_ A430
    clear A430
    refine start_ (n := 34) (S := fun w' => w'.cell? ⟨gb481,0,none⟩ = some (.int .i64 ((rd_T76 l1 x16_1).f0)) ∧ w'.cell? ⟨gb481,1,none⟩ = some (.int .i64 ((rd_T76 l1 x16_1).f1)) ∧ w'.cell? ⟨gb481,2,none⟩ = some (.string ((rd_T76 l1 x16_1).f2))) (ds := []) #[false,false,false,false,false,false,false,false,false,false,false,false,false,false,false,false,false,false,false,false,false,false,false,false,false,false,false,false,false,false,false,false,false,false] (by kernel_rfl) rfl rfl ⟨(blk_cell BK481.out 0).trans rfl,(blk_cell BK481.out 1).trans rfl,(blk_cell BK481.out 2).trans rfl⟩ (fun hHeld => ?_);refine with_tabW Zi.tab7 Zi.bits7 (fun HT_ HW_ => ?_)
    generalize w13.drew = w49 at HO_6 BK481 HB hHeld ⊢
    refine tk_ 0 21 HT_ HW_ hHeld ?_
    refine zon 1 (N := some 22) HT_ (fun K hK => ?_)
    refine zgo Tryz.func62 #[.agg #[.int .i64 ((rd_T76 l1 x16_1).f0),.int .i64 ((rd_T76 l1 x16_1).f1),.string ((rd_T76 l1 x16_1).f2)]] ?_
    with_reducible refine (ZU.calls ((rd_T76 l1 x16_1).f0) ((rd_T76 l1 x16_1).f1) ((rd_T76 l1 x16_1).f2) true _ A8.out).mono ?_
    rintro e w50 ⟨rfl,hb⟩
    refine ⟨_,rfl,?_⟩
    replace HO_6 := zrb HO_6 hb
    replace BK481 := zb BK481 hb
    replace HB := zs_ HB hb
    try clear hb
    refine hK.out _ _ ⟨(blk_cell BK481.out 0).trans rfl,(blk_cell BK481.out 1).trans rfl,(blk_cell BK481.out 2).trans rfl⟩ (fun hHeld => ?_)
    clear hK K
    refine nm_ ?_
    refine pu_ 2 23 HT_ ?_
    refine pu_ 3 24 HT_ ?_
    refine pu_ 4 25 HT_ ?_
    refine pu_ 6 27 HT_ ?_
    refine tk_ 5 26 HT_ HW_ hHeld ?_
    refine pu_ 7 28 HT_ ?_
    refine pu_ 8 29 HT_ ?_
    refine pu_ 9 30 HT_ ?_
    refine pu_ 10 31 HT_ ?_
    refine pu_ 11 32 HT_ ?_
    refine pu_ 12 33 HT_ ?_
    refine px_ 13 34 HT_ ?_
    refine px_ 14 35 HT_ ?_
    refine px_ 15 36 HT_ ?_
    refine px_ 16 37 HT_ ?_
    refine px_ 17 38 HT_ ?_
    refine px_ 18 39 HT_ ?_
    refine px_ 19 40 HT_ ?_
    refine px_ 20 41 HT_ ?_
    refine px_ 21 42 HT_ ?_
    refine pu_ 22 43 HT_ ?_
    refine pu_ 23 44 HT_ ?_
    refine pu_ 24 45 HT_ ?_
    refine pu_ 25 46 HT_ ?_
    refine pu_ 27 48 HT_ ?_
    refine pu_ 29 50 HT_ ?_
    refine tk_ 26 47 HT_ HW_ hHeld ?_
    refine tk_ 28 49 HT_ HW_ hHeld ?_
    refine tk_ 30 51 HT_ HW_ hHeld ?_
    refine zon 31 (N := some 52) HT_ (fun K hK => ?_)
    refine zgo Tryz.func63 #[.int .i64 ((rd_T76 l1 x16_1).f0),.int .i64 ((rd_T76 l1 x16_1).f1)] ?_
    with_reducible refine (ZM.calls k1 ((rd_T76 l1 x16_1).f0) ((rd_T76 l1 x16_1).f1) t488 _ ?side1 A43.out).mono ?_
    (case side1 => exact HLD.out.on (zl_ HB))
    rintro e w51 ⟨rfl,hb⟩
    refine ⟨_,rfl,?_⟩
    replace HO_6 := zrb HO_6 hb
    replace BK481 := zb BK481 hb
    replace HB := zs_ HB hb
    try clear hb
    refine hK.out _ _ ⟨(blk_cell BK481.out 0).trans rfl,(blk_cell BK481.out 1).trans rfl,(blk_cell BK481.out 2).trans rfl⟩ (fun hHeld => ?_)
    clear hK K
    refine nm_ ?_
    by_cases c44 : ((rd_T76 l1 x16_1).f2).toList = t488.toList
    case neg =>
     rw [if_neg c44] at H
     have c44b0 := beq_eq_false_iff_ne.mpr c44
     have c44b1 := bne_iff_ne.mpr c44
     simp only [Option.some.injEq,Prod.mk.injEq] at H
     obtain ⟨rfl,rfl⟩ := H
     refine pu_ 32 53 HT_ ?_
     refine pu_ 33 54 HT_ ?_
     refine done_ (done_of HT_.out (by kernel_rfl)) ?_
     try go_wp2
     go_ret2
     exact ⟨zt_,zl_ HB⟩
    rw [if_pos c44] at H
    have c44b0 := beq_iff_eq.mpr c44
    have c44b1 := bne_eq_false_iff_eq.mpr c44
    clear c44
    by_cases c45 : x6_1.length < 17592186044416
    case neg =>
     rw [if_neg c45] at H
     exact absurd H (by simp)
    rw [if_pos c45] at H
    have LMc45 := am_ c45
    clear c45
    obtain ⟨y489,hy489⟩ : ∃ y_ : List Int,y_ = (x6_1 ++ [(rd_T76 l1 x16_1).f1]) := ⟨_,rfl⟩
    replace H : (Zi.l0 k1 a0 l1 y489 l1 (l1.length : Int) (wrap64 (x16_1 + 1))) = some (r1,r2) := by first | (rw [hy489];with_reducible exact H) | (have H2_ := (Option.bind_some _ _).symm.trans H;rw [hy489];with_reducible exact H2_) | (have H2_ := (Option.bind_some _ _).symm.trans H;with_reducible exact H2_) | with_reducible exact H | (rw [hy489];exact H) | exact H
    have Ny489 := am_ hy489
    clear hy489
    have H' := am_ H
    clear H
    refine pu_ 32 53 HT_ ?_
    refine pu_ 33 54 HT_ ?_
    refine done_ (done_of HT_.out (by kernel_rfl)) ?_
    obtain ⟨hcz52_0,hcz52_1,hcz52_2,hfz52_0,hfz52_1,hfz52_2⟩ := zc3 BK481
    try go_wp2_with (first | ((with_reducible refine gate_builtin (b := .append) (xs := #[.tmp 55,.tmp 58]) rfl ?_);at_builtin;refine Kd.R_append (Kd.int .i64) (w0 := w) w.heap.size rfl (.tmp 55) (.tmp 58) 80 3 (.int .i64 0) 8 rfl Tryz.underlying80 info3 rfl (by decide) (by omega) u6 x6_1 ((rd_T76 l1 x16_1).f1) [.int .i64 ((rd_T76 l1 x16_1).f1)] (fun _ => True) (fun _ => False) rfl rfl ?aP (fun _ hk => hk.elim) ?aF ?aO ?aB ?aS ?aL ?_;(case aP => exact rfl);(case aB => exact (zl_ HB));(case aF => exact (fun _ _ => trivial));(case aO => exact (zr HO_6));(case aS => exact (below_size (zl_ HB)));(case aL => have := LMc45.out;omega);intro v490 w53 ho hb hg hat;rw [← Ny489.out] at ho;replace HB := am_ (hb);have HO491 := am_ (ho);clear HO_6;clear ho hb hg hat))
    go_roundg k1
    case measure => have := HK1.out;omega
    case rel => exact ⟨(y489),(wrap64 (x16_1 + 1)),(by first | rfl | (simp;done) | (simp [*];done)),H',⟨by have := HK1.out;omega⟩,⟨zr HO491⟩,⟨zl_ HB⟩⟩
   rw [if_pos c16] at H
   have c16b0 : decide (0 < x16_1) = true := decide_eq_true c16
   clear c16
   obtain ⟨ji17,hji17⟩ : ∃ j_ : Int,(wrap64 (x16_1 - 1)) = j_ := ⟨_,rfl⟩
   replace H : (if 0 ≤ (ji17) then (if (ji17) < (l1.length : Int) then (if ((rd_T76 l1 (ji17)).f0) ≥ ((rd_T76 l1 x16_1).f0) then (some (0,false)) else ((ZM.f k1 ((rd_T76 l1 x16_1).f0) ((rd_T76 l1 x16_1).f1)).bind fun t484 => (if ((rd_T76 l1 x16_1).f2).toList = t484.toList then (if x6_1.length < 17592186044416 then (Zi.l0 k1 a0 l1 (x6_1 ++ [(rd_T76 l1 x16_1).f1]) l1 (l1.length : Int) (wrap64 (x16_1 + 1))) else (none)) else (some (0,false))))) else (none)) else (none)) = some (r1,r2) := by first | (rw [hji17] at H;exact H) | (simp only [hji17] at H ⊢;exact H)
   (try rw [hji17] at A8)
   have hji17w : (IntKind.i64.wrap (x16_1 - 1)) = ji17 := (i64_w _).trans hji17
   by_cases c18 : 0 ≤ (ji17)
   case neg =>
    rw [if_neg c18] at H
    exact absurd H (by simp)
   rw [if_pos c18] at H
   have c18b0 := decide_eq_true c18
   clear c18
   by_cases c19 : (ji17) < (l1.length : Int)
   case neg =>
    rw [if_neg c19] at H
    exact absurd H (by simp)
   rw [if_pos c19] at H
   have c19b0 := decide_eq_true c19
   clear c19
   have p483 : 0 ≤ ((ji17) : Int) := zo_
   have q483 : (ji17) < (l1.length : Int) := zo_
   obtain ⟨ad483,e483,hx483_0,hx483_1,hx483_2⟩ := at_T76 HR1.out (ji17) p483 q483
   have hw483_2 := hx483_2
   have hw483_1 := hx483_1
   have hw483_0 := hx483_0
   obtain rfl : ad480 = ad483 := (by injection e483)
   replace hx483_0 := zx_ HB hx483_0
   replace hx483_1 := zx_ HB hx483_1
   replace hx483_2 := zx_ HB hx483_2
   replace p483 := eq_true p483
   replace q483 := eq_true q483
   refine start_ (n := 34) (S := fun w' => w'.cell? ⟨gb481,0,none⟩ = some (.int .i64 ((rd_T76 l1 x16_1).f0)) ∧ w'.cell? ⟨gb481,1,none⟩ = some (.int .i64 ((rd_T76 l1 x16_1).f1)) ∧ w'.cell? ⟨gb481,2,none⟩ = some (.string ((rd_T76 l1 x16_1).f2)) ∧ w'.cell? (ad480.add (((ji17)).toNat * 3)) = some (.int .i64 ((rd_T76 l1 (ji17)).f0)) ∧ w'.cell? ⟨(ad480.add (((ji17)).toNat * 3)).block,(ad480.add (((ji17)).toNat * 3)).off + 1,none⟩ = some (.int .i64 ((rd_T76 l1 (ji17)).f1)) ∧ w'.cell? ⟨(ad480.add (((ji17)).toNat * 3)).block,(ad480.add (((ji17)).toNat * 3)).off + 2,none⟩ = some (.string ((rd_T76 l1 (ji17)).f2))) (ds := []) #[false,false,false,false,false,false,false,false,false,false,false,false,false,false,false,false,false,false,false,false,false,false,false,false,false,false,false,false,false,false,false,false,false,false] (by kernel_rfl) rfl rfl ⟨(blk_cell BK481.out 0).trans rfl,(blk_cell BK481.out 1).trans rfl,(blk_cell BK481.out 2).trans rfl,(zx_ HB hw483_0),(zx_ HB hw483_1),(zx_ HB hw483_2)⟩ (fun hHeld => ?_);refine with_tabW Zi.tab7 Zi.bits7 (fun HT_ HW_ => ?_)
   generalize w13.drew = w24 at HO_6 BK481 HB hx483_0 hx483_1 hx483_2 hHeld ⊢
   refine tk_ 0 21 HT_ HW_ hHeld ?_
   refine zon 1 (N := some 22) HT_ (fun K hK => ?_)
   refine zgo Tryz.func62 #[.agg #[.int .i64 ((rd_T76 l1 x16_1).f0),.int .i64 ((rd_T76 l1 x16_1).f1),.string ((rd_T76 l1 x16_1).f2)]] ?_
   with_reducible refine (ZU.calls ((rd_T76 l1 x16_1).f0) ((rd_T76 l1 x16_1).f1) ((rd_T76 l1 x16_1).f2) true _ A8.out).mono ?_
   rintro e w25 ⟨rfl,hb⟩
   refine ⟨_,rfl,?_⟩
   replace HO_6 := zrb HO_6 hb
   replace BK481 := zb BK481 hb
   replace HB := zs_ HB hb
   try clear hb
   refine hK.out _ _ ⟨(blk_cell BK481.out 0).trans rfl,(blk_cell BK481.out 1).trans rfl,(blk_cell BK481.out 2).trans rfl,(zx_ HB hw483_0),(zx_ HB hw483_1),(zx_ HB hw483_2)⟩ (fun hHeld => ?_)
   clear hK K
   refine nm_ ?_
   by_cases c20 : ((rd_T76 l1 (ji17)).f0) ≥ ((rd_T76 l1 x16_1).f0)
   ·rw [if_pos c20] at H
    have c20b0 : decide (((rd_T76 l1 x16_1).f0) ≤ ((rd_T76 l1 (ji17)).f0)) = true := decide_eq_true c20
    clear c20
    simp only [Option.some.injEq,Prod.mk.injEq] at H
    obtain ⟨rfl,rfl⟩ := H
    refine pu_ 2 23 HT_ ?_
    refine pu_ 3 24 HT_ ?_
    refine pu_ 4 25 HT_ ?_
    refine pu_ 6 27 HT_ ?_
    refine tk_ 5 26 HT_ HW_ hHeld ?_
    refine pu_ 7 28 HT_ ?_
    refine pu_ 8 29 HT_ ?_
    refine pu_ 9 30 HT_ ?_
    refine pu_ 10 31 HT_ ?_
    refine pu_ 11 32 HT_ ?_
    refine pu_ 12 33 HT_ ?_
    refine pu_ 13 34 HT_ ?_
    refine pu_ 14 35 HT_ ?_
    refine pu_ 15 36 HT_ ?_
    refine pu_ 16 37 HT_ ?_
    refine pu_ 17 38 HT_ ?_
    refine pu_ 19 40 HT_ ?_
    refine tk_ 18 39 HT_ HW_ hHeld ?_
    refine tk_ 20 41 HT_ HW_ hHeld ?_
    refine pu_ 21 42 HT_ ?_
    refine pu_ 22 43 HT_ ?_
    refine pu_ 23 44 HT_ ?_
    refine pu_ 24 45 HT_ ?_
    refine px_ 25 46 HT_ ?_
    refine px_ 26 47 HT_ ?_
    refine px_ 27 48 HT_ ?_
    refine px_ 28 49 HT_ ?_
    refine px_ 29 50 HT_ ?_
    refine px_ 30 51 HT_ ?_
    refine px_ 31 52 HT_ ?_
    refine px_ 32 53 HT_ ?_
    refine pu_ 33 54 HT_ ?_
    refine done_ (done_of HT_.out (by kernel_rfl)) ?_
    try go_wp2
    go_ret2
    exact ⟨by first | rfl | (simp [e1_,e2_] <;> rfl) | (simp only [← hji17];first | rfl | (simp [e1_,e2_] <;> rfl)) | (simp [*,e1_,e2_] <;> rfl) | (simp [e3_,e4_];done) | (simp [*,e3_,e4_];done),zl_ HB⟩
   rw [if_neg c20] at H
   have c20b0 : decide (((rd_T76 l1 x16_1).f0) ≤ ((rd_T76 l1 (ji17)).f0)) = false := decide_eq_false c20
   clear c20
   replace H := Option.bind_eq_some_iff.mp H
   obtain ⟨t484,A260,H⟩ := H
   try dsimp only at H
   have A26 := am_ A260
   clear A260
   refine pu_ 2 23 HT_ ?_
   refine pu_ 3 24 HT_ ?_
   refine pu_ 4 25 HT_ ?_
   refine pu_ 6 27 HT_ ?_
   refine tk_ 5 26 HT_ HW_ hHeld ?_
   refine pu_ 7 28 HT_ ?_
   refine pu_ 8 29 HT_ ?_
   refine pu_ 9 30 HT_ ?_
   refine pu_ 10 31 HT_ ?_
   refine pu_ 11 32 HT_ ?_
   refine pu_ 12 33 HT_ ?_
   refine pu_ 13 34 HT_ ?_
   refine pu_ 14 35 HT_ ?_
   refine pu_ 15 36 HT_ ?_
   refine pu_ 16 37 HT_ ?_
   refine pu_ 17 38 HT_ ?_
   refine pu_ 19 40 HT_ ?_
   refine tk_ 18 39 HT_ HW_ hHeld ?_
   refine tk_ 20 41 HT_ HW_ hHeld ?_
   refine pu_ 21 42 HT_ ?_
   refine pu_ 22 43 HT_ ?_
   refine pu_ 23 44 HT_ ?_
   refine pu_ 24 45 HT_ ?_
   refine pu_ 25 46 HT_ ?_
   refine pu_ 27 48 HT_ ?_
   refine pu_ 29 50 HT_ ?_
   refine tk_ 26 47 HT_ HW_ hHeld ?_
   refine tk_ 28 49 HT_ HW_ hHeld ?_
   refine tk_ 30 51 HT_ HW_ hHeld ?_
   refine zon 31 (N := some 52) HT_ (fun K hK => ?_)
   refine zgo Tryz.func63 #[.int .i64 ((rd_T76 l1 x16_1).f0),.int .i64 ((rd_T76 l1 x16_1).f1)] ?_
   with_reducible refine (ZM.calls k1 ((rd_T76 l1 x16_1).f0) ((rd_T76 l1 x16_1).f1) t484 _ ?side1 A26.out).mono ?_
   (case side1 => exact HLD.out.on (zl_ HB))
   rintro e w34 ⟨rfl,hb⟩
   refine ⟨_,rfl,?_⟩
   replace HO_6 := zrb HO_6 hb
   replace BK481 := zb BK481 hb
   replace HB := zs_ HB hb
   try clear hb
   refine hK.out _ _ ⟨(blk_cell BK481.out 0).trans rfl,(blk_cell BK481.out 1).trans rfl,(blk_cell BK481.out 2).trans rfl,(zx_ HB hw483_0),(zx_ HB hw483_1),(zx_ HB hw483_2)⟩ (fun hHeld => ?_)
   clear hK K
   refine nm_ ?_
   by_cases c27 : ((rd_T76 l1 x16_1).f2).toList = t484.toList
   case neg =>
    rw [if_neg c27] at H
    have c27b0 := beq_eq_false_iff_ne.mpr c27
    have c27b1 := bne_iff_ne.mpr c27
    simp only [Option.some.injEq,Prod.mk.injEq] at H
    obtain ⟨rfl,rfl⟩ := H
    refine pu_ 32 53 HT_ ?_
    refine pu_ 33 54 HT_ ?_
    refine done_ (done_of HT_.out (by kernel_rfl)) ?_
    try go_wp2
    go_ret2
    exact ⟨by first | rfl | (simp [e1_,e2_] <;> rfl) | (simp only [← hji17];first | rfl | (simp [e1_,e2_] <;> rfl)) | (simp [*,e1_,e2_] <;> rfl) | (simp [e3_,e4_];done) | (simp [*,e3_,e4_];done),zl_ HB⟩
   rw [if_pos c27] at H
   have c27b0 := beq_iff_eq.mpr c27
   have c27b1 := bne_eq_false_iff_eq.mpr c27
   clear c27
   by_cases c28 : x6_1.length < 17592186044416
   case neg =>
    rw [if_neg c28] at H
    exact absurd H (by simp)
   rw [if_pos c28] at H
   have LMc28 := am_ c28
   clear c28
   obtain ⟨y485,hy485⟩ : ∃ y_ : List Int,y_ = (x6_1 ++ [(rd_T76 l1 x16_1).f1]) := ⟨_,rfl⟩
   replace H : (Zi.l0 k1 a0 l1 y485 l1 (l1.length : Int) (wrap64 (x16_1 + 1))) = some (r1,r2) := by first | (rw [hy485];with_reducible exact H) | (have H2_ := (Option.bind_some _ _).symm.trans H;rw [hy485];with_reducible exact H2_) | (have H2_ := (Option.bind_some _ _).symm.trans H;with_reducible exact H2_) | with_reducible exact H | (rw [hy485];exact H) | exact H
   have Ny485 := am_ hy485
   clear hy485
   have H' := am_ H
   clear H
   refine pu_ 32 53 HT_ ?_
   refine pu_ 33 54 HT_ ?_
   refine done_ (done_of HT_.out (by kernel_rfl)) ?_
   obtain ⟨hcz35_0,hcz35_1,hcz35_2,hfz35_0,hfz35_1,hfz35_2⟩ := zc3 BK481
   try go_wp2_with (first | ((with_reducible refine gate_builtin (b := .append) (xs := #[.tmp 55,.tmp 58]) rfl ?_);at_builtin;refine Kd.R_append (Kd.int .i64) (w0 := w) w.heap.size rfl (.tmp 55) (.tmp 58) 80 3 (.int .i64 0) 8 rfl Tryz.underlying80 info3 rfl (by decide) (by omega) u6 x6_1 ((rd_T76 l1 x16_1).f1) [.int .i64 ((rd_T76 l1 x16_1).f1)] (fun _ => True) (fun _ => False) rfl rfl ?aP (fun _ hk => hk.elim) ?aF ?aO ?aB ?aS ?aL ?_;(case aP => exact rfl);(case aB => exact (zl_ HB));(case aF => exact (fun _ _ => trivial));(case aO => exact (zr HO_6));(case aS => exact (below_size (zl_ HB)));(case aL => have := LMc28.out;omega);intro v486 w36 ho hb hg hat;rw [← Ny485.out] at ho;replace HB := am_ (hb);have HO487 := am_ (ho);clear HO_6;clear ho hb hg hat))
   go_roundg k1
   case measure => have := HK1.out;omega
   case rel => exact ⟨(y485),(wrap64 (x16_1 + 1)),(by first | rfl | (simp;done) | (simp [*];done)),H',⟨by have := HK1.out;omega⟩,⟨zr HO487⟩,⟨zl_ HB⟩⟩
theorem Ye.calls (k : Nat) (a0 : Int) (a1 : ByteArray) (r1 : Bool) (r2 : Int) (r3 : Int) (r4 : Int) (r5 : Int) (r6 : ByteArray) (r7 : List (S76)) (r8 : Int) (r9 : Bool) (w : World) (hL : Laid w) (h : Ye.f k a0 a1 = some (r1,r2,r3,r4,r5,r6,r7,r8,r9)) :
  Calls Tryz.prog 28 #[.int .i64 a0,.string a1] w fun e w' => ∃ v6_ : Value,e = .returned (.tuple #[.agg #[.bool r1,.int .i64 r2,.int .i64 r3,.int .i64 r4,.int .i64 r5,.string r6,v6_],.int .i64 r8,.bool r9]) ∧ Kd.R k76 76 w' w.heap.size (fun _ => True) v6_ r7 ∧ Below w.heap.size w w' := by
 have hu55 := Tryz.underlying55
 have HLD := am_ hL
 clear hL
 have HB := am_ (Below.refl w.heap.size w)
 have H : ((Zm.f k a1).bind fun bt493 => (if bt493.2.2.2.2.2.2.2 = true then (if bt493.1 = true then (some (bt493.1,bt493.2.1,bt493.2.2.1,bt493.2.2.2.1,bt493.2.2.2.2.1,bt493.2.2.2.2.2.1,bt493.2.2.2.2.2.2.1,0,bt493.2.2.2.2.2.2.2)) else ((Zi.f k a0 bt493.2.2.2.2.2.2.1).bind fun bt504 => (some (bt493.1,bt493.2.1,bt493.2.2.1,bt493.2.2.2.1,bt493.2.2.2.2.1,bt493.2.2.2.2.2.1,bt493.2.2.2.2.2.2.1,bt504.1,bt504.2)))) else (some (bt493.1,bt493.2.1,bt493.2.2.1,bt493.2.2.2.1,bt493.2.2.2.2.1,bt493.2.2.2.2.2.1,bt493.2.2.2.2.2.2.1,0,bt493.2.2.2.2.2.2.2)))) = some (r1,r2,r3,r4,r5,r6,r7,r8,r9) := h
 clear h
 replace H := Option.bind_eq_some_iff.mp H
 obtain ⟨⟨t493,t494,t495,t496,t497,t498,t499,t502⟩,A30,H⟩ := H
 try dsimp only at H
 have A3 := am_ A30
 clear A30
 by_cases c4 : t502 = true
 case neg =>
  replace c4 := Bool.eq_false_iff.mpr c4
  subst c4
  rw [if_neg (show ¬ (false = true) by decide)] at H
  simp only [Option.some.injEq,Prod.mk.injEq] at H
  obtain ⟨rfl,rfl,rfl,rfl,rfl,rfl,rfl,rfl,rfl⟩ := H
  go_enter Tryz.func28,Tryz.ntmps28
  go_wp2_with (first | ((with_reducible refine gate_dst (N := 4) rfl ?_);refine zbx (N := 4) (cs := #[.bool false,.int .i64 0,.int .i64 0,.int .i64 0,.int .i64 0,.string ⟨#[]⟩,.slice none 0 0]) (t := 55) ?_;intro gb492 hg w23 hbox hb;have BK492 := am_ (hbox);have GW492 := zw_ HB hg;have GE492 := zw_ HB hg;replace HB := zs_ HB hb;clear hb hbox hg) | ((with_reducible refine gate_callee (f := 39) rfl ?_);refine zgl (some 12) Tryz.func39 #[.string a1] ?_;(with_reducible refine (Zm.calls k a1 t493 t494 t495 t496 t497 t498 t499 false _ A3.out).mono ?_);rintro e w24 ⟨v500,rfl,ho0,hb⟩;refine ⟨_,rfl,?_⟩;have HO501 := am_ (Kd.R_lower ho0 (below_size (zl_ HB)));replace BK492 := zb BK492 hb;replace HB := zs_ HB hb;(try clear hb);(try clear ho0)) | ((with_reducible refine gate_dst (N := 7) rfl ?_);refine zbx (N := 7) (cs := #[.bool false,.int .i64 0,.int .i64 0,.int .i64 0,.int .i64 0,.string ⟨#[]⟩,.slice none 0 0]) (t := 55) ?_;intro gb503 hg w25 hbox hb;replace HO501 := zrb HO501 hb;have BK503 := am_ (hbox);have GW503 := zw_ HB hg;have GE503 := zw_ HB hg;replace HB := zs_ HB hb;have NB492_503 := zl hg BK492;have NB503_492 := zg hg BK492;replace BK492 := zb BK492 hb;clear hb hbox hg;have hnb26 := NB503_492.out;have hnc26 := NB492_503.out;obtain ⟨hcz27_0,hcz27_1,hcz27_2,hcz27_3,hcz27_4,hcz27_5,hcz27_6,hfz27_0,hfz27_1,hfz27_2,hfz27_3,hfz27_4,hfz27_5,hfz27_6⟩ := zc7 BK503;obtain ⟨Ao28,co28,eo28⟩ := Kd.R_slice HO501.out;subst eo28;obtain ⟨hcz29_0,hcz29_1,hcz29_2,hcz29_3,hcz29_4,hcz29_5,hcz29_6,hfz29_0,hfz29_1,hfz29_2,hfz29_3,hfz29_4,hfz29_5,hfz29_6⟩ := zc7 BK492))
  refine bodyPost_ret (results_ctt rfl _ _ gb492 55 #[.bool t493,.int .i64 t494,.int .i64 t495,.int .i64 t496,.int .i64 t497,.string t498,.slice Ao28 t499.length co28] (0,0) _ rfl (zq BK492) Tryz.underlying55 rfl (by kernel_rfl)) rfl ?_
  exact ⟨_,zt_,by (with_reducible repeat (first | apply r1_ | apply r2_ | apply r3_));exact Kd.R_mono (Kd.Rf (Kd.Rf (Kd.Rf (Kd.Rf (Kd.Rf (Kd.Rf (Kd.Rf (Kd.R_far (p := ⟨gb503,6,none⟩) (Kd.R_far (p := ⟨gb503,5,none⟩) (Kd.R_far (p := ⟨gb503,4,none⟩) (Kd.R_far (p := ⟨gb503,3,none⟩) (Kd.R_far (p := ⟨gb503,2,none⟩) (Kd.R_far (p := ⟨gb503,1,none⟩) (Kd.R_far (p := ⟨gb503,0,none⟩) (Kd.R_types (Kd.R_types HO501.out BK503.out (by decide)) BK492.out (by decide)) (fun _ hk => hk.1.2) (.bool t493)) (fun _ hk => hk.1.2) (.int .i64 t494)) (fun _ hk => hk.1.2) (.int .i64 t495)) (fun _ hk => hk.1.2) (.int .i64 t496)) (fun _ hk => hk.1.2) (.int .i64 t497)) (fun _ hk => hk.1.2) (.string t498)) (fun _ hk => hk.1.2) (.slice Ao28 t499.length co28))))))))) (fun _ hk => trivial),zl_ HB⟩
 subst c4
 rw [if_pos rfl] at H
 by_cases c5 : t493 = true
 ·subst c5
  rw [if_pos rfl] at H
  simp only [Option.some.injEq,Prod.mk.injEq] at H
  obtain ⟨rfl,rfl,rfl,rfl,rfl,rfl,rfl,rfl,rfl⟩ := H
  go_enter Tryz.func28,Tryz.ntmps28
  go_wp2_with (first | ((with_reducible refine gate_dst (N := 4) rfl ?_);refine zbx (N := 4) (cs := #[.bool false,.int .i64 0,.int .i64 0,.int .i64 0,.int .i64 0,.string ⟨#[]⟩,.slice none 0 0]) (t := 55) ?_;intro gb492 hg w6 hbox hb;have BK492 := am_ (hbox);have GW492 := zw_ HB hg;have GE492 := zw_ HB hg;replace HB := zs_ HB hb;clear hb hbox hg) | ((with_reducible refine gate_callee (f := 39) rfl ?_);refine zgl (some 12) Tryz.func39 #[.string a1] ?_;(with_reducible refine (Zm.calls k a1 true t494 t495 t496 t497 t498 t499 true _ A3.out).mono ?_);rintro e w7 ⟨v500,rfl,ho0,hb⟩;refine ⟨_,rfl,?_⟩;have HO501 := am_ (Kd.R_lower ho0 (below_size (zl_ HB)));replace BK492 := zb BK492 hb;replace HB := zs_ HB hb;(try clear hb);(try clear ho0)) | ((with_reducible refine gate_dst (N := 7) rfl ?_);refine zbx (N := 7) (cs := #[.bool false,.int .i64 0,.int .i64 0,.int .i64 0,.int .i64 0,.string ⟨#[]⟩,.slice none 0 0]) (t := 55) ?_;intro gb503 hg w8 hbox hb;replace HO501 := zrb HO501 hb;have BK503 := am_ (hbox);have GW503 := zw_ HB hg;have GE503 := zw_ HB hg;replace HB := zs_ HB hb;have NB492_503 := zl hg BK492;have NB503_492 := zg hg BK492;replace BK492 := zb BK492 hb;clear hb hbox hg;have hnb9 := NB503_492.out;have hnc9 := NB492_503.out;obtain ⟨hcz10_0,hcz10_1,hcz10_2,hcz10_3,hcz10_4,hcz10_5,hcz10_6,hfz10_0,hfz10_1,hfz10_2,hfz10_3,hfz10_4,hfz10_5,hfz10_6⟩ := zc7 BK503;obtain ⟨Ao11,co11,eo11⟩ := Kd.R_slice HO501.out;subst eo11;obtain ⟨hcz12_0,hcz12_1,hcz12_2,hcz12_3,hcz12_4,hcz12_5,hcz12_6,hfz12_0,hfz12_1,hfz12_2,hfz12_3,hfz12_4,hfz12_5,hfz12_6⟩ := zc7 BK492))
  refine bodyPost_ret (results_ctt rfl _ _ gb492 55 #[.bool true,.int .i64 t494,.int .i64 t495,.int .i64 t496,.int .i64 t497,.string t498,.slice Ao11 t499.length co11] (0,0) _ rfl (zq BK492) Tryz.underlying55 rfl (by kernel_rfl)) rfl ?_
  exact ⟨_,zt_,by (with_reducible repeat (first | apply r1_ | apply r2_ | apply r3_));exact Kd.R_mono (Kd.Rf (Kd.Rf (Kd.Rf (Kd.Rf (Kd.Rf (Kd.Rf (Kd.Rf (Kd.R_far (p := ⟨gb503,6,none⟩) (Kd.R_far (p := ⟨gb503,5,none⟩) (Kd.R_far (p := ⟨gb503,4,none⟩) (Kd.R_far (p := ⟨gb503,3,none⟩) (Kd.R_far (p := ⟨gb503,2,none⟩) (Kd.R_far (p := ⟨gb503,1,none⟩) (Kd.R_far (p := ⟨gb503,0,none⟩) (Kd.R_types (Kd.R_types HO501.out BK503.out (by decide)) BK492.out (by decide)) (fun _ hk => hk.1.2) (.bool true)) (fun _ hk => hk.1.2) (.int .i64 t494)) (fun _ hk => hk.1.2) (.int .i64 t495)) (fun _ hk => hk.1.2) (.int .i64 t496)) (fun _ hk => hk.1.2) (.int .i64 t497)) (fun _ hk => hk.1.2) (.string t498)) (fun _ hk => hk.1.2) (.slice Ao11 t499.length co11))))))))) (fun _ hk => trivial),zl_ HB⟩
 replace c5 := Bool.eq_false_iff.mpr c5
 subst c5
 rw [if_neg (show ¬ (false = true) by decide)] at H
 replace H := Option.bind_eq_some_iff.mp H
 obtain ⟨⟨t504,t505⟩,A130,H⟩ := H
 try dsimp only at H
 have A13 := am_ A130
 clear A130
 simp only [Option.some.injEq,Prod.mk.injEq] at H
 obtain ⟨rfl,rfl,rfl,rfl,rfl,rfl,rfl,rfl,rfl⟩ := H
 go_enter Tryz.func28,Tryz.ntmps28
 go_wp2_with (first | ((with_reducible refine gate_dst (N := 4) rfl ?_);refine zbx (N := 4) (cs := #[.bool false,.int .i64 0,.int .i64 0,.int .i64 0,.int .i64 0,.string ⟨#[]⟩,.slice none 0 0]) (t := 55) ?_;intro gb492 hg w14 hbox hb;have BK492 := am_ (hbox);have GW492 := zw_ HB hg;have GE492 := zw_ HB hg;replace HB := zs_ HB hb;clear hb hbox hg) | ((with_reducible refine gate_callee (f := 39) rfl ?_);refine zgl (some 12) Tryz.func39 #[.string a1] ?_;(with_reducible refine (Zm.calls k a1 false t494 t495 t496 t497 t498 t499 true _ A3.out).mono ?_);rintro e w15 ⟨v500,rfl,ho0,hb⟩;refine ⟨_,rfl,?_⟩;have HO501 := am_ (Kd.R_lower ho0 (below_size (zl_ HB)));replace BK492 := zb BK492 hb;replace HB := zs_ HB hb;(try clear hb);(try clear ho0)) | ((with_reducible refine gate_dst (N := 7) rfl ?_);refine zbx (N := 7) (cs := #[.bool false,.int .i64 0,.int .i64 0,.int .i64 0,.int .i64 0,.string ⟨#[]⟩,.slice none 0 0]) (t := 55) ?_;intro gb503 hg w16 hbox hb;replace HO501 := zrb HO501 hb;have BK503 := am_ (hbox);have GW503 := zw_ HB hg;have GE503 := zw_ HB hg;replace HB := zs_ HB hb;have NB492_503 := zl hg BK492;have NB503_492 := zg hg BK492;replace BK492 := zb BK492 hb;clear hb hbox hg;have hnb17 := NB503_492.out;have hnc17 := NB492_503.out;obtain ⟨hcz18_0,hcz18_1,hcz18_2,hcz18_3,hcz18_4,hcz18_5,hcz18_6,hfz18_0,hfz18_1,hfz18_2,hfz18_3,hfz18_4,hfz18_5,hfz18_6⟩ := zc7 BK503;obtain ⟨Ao19,co19,eo19⟩ := Kd.R_slice HO501.out;subst eo19) | ((with_reducible refine gate_callee (f := 40) rfl ?_);refine zgl (some 27) Tryz.func40 #[.int .i64 a0,.slice Ao19 t499.length co19] ?_;(with_reducible refine (Zi.calls k a0 _ _ t499 t504 t505 _ ?side1 ?side2 ?side3 A13.out).mono ?_);(case side1 => refine (Kd.R_reads' (e := 76) (base := w.heap.size) (ok := fun k_ => True) (n := t499.length) (c := co19) ?_).2.2;exact (by (with_reducible repeat (first | apply r1_ | apply r2_ | apply r3_));exact (Kd.R_mono (zrf (Kd.R_types HO501.out BK503.out (by decide))) (fun _ h_ => h_.1))));(case side2 => exact (Kd.R_reads' HO501.out).2.1);(case side3 => exact HLD.out.on (zl_ HB));rintro e w20 ⟨rfl,hb⟩;refine ⟨_,rfl,?_⟩;replace HO501 := am_ (Kd.R_below (by (with_reducible repeat (first | apply r1_ | apply r2_ | apply r3_));exact (Kd.R_mono (zrf (Kd.R_types HO501.out BK503.out (by decide))) (fun _ h_ => h_.1))) hb);replace BK492 := am_ (blk_below (g := gb492) (o := .cells #[.bool false,.int .i64 0,.int .i64 0,.int .i64 0,.int .i64 0,.string ⟨#[]⟩,.slice none 0 0] 55 (0,0)) (zq BK492) hb);replace BK503 := am_ (blk_below (g := gb503) (o := .cells #[.bool false,.int .i64 t494,.int .i64 t495,.int .i64 t496,.int .i64 t497,.string t498,.slice Ao19 t499.length co19] 55 (0,0)) (zq BK503) hb);replace HB := zs_ HB hb;(try clear hb);obtain ⟨hcz21_0,hcz21_1,hcz21_2,hcz21_3,hcz21_4,hcz21_5,hcz21_6,hfz21_0,hfz21_1,hfz21_2,hfz21_3,hfz21_4,hfz21_5,hfz21_6⟩ := zc7 BK503;obtain ⟨hcz22_0,hcz22_1,hcz22_2,hcz22_3,hcz22_4,hcz22_5,hcz22_6,hfz22_0,hfz22_1,hfz22_2,hfz22_3,hfz22_4,hfz22_5,hfz22_6⟩ := zc7 BK492))
 refine bodyPost_ret (results_ctt rfl _ _ gb492 55 #[.bool false,.int .i64 t494,.int .i64 t495,.int .i64 t496,.int .i64 t497,.string t498,.slice Ao19 t499.length co19] (0,0) _ rfl (zq BK492) Tryz.underlying55 rfl (by kernel_rfl)) rfl ?_
 exact ⟨_,zt_,by (with_reducible repeat (first | apply r1_ | apply r2_ | apply r3_));exact Kd.R_mono (zrf (Kd.R_types HO501.out BK492.out (by decide))) (fun _ hk => trivial),zl_ HB⟩
theorem Yj.calls (k : Nat) (a0 : Int) (a1 : ByteArray) (r : Bool) (w : World) (hL : Laid w) (h : Yj.f k a0 a1 = some r) :
  Calls Tryz.prog 14 #[.int .i64 a0,.string a1] w fun e w' => e = .returned (.bool r) ∧ Below w.heap.size w w' := by
 have hu55 := Tryz.underlying55
 have HLD := am_ hL
 clear hL
 have HB := am_ (Below.refl w.heap.size w)
 have H : ((Ye.f k a0 a1).bind fun bt506 => (some bt506.2.2.2.2.2.2.2.2)) = some r := h
 clear h
 replace H := Option.bind_eq_some_iff.mp H
 obtain ⟨⟨t506,t507,t508,t509,t510,t511,t512,t515,t516⟩,A30,H⟩ := H
 try dsimp only at H
 have A3 := am_ A30
 clear A30
 obtain rfl := Option.some.inj H
 go_enter Tryz.func14,Tryz.ntmps14
 go_wp2_with (first | ((with_reducible refine gate_callee (f := 28) rfl ?_);refine zgl (some 11) Tryz.func28 #[.int .i64 a0,.string a1] ?_;(with_reducible refine (Ye.calls k a0 a1 t506 t507 t508 t509 t510 t511 t512 t515 t516 _ ?side1 A3.out).mono ?_);(case side1 => exact HLD.out.on (zl_ HB));rintro e w4 ⟨v513,rfl,ho0,hb⟩;refine ⟨_,rfl,?_⟩;have HO514 := am_ (Kd.R_lower ho0 (below_size (zl_ HB)));replace HB := zs_ HB hb;(try clear hb);(try clear ho0)) | ((with_reducible refine gate_dst (N := 5) rfl ?_);refine zbx (N := 5) (cs := #[.bool false,.int .i64 0,.int .i64 0,.int .i64 0,.int .i64 0,.string ⟨#[]⟩,.slice none 0 0]) (t := 55) ?_;intro gb517 hg w5 hbox hb;replace HO514 := zrb HO514 hb;have BK517 := am_ (hbox);have GW517 := zw_ HB hg;have GE517 := zw_ HB hg;replace HB := zs_ HB hb;clear hb hbox hg;obtain ⟨hcz6_0,hcz6_1,hcz6_2,hcz6_3,hcz6_4,hcz6_5,hcz6_6,hfz6_0,hfz6_1,hfz6_2,hfz6_3,hfz6_4,hfz6_5,hfz6_6⟩ := zc7 BK517;obtain ⟨Ao7,co7,eo7⟩ := Kd.R_slice HO514.out;subst eo7))
 go_ret
 exact ⟨zt_,zl_ HB⟩
def Zw.T1 : Bool × List (List Nat × List Nat) := (true,[([],[]),([0],[0]),([1],[1]),([2,1],[2]),([3],[3]),([4,3],[3,4]),([5,3],[3,5]),([6,3],[3,6]),([3,7],[3,7]),([8,3],[8]),([9],[9]),([9],[9]),([11,9],[9,11]),([10,12,9,9],[9,10,12]),([13,9],[9,13]),([9,14],[9,14]),([15,13],[15]),([16],[16]),([17,16],[16,17]),([18,16],[16,18]),([16],[16]),([20,16,16],[16,20]),([19,21,16],[16,19,21]),([16,22],[16,22])])
def Zw.B1 : List Nat := [0,1,3,7,15,31,63,127,255,511,1023,1023,3071,8191,16383,32767,65535,131071,262143,524287,131071,1179647,4194303,8388607]
theorem Zw.tab1 : rtab .any (opsOf Tryz.f7 1) = Zw.T1 := by kernel_rfl
theorem Zw.bits1 : waitsOk Zw.T1.2 Zw.B1 = true := by kernel_rfl
def Zw.T3 : Bool × List (List Nat × List Nat) := (true,[([],[]),([0],[0]),([1],[1]),([],[]),([3],[3]),([4],[4]),([5],[5]),([],[]),([],[]),([7,2,2,0,1,2,7,8],[2,7]),([8,6,9,0,1,2,3,4,5,6,7,8,9],[6,8])])
def Zw.B3 : List Nat := [0,1,3,0,8,24,56,0,0,391,1023]
theorem Zw.tab3 : rtab .any (opsOf Tryz.f7 3) = Zw.T3 := by kernel_rfl
theorem Zw.bits3 : waitsOk Zw.T3.2 Zw.B3 = true := by kernel_rfl
theorem Zw.calls (k : Nat) (a0 : Int) (a1_0 : ByteArray) (A1_1 : Option Addr) (c1_1 : Nat) (l1_1 : List (S40)) (r : Bool) (w : World) (hr1_1 : Kd.C k40 w A1_1 l1_1.length l1_1) (hc1_1 : l1_1.length ≤ c1_1) (hL : Laid w) (h : Zw.f k a0 a1_0 l1_1 = some r) :
  Calls Tryz.prog 7 #[.int .i64 a0,.agg #[.string a1_0,.slice A1_1 l1_1.length c1_1]] w fun e w' => e = .returned (.bool r) ∧ Below w.heap.size w w' := by
 have hu29 := Tryz.underlying29
 have hu40 := Tryz.underlying40
 have HR1_1 := am_ hr1_1
 have HC1_1 := am_ hc1_1
 clear hr1_1 hc1_1
 have HLD := am_ hL
 clear hL
 have HB := am_ (Below.refl w.heap.size w)
 have H : ((ZX.f a0).bind fun t542 => (if t542 = true then (if (a1_0.size : Int) > 20000 then (Zw.j0 k a0 true a1_0 l1_1) else ((Yj.f k a0 a1_0).bind fun t543 => (if t543 = true then ((Yi.f a0).bind fun t544 => (Zw.j0 k a0 ((l1_1.length : Int) != t544) a1_0 l1_1)) else (Zw.j0 k a0 true a1_0 l1_1)))) else (Zw.j0 k a0 true a1_0 l1_1))) = some r := h
 clear h
 have HC3 := am_ H
 clear H
 go_enter Tryz.func7,Tryz.ntmps7
 go_upto_region 1 with (first | ((with_reducible refine gate_dst (N := 3) rfl ?_);(try (refine gate_guard (by rfl) ?_;dsimp only));refine zbx (N := 3) (cs := #[.string a1_0,.slice A1_1 l1_1.length c1_1]) (t := 29) ?_;intro gb541 hg w4 hbox hb;have BK541 := am_ (hbox);have GW541 := zw_ HB hg;have GE541 := zw_ HB hg;replace HB := zs_ HB hb;clear hb hbox hg))
 (try simp only [Act.put,p1_,p2_,p3_])
 go_cut [30] (fun v30 wc => ∃ (kq : Nat) (x30_2 : Bool),v30 = .bool x30_2 ∧ Aside0 (Zw.j0 kq a0 x30_2 a1_0 l1_1 = some r) ∧ Aside0 (kq ≤ k) ∧ Aside0 (wc.heap[gb541]? = some (.cells #[.string a1_0,(.slice A1_1 l1_1.length c1_1)] 29 (0,0))) ∧ Aside0 (Below w.heap.size w wc))
 case first =>
  have H := HC3.out
  clear HC3
  replace H := Option.bind_eq_some_iff.mp H
  obtain ⟨t542,A50,H⟩ := H
  try dsimp only at H
  have A5 := am_ A50
  clear A50
  by_cases c6 : t542 = true
  case neg =>
   replace c6 := Bool.eq_false_iff.mpr c6
   subst c6
   rw [if_neg (show ¬ (false = true) by decide)] at H
   have H' := am_ H
   clear H
   try go_wp2
   replace BK541 := am_ (blk_drew BK541.out)
   replace HB := am_ (below_drew1 HB.out)
   refine start_ (n := 24) (S := fun w' => True) (ds := []) #[false,false,false,false,false,false,false,false,false,false,false,false,false,false,false,false,false,false,false,false,false,false,false,false] (by kernel_rfl) rfl rfl trivial (fun hHeld => ?_);refine with_tabW Zw.tab1 Zw.bits1 (fun HT_ HW_ => ?_)
   generalize w4.drew = w16 at BK541 HB hHeld ⊢
   refine pu_ 0 7 HT_ ?_
   refine zon 1 (N := some 8) HT_ (fun K hK => ?_)
   refine zgo Tryz.func13 #[.int .i64 a0] ?_
   with_reducible refine (ZX.calls a0 false _ A5.out).mono ?_
   rintro e w' ⟨rfl,⟨nd,rfl⟩⟩
   refine ⟨_,rfl,?_⟩
   refine hK.out _ _ trivial (fun hHeld => ?_)
   clear hK K
   refine nm_ ?_
   refine pu_ 2 9 HT_ ?_
   refine pu_ 3 10 HT_ ?_
   refine px_ 4 11 HT_ ?_
   refine px_ 5 12 HT_ ?_
   refine px_ 6 13 HT_ ?_
   refine px_ 7 14 HT_ ?_
   refine pu_ 8 15 HT_ ?_
   refine pu_ 9 16 HT_ ?_
   refine px_ 10 17 HT_ ?_
   refine px_ 11 18 HT_ ?_
   refine px_ 12 19 HT_ ?_
   refine px_ 13 20 HT_ ?_
   refine px_ 14 21 HT_ ?_
   refine pu_ 15 22 HT_ ?_
   refine pu_ 16 23 HT_ ?_
   refine px_ 17 24 HT_ ?_
   refine px_ 18 25 HT_ ?_
   refine px_ 19 26 HT_ ?_
   refine px_ 20 27 HT_ ?_
   refine px_ 21 28 HT_ ?_
   refine px_ 22 29 HT_ ?_
   refine pu_ 23 30 HT_ ?_
   refine done_ (done_of HT_.out (by kernel_rfl)) ?_
   try go_wp2
   go_meet
   case rel => exact ⟨_,(true),(by first | rfl | (simp;done) | (simp [*];done)),H',⟨by first | omega | exact Nat.le_refl _⟩,⟨by (with_reducible repeat (first | apply k1_ | apply k2_ | apply k3_));exact BK541.out⟩,⟨zl_ HB⟩⟩
  subst c6
  rw [if_pos rfl] at H
  by_cases c7 : (a1_0.size : Int) > 20000
  ·rw [if_pos c7] at H
   have c7b0 : decide (20000 < (a1_0.size : Int)) = true := decide_eq_true c7
   have c7b1 : decide (20000 < a1_0.size) = true := decide_eq_true (by omega)
   clear c7
   (first | rw [c7b0] | (simp only [i64_w,i32_w];rw [c7b0]) | skip)
   have H' := am_ H
   clear H
   try go_wp2
   replace BK541 := am_ (blk_drew BK541.out)
   replace HB := am_ (below_drew1 HB.out)
   refine start_ (n := 24) (S := fun w' => w'.cell? ⟨gb541,0,none⟩ = some (.string a1_0) ∧ w'.cell? ⟨gb541,1,none⟩ = some (.slice A1_1 l1_1.length c1_1)) (ds := []) #[false,false,false,false,false,false,false,false,false,false,false,false,false,false,false,false,false,false,false,false,false,false,false,false] (by kernel_rfl) rfl rfl ⟨(blk_cell BK541.out 0).trans rfl,(blk_cell BK541.out 1).trans rfl⟩ (fun hHeld => ?_);refine with_tabW Zw.tab1 Zw.bits1 (fun HT_ HW_ => ?_)
   generalize w4.drew = w8 at BK541 HB hHeld ⊢
   refine pu_ 0 7 HT_ ?_
   refine zon 1 (N := some 8) HT_ (fun K hK => ?_)
   refine zgo Tryz.func13 #[.int .i64 a0] ?_
   with_reducible refine (ZX.calls a0 true _ A5.out).mono ?_
   rintro e w' ⟨rfl,⟨nd,rfl⟩⟩
   refine ⟨_,rfl,?_⟩
   refine hK.out _ _ ⟨(blk_cell BK541.out 0).trans rfl,(blk_cell BK541.out 1).trans rfl⟩ (fun hHeld => ?_)
   clear hK K
   refine nm_ ?_
   refine pu_ 2 9 HT_ ?_
   refine pu_ 3 10 HT_ ?_
   refine pu_ 4 11 HT_ ?_
   refine tk_ 5 12 HT_ HW_ hHeld ?_
   refine pu_ 6 13 HT_ ?_
   refine pu_ 7 14 HT_ ?_
   refine pu_ 8 15 HT_ ?_
   refine pu_ 9 16 HT_ ?_
   refine px_ 10 17 HT_ ?_
   refine px_ 11 18 HT_ ?_
   refine px_ 12 19 HT_ ?_
   refine px_ 13 20 HT_ ?_
   refine px_ 14 21 HT_ ?_
   refine pu_ 15 22 HT_ ?_
   refine pu_ 16 23 HT_ ?_
   refine px_ 17 24 HT_ ?_
   refine px_ 18 25 HT_ ?_
   refine px_ 19 26 HT_ ?_
   refine px_ 20 27 HT_ ?_
   refine px_ 21 28 HT_ ?_
   refine px_ 22 29 HT_ ?_
   refine pu_ 23 30 HT_ ?_
   refine done_ (done_of HT_.out (by kernel_rfl)) ?_
   try go_wp2
   go_meet
   case rel => exact ⟨_,(true),(by first | rfl | (simp;done) | (simp [*];done)),H',⟨by first | omega | exact Nat.le_refl _⟩,⟨by (with_reducible repeat (first | apply k1_ | apply k2_ | apply k3_));exact BK541.out⟩,⟨zl_ HB⟩⟩
  rw [if_neg c7] at H
  have c7b0 : decide (20000 < (a1_0.size : Int)) = false := decide_eq_false c7
  have c7b1 : decide (20000 < a1_0.size) = false := decide_eq_false (by omega)
  clear c7
  (first | rw [c7b0] | (simp only [i64_w,i32_w];rw [c7b0]) | skip)
  replace H := Option.bind_eq_some_iff.mp H
  obtain ⟨t543,A90,H⟩ := H
  try dsimp only at H
  have A9 := am_ A90
  clear A90
  try go_wp2
  replace BK541 := am_ (blk_drew BK541.out)
  replace HB := am_ (below_drew1 HB.out)
  refine start_ (n := 24) (S := fun w' => w'.cell? ⟨gb541,0,none⟩ = some (.string a1_0) ∧ w'.cell? ⟨gb541,1,none⟩ = some (.slice A1_1 l1_1.length c1_1)) (ds := []) #[false,false,false,false,false,false,false,false,false,false,false,false,false,false,false,false,false,false,false,false,false,false,false,false] (by kernel_rfl) rfl rfl ⟨(blk_cell BK541.out 0).trans rfl,(blk_cell BK541.out 1).trans rfl⟩ (fun hHeld => ?_);refine with_tabW Zw.tab1 Zw.bits1 (fun HT_ HW_ => ?_)
  generalize w4.drew = w12 at BK541 HB hHeld ⊢
  refine pu_ 0 7 HT_ ?_
  refine zon 1 (N := some 8) HT_ (fun K hK => ?_)
  refine zgo Tryz.func13 #[.int .i64 a0] ?_
  with_reducible refine (ZX.calls a0 true _ A5.out).mono ?_
  rintro e w' ⟨rfl,⟨nd,rfl⟩⟩
  refine ⟨_,rfl,?_⟩
  refine hK.out _ _ ⟨(blk_cell BK541.out 0).trans rfl,(blk_cell BK541.out 1).trans rfl⟩ (fun hHeld => ?_)
  clear hK K
  refine nm_ ?_
  refine pu_ 2 9 HT_ ?_
  refine pu_ 3 10 HT_ ?_
  refine pu_ 4 11 HT_ ?_
  refine tk_ 5 12 HT_ HW_ hHeld ?_
  refine pu_ 6 13 HT_ ?_
  refine pu_ 7 14 HT_ ?_
  refine pu_ 8 15 HT_ ?_
  refine pu_ 9 16 HT_ ?_
  refine pu_ 10 17 HT_ ?_
  refine pu_ 11 18 HT_ ?_
  refine tk_ 12 19 HT_ HW_ hHeld ?_
  refine zon 13 (N := some 20) HT_ (fun K hK => ?_)
  refine zgo Tryz.func14 #[.int .i64 a0,.string a1_0] ?_
  with_reducible refine (Yj.calls k a0 a1_0 t543 _ ?side1 A9.out).mono ?_
  (case side1 => exact HLD.out.on (zl_ HB))
  rintro e w13 ⟨rfl,hb⟩
  refine ⟨_,rfl,?_⟩
  replace BK541 := zb BK541 hb
  replace HB := zs_ HB hb
  try clear hb
  refine hK.out _ _ ⟨(blk_cell BK541.out 0).trans rfl,(blk_cell BK541.out 1).trans rfl⟩ (fun hHeld => ?_)
  clear hK K
  refine nm_ ?_
  by_cases c10 : t543 = true
  case neg =>
   replace c10 := Bool.eq_false_iff.mpr c10
   subst c10
   rw [if_neg (show ¬ (false = true) by decide)] at H
   have H' := am_ H
   clear H
   refine pu_ 14 21 HT_ ?_
   refine pu_ 15 22 HT_ ?_
   refine pu_ 16 23 HT_ ?_
   refine px_ 17 24 HT_ ?_
   refine px_ 18 25 HT_ ?_
   refine px_ 19 26 HT_ ?_
   refine px_ 20 27 HT_ ?_
   refine px_ 21 28 HT_ ?_
   refine px_ 22 29 HT_ ?_
   refine pu_ 23 30 HT_ ?_
   refine done_ (done_of HT_.out (by kernel_rfl)) ?_
   try go_wp2
   go_meet
   case rel => exact ⟨_,(true),(by first | rfl | (simp;done) | (simp [*];done)),H',⟨by first | omega | exact Nat.le_refl _⟩,⟨by (with_reducible repeat (first | apply k1_ | apply k2_ | apply k3_));exact BK541.out⟩,⟨zl_ HB⟩⟩
  subst c10
  rw [if_pos rfl] at H
  replace H := Option.bind_eq_some_iff.mp H
  obtain ⟨t544,A110,H⟩ := H
  try dsimp only at H
  have A11 := am_ A110
  clear A110
  have H' := am_ H
  clear H
  refine pu_ 14 21 HT_ ?_
  refine pu_ 15 22 HT_ ?_
  refine pu_ 16 23 HT_ ?_
  refine pu_ 17 24 HT_ ?_
  refine pu_ 20 27 HT_ ?_
  refine tk_ 18 25 HT_ HW_ hHeld ?_
  refine pu_ 19 26 HT_ ?_
  refine zon 21 (N := some 28) HT_ (fun K hK => ?_)
  refine zgo Tryz.func15 #[.int .i64 a0] ?_
  with_reducible refine (Yi.calls a0 t544 _ A11.out).mono ?_
  rintro e w' ⟨rfl,⟨nd,rfl⟩⟩
  refine ⟨_,rfl,?_⟩
  refine hK.out _ _ ⟨(blk_cell BK541.out 0).trans rfl,(blk_cell BK541.out 1).trans rfl⟩ (fun hHeld => ?_)
  clear hK K
  refine nm_ ?_
  refine pu_ 22 29 HT_ ?_
  refine pu_ 23 30 HT_ ?_
  refine done_ (done_of HT_.out (by kernel_rfl)) ?_
  try go_wp2
  go_meet
  case rel => exact ⟨_,(((l1_1.length : Int) != t544)),(by first | rfl | (simp;done) | (simp [*];done)),H',⟨by first | omega | exact Nat.le_refl _⟩,⟨by (with_reducible repeat (first | apply k1_ | apply k2_ | apply k3_));exact BK541.out⟩,⟨zl_ HB⟩⟩
 case rest =>
  clear HC3
  try clear c1
  try clear p2
  try clear c6
  try clear c10
  try clear c13
  try clear c14
  try clear c15
  obtain ⟨kq,x30_2,rfl,HA,HJ2,BK541,HB⟩ := hcut
  cases kq with
  | zero => exact absurd HA.out (by simp [Zw.j0])
  | succ kj2 =>
   have H := HA.out
   clear HA
   simp only [Zw.j0] at H
   by_cases c17 : x30_2 = true
   ·subst c17
    rw [if_pos rfl] at H
    obtain rfl := Option.some.inj H
    go_wp2
    go_ret
    exact ⟨zt_,zl_ HB⟩
   replace c17 := Bool.eq_false_iff.mpr c17
   subst c17
   rw [if_neg (show ¬ (false = true) by decide)] at H
   replace H := Option.bind_eq_some_iff.mp H
   obtain ⟨t545,A180,H⟩ := H
   try dsimp only at H
   have A18 := am_ A180
   clear A180
   by_cases c19 : 0 < (l1_1.length : Int)
   case neg =>
    rw [if_neg c19] at H
    exact absurd H (by simp)
   rw [if_pos c19] at H
   have c19b0 := decide_eq_true c19
   have c19b1 : decide (0 < l1_1.length) = true := decide_eq_true (by omega)
   clear c19
   replace H := Option.bind_eq_some_iff.mp H
   obtain ⟨t549,A200,H⟩ := H
   try dsimp only at H
   have A20 := am_ A200
   clear A200
   try go_wp2
   replace BK541 := am_ (blk_drew BK541.out)
   replace HB := am_ (below_drew1 HB.out)
   have p546 : 0 ≤ (0 : Int) := (by omega)
   have q546 : 0 < (l1_1.length : Int) := zo_
   obtain ⟨ad546,e546,hx546_0,hx546_1,hx546_2,hx546_3,hx546_4,hx546_5,hx546_6⟩ := at_T40 HR1_1.out 0 p546 q546
   have hw546_6 := hx546_6
   (try rw [show ((0 : Int)).toNat = 0 from rfl] at hw546_6)
   (try rw [show 0 * 7 = 0 from rfl] at hw546_6)
   (try rw [Addr.add_zero'] at hw546_6)
   have hw546_5 := hx546_5
   (try rw [show ((0 : Int)).toNat = 0 from rfl] at hw546_5)
   (try rw [show 0 * 7 = 0 from rfl] at hw546_5)
   (try rw [Addr.add_zero'] at hw546_5)
   have hw546_4 := hx546_4
   (try rw [show ((0 : Int)).toNat = 0 from rfl] at hw546_4)
   (try rw [show 0 * 7 = 0 from rfl] at hw546_4)
   (try rw [Addr.add_zero'] at hw546_4)
   have hw546_3 := hx546_3
   (try rw [show ((0 : Int)).toNat = 0 from rfl] at hw546_3)
   (try rw [show 0 * 7 = 0 from rfl] at hw546_3)
   (try rw [Addr.add_zero'] at hw546_3)
   have hw546_2 := hx546_2
   (try rw [show ((0 : Int)).toNat = 0 from rfl] at hw546_2)
   (try rw [show 0 * 7 = 0 from rfl] at hw546_2)
   (try rw [Addr.add_zero'] at hw546_2)
   have hw546_1 := hx546_1
   (try rw [show ((0 : Int)).toNat = 0 from rfl] at hw546_1)
   (try rw [show 0 * 7 = 0 from rfl] at hw546_1)
   (try rw [Addr.add_zero'] at hw546_1)
   have hw546_0 := hx546_0
   (try rw [show ((0 : Int)).toNat = 0 from rfl] at hw546_0)
   (try rw [show 0 * 7 = 0 from rfl] at hw546_0)
   (try rw [Addr.add_zero'] at hw546_0)
   cases e546
   have qi546 : (0 < l1_1.length) = True := eq_true (by omega)
   (try rw [show ((0 : Int)).toNat = 0 from rfl] at hx546_0)
   (try rw [show 0 * 7 = 0 from rfl] at hx546_0)
   (try rw [Addr.add_zero'] at hx546_0)
   (try rw [show ((0 : Int)).toNat = 0 from rfl] at hx546_1)
   (try rw [show 0 * 7 = 0 from rfl] at hx546_1)
   (try rw [Addr.add_zero'] at hx546_1)
   (try rw [show ((0 : Int)).toNat = 0 from rfl] at hx546_2)
   (try rw [show 0 * 7 = 0 from rfl] at hx546_2)
   (try rw [Addr.add_zero'] at hx546_2)
   (try rw [show ((0 : Int)).toNat = 0 from rfl] at hx546_3)
   (try rw [show 0 * 7 = 0 from rfl] at hx546_3)
   (try rw [Addr.add_zero'] at hx546_3)
   (try rw [show ((0 : Int)).toNat = 0 from rfl] at hx546_4)
   (try rw [show 0 * 7 = 0 from rfl] at hx546_4)
   (try rw [Addr.add_zero'] at hx546_4)
   (try rw [show ((0 : Int)).toNat = 0 from rfl] at hx546_5)
   (try rw [show 0 * 7 = 0 from rfl] at hx546_5)
   (try rw [Addr.add_zero'] at hx546_5)
   (try rw [show ((0 : Int)).toNat = 0 from rfl] at hx546_6)
   (try rw [show 0 * 7 = 0 from rfl] at hx546_6)
   (try rw [Addr.add_zero'] at hx546_6)
   replace hx546_0 := zx_ HB hx546_0
   replace hx546_1 := zx_ HB hx546_1
   replace hx546_2 := zx_ HB hx546_2
   replace hx546_3 := zx_ HB hx546_3
   replace hx546_4 := zx_ HB hx546_4
   replace hx546_5 := zx_ HB hx546_5
   replace hx546_6 := zx_ HB hx546_6
   replace p546 := eq_true p546
   replace q546 := eq_true q546
   refine start_ (n := 11) (S := fun w' => w'.cell? ⟨gb541,0,none⟩ = some (.string a1_0) ∧ w'.cell? ⟨gb541,1,none⟩ = some (.slice (some ad546) l1_1.length c1_1) ∧ w'.cell? ad546 = some (.int .i64 ((rd_T40 l1_1 0).f0)) ∧ w'.cell? ⟨ad546.block,ad546.off + 1,none⟩ = some (.int .i64 ((rd_T40 l1_1 0).f1)) ∧ w'.cell? ⟨ad546.block,ad546.off + 2,none⟩ = some (.int .i64 ((rd_T40 l1_1 0).f2)) ∧ w'.cell? ⟨ad546.block,ad546.off + 3,none⟩ = some (.int .i64 ((rd_T40 l1_1 0).f3)) ∧ w'.cell? ⟨ad546.block,ad546.off + 4,none⟩ = some (.string ((rd_T40 l1_1 0).f4)) ∧ w'.cell? ⟨ad546.block,ad546.off + 5,none⟩ = some (.string ((rd_T40 l1_1 0).f5)) ∧ w'.cell? ⟨ad546.block,ad546.off + 6,none⟩ = some (.string ((rd_T40 l1_1 0).f6))) (ds := []) #[false,false,false,false,false,false,false,false,false,false,false] (by kernel_rfl) rfl rfl ⟨(blk_cell BK541.out 0).trans rfl,(blk_cell BK541.out 1).trans rfl,(zx_ HB hw546_0),(zx_ HB hw546_1),(zx_ HB hw546_2),(zx_ HB hw546_3),(zx_ HB hw546_4),(zx_ HB hw546_5),(zx_ HB hw546_6)⟩ (fun hHeld => ?_);refine with_tabW Zw.tab3 Zw.bits3 (fun HT_ HW_ => ?_)
   generalize wc.drew = w23 at BK541 HB hx546_0 hx546_1 hx546_2 hx546_3 hx546_4 hx546_5 hx546_6 hHeld ⊢
   refine pu_ 0 31 HT_ ?_
   refine pu_ 3 34 HT_ ?_
   refine tk_ 1 32 HT_ HW_ hHeld ?_
   refine tk_ 4 35 HT_ HW_ hHeld ?_
   refine pu_ 5 36 HT_ ?_
   refine tk_ 6 37 HT_ HW_ hHeld ?_
   refine join_ (σ := Nat × Nat) 2 #[true,true,true,true,true,true,true,true,true,false,false] (fun s_ => [(33,.string t545),(5,.pointer (some ⟨s_.1,0,none⟩)),(6,.pointer (some ⟨s_.2,0,none⟩))]) (fun s_ w' => (w'.cell? ⟨gb541,0,none⟩ = some (.string a1_0) ∧ w'.cell? ⟨gb541,1,none⟩ = some (.slice (some ad546) l1_1.length c1_1) ∧ w'.cell? ad546 = some (.int .i64 ((rd_T40 l1_1 0).f0)) ∧ w'.cell? ⟨ad546.block,ad546.off + 1,none⟩ = some (.int .i64 ((rd_T40 l1_1 0).f1)) ∧ w'.cell? ⟨ad546.block,ad546.off + 2,none⟩ = some (.int .i64 ((rd_T40 l1_1 0).f2)) ∧ w'.cell? ⟨ad546.block,ad546.off + 3,none⟩ = some (.int .i64 ((rd_T40 l1_1 0).f3)) ∧ w'.cell? ⟨ad546.block,ad546.off + 4,none⟩ = some (.string ((rd_T40 l1_1 0).f4)) ∧ w'.cell? ⟨ad546.block,ad546.off + 5,none⟩ = some (.string ((rd_T40 l1_1 0).f5)) ∧ w'.cell? ⟨ad546.block,ad546.off + 6,none⟩ = some (.string ((rd_T40 l1_1 0).f6))) ∧ (w'.heap[gb541]? = some (.cells #[.string a1_0,.slice (some ad546) l1_1.length c1_1] 29 (0,0))) ∧ (w'.heap[s_.1]? = some (.cells #[.string ⟨#[]⟩] 9 (0,0))) ∧ (w'.heap[s_.2]? = some (.cells #[.int .i64 0,.int .i64 0,.int .i64 0,.int .i64 0,.string ⟨#[]⟩,.string ⟨#[]⟩,.string ⟨#[]⟩] 40 (0,0))) ∧ (w.heap.size ≤ s_.1) ∧ (w.heap.size ≤ s_.1) ∧ (gb541 ≠ s_.1) ∧ (s_.1 ≠ gb541) ∧ (s_.2 ≠ s_.1) ∧ (s_.1 ≠ s_.2) ∧ (w.heap.size ≤ s_.2) ∧ (w.heap.size ≤ s_.2) ∧ (gb541 ≠ s_.2) ∧ (s_.2 ≠ gb541) ∧ (Below w.heap.size w w')) ?_ ?_
   rotate_left
   ·intro hJ2_7_8
    refine join_ (σ := Nat) 3 #[true,true,true,true,true,true,true,true,false,false,false] (fun s_ => [(33,.string t545),(5,.pointer (some ⟨s_,0,none⟩))]) (fun s_ w' => (w'.cell? ⟨gb541,0,none⟩ = some (.string a1_0) ∧ w'.cell? ⟨gb541,1,none⟩ = some (.slice (some ad546) l1_1.length c1_1) ∧ w'.cell? ad546 = some (.int .i64 ((rd_T40 l1_1 0).f0)) ∧ w'.cell? ⟨ad546.block,ad546.off + 1,none⟩ = some (.int .i64 ((rd_T40 l1_1 0).f1)) ∧ w'.cell? ⟨ad546.block,ad546.off + 2,none⟩ = some (.int .i64 ((rd_T40 l1_1 0).f2)) ∧ w'.cell? ⟨ad546.block,ad546.off + 3,none⟩ = some (.int .i64 ((rd_T40 l1_1 0).f3)) ∧ w'.cell? ⟨ad546.block,ad546.off + 4,none⟩ = some (.string ((rd_T40 l1_1 0).f4)) ∧ w'.cell? ⟨ad546.block,ad546.off + 5,none⟩ = some (.string ((rd_T40 l1_1 0).f5)) ∧ w'.cell? ⟨ad546.block,ad546.off + 6,none⟩ = some (.string ((rd_T40 l1_1 0).f6))) ∧ (w'.heap[gb541]? = some (.cells #[.string a1_0,.slice (some ad546) l1_1.length c1_1] 29 (0,0))) ∧ (w'.heap[s_]? = some (.cells #[.string ⟨#[]⟩] 9 (0,0))) ∧ (w.heap.size ≤ s_) ∧ (w.heap.size ≤ s_) ∧ (gb541 ≠ s_) ∧ (s_ ≠ gb541) ∧ (Below w.heap.size w w')) ?_ ?_
    rotate_left
    ·intro hJ2_7
     refine join_ (σ := Nat) 3 #[true,true,true,true,true,true,true,false,true,false,false] (fun s_ => [(33,.string t545),(6,.pointer (some ⟨s_,0,none⟩))]) (fun s_ w' => (w'.cell? ⟨gb541,0,none⟩ = some (.string a1_0) ∧ w'.cell? ⟨gb541,1,none⟩ = some (.slice (some ad546) l1_1.length c1_1) ∧ w'.cell? ad546 = some (.int .i64 ((rd_T40 l1_1 0).f0)) ∧ w'.cell? ⟨ad546.block,ad546.off + 1,none⟩ = some (.int .i64 ((rd_T40 l1_1 0).f1)) ∧ w'.cell? ⟨ad546.block,ad546.off + 2,none⟩ = some (.int .i64 ((rd_T40 l1_1 0).f2)) ∧ w'.cell? ⟨ad546.block,ad546.off + 3,none⟩ = some (.int .i64 ((rd_T40 l1_1 0).f3)) ∧ w'.cell? ⟨ad546.block,ad546.off + 4,none⟩ = some (.string ((rd_T40 l1_1 0).f4)) ∧ w'.cell? ⟨ad546.block,ad546.off + 5,none⟩ = some (.string ((rd_T40 l1_1 0).f5)) ∧ w'.cell? ⟨ad546.block,ad546.off + 6,none⟩ = some (.string ((rd_T40 l1_1 0).f6))) ∧ (w'.heap[gb541]? = some (.cells #[.string a1_0,.slice (some ad546) l1_1.length c1_1] 29 (0,0))) ∧ (w'.heap[s_]? = some (.cells #[.int .i64 0,.int .i64 0,.int .i64 0,.int .i64 0,.string ⟨#[]⟩,.string ⟨#[]⟩,.string ⟨#[]⟩] 40 (0,0))) ∧ (w.heap.size ≤ s_) ∧ (w.heap.size ≤ s_) ∧ (gb541 ≠ s_) ∧ (s_ ≠ gb541) ∧ (Below w.heap.size w w')) ?_ ?_
     rotate_left
     ·intro hJ2_8
      refine join_ (σ := Nat × Nat) 3 #[true,true,false,true,true,true,true,true,true,false,false] (fun s_ => [(5,.pointer (some ⟨s_.1,0,none⟩)),(6,.pointer (some ⟨s_.2,0,none⟩))]) (fun s_ w' => (w'.cell? ⟨gb541,0,none⟩ = some (.string a1_0) ∧ w'.cell? ⟨gb541,1,none⟩ = some (.slice (some ad546) l1_1.length c1_1) ∧ w'.cell? ad546 = some (.int .i64 ((rd_T40 l1_1 0).f0)) ∧ w'.cell? ⟨ad546.block,ad546.off + 1,none⟩ = some (.int .i64 ((rd_T40 l1_1 0).f1)) ∧ w'.cell? ⟨ad546.block,ad546.off + 2,none⟩ = some (.int .i64 ((rd_T40 l1_1 0).f2)) ∧ w'.cell? ⟨ad546.block,ad546.off + 3,none⟩ = some (.int .i64 ((rd_T40 l1_1 0).f3)) ∧ w'.cell? ⟨ad546.block,ad546.off + 4,none⟩ = some (.string ((rd_T40 l1_1 0).f4)) ∧ w'.cell? ⟨ad546.block,ad546.off + 5,none⟩ = some (.string ((rd_T40 l1_1 0).f5)) ∧ w'.cell? ⟨ad546.block,ad546.off + 6,none⟩ = some (.string ((rd_T40 l1_1 0).f6))) ∧ (w'.heap[gb541]? = some (.cells #[.string a1_0,.slice (some ad546) l1_1.length c1_1] 29 (0,0))) ∧ (w'.heap[s_.1]? = some (.cells #[.string ⟨#[]⟩] 9 (0,0))) ∧ (w'.heap[s_.2]? = some (.cells #[.int .i64 0,.int .i64 0,.int .i64 0,.int .i64 0,.string ⟨#[]⟩,.string ⟨#[]⟩,.string ⟨#[]⟩] 40 (0,0))) ∧ (w.heap.size ≤ s_.1) ∧ (w.heap.size ≤ s_.1) ∧ (gb541 ≠ s_.1) ∧ (s_.1 ≠ gb541) ∧ (s_.2 ≠ s_.1) ∧ (s_.1 ≠ s_.2) ∧ (w.heap.size ≤ s_.2) ∧ (w.heap.size ≤ s_.2) ∧ (gb541 ≠ s_.2) ∧ (s_.2 ≠ gb541) ∧ (Below w.heap.size w w')) ?_ ?_
      rotate_left
      ·intro hJ7_8
       refine join_ (σ := Unit) 4 #[true,true,true,true,true,true,true,false,false,false,false] (fun s_ => [(33,.string t545)]) (fun s_ w' => (w'.cell? ⟨gb541,0,none⟩ = some (.string a1_0) ∧ w'.cell? ⟨gb541,1,none⟩ = some (.slice (some ad546) l1_1.length c1_1) ∧ w'.cell? ad546 = some (.int .i64 ((rd_T40 l1_1 0).f0)) ∧ w'.cell? ⟨ad546.block,ad546.off + 1,none⟩ = some (.int .i64 ((rd_T40 l1_1 0).f1)) ∧ w'.cell? ⟨ad546.block,ad546.off + 2,none⟩ = some (.int .i64 ((rd_T40 l1_1 0).f2)) ∧ w'.cell? ⟨ad546.block,ad546.off + 3,none⟩ = some (.int .i64 ((rd_T40 l1_1 0).f3)) ∧ w'.cell? ⟨ad546.block,ad546.off + 4,none⟩ = some (.string ((rd_T40 l1_1 0).f4)) ∧ w'.cell? ⟨ad546.block,ad546.off + 5,none⟩ = some (.string ((rd_T40 l1_1 0).f5)) ∧ w'.cell? ⟨ad546.block,ad546.off + 6,none⟩ = some (.string ((rd_T40 l1_1 0).f6))) ∧ (w'.heap[gb541]? = some (.cells #[.string a1_0,.slice (some ad546) l1_1.length c1_1] 29 (0,0))) ∧ (Below w.heap.size w w')) ?_ ?_
       rotate_left
       ·intro hJ2
        refine join_ (σ := Nat) 4 #[true,true,false,true,true,true,true,true,false,false,false] (fun s_ => [(5,.pointer (some ⟨s_,0,none⟩))]) (fun s_ w' => (w'.cell? ⟨gb541,0,none⟩ = some (.string a1_0) ∧ w'.cell? ⟨gb541,1,none⟩ = some (.slice (some ad546) l1_1.length c1_1) ∧ w'.cell? ad546 = some (.int .i64 ((rd_T40 l1_1 0).f0)) ∧ w'.cell? ⟨ad546.block,ad546.off + 1,none⟩ = some (.int .i64 ((rd_T40 l1_1 0).f1)) ∧ w'.cell? ⟨ad546.block,ad546.off + 2,none⟩ = some (.int .i64 ((rd_T40 l1_1 0).f2)) ∧ w'.cell? ⟨ad546.block,ad546.off + 3,none⟩ = some (.int .i64 ((rd_T40 l1_1 0).f3)) ∧ w'.cell? ⟨ad546.block,ad546.off + 4,none⟩ = some (.string ((rd_T40 l1_1 0).f4)) ∧ w'.cell? ⟨ad546.block,ad546.off + 5,none⟩ = some (.string ((rd_T40 l1_1 0).f5)) ∧ w'.cell? ⟨ad546.block,ad546.off + 6,none⟩ = some (.string ((rd_T40 l1_1 0).f6))) ∧ (w'.heap[gb541]? = some (.cells #[.string a1_0,.slice (some ad546) l1_1.length c1_1] 29 (0,0))) ∧ (w'.heap[s_]? = some (.cells #[.string ⟨#[]⟩] 9 (0,0))) ∧ (w.heap.size ≤ s_) ∧ (w.heap.size ≤ s_) ∧ (gb541 ≠ s_) ∧ (s_ ≠ gb541) ∧ (Below w.heap.size w w')) ?_ ?_
        rotate_left
        ·intro hJ7
         refine join_ (σ := Nat) 4 #[true,true,false,true,true,true,true,false,true,false,false] (fun s_ => [(6,.pointer (some ⟨s_,0,none⟩))]) (fun s_ w' => (w'.cell? ⟨gb541,0,none⟩ = some (.string a1_0) ∧ w'.cell? ⟨gb541,1,none⟩ = some (.slice (some ad546) l1_1.length c1_1) ∧ w'.cell? ad546 = some (.int .i64 ((rd_T40 l1_1 0).f0)) ∧ w'.cell? ⟨ad546.block,ad546.off + 1,none⟩ = some (.int .i64 ((rd_T40 l1_1 0).f1)) ∧ w'.cell? ⟨ad546.block,ad546.off + 2,none⟩ = some (.int .i64 ((rd_T40 l1_1 0).f2)) ∧ w'.cell? ⟨ad546.block,ad546.off + 3,none⟩ = some (.int .i64 ((rd_T40 l1_1 0).f3)) ∧ w'.cell? ⟨ad546.block,ad546.off + 4,none⟩ = some (.string ((rd_T40 l1_1 0).f4)) ∧ w'.cell? ⟨ad546.block,ad546.off + 5,none⟩ = some (.string ((rd_T40 l1_1 0).f5)) ∧ w'.cell? ⟨ad546.block,ad546.off + 6,none⟩ = some (.string ((rd_T40 l1_1 0).f6))) ∧ (w'.heap[gb541]? = some (.cells #[.string a1_0,.slice (some ad546) l1_1.length c1_1] 29 (0,0))) ∧ (w'.heap[s_]? = some (.cells #[.int .i64 0,.int .i64 0,.int .i64 0,.int .i64 0,.string ⟨#[]⟩,.string ⟨#[]⟩,.string ⟨#[]⟩] 40 (0,0))) ∧ (w.heap.size ≤ s_) ∧ (w.heap.size ≤ s_) ∧ (gb541 ≠ s_) ∧ (s_ ≠ gb541) ∧ (Below w.heap.size w w')) ?_ ?_
         rotate_left
         ·intro hJ8
          refine three_ (i := 2) (j := 7) (k := 8) (Ni := some 33) (Nj := some 5) (Nk := some 6) #[true,true,true,true,true,true,true,false,false,false,false] #[true,true,false,true,true,true,true,true,false,false,false] #[true,true,false,true,true,true,true,false,true,false,false] rfl rfl rfl rfl rfl rfl (three_of HT_.out (by kernel_rfl)) (by decide) (by decide) (by decide) (fun K hK => ?_) (fun K hK => ?_) (fun K hK => ?_)
          ·skip
           refine zgo Tryz.func16 #[.string a1_0] ?_
           with_reducible refine (ZO.calls kj2 a1_0 t545 _ ?side1 A18.out).mono ?_
           (case side1 => exact HLD.out.on (zl_ HB))
           rintro e w24 ⟨rfl,hb⟩
           refine ⟨_,rfl,?_⟩
           replace BK541 := zb BK541 hb
           replace HB := zs_ HB hb
           try clear hb
           refine hK.out _ _ ⟨(blk_cell BK541.out 0).trans rfl,(blk_cell BK541.out 1).trans rfl,(zx_ HB hw546_0),(zx_ HB hw546_1),(zx_ HB hw546_2),(zx_ HB hw546_3),(zx_ HB hw546_4),(zx_ HB hw546_5),(zx_ HB hw546_6)⟩ (fun hHeld => ?_)
           clear hK K
           refine nm_ ?_
           exact norm_ (by first | (simp only [putAll,Act.put,p1_,p2_,p3_];done) | (simp only [putAll,Act.put,p1_,p2_,p3_];rfl)) (hJ2 () _ ⟨hHeld,(zk BK541),(zl_ HB)⟩)
          ·skip
           refine box_step ?hg (N := 5) ?hd (cs := #[.string ⟨#[]⟩]) (t := 9) ?hr ?_;(case hd => rfl);(case hg => rfl);(case hr => first | (go_simp;done) | (go_simp;rfl))
           intro gb547 hg w24 hbox hb
           have BK547 := am_ (hbox)
           have GW547 := zw_ HB hg
           have GE547 := zw_ HB hg
           replace HB := zs_ HB hb
           have NB541_547 := zl hg BK541
           have NB547_541 := zg hg BK541
           replace BK541 := zb BK541 hb
           clear hb hbox hg
           refine hK.out _ _ ⟨(blk_cell BK541.out 0).trans rfl,(blk_cell BK541.out 1).trans rfl,(zx_ HB hw546_0),(zx_ HB hw546_1),(zx_ HB hw546_2),(zx_ HB hw546_3),(zx_ HB hw546_4),(zx_ HB hw546_5),(zx_ HB hw546_6)⟩ (fun hHeld => ?_)
           clear hK K
           refine nm_ ?_
           exact norm_ (by first | (simp only [putAll,Act.put,p1_,p2_,p3_];done) | (simp only [putAll,Act.put,p1_,p2_,p3_];rfl)) (hJ7 (gb547) _ ⟨hHeld,(zk BK541),(zk BK547),GW547.out,GE547.out,NB541_547.out,NB547_541.out,(zl_ HB)⟩)
          ·skip
           refine box_step ?hg (N := 6) ?hd (cs := #[.int .i64 0,.int .i64 0,.int .i64 0,.int .i64 0,.string ⟨#[]⟩,.string ⟨#[]⟩,.string ⟨#[]⟩]) (t := 40) ?hr ?_;(case hd => rfl);(case hg => rfl);(case hr => first | (go_simp;done) | (go_simp;rfl))
           intro gb548 hg w24 hbox hb
           have BK548 := am_ (hbox)
           have GW548 := zw_ HB hg
           have GE548 := zw_ HB hg
           replace HB := zs_ HB hb
           have NB541_548 := zl hg BK541
           have NB548_541 := zg hg BK541
           replace BK541 := zb BK541 hb
           clear hb hbox hg
           refine hK.out _ _ ⟨(blk_cell BK541.out 0).trans rfl,(blk_cell BK541.out 1).trans rfl,(zx_ HB hw546_0),(zx_ HB hw546_1),(zx_ HB hw546_2),(zx_ HB hw546_3),(zx_ HB hw546_4),(zx_ HB hw546_5),(zx_ HB hw546_6)⟩ (fun hHeld => ?_)
           clear hK K
           refine nm_ ?_
           exact norm_ (by first | (simp only [putAll,Act.put,p1_,p2_,p3_];done) | (simp only [putAll,Act.put,p1_,p2_,p3_];rfl)) (hJ8 (gb548) _ ⟨hHeld,(zk BK541),(zk BK548),GW548.out,GE548.out,NB541_548.out,NB548_541.out,(zl_ HB)⟩)
         ·skip
          rintro gb548 w25 ⟨hS_,h0_,h1_,h2_,h3_,h4_,h5_,h6_⟩
          have n0_ : Aside0 (w25.heap[gb541]? = some (.cells #[.string a1_0,.slice (some ad546) l1_1.length c1_1] 29 (0,0))) := ⟨h0_⟩
          have n1_ : Aside0 (w25.heap[gb548]? = some (.cells #[.int .i64 0,.int .i64 0,.int .i64 0,.int .i64 0,.string ⟨#[]⟩,.string ⟨#[]⟩,.string ⟨#[]⟩] 40 (0,0))) := ⟨h1_⟩
          have n2_ : Aside0 (w.heap.size ≤ gb548) := ⟨h2_⟩
          have n3_ : Aside0 (w.heap.size ≤ gb548) := ⟨h3_⟩
          have n4_ : Aside0 (gb541 ≠ gb548) := ⟨h4_⟩
          have n5_ : Aside0 (gb548 ≠ gb541) := ⟨h5_⟩
          have n6_ : Aside0 (Below w.heap.size w w25) := ⟨h6_⟩
          clear BK541
          clear HB
          clear h0_ h1_ h2_ h3_ h4_ h5_ h6_
          have BK541 := n0_
          have BK548 := n1_
          have GW548 := n2_
          have GE548 := n3_
          have NB541_548 := n4_
          have NB548_541 := n5_
          have HB := n6_
          clear n0_ n1_ n2_ n3_ n4_ n5_ n6_
          have hHeld : w25.cell? ⟨gb541,0,none⟩ = some (.string a1_0) ∧ w25.cell? ⟨gb541,1,none⟩ = some (.slice (some ad546) l1_1.length c1_1) ∧ w25.cell? ad546 = some (.int .i64 ((rd_T40 l1_1 0).f0)) ∧ w25.cell? ⟨ad546.block,ad546.off + 1,none⟩ = some (.int .i64 ((rd_T40 l1_1 0).f1)) ∧ w25.cell? ⟨ad546.block,ad546.off + 2,none⟩ = some (.int .i64 ((rd_T40 l1_1 0).f2)) ∧ w25.cell? ⟨ad546.block,ad546.off + 3,none⟩ = some (.int .i64 ((rd_T40 l1_1 0).f3)) ∧ w25.cell? ⟨ad546.block,ad546.off + 4,none⟩ = some (.string ((rd_T40 l1_1 0).f4)) ∧ w25.cell? ⟨ad546.block,ad546.off + 5,none⟩ = some (.string ((rd_T40 l1_1 0).f5)) ∧ w25.cell? ⟨ad546.block,ad546.off + 6,none⟩ = some (.string ((rd_T40 l1_1 0).f6)) := hS_
          refine norm_ (a' := ?_) ?_ ?_
          rotate_left
          ·simp only [putAll,Act.put,p1_,p2_,p3_]
           rfl
          refine two_ (i := 2) (j := 7) (Ni := some 33) (Nj := some 5) #[true,true,true,true,true,true,true,false,true,false,false] #[true,true,false,true,true,true,true,true,true,false,false] rfl rfl rfl rfl (two_of HT_.out (by kernel_rfl)) (by decide) (by decide) (fun K hK => ?_) (fun K hK => ?_)
          ·skip
           refine zgo Tryz.func16 #[.string a1_0] ?_
           with_reducible refine (ZO.calls kj2 a1_0 t545 _ ?side1 A18.out).mono ?_
           (case side1 => exact HLD.out.on (zl_ HB))
           rintro e w26 ⟨rfl,hb⟩
           refine ⟨_,rfl,?_⟩
           replace BK541 := zb BK541 hb
           replace BK548 := zb BK548 hb
           replace HB := zs_ HB hb
           try clear hb
           refine hK.out _ _ ⟨(blk_cell BK541.out 0).trans rfl,(blk_cell BK541.out 1).trans rfl,(zx_ HB hw546_0),(zx_ HB hw546_1),(zx_ HB hw546_2),(zx_ HB hw546_3),(zx_ HB hw546_4),(zx_ HB hw546_5),(zx_ HB hw546_6)⟩ (fun hHeld => ?_)
           clear hK K
           refine nm_ ?_
           exact norm_ (by first | (simp only [putAll,Act.put,p1_,p2_,p3_];done) | (simp only [putAll,Act.put,p1_,p2_,p3_];rfl)) (hJ2_8 (gb548) _ ⟨hHeld,(zk BK541),(zk BK548),GW548.out,GE548.out,NB541_548.out,NB548_541.out,(zl_ HB)⟩)
          ·skip
           refine box_step ?hg (N := 5) ?hd (cs := #[.string ⟨#[]⟩]) (t := 9) ?hr ?_;(case hd => rfl);(case hg => rfl);(case hr => first | (go_simp;done) | (go_simp;rfl))
           intro gb547 hg w26 hbox hb
           have BK547 := am_ (hbox)
           have GW547 := zw_ HB hg
           have GE547 := zw_ HB hg
           replace HB := zs_ HB hb
           have NB541_547 := zl hg BK541
           have NB547_541 := zg hg BK541
           replace BK541 := zb BK541 hb
           have NB548_547 := zl hg BK548
           have NB547_548 := zg hg BK548
           replace BK548 := zb BK548 hb
           clear hb hbox hg
           refine hK.out _ _ ⟨(blk_cell BK541.out 0).trans rfl,(blk_cell BK541.out 1).trans rfl,(zx_ HB hw546_0),(zx_ HB hw546_1),(zx_ HB hw546_2),(zx_ HB hw546_3),(zx_ HB hw546_4),(zx_ HB hw546_5),(zx_ HB hw546_6)⟩ (fun hHeld => ?_)
           clear hK K
           refine nm_ ?_
           exact norm_ (by first | (simp only [putAll,Act.put,p1_,p2_,p3_];done) | (simp only [putAll,Act.put,p1_,p2_,p3_];rfl)) (hJ7_8 (gb547,gb548) _ ⟨hHeld,(zk BK541),(zk BK547),(zk BK548),GW547.out,GE547.out,NB541_547.out,NB547_541.out,NB548_547.out,NB547_548.out,GW548.out,GE548.out,NB541_548.out,NB548_541.out,(zl_ HB)⟩)
        ·skip
         rintro gb547 w25 ⟨hS_,h0_,h1_,h2_,h3_,h4_,h5_,h6_⟩
         have n0_ : Aside0 (w25.heap[gb541]? = some (.cells #[.string a1_0,.slice (some ad546) l1_1.length c1_1] 29 (0,0))) := ⟨h0_⟩
         have n1_ : Aside0 (w25.heap[gb547]? = some (.cells #[.string ⟨#[]⟩] 9 (0,0))) := ⟨h1_⟩
         have n2_ : Aside0 (w.heap.size ≤ gb547) := ⟨h2_⟩
         have n3_ : Aside0 (w.heap.size ≤ gb547) := ⟨h3_⟩
         have n4_ : Aside0 (gb541 ≠ gb547) := ⟨h4_⟩
         have n5_ : Aside0 (gb547 ≠ gb541) := ⟨h5_⟩
         have n6_ : Aside0 (Below w.heap.size w w25) := ⟨h6_⟩
         clear BK541
         clear HB
         clear h0_ h1_ h2_ h3_ h4_ h5_ h6_
         have BK541 := n0_
         have BK547 := n1_
         have GW547 := n2_
         have GE547 := n3_
         have NB541_547 := n4_
         have NB547_541 := n5_
         have HB := n6_
         clear n0_ n1_ n2_ n3_ n4_ n5_ n6_
         have hHeld : w25.cell? ⟨gb541,0,none⟩ = some (.string a1_0) ∧ w25.cell? ⟨gb541,1,none⟩ = some (.slice (some ad546) l1_1.length c1_1) ∧ w25.cell? ad546 = some (.int .i64 ((rd_T40 l1_1 0).f0)) ∧ w25.cell? ⟨ad546.block,ad546.off + 1,none⟩ = some (.int .i64 ((rd_T40 l1_1 0).f1)) ∧ w25.cell? ⟨ad546.block,ad546.off + 2,none⟩ = some (.int .i64 ((rd_T40 l1_1 0).f2)) ∧ w25.cell? ⟨ad546.block,ad546.off + 3,none⟩ = some (.int .i64 ((rd_T40 l1_1 0).f3)) ∧ w25.cell? ⟨ad546.block,ad546.off + 4,none⟩ = some (.string ((rd_T40 l1_1 0).f4)) ∧ w25.cell? ⟨ad546.block,ad546.off + 5,none⟩ = some (.string ((rd_T40 l1_1 0).f5)) ∧ w25.cell? ⟨ad546.block,ad546.off + 6,none⟩ = some (.string ((rd_T40 l1_1 0).f6)) := hS_
         refine norm_ (a' := ?_) ?_ ?_
         rotate_left
         ·simp only [putAll,Act.put,p1_,p2_,p3_]
          rfl
         refine two_ (i := 2) (j := 8) (Ni := some 33) (Nj := some 6) #[true,true,true,true,true,true,true,true,false,false,false] #[true,true,false,true,true,true,true,true,true,false,false] rfl rfl rfl rfl (two_of HT_.out (by kernel_rfl)) (by decide) (by decide) (fun K hK => ?_) (fun K hK => ?_)
         ·skip
          refine zgo Tryz.func16 #[.string a1_0] ?_
          with_reducible refine (ZO.calls kj2 a1_0 t545 _ ?side1 A18.out).mono ?_
          (case side1 => exact HLD.out.on (zl_ HB))
          rintro e w26 ⟨rfl,hb⟩
          refine ⟨_,rfl,?_⟩
          replace BK541 := zb BK541 hb
          replace BK547 := zb BK547 hb
          replace HB := zs_ HB hb
          try clear hb
          refine hK.out _ _ ⟨(blk_cell BK541.out 0).trans rfl,(blk_cell BK541.out 1).trans rfl,(zx_ HB hw546_0),(zx_ HB hw546_1),(zx_ HB hw546_2),(zx_ HB hw546_3),(zx_ HB hw546_4),(zx_ HB hw546_5),(zx_ HB hw546_6)⟩ (fun hHeld => ?_)
          clear hK K
          refine nm_ ?_
          exact norm_ (by first | (simp only [putAll,Act.put,p1_,p2_,p3_];done) | (simp only [putAll,Act.put,p1_,p2_,p3_];rfl)) (hJ2_7 (gb547) _ ⟨hHeld,(zk BK541),(zk BK547),GW547.out,GE547.out,NB541_547.out,NB547_541.out,(zl_ HB)⟩)
         ·skip
          refine box_step ?hg (N := 6) ?hd (cs := #[.int .i64 0,.int .i64 0,.int .i64 0,.int .i64 0,.string ⟨#[]⟩,.string ⟨#[]⟩,.string ⟨#[]⟩]) (t := 40) ?hr ?_;(case hd => rfl);(case hg => rfl);(case hr => first | (go_simp;done) | (go_simp;rfl))
          intro gb548 hg w26 hbox hb
          have BK548 := am_ (hbox)
          have GW548 := zw_ HB hg
          have GE548 := zw_ HB hg
          replace HB := zs_ HB hb
          have NB541_548 := zl hg BK541
          have NB548_541 := zg hg BK541
          replace BK541 := zb BK541 hb
          have NB547_548 := zl hg BK547
          have NB548_547 := zg hg BK547
          replace BK547 := zb BK547 hb
          clear hb hbox hg
          refine hK.out _ _ ⟨(blk_cell BK541.out 0).trans rfl,(blk_cell BK541.out 1).trans rfl,(zx_ HB hw546_0),(zx_ HB hw546_1),(zx_ HB hw546_2),(zx_ HB hw546_3),(zx_ HB hw546_4),(zx_ HB hw546_5),(zx_ HB hw546_6)⟩ (fun hHeld => ?_)
          clear hK K
          refine nm_ ?_
          exact norm_ (by first | (simp only [putAll,Act.put,p1_,p2_,p3_];done) | (simp only [putAll,Act.put,p1_,p2_,p3_];rfl)) (hJ7_8 (gb547,gb548) _ ⟨hHeld,(zk BK541),(zk BK547),(zk BK548),GW547.out,GE547.out,NB541_547.out,NB547_541.out,NB548_547.out,NB547_548.out,GW548.out,GE548.out,NB541_548.out,NB548_541.out,(zl_ HB)⟩)
       ·skip
        rintro _ w25 ⟨hS_,h0_,h1_⟩
        have n0_ : Aside0 (w25.heap[gb541]? = some (.cells #[.string a1_0,.slice (some ad546) l1_1.length c1_1] 29 (0,0))) := ⟨h0_⟩
        have n1_ : Aside0 (Below w.heap.size w w25) := ⟨h1_⟩
        clear BK541
        clear HB
        clear h0_ h1_
        have BK541 := n0_
        have HB := n1_
        clear n0_ n1_
        have hHeld : w25.cell? ⟨gb541,0,none⟩ = some (.string a1_0) ∧ w25.cell? ⟨gb541,1,none⟩ = some (.slice (some ad546) l1_1.length c1_1) ∧ w25.cell? ad546 = some (.int .i64 ((rd_T40 l1_1 0).f0)) ∧ w25.cell? ⟨ad546.block,ad546.off + 1,none⟩ = some (.int .i64 ((rd_T40 l1_1 0).f1)) ∧ w25.cell? ⟨ad546.block,ad546.off + 2,none⟩ = some (.int .i64 ((rd_T40 l1_1 0).f2)) ∧ w25.cell? ⟨ad546.block,ad546.off + 3,none⟩ = some (.int .i64 ((rd_T40 l1_1 0).f3)) ∧ w25.cell? ⟨ad546.block,ad546.off + 4,none⟩ = some (.string ((rd_T40 l1_1 0).f4)) ∧ w25.cell? ⟨ad546.block,ad546.off + 5,none⟩ = some (.string ((rd_T40 l1_1 0).f5)) ∧ w25.cell? ⟨ad546.block,ad546.off + 6,none⟩ = some (.string ((rd_T40 l1_1 0).f6)) := hS_
        refine norm_ (a' := ?_) ?_ ?_
        rotate_left
        ·simp only [putAll,Act.put,p1_,p2_,p3_]
         rfl
        refine two_ (i := 7) (j := 8) (Ni := some 5) (Nj := some 6) #[true,true,true,true,true,true,true,true,false,false,false] #[true,true,true,true,true,true,true,false,true,false,false] rfl rfl rfl rfl (two_of HT_.out (by kernel_rfl)) (by decide) (by decide) (fun K hK => ?_) (fun K hK => ?_)
        ·skip
         refine box_step ?hg (N := 5) ?hd (cs := #[.string ⟨#[]⟩]) (t := 9) ?hr ?_;(case hd => rfl);(case hg => rfl);(case hr => first | (go_simp;done) | (go_simp;rfl))
         intro gb547 hg w26 hbox hb
         have BK547 := am_ (hbox)
         have GW547 := zw_ HB hg
         have GE547 := zw_ HB hg
         replace HB := zs_ HB hb
         have NB541_547 := zl hg BK541
         have NB547_541 := zg hg BK541
         replace BK541 := zb BK541 hb
         clear hb hbox hg
         refine hK.out _ _ ⟨(blk_cell BK541.out 0).trans rfl,(blk_cell BK541.out 1).trans rfl,(zx_ HB hw546_0),(zx_ HB hw546_1),(zx_ HB hw546_2),(zx_ HB hw546_3),(zx_ HB hw546_4),(zx_ HB hw546_5),(zx_ HB hw546_6)⟩ (fun hHeld => ?_)
         clear hK K
         refine nm_ ?_
         exact norm_ (by first | (simp only [putAll,Act.put,p1_,p2_,p3_];done) | (simp only [putAll,Act.put,p1_,p2_,p3_];rfl)) (hJ2_7 (gb547) _ ⟨hHeld,(zk BK541),(zk BK547),GW547.out,GE547.out,NB541_547.out,NB547_541.out,(zl_ HB)⟩)
        ·skip
         refine box_step ?hg (N := 6) ?hd (cs := #[.int .i64 0,.int .i64 0,.int .i64 0,.int .i64 0,.string ⟨#[]⟩,.string ⟨#[]⟩,.string ⟨#[]⟩]) (t := 40) ?hr ?_;(case hd => rfl);(case hg => rfl);(case hr => first | (go_simp;done) | (go_simp;rfl))
         intro gb548 hg w26 hbox hb
         have BK548 := am_ (hbox)
         have GW548 := zw_ HB hg
         have GE548 := zw_ HB hg
         replace HB := zs_ HB hb
         have NB541_548 := zl hg BK541
         have NB548_541 := zg hg BK541
         replace BK541 := zb BK541 hb
         clear hb hbox hg
         refine hK.out _ _ ⟨(blk_cell BK541.out 0).trans rfl,(blk_cell BK541.out 1).trans rfl,(zx_ HB hw546_0),(zx_ HB hw546_1),(zx_ HB hw546_2),(zx_ HB hw546_3),(zx_ HB hw546_4),(zx_ HB hw546_5),(zx_ HB hw546_6)⟩ (fun hHeld => ?_)
         clear hK K
         refine nm_ ?_
         exact norm_ (by first | (simp only [putAll,Act.put,p1_,p2_,p3_];done) | (simp only [putAll,Act.put,p1_,p2_,p3_];rfl)) (hJ2_8 (gb548) _ ⟨hHeld,(zk BK541),(zk BK548),GW548.out,GE548.out,NB541_548.out,NB548_541.out,(zl_ HB)⟩)
      ·skip
       rintro ⟨gb547,gb548⟩ w26 ⟨hS_,h0_,h1_,h2_,h3_,h4_,h5_,h6_,h7_,h8_,h9_,h10_,h11_,h12_,h13_⟩
       have n0_ : Aside0 (w26.heap[gb541]? = some (.cells #[.string a1_0,.slice (some ad546) l1_1.length c1_1] 29 (0,0))) := ⟨h0_⟩
       have n1_ : Aside0 (w26.heap[gb547]? = some (.cells #[.string ⟨#[]⟩] 9 (0,0))) := ⟨h1_⟩
       have n2_ : Aside0 (w26.heap[gb548]? = some (.cells #[.int .i64 0,.int .i64 0,.int .i64 0,.int .i64 0,.string ⟨#[]⟩,.string ⟨#[]⟩,.string ⟨#[]⟩] 40 (0,0))) := ⟨h2_⟩
       have n3_ : Aside0 (w.heap.size ≤ gb547) := ⟨h3_⟩
       have n4_ : Aside0 (w.heap.size ≤ gb547) := ⟨h4_⟩
       have n5_ : Aside0 (gb541 ≠ gb547) := ⟨h5_⟩
       have n6_ : Aside0 (gb547 ≠ gb541) := ⟨h6_⟩
       have n7_ : Aside0 (gb548 ≠ gb547) := ⟨h7_⟩
       have n8_ : Aside0 (gb547 ≠ gb548) := ⟨h8_⟩
       have n9_ : Aside0 (w.heap.size ≤ gb548) := ⟨h9_⟩
       have n10_ : Aside0 (w.heap.size ≤ gb548) := ⟨h10_⟩
       have n11_ : Aside0 (gb541 ≠ gb548) := ⟨h11_⟩
       have n12_ : Aside0 (gb548 ≠ gb541) := ⟨h12_⟩
       have n13_ : Aside0 (Below w.heap.size w w26) := ⟨h13_⟩
       clear BK541
       clear HB
       clear h0_ h1_ h2_ h3_ h4_ h5_ h6_ h7_ h8_ h9_ h10_ h11_ h12_ h13_
       have BK541 := n0_
       have BK547 := n1_
       have BK548 := n2_
       have GW547 := n3_
       have GE547 := n4_
       have NB541_547 := n5_
       have NB547_541 := n6_
       have NB548_547 := n7_
       have NB547_548 := n8_
       have GW548 := n9_
       have GE548 := n10_
       have NB541_548 := n11_
       have NB548_541 := n12_
       have HB := n13_
       clear n0_ n1_ n2_ n3_ n4_ n5_ n6_ n7_ n8_ n9_ n10_ n11_ n12_ n13_
       have hHeld : w26.cell? ⟨gb541,0,none⟩ = some (.string a1_0) ∧ w26.cell? ⟨gb541,1,none⟩ = some (.slice (some ad546) l1_1.length c1_1) ∧ w26.cell? ad546 = some (.int .i64 ((rd_T40 l1_1 0).f0)) ∧ w26.cell? ⟨ad546.block,ad546.off + 1,none⟩ = some (.int .i64 ((rd_T40 l1_1 0).f1)) ∧ w26.cell? ⟨ad546.block,ad546.off + 2,none⟩ = some (.int .i64 ((rd_T40 l1_1 0).f2)) ∧ w26.cell? ⟨ad546.block,ad546.off + 3,none⟩ = some (.int .i64 ((rd_T40 l1_1 0).f3)) ∧ w26.cell? ⟨ad546.block,ad546.off + 4,none⟩ = some (.string ((rd_T40 l1_1 0).f4)) ∧ w26.cell? ⟨ad546.block,ad546.off + 5,none⟩ = some (.string ((rd_T40 l1_1 0).f5)) ∧ w26.cell? ⟨ad546.block,ad546.off + 6,none⟩ = some (.string ((rd_T40 l1_1 0).f6)) := hS_
       refine norm_ (a' := ?_) ?_ ?_
       rotate_left
       ·simp only [putAll,Act.put,p1_,p2_,p3_]
        rfl
       refine zon 2 (N := some 33) HT_ (fun K hK => ?_)
       refine zgo Tryz.func16 #[.string a1_0] ?_
       with_reducible refine (ZO.calls kj2 a1_0 t545 _ ?side1 A18.out).mono ?_
       (case side1 => exact HLD.out.on (zl_ HB))
       rintro e w27 ⟨rfl,hb⟩
       refine ⟨_,rfl,?_⟩
       replace BK541 := zb BK541 hb
       replace BK547 := zb BK547 hb
       replace BK548 := zb BK548 hb
       replace HB := zs_ HB hb
       try clear hb
       refine hK.out _ _ ⟨(blk_cell BK541.out 0).trans rfl,(blk_cell BK541.out 1).trans rfl,(zx_ HB hw546_0),(zx_ HB hw546_1),(zx_ HB hw546_2),(zx_ HB hw546_3),(zx_ HB hw546_4),(zx_ HB hw546_5),(zx_ HB hw546_6)⟩ (fun hHeld => ?_)
       clear hK K
       refine nm_ ?_
       exact norm_ (by first | (simp only [putAll,Act.put,p1_,p2_,p3_];done) | (simp only [putAll,Act.put,p1_,p2_,p3_];rfl)) (hJ2_7_8 (gb547,gb548) _ ⟨hHeld,(zk BK541),(zk BK547),(zk BK548),GW547.out,GE547.out,NB541_547.out,NB547_541.out,NB548_547.out,NB547_548.out,GW548.out,GE548.out,NB541_548.out,NB548_541.out,(zl_ HB)⟩)
     ·skip
      rintro gb548 w26 ⟨hS_,h0_,h1_,h2_,h3_,h4_,h5_,h6_⟩
      have n0_ : Aside0 (w26.heap[gb541]? = some (.cells #[.string a1_0,.slice (some ad546) l1_1.length c1_1] 29 (0,0))) := ⟨h0_⟩
      have n1_ : Aside0 (w26.heap[gb548]? = some (.cells #[.int .i64 0,.int .i64 0,.int .i64 0,.int .i64 0,.string ⟨#[]⟩,.string ⟨#[]⟩,.string ⟨#[]⟩] 40 (0,0))) := ⟨h1_⟩
      have n2_ : Aside0 (w.heap.size ≤ gb548) := ⟨h2_⟩
      have n3_ : Aside0 (w.heap.size ≤ gb548) := ⟨h3_⟩
      have n4_ : Aside0 (gb541 ≠ gb548) := ⟨h4_⟩
      have n5_ : Aside0 (gb548 ≠ gb541) := ⟨h5_⟩
      have n6_ : Aside0 (Below w.heap.size w w26) := ⟨h6_⟩
      clear BK541
      clear HB
      clear h0_ h1_ h2_ h3_ h4_ h5_ h6_
      have BK541 := n0_
      have BK548 := n1_
      have GW548 := n2_
      have GE548 := n3_
      have NB541_548 := n4_
      have NB548_541 := n5_
      have HB := n6_
      clear n0_ n1_ n2_ n3_ n4_ n5_ n6_
      have hHeld : w26.cell? ⟨gb541,0,none⟩ = some (.string a1_0) ∧ w26.cell? ⟨gb541,1,none⟩ = some (.slice (some ad546) l1_1.length c1_1) ∧ w26.cell? ad546 = some (.int .i64 ((rd_T40 l1_1 0).f0)) ∧ w26.cell? ⟨ad546.block,ad546.off + 1,none⟩ = some (.int .i64 ((rd_T40 l1_1 0).f1)) ∧ w26.cell? ⟨ad546.block,ad546.off + 2,none⟩ = some (.int .i64 ((rd_T40 l1_1 0).f2)) ∧ w26.cell? ⟨ad546.block,ad546.off + 3,none⟩ = some (.int .i64 ((rd_T40 l1_1 0).f3)) ∧ w26.cell? ⟨ad546.block,ad546.off + 4,none⟩ = some (.string ((rd_T40 l1_1 0).f4)) ∧ w26.cell? ⟨ad546.block,ad546.off + 5,none⟩ = some (.string ((rd_T40 l1_1 0).f5)) ∧ w26.cell? ⟨ad546.block,ad546.off + 6,none⟩ = some (.string ((rd_T40 l1_1 0).f6)) := hS_
      refine norm_ (a' := ?_) ?_ ?_
      rotate_left
      ·simp only [putAll,Act.put,p1_,p2_,p3_]
       rfl
      refine zon 7 (N := some 5) HT_ (fun K hK => ?_)
      refine box_step ?hg (N := 5) ?hd (cs := #[.string ⟨#[]⟩]) (t := 9) ?hr ?_;(case hd => rfl);(case hg => rfl);(case hr => first | (go_simp;done) | (go_simp;rfl))
      intro gb547 hg w27 hbox hb
      have BK547 := am_ (hbox)
      have GW547 := zw_ HB hg
      have GE547 := zw_ HB hg
      replace HB := zs_ HB hb
      have NB541_547 := zl hg BK541
      have NB547_541 := zg hg BK541
      replace BK541 := zb BK541 hb
      have NB548_547 := zl hg BK548
      have NB547_548 := zg hg BK548
      replace BK548 := zb BK548 hb
      clear hb hbox hg
      refine hK.out _ _ ⟨(blk_cell BK541.out 0).trans rfl,(blk_cell BK541.out 1).trans rfl,(zx_ HB hw546_0),(zx_ HB hw546_1),(zx_ HB hw546_2),(zx_ HB hw546_3),(zx_ HB hw546_4),(zx_ HB hw546_5),(zx_ HB hw546_6)⟩ (fun hHeld => ?_)
      clear hK K
      refine nm_ ?_
      exact norm_ (by first | (simp only [putAll,Act.put,p1_,p2_,p3_];done) | (simp only [putAll,Act.put,p1_,p2_,p3_];rfl)) (hJ2_7_8 (gb547,gb548) _ ⟨hHeld,(zk BK541),(zk BK547),(zk BK548),GW547.out,GE547.out,NB541_547.out,NB547_541.out,NB548_547.out,NB547_548.out,GW548.out,GE548.out,NB541_548.out,NB548_541.out,(zl_ HB)⟩)
    ·skip
     rintro gb547 w26 ⟨hS_,h0_,h1_,h2_,h3_,h4_,h5_,h6_⟩
     have n0_ : Aside0 (w26.heap[gb541]? = some (.cells #[.string a1_0,.slice (some ad546) l1_1.length c1_1] 29 (0,0))) := ⟨h0_⟩
     have n1_ : Aside0 (w26.heap[gb547]? = some (.cells #[.string ⟨#[]⟩] 9 (0,0))) := ⟨h1_⟩
     have n2_ : Aside0 (w.heap.size ≤ gb547) := ⟨h2_⟩
     have n3_ : Aside0 (w.heap.size ≤ gb547) := ⟨h3_⟩
     have n4_ : Aside0 (gb541 ≠ gb547) := ⟨h4_⟩
     have n5_ : Aside0 (gb547 ≠ gb541) := ⟨h5_⟩
     have n6_ : Aside0 (Below w.heap.size w w26) := ⟨h6_⟩
     clear BK541
     clear HB
     clear h0_ h1_ h2_ h3_ h4_ h5_ h6_
     have BK541 := n0_
     have BK547 := n1_
     have GW547 := n2_
     have GE547 := n3_
     have NB541_547 := n4_
     have NB547_541 := n5_
     have HB := n6_
     clear n0_ n1_ n2_ n3_ n4_ n5_ n6_
     have hHeld : w26.cell? ⟨gb541,0,none⟩ = some (.string a1_0) ∧ w26.cell? ⟨gb541,1,none⟩ = some (.slice (some ad546) l1_1.length c1_1) ∧ w26.cell? ad546 = some (.int .i64 ((rd_T40 l1_1 0).f0)) ∧ w26.cell? ⟨ad546.block,ad546.off + 1,none⟩ = some (.int .i64 ((rd_T40 l1_1 0).f1)) ∧ w26.cell? ⟨ad546.block,ad546.off + 2,none⟩ = some (.int .i64 ((rd_T40 l1_1 0).f2)) ∧ w26.cell? ⟨ad546.block,ad546.off + 3,none⟩ = some (.int .i64 ((rd_T40 l1_1 0).f3)) ∧ w26.cell? ⟨ad546.block,ad546.off + 4,none⟩ = some (.string ((rd_T40 l1_1 0).f4)) ∧ w26.cell? ⟨ad546.block,ad546.off + 5,none⟩ = some (.string ((rd_T40 l1_1 0).f5)) ∧ w26.cell? ⟨ad546.block,ad546.off + 6,none⟩ = some (.string ((rd_T40 l1_1 0).f6)) := hS_
     refine norm_ (a' := ?_) ?_ ?_
     rotate_left
     ·simp only [putAll,Act.put,p1_,p2_,p3_]
      rfl
     refine zon 8 (N := some 6) HT_ (fun K hK => ?_)
     refine box_step ?hg (N := 6) ?hd (cs := #[.int .i64 0,.int .i64 0,.int .i64 0,.int .i64 0,.string ⟨#[]⟩,.string ⟨#[]⟩,.string ⟨#[]⟩]) (t := 40) ?hr ?_;(case hd => rfl);(case hg => rfl);(case hr => first | (go_simp;done) | (go_simp;rfl))
     intro gb548 hg w27 hbox hb
     have BK548 := am_ (hbox)
     have GW548 := zw_ HB hg
     have GE548 := zw_ HB hg
     replace HB := zs_ HB hb
     have NB541_548 := zl hg BK541
     have NB548_541 := zg hg BK541
     replace BK541 := zb BK541 hb
     have NB547_548 := zl hg BK547
     have NB548_547 := zg hg BK547
     replace BK547 := zb BK547 hb
     clear hb hbox hg
     refine hK.out _ _ ⟨(blk_cell BK541.out 0).trans rfl,(blk_cell BK541.out 1).trans rfl,(zx_ HB hw546_0),(zx_ HB hw546_1),(zx_ HB hw546_2),(zx_ HB hw546_3),(zx_ HB hw546_4),(zx_ HB hw546_5),(zx_ HB hw546_6)⟩ (fun hHeld => ?_)
     clear hK K
     refine nm_ ?_
     exact norm_ (by first | (simp only [putAll,Act.put,p1_,p2_,p3_];done) | (simp only [putAll,Act.put,p1_,p2_,p3_];rfl)) (hJ2_7_8 (gb547,gb548) _ ⟨hHeld,(zk BK541),(zk BK547),(zk BK548),GW547.out,GE547.out,NB541_547.out,NB547_541.out,NB548_547.out,NB547_548.out,GW548.out,GE548.out,NB541_548.out,NB548_541.out,(zl_ HB)⟩)
   rintro ⟨gb547,gb548⟩ w27 ⟨hS_,h0_,h1_,h2_,h3_,h4_,h5_,h6_,h7_,h8_,h9_,h10_,h11_,h12_,h13_⟩
   have n0_ : Aside0 (w27.heap[gb541]? = some (.cells #[.string a1_0,.slice (some ad546) l1_1.length c1_1] 29 (0,0))) := ⟨h0_⟩
   have n1_ : Aside0 (w27.heap[gb547]? = some (.cells #[.string ⟨#[]⟩] 9 (0,0))) := ⟨h1_⟩
   have n2_ : Aside0 (w27.heap[gb548]? = some (.cells #[.int .i64 0,.int .i64 0,.int .i64 0,.int .i64 0,.string ⟨#[]⟩,.string ⟨#[]⟩,.string ⟨#[]⟩] 40 (0,0))) := ⟨h2_⟩
   have n3_ : Aside0 (w.heap.size ≤ gb547) := ⟨h3_⟩
   have n4_ : Aside0 (w.heap.size ≤ gb547) := ⟨h4_⟩
   have n5_ : Aside0 (gb541 ≠ gb547) := ⟨h5_⟩
   have n6_ : Aside0 (gb547 ≠ gb541) := ⟨h6_⟩
   have n7_ : Aside0 (gb548 ≠ gb547) := ⟨h7_⟩
   have n8_ : Aside0 (gb547 ≠ gb548) := ⟨h8_⟩
   have n9_ : Aside0 (w.heap.size ≤ gb548) := ⟨h9_⟩
   have n10_ : Aside0 (w.heap.size ≤ gb548) := ⟨h10_⟩
   have n11_ : Aside0 (gb541 ≠ gb548) := ⟨h11_⟩
   have n12_ : Aside0 (gb548 ≠ gb541) := ⟨h12_⟩
   have n13_ : Aside0 (Below w.heap.size w w27) := ⟨h13_⟩
   clear BK541
   clear HB
   clear h0_ h1_ h2_ h3_ h4_ h5_ h6_ h7_ h8_ h9_ h10_ h11_ h12_ h13_
   have BK541 := n0_
   have BK547 := n1_
   have BK548 := n2_
   have GW547 := n3_
   have GE547 := n4_
   have NB541_547 := n5_
   have NB547_541 := n6_
   have NB548_547 := n7_
   have NB547_548 := n8_
   have GW548 := n9_
   have GE548 := n10_
   have NB541_548 := n11_
   have NB548_541 := n12_
   have HB := n13_
   clear n0_ n1_ n2_ n3_ n4_ n5_ n6_ n7_ n8_ n9_ n10_ n11_ n12_ n13_
   have hHeld : w27.cell? ⟨gb541,0,none⟩ = some (.string a1_0) ∧ w27.cell? ⟨gb541,1,none⟩ = some (.slice (some ad546) l1_1.length c1_1) ∧ w27.cell? ad546 = some (.int .i64 ((rd_T40 l1_1 0).f0)) ∧ w27.cell? ⟨ad546.block,ad546.off + 1,none⟩ = some (.int .i64 ((rd_T40 l1_1 0).f1)) ∧ w27.cell? ⟨ad546.block,ad546.off + 2,none⟩ = some (.int .i64 ((rd_T40 l1_1 0).f2)) ∧ w27.cell? ⟨ad546.block,ad546.off + 3,none⟩ = some (.int .i64 ((rd_T40 l1_1 0).f3)) ∧ w27.cell? ⟨ad546.block,ad546.off + 4,none⟩ = some (.string ((rd_T40 l1_1 0).f4)) ∧ w27.cell? ⟨ad546.block,ad546.off + 5,none⟩ = some (.string ((rd_T40 l1_1 0).f5)) ∧ w27.cell? ⟨ad546.block,ad546.off + 6,none⟩ = some (.string ((rd_T40 l1_1 0).f6)) := hS_
   refine norm_ (a' := ?_) ?_ ?_
   rotate_left
   ·simp only [putAll,Act.put,p1_,p2_,p3_]
    rfl
   refine zon 9 (N := none) HT_ (fun K hK => ?_)
   have hs28 : w27.cell? ⟨gb547,0,none⟩ = some (.string ⟨#[]⟩) := (blk_cell BK547.out 0).trans rfl
   have hfs28 := blk_frozen BK547.out 0
   have hns28_0 := NB541_547.out
   have hns28_2 := NB548_547.out
   have hms28_0 := NB547_541.out
   have hms28_2 := NB547_548.out
   refine skip_ (w1 := ?_) (by rfl) rfl ?_ ?_
   rotate_left
   ·go_simp
    rfl
   refine hK.out _ _ ⟨((cell_far (p := ⟨gb547,_,none⟩) NB541_547.out _).trans (hHeld.1)),((cell_far (p := ⟨gb547,_,none⟩) NB541_547.out _).trans (hHeld.2.1)),((cell_far (p := ⟨gb547,_,none⟩) (by first | exact Nat.ne_of_lt (Nat.lt_of_lt_of_le (by have := World.block_lt_of_cell? _ _ hw546_0;first | rwa [add_block] at this | exact this) GW547.out) | (rw [add_block];exact Nat.ne_of_lt (Nat.lt_of_lt_of_le (by have := World.block_lt_of_cell? _ _ hw546_0;first | rwa [add_block] at this | exact this) GW547.out)) | (show (Addr.add _ _).block ≠ _;rw [add_block];exact Nat.ne_of_lt (Nat.lt_of_lt_of_le (by have := World.block_lt_of_cell? _ _ hw546_0;first | rwa [add_block] at this | exact this) GW547.out)) | (dsimp only;exact Nat.ne_of_lt (Nat.lt_of_lt_of_le (by have := World.block_lt_of_cell? _ _ hw546_0;first | rwa [add_block] at this | exact this) GW547.out))) _).trans (hHeld.2.2.1)),((cell_far (p := ⟨gb547,_,none⟩) (by first | exact Nat.ne_of_lt (Nat.lt_of_lt_of_le (by have := World.block_lt_of_cell? _ _ hw546_1;first | rwa [add_block] at this | exact this) GW547.out) | (rw [add_block];exact Nat.ne_of_lt (Nat.lt_of_lt_of_le (by have := World.block_lt_of_cell? _ _ hw546_1;first | rwa [add_block] at this | exact this) GW547.out)) | (show (Addr.add _ _).block ≠ _;rw [add_block];exact Nat.ne_of_lt (Nat.lt_of_lt_of_le (by have := World.block_lt_of_cell? _ _ hw546_1;first | rwa [add_block] at this | exact this) GW547.out)) | (dsimp only;exact Nat.ne_of_lt (Nat.lt_of_lt_of_le (by have := World.block_lt_of_cell? _ _ hw546_1;first | rwa [add_block] at this | exact this) GW547.out))) _).trans (hHeld.2.2.2.1)),((cell_far (p := ⟨gb547,_,none⟩) (by first | exact Nat.ne_of_lt (Nat.lt_of_lt_of_le (by have := World.block_lt_of_cell? _ _ hw546_2;first | rwa [add_block] at this | exact this) GW547.out) | (rw [add_block];exact Nat.ne_of_lt (Nat.lt_of_lt_of_le (by have := World.block_lt_of_cell? _ _ hw546_2;first | rwa [add_block] at this | exact this) GW547.out)) | (show (Addr.add _ _).block ≠ _;rw [add_block];exact Nat.ne_of_lt (Nat.lt_of_lt_of_le (by have := World.block_lt_of_cell? _ _ hw546_2;first | rwa [add_block] at this | exact this) GW547.out)) | (dsimp only;exact Nat.ne_of_lt (Nat.lt_of_lt_of_le (by have := World.block_lt_of_cell? _ _ hw546_2;first | rwa [add_block] at this | exact this) GW547.out))) _).trans (hHeld.2.2.2.2.1)),((cell_far (p := ⟨gb547,_,none⟩) (by first | exact Nat.ne_of_lt (Nat.lt_of_lt_of_le (by have := World.block_lt_of_cell? _ _ hw546_3;first | rwa [add_block] at this | exact this) GW547.out) | (rw [add_block];exact Nat.ne_of_lt (Nat.lt_of_lt_of_le (by have := World.block_lt_of_cell? _ _ hw546_3;first | rwa [add_block] at this | exact this) GW547.out)) | (show (Addr.add _ _).block ≠ _;rw [add_block];exact Nat.ne_of_lt (Nat.lt_of_lt_of_le (by have := World.block_lt_of_cell? _ _ hw546_3;first | rwa [add_block] at this | exact this) GW547.out)) | (dsimp only;exact Nat.ne_of_lt (Nat.lt_of_lt_of_le (by have := World.block_lt_of_cell? _ _ hw546_3;first | rwa [add_block] at this | exact this) GW547.out))) _).trans (hHeld.2.2.2.2.2.1)),((cell_far (p := ⟨gb547,_,none⟩) (by first | exact Nat.ne_of_lt (Nat.lt_of_lt_of_le (by have := World.block_lt_of_cell? _ _ hw546_4;first | rwa [add_block] at this | exact this) GW547.out) | (rw [add_block];exact Nat.ne_of_lt (Nat.lt_of_lt_of_le (by have := World.block_lt_of_cell? _ _ hw546_4;first | rwa [add_block] at this | exact this) GW547.out)) | (show (Addr.add _ _).block ≠ _;rw [add_block];exact Nat.ne_of_lt (Nat.lt_of_lt_of_le (by have := World.block_lt_of_cell? _ _ hw546_4;first | rwa [add_block] at this | exact this) GW547.out)) | (dsimp only;exact Nat.ne_of_lt (Nat.lt_of_lt_of_le (by have := World.block_lt_of_cell? _ _ hw546_4;first | rwa [add_block] at this | exact this) GW547.out))) _).trans (hHeld.2.2.2.2.2.2.1)),((cell_far (p := ⟨gb547,_,none⟩) (by first | exact Nat.ne_of_lt (Nat.lt_of_lt_of_le (by have := World.block_lt_of_cell? _ _ hw546_5;first | rwa [add_block] at this | exact this) GW547.out) | (rw [add_block];exact Nat.ne_of_lt (Nat.lt_of_lt_of_le (by have := World.block_lt_of_cell? _ _ hw546_5;first | rwa [add_block] at this | exact this) GW547.out)) | (show (Addr.add _ _).block ≠ _;rw [add_block];exact Nat.ne_of_lt (Nat.lt_of_lt_of_le (by have := World.block_lt_of_cell? _ _ hw546_5;first | rwa [add_block] at this | exact this) GW547.out)) | (dsimp only;exact Nat.ne_of_lt (Nat.lt_of_lt_of_le (by have := World.block_lt_of_cell? _ _ hw546_5;first | rwa [add_block] at this | exact this) GW547.out))) _).trans (hHeld.2.2.2.2.2.2.2.1)),((cell_far (p := ⟨gb547,_,none⟩) (by first | exact Nat.ne_of_lt (Nat.lt_of_lt_of_le (by have := World.block_lt_of_cell? _ _ hw546_6;first | rwa [add_block] at this | exact this) GW547.out) | (rw [add_block];exact Nat.ne_of_lt (Nat.lt_of_lt_of_le (by have := World.block_lt_of_cell? _ _ hw546_6;first | rwa [add_block] at this | exact this) GW547.out)) | (show (Addr.add _ _).block ≠ _;rw [add_block];exact Nat.ne_of_lt (Nat.lt_of_lt_of_le (by have := World.block_lt_of_cell? _ _ hw546_6;first | rwa [add_block] at this | exact this) GW547.out)) | (dsimp only;exact Nat.ne_of_lt (Nat.lt_of_lt_of_le (by have := World.block_lt_of_cell? _ _ hw546_6;first | rwa [add_block] at this | exact this) GW547.out))) _).trans (hHeld.2.2.2.2.2.2.2.2))⟩ (fun hHeld => ?_)
   clear hK K
   refine zon 10 (N := none) HT_ (fun K hK => ?_)
   have hs29 : w27.cell? ⟨gb548,0,none⟩ = some (.int .i64 0) := (blk_cell BK548.out 0).trans rfl
   have hfs29 := blk_frozen BK548.out 0
   have hns29_0 := NB541_548.out
   have hns29_1 := NB547_548.out
   have hms29_0 := NB548_541.out
   have hms29_1 := NB548_547.out
   have hs30 : w27.cell? ⟨gb548,1,none⟩ = some (.int .i64 0) := (blk_cell BK548.out 1).trans rfl
   have hfs30 := blk_frozen BK548.out 1
   have hns30_0 := NB541_548.out
   have hns30_1 := NB547_548.out
   have hms30_0 := NB548_541.out
   have hms30_1 := NB548_547.out
   have hs31 : w27.cell? ⟨gb548,2,none⟩ = some (.int .i64 0) := (blk_cell BK548.out 2).trans rfl
   have hfs31 := blk_frozen BK548.out 2
   have hns31_0 := NB541_548.out
   have hns31_1 := NB547_548.out
   have hms31_0 := NB548_541.out
   have hms31_1 := NB548_547.out
   have hs32 : w27.cell? ⟨gb548,3,none⟩ = some (.int .i64 0) := (blk_cell BK548.out 3).trans rfl
   have hfs32 := blk_frozen BK548.out 3
   have hns32_0 := NB541_548.out
   have hns32_1 := NB547_548.out
   have hms32_0 := NB548_541.out
   have hms32_1 := NB548_547.out
   have hs33 : w27.cell? ⟨gb548,4,none⟩ = some (.string ⟨#[]⟩) := (blk_cell BK548.out 4).trans rfl
   have hfs33 := blk_frozen BK548.out 4
   have hns33_0 := NB541_548.out
   have hns33_1 := NB547_548.out
   have hms33_0 := NB548_541.out
   have hms33_1 := NB548_547.out
   have hs34 : w27.cell? ⟨gb548,5,none⟩ = some (.string ⟨#[]⟩) := (blk_cell BK548.out 5).trans rfl
   have hfs34 := blk_frozen BK548.out 5
   have hns34_0 := NB541_548.out
   have hns34_1 := NB547_548.out
   have hms34_0 := NB548_541.out
   have hms34_1 := NB548_547.out
   have hs35 : w27.cell? ⟨gb548,6,none⟩ = some (.string ⟨#[]⟩) := (blk_cell BK548.out 6).trans rfl
   have hfs35 := blk_frozen BK548.out 6
   have hns35_0 := NB541_548.out
   have hns35_1 := NB547_548.out
   have hms35_0 := NB548_541.out
   have hms35_1 := NB548_547.out
   refine skip_ (w1 := ?_) (by rfl) rfl ?_ ?_
   rotate_left
   ·go_simp
    rfl
   refine hK.out _ _ ⟨(cf7 (g := gb548) NB541_548.out (hHeld.1)),(cf7 (g := gb548) NB541_548.out (hHeld.2.1)),(cf7 (g := gb548) (by first | exact Nat.ne_of_lt (Nat.lt_of_lt_of_le (by have := World.block_lt_of_cell? _ _ hw546_0;first | rwa [add_block] at this | exact this) GW548.out) | (rw [add_block];exact Nat.ne_of_lt (Nat.lt_of_lt_of_le (by have := World.block_lt_of_cell? _ _ hw546_0;first | rwa [add_block] at this | exact this) GW548.out)) | (show (Addr.add _ _).block ≠ _;rw [add_block];exact Nat.ne_of_lt (Nat.lt_of_lt_of_le (by have := World.block_lt_of_cell? _ _ hw546_0;first | rwa [add_block] at this | exact this) GW548.out)) | (dsimp only;exact Nat.ne_of_lt (Nat.lt_of_lt_of_le (by have := World.block_lt_of_cell? _ _ hw546_0;first | rwa [add_block] at this | exact this) GW548.out))) (hHeld.2.2.1)),(cf7 (g := gb548) (by first | exact Nat.ne_of_lt (Nat.lt_of_lt_of_le (by have := World.block_lt_of_cell? _ _ hw546_1;first | rwa [add_block] at this | exact this) GW548.out) | (rw [add_block];exact Nat.ne_of_lt (Nat.lt_of_lt_of_le (by have := World.block_lt_of_cell? _ _ hw546_1;first | rwa [add_block] at this | exact this) GW548.out)) | (show (Addr.add _ _).block ≠ _;rw [add_block];exact Nat.ne_of_lt (Nat.lt_of_lt_of_le (by have := World.block_lt_of_cell? _ _ hw546_1;first | rwa [add_block] at this | exact this) GW548.out)) | (dsimp only;exact Nat.ne_of_lt (Nat.lt_of_lt_of_le (by have := World.block_lt_of_cell? _ _ hw546_1;first | rwa [add_block] at this | exact this) GW548.out))) (hHeld.2.2.2.1)),(cf7 (g := gb548) (by first | exact Nat.ne_of_lt (Nat.lt_of_lt_of_le (by have := World.block_lt_of_cell? _ _ hw546_2;first | rwa [add_block] at this | exact this) GW548.out) | (rw [add_block];exact Nat.ne_of_lt (Nat.lt_of_lt_of_le (by have := World.block_lt_of_cell? _ _ hw546_2;first | rwa [add_block] at this | exact this) GW548.out)) | (show (Addr.add _ _).block ≠ _;rw [add_block];exact Nat.ne_of_lt (Nat.lt_of_lt_of_le (by have := World.block_lt_of_cell? _ _ hw546_2;first | rwa [add_block] at this | exact this) GW548.out)) | (dsimp only;exact Nat.ne_of_lt (Nat.lt_of_lt_of_le (by have := World.block_lt_of_cell? _ _ hw546_2;first | rwa [add_block] at this | exact this) GW548.out))) (hHeld.2.2.2.2.1)),(cf7 (g := gb548) (by first | exact Nat.ne_of_lt (Nat.lt_of_lt_of_le (by have := World.block_lt_of_cell? _ _ hw546_3;first | rwa [add_block] at this | exact this) GW548.out) | (rw [add_block];exact Nat.ne_of_lt (Nat.lt_of_lt_of_le (by have := World.block_lt_of_cell? _ _ hw546_3;first | rwa [add_block] at this | exact this) GW548.out)) | (show (Addr.add _ _).block ≠ _;rw [add_block];exact Nat.ne_of_lt (Nat.lt_of_lt_of_le (by have := World.block_lt_of_cell? _ _ hw546_3;first | rwa [add_block] at this | exact this) GW548.out)) | (dsimp only;exact Nat.ne_of_lt (Nat.lt_of_lt_of_le (by have := World.block_lt_of_cell? _ _ hw546_3;first | rwa [add_block] at this | exact this) GW548.out))) (hHeld.2.2.2.2.2.1)),(cf7 (g := gb548) (by first | exact Nat.ne_of_lt (Nat.lt_of_lt_of_le (by have := World.block_lt_of_cell? _ _ hw546_4;first | rwa [add_block] at this | exact this) GW548.out) | (rw [add_block];exact Nat.ne_of_lt (Nat.lt_of_lt_of_le (by have := World.block_lt_of_cell? _ _ hw546_4;first | rwa [add_block] at this | exact this) GW548.out)) | (show (Addr.add _ _).block ≠ _;rw [add_block];exact Nat.ne_of_lt (Nat.lt_of_lt_of_le (by have := World.block_lt_of_cell? _ _ hw546_4;first | rwa [add_block] at this | exact this) GW548.out)) | (dsimp only;exact Nat.ne_of_lt (Nat.lt_of_lt_of_le (by have := World.block_lt_of_cell? _ _ hw546_4;first | rwa [add_block] at this | exact this) GW548.out))) (hHeld.2.2.2.2.2.2.1)),(cf7 (g := gb548) (by first | exact Nat.ne_of_lt (Nat.lt_of_lt_of_le (by have := World.block_lt_of_cell? _ _ hw546_5;first | rwa [add_block] at this | exact this) GW548.out) | (rw [add_block];exact Nat.ne_of_lt (Nat.lt_of_lt_of_le (by have := World.block_lt_of_cell? _ _ hw546_5;first | rwa [add_block] at this | exact this) GW548.out)) | (show (Addr.add _ _).block ≠ _;rw [add_block];exact Nat.ne_of_lt (Nat.lt_of_lt_of_le (by have := World.block_lt_of_cell? _ _ hw546_5;first | rwa [add_block] at this | exact this) GW548.out)) | (dsimp only;exact Nat.ne_of_lt (Nat.lt_of_lt_of_le (by have := World.block_lt_of_cell? _ _ hw546_5;first | rwa [add_block] at this | exact this) GW548.out))) (hHeld.2.2.2.2.2.2.2.1)),(cf7 (g := gb548) (by first | exact Nat.ne_of_lt (Nat.lt_of_lt_of_le (by have := World.block_lt_of_cell? _ _ hw546_6;first | rwa [add_block] at this | exact this) GW548.out) | (rw [add_block];exact Nat.ne_of_lt (Nat.lt_of_lt_of_le (by have := World.block_lt_of_cell? _ _ hw546_6;first | rwa [add_block] at this | exact this) GW548.out)) | (show (Addr.add _ _).block ≠ _;rw [add_block];exact Nat.ne_of_lt (Nat.lt_of_lt_of_le (by have := World.block_lt_of_cell? _ _ hw546_6;first | rwa [add_block] at this | exact this) GW548.out)) | (dsimp only;exact Nat.ne_of_lt (Nat.lt_of_lt_of_le (by have := World.block_lt_of_cell? _ _ hw546_6;first | rwa [add_block] at this | exact this) GW548.out))) (hHeld.2.2.2.2.2.2.2.2))⟩ (fun hHeld => ?_)
   clear hK K
   refine done_ (done_of HT_.out (by kernel_rfl)) ?_
   have hnb36 := NB541_547.out
   have hnc36 := NB547_541.out
   have hnb37 := NB541_548.out
   have hnc37 := NB548_541.out
   obtain ⟨hcz38_0,hcz38_1,hfz38_0,hfz38_1⟩ := zc2 BK541
   have hnb39 := NB548_547.out
   have hnc39 := NB547_548.out
   obtain ⟨hcz40_0,hcz40_1,hcz40_2,hcz40_3,hcz40_4,hcz40_5,hcz40_6,hfz40_0,hfz40_1,hfz40_2,hfz40_3,hfz40_4,hfz40_5,hfz40_6⟩ := zc7 BK548
   by_cases c21 : t549 = true
   case neg =>
    replace c21 := Bool.eq_false_iff.mpr c21
    subst c21
    rw [if_neg (show ¬ (false = true) by decide)] at H
    obtain rfl := Option.some.inj H
    try go_wp2_with (first | ((with_reducible refine gate_callee (f := 17) rfl ?_);refine zgl (some 45) Tryz.func17 #[.int .i64 a0,.slice (some ad546) l1_1.length c1_1,.int .i64 2,.int .i64 ((rd_T40 l1_1 0).f1),.int .i64 ((rd_T40 l1_1 0).f2)] ?_;(with_reducible refine (Zp.calls kj2 a0 _ _ l1_1 2 ((rd_T40 l1_1 0).f1) ((rd_T40 l1_1 0).f2) false _ ?side1 ?side2 ?side3 A20.out).mono ?_);(case side1 => exact Kd.C_below HR1_1.out (zl_ HB));(case side2 => exact HC1_1.out);(case side3 => exact HLD.out.on (zl_ HB));rintro e w63 ⟨rfl,hb⟩;refine ⟨_,rfl,?_⟩;replace HB := zs_ HB hb;(try clear hb)))
    go_ret
    exact ⟨zt_,zl_ HB⟩
   subst c21
   rw [if_pos rfl] at H
   replace H := Option.bind_eq_some_iff.mp H
   obtain ⟨t550,A220,H⟩ := H
   try dsimp only at H
   have A22 := am_ A220
   clear A220
   obtain rfl := Option.some.inj H
   try go_wp2_with (first | ((with_reducible refine gate_callee (f := 17) rfl ?_);refine zgl (some 45) Tryz.func17 #[.int .i64 a0,.slice (some ad546) l1_1.length c1_1,.int .i64 2,.int .i64 ((rd_T40 l1_1 0).f1),.int .i64 ((rd_T40 l1_1 0).f2)] ?_;(with_reducible refine (Zp.calls kj2 a0 _ _ l1_1 2 ((rd_T40 l1_1 0).f1) ((rd_T40 l1_1 0).f2) true _ ?side1 ?side2 ?side3 A20.out).mono ?_);(case side1 => exact Kd.C_below HR1_1.out (zl_ HB));(case side2 => exact HC1_1.out);(case side3 => exact HLD.out.on (zl_ HB));rintro e w41 ⟨rfl,hb⟩;refine ⟨_,rfl,?_⟩;replace BK541 := am_ (blk_below (g := gb541) (o := .cells #[.string a1_0,.slice (some ad546) l1_1.length c1_1] 29 (0,0)) (zq BK541) hb);replace BK547 := am_ (blk_below (g := gb547) (o := .cells #[.string t545] 9 (0,0)) (zq BK547) hb);replace BK548 := am_ (blk_below (g := gb548) (o := .cells #[.int .i64 ((rd_T40 l1_1 0).f0),.int .i64 ((rd_T40 l1_1 0).f1),.int .i64 ((rd_T40 l1_1 0).f2),.int .i64 ((rd_T40 l1_1 0).f3),.string ((rd_T40 l1_1 0).f4),.string ((rd_T40 l1_1 0).f5),.string ((rd_T40 l1_1 0).f6)] 40 (0,0)) (zq BK548) hb);replace HB := zs_ HB hb;(try clear hb);obtain ⟨hcz42_0,hcz42_1,hfz42_0,hfz42_1⟩ := zc2 BK541;have hcz43_0 : w41.cell? ⟨gb547,0,none⟩ = some (.string t545) := (blk_cell BK547.out 0).trans rfl;have hfz43_0 := blk_frozen BK547.out 0) | (go_at_call 18;(with_reducible refine (cert_any _ _ l1_1 t545 gb547 t550 _ ?hgq ?side1 ?side2 A22.out).mono ?_);(case hgq => exact (zq BK547));(case side1 => exact zc_ HR1_1 HB);(case side2 => exact HC1_1.out);rintro e w44 ⟨rfl,hb⟩;replace BK541 := zb BK541 hb;replace BK547 := zb BK547 hb;replace BK548 := zb BK548 hb;replace HB := zs_ HB hb;(try clear hb)))
   go_ret
   exact ⟨zt_,zl_ HB⟩
theorem Yt.calls (a0_0 : Int) (a0_1 : Int) (a0_2 : Int) (a0_3 : Int) (a0_4 : ByteArray) (a0_5 : ByteArray) (a0_6 : ByteArray) (a1_0 : Int) (a1_1 : Int) (a1_2 : Int) (a1_3 : Int) (a1_4 : ByteArray) (a1_5 : ByteArray) (a1_6 : ByteArray) (r : Bool) (w : World) (h : Yt.f a0_0 a0_1 a0_2 a0_3 a0_4 a0_5 a0_6 a1_0 a1_1 a1_2 a1_3 a1_4 a1_5 a1_6 = some r) :
  Calls Tryz.prog 32 #[.agg #[.int .i64 a0_0,.int .i64 a0_1,.int .i64 a0_2,.int .i64 a0_3,.string a0_4,.string a0_5,.string a0_6],.agg #[.int .i64 a1_0,.int .i64 a1_1,.int .i64 a1_2,.int .i64 a1_3,.string a1_4,.string a1_5,.string a1_6]] w fun e w' => e = .returned (.bool r) ∧ Below w.heap.size w w' := by
 have hu40 := Tryz.underlying40
 have HB := am_ (Below.refl w.heap.size w)
 have H : (if a0_0 = a1_0 then (if a0_1 = a1_1 then (if a0_2 = a1_2 then (if a0_3 = a1_3 then (if a0_4.toList = a1_4.toList then (if a0_5.toList = a1_5.toList then (if a0_6.toList = a1_6.toList then (some true) else (some false)) else (some false)) else (some false)) else (some false)) else (some false)) else (some false)) else (some false)) = some r := h
 clear h
 by_cases c3 : a0_0 = a1_0
 case neg =>
  rw [if_neg c3] at H
  have c3b0 := beq_eq_false_iff_ne.mpr c3
  have c3b1 := bne_iff_ne.mpr c3
  obtain rfl := Option.some.inj H
  go_enter Tryz.func32,Tryz.ntmps32
  go_wp2_with (first | ((with_reducible refine gate_dst (N := 2) rfl ?_);refine zbx (N := 2) (cs := #[.int .i64 a0_0,.int .i64 a0_1,.int .i64 a0_2,.int .i64 a0_3,.string a0_4,.string a0_5,.string a0_6]) (t := 40) ?_;intro gb551 hg w45 hbox hb;have BK551 := am_ (hbox);have GW551 := zw_ HB hg;have GE551 := zw_ HB hg;replace HB := zs_ HB hb;clear hb hbox hg) | ((with_reducible refine gate_dst (N := 3) rfl ?_);refine zbx (N := 3) (cs := #[.int .i64 a1_0,.int .i64 a1_1,.int .i64 a1_2,.int .i64 a1_3,.string a1_4,.string a1_5,.string a1_6]) (t := 40) ?_;intro gb552 hg w46 hbox hb;have BK552 := am_ (hbox);have GW552 := zw_ HB hg;have GE552 := zw_ HB hg;replace HB := zs_ HB hb;have NB551_552 := zl hg BK551;have NB552_551 := zg hg BK551;replace BK551 := zb BK551 hb;clear hb hbox hg;have hnb47 := NB551_552.out;have hnc47 := NB552_551.out;obtain ⟨hcz48_0,hcz48_1,hcz48_2,hcz48_3,hcz48_4,hcz48_5,hcz48_6,hfz48_0,hfz48_1,hfz48_2,hfz48_3,hfz48_4,hfz48_5,hfz48_6⟩ := zc7 BK551;obtain ⟨hcz49_0,hcz49_1,hcz49_2,hcz49_3,hcz49_4,hcz49_5,hcz49_6,hfz49_0,hfz49_1,hfz49_2,hfz49_3,hfz49_4,hfz49_5,hfz49_6⟩ := zc7 BK552))
  go_ret
  exact ⟨zt_,zl_ HB⟩
 rw [if_pos c3] at H
 have c3b0 := beq_iff_eq.mpr c3
 have c3b1 := bne_eq_false_iff_eq.mpr c3
 clear c3
 by_cases c4 : a0_1 = a1_1
 case neg =>
  rw [if_neg c4] at H
  have c4b0 := beq_eq_false_iff_ne.mpr c4
  have c4b1 := bne_iff_ne.mpr c4
  obtain rfl := Option.some.inj H
  go_enter Tryz.func32,Tryz.ntmps32
  go_wp2_with (first | ((with_reducible refine gate_dst (N := 2) rfl ?_);refine zbx (N := 2) (cs := #[.int .i64 a0_0,.int .i64 a0_1,.int .i64 a0_2,.int .i64 a0_3,.string a0_4,.string a0_5,.string a0_6]) (t := 40) ?_;intro gb551 hg w40 hbox hb;have BK551 := am_ (hbox);have GW551 := zw_ HB hg;have GE551 := zw_ HB hg;replace HB := zs_ HB hb;clear hb hbox hg) | ((with_reducible refine gate_dst (N := 3) rfl ?_);refine zbx (N := 3) (cs := #[.int .i64 a1_0,.int .i64 a1_1,.int .i64 a1_2,.int .i64 a1_3,.string a1_4,.string a1_5,.string a1_6]) (t := 40) ?_;intro gb552 hg w41 hbox hb;have BK552 := am_ (hbox);have GW552 := zw_ HB hg;have GE552 := zw_ HB hg;replace HB := zs_ HB hb;have NB551_552 := zl hg BK551;have NB552_551 := zg hg BK551;replace BK551 := zb BK551 hb;clear hb hbox hg;have hnb42 := NB551_552.out;have hnc42 := NB552_551.out;obtain ⟨hcz43_0,hcz43_1,hcz43_2,hcz43_3,hcz43_4,hcz43_5,hcz43_6,hfz43_0,hfz43_1,hfz43_2,hfz43_3,hfz43_4,hfz43_5,hfz43_6⟩ := zc7 BK551;obtain ⟨hcz44_0,hcz44_1,hcz44_2,hcz44_3,hcz44_4,hcz44_5,hcz44_6,hfz44_0,hfz44_1,hfz44_2,hfz44_3,hfz44_4,hfz44_5,hfz44_6⟩ := zc7 BK552))
  go_ret
  exact ⟨zt_,zl_ HB⟩
 rw [if_pos c4] at H
 have c4b0 := beq_iff_eq.mpr c4
 have c4b1 := bne_eq_false_iff_eq.mpr c4
 clear c4
 by_cases c5 : a0_2 = a1_2
 case neg =>
  rw [if_neg c5] at H
  have c5b0 := beq_eq_false_iff_ne.mpr c5
  have c5b1 := bne_iff_ne.mpr c5
  obtain rfl := Option.some.inj H
  go_enter Tryz.func32,Tryz.ntmps32
  go_wp2_with (first | ((with_reducible refine gate_dst (N := 2) rfl ?_);refine zbx (N := 2) (cs := #[.int .i64 a0_0,.int .i64 a0_1,.int .i64 a0_2,.int .i64 a0_3,.string a0_4,.string a0_5,.string a0_6]) (t := 40) ?_;intro gb551 hg w35 hbox hb;have BK551 := am_ (hbox);have GW551 := zw_ HB hg;have GE551 := zw_ HB hg;replace HB := zs_ HB hb;clear hb hbox hg) | ((with_reducible refine gate_dst (N := 3) rfl ?_);refine zbx (N := 3) (cs := #[.int .i64 a1_0,.int .i64 a1_1,.int .i64 a1_2,.int .i64 a1_3,.string a1_4,.string a1_5,.string a1_6]) (t := 40) ?_;intro gb552 hg w36 hbox hb;have BK552 := am_ (hbox);have GW552 := zw_ HB hg;have GE552 := zw_ HB hg;replace HB := zs_ HB hb;have NB551_552 := zl hg BK551;have NB552_551 := zg hg BK551;replace BK551 := zb BK551 hb;clear hb hbox hg;have hnb37 := NB551_552.out;have hnc37 := NB552_551.out;obtain ⟨hcz38_0,hcz38_1,hcz38_2,hcz38_3,hcz38_4,hcz38_5,hcz38_6,hfz38_0,hfz38_1,hfz38_2,hfz38_3,hfz38_4,hfz38_5,hfz38_6⟩ := zc7 BK551;obtain ⟨hcz39_0,hcz39_1,hcz39_2,hcz39_3,hcz39_4,hcz39_5,hcz39_6,hfz39_0,hfz39_1,hfz39_2,hfz39_3,hfz39_4,hfz39_5,hfz39_6⟩ := zc7 BK552))
  go_ret
  exact ⟨zt_,zl_ HB⟩
 rw [if_pos c5] at H
 have c5b0 := beq_iff_eq.mpr c5
 have c5b1 := bne_eq_false_iff_eq.mpr c5
 clear c5
 by_cases c6 : a0_3 = a1_3
 case neg =>
  rw [if_neg c6] at H
  have c6b0 := beq_eq_false_iff_ne.mpr c6
  have c6b1 := bne_iff_ne.mpr c6
  obtain rfl := Option.some.inj H
  go_enter Tryz.func32,Tryz.ntmps32
  go_wp2_with (first | ((with_reducible refine gate_dst (N := 2) rfl ?_);refine zbx (N := 2) (cs := #[.int .i64 a0_0,.int .i64 a0_1,.int .i64 a0_2,.int .i64 a0_3,.string a0_4,.string a0_5,.string a0_6]) (t := 40) ?_;intro gb551 hg w30 hbox hb;have BK551 := am_ (hbox);have GW551 := zw_ HB hg;have GE551 := zw_ HB hg;replace HB := zs_ HB hb;clear hb hbox hg) | ((with_reducible refine gate_dst (N := 3) rfl ?_);refine zbx (N := 3) (cs := #[.int .i64 a1_0,.int .i64 a1_1,.int .i64 a1_2,.int .i64 a1_3,.string a1_4,.string a1_5,.string a1_6]) (t := 40) ?_;intro gb552 hg w31 hbox hb;have BK552 := am_ (hbox);have GW552 := zw_ HB hg;have GE552 := zw_ HB hg;replace HB := zs_ HB hb;have NB551_552 := zl hg BK551;have NB552_551 := zg hg BK551;replace BK551 := zb BK551 hb;clear hb hbox hg;have hnb32 := NB551_552.out;have hnc32 := NB552_551.out;obtain ⟨hcz33_0,hcz33_1,hcz33_2,hcz33_3,hcz33_4,hcz33_5,hcz33_6,hfz33_0,hfz33_1,hfz33_2,hfz33_3,hfz33_4,hfz33_5,hfz33_6⟩ := zc7 BK551;obtain ⟨hcz34_0,hcz34_1,hcz34_2,hcz34_3,hcz34_4,hcz34_5,hcz34_6,hfz34_0,hfz34_1,hfz34_2,hfz34_3,hfz34_4,hfz34_5,hfz34_6⟩ := zc7 BK552))
  go_ret
  exact ⟨zt_,zl_ HB⟩
 rw [if_pos c6] at H
 have c6b0 := beq_iff_eq.mpr c6
 have c6b1 := bne_eq_false_iff_eq.mpr c6
 clear c6
 by_cases c7 : a0_4.toList = a1_4.toList
 case neg =>
  rw [if_neg c7] at H
  have c7b0 := beq_eq_false_iff_ne.mpr c7
  have c7b1 := bne_iff_ne.mpr c7
  obtain rfl := Option.some.inj H
  go_enter Tryz.func32,Tryz.ntmps32
  go_wp2_with (first | ((with_reducible refine gate_dst (N := 2) rfl ?_);refine zbx (N := 2) (cs := #[.int .i64 a0_0,.int .i64 a0_1,.int .i64 a0_2,.int .i64 a0_3,.string a0_4,.string a0_5,.string a0_6]) (t := 40) ?_;intro gb551 hg w25 hbox hb;have BK551 := am_ (hbox);have GW551 := zw_ HB hg;have GE551 := zw_ HB hg;replace HB := zs_ HB hb;clear hb hbox hg) | ((with_reducible refine gate_dst (N := 3) rfl ?_);refine zbx (N := 3) (cs := #[.int .i64 a1_0,.int .i64 a1_1,.int .i64 a1_2,.int .i64 a1_3,.string a1_4,.string a1_5,.string a1_6]) (t := 40) ?_;intro gb552 hg w26 hbox hb;have BK552 := am_ (hbox);have GW552 := zw_ HB hg;have GE552 := zw_ HB hg;replace HB := zs_ HB hb;have NB551_552 := zl hg BK551;have NB552_551 := zg hg BK551;replace BK551 := zb BK551 hb;clear hb hbox hg;have hnb27 := NB551_552.out;have hnc27 := NB552_551.out;obtain ⟨hcz28_0,hcz28_1,hcz28_2,hcz28_3,hcz28_4,hcz28_5,hcz28_6,hfz28_0,hfz28_1,hfz28_2,hfz28_3,hfz28_4,hfz28_5,hfz28_6⟩ := zc7 BK551;obtain ⟨hcz29_0,hcz29_1,hcz29_2,hcz29_3,hcz29_4,hcz29_5,hcz29_6,hfz29_0,hfz29_1,hfz29_2,hfz29_3,hfz29_4,hfz29_5,hfz29_6⟩ := zc7 BK552))
  go_ret
  exact ⟨zt_,zl_ HB⟩
 rw [if_pos c7] at H
 have c7b0 := beq_iff_eq.mpr c7
 have c7b1 := bne_eq_false_iff_eq.mpr c7
 clear c7
 by_cases c8 : a0_5.toList = a1_5.toList
 case neg =>
  rw [if_neg c8] at H
  have c8b0 := beq_eq_false_iff_ne.mpr c8
  have c8b1 := bne_iff_ne.mpr c8
  obtain rfl := Option.some.inj H
  go_enter Tryz.func32,Tryz.ntmps32
  go_wp2_with (first | ((with_reducible refine gate_dst (N := 2) rfl ?_);refine zbx (N := 2) (cs := #[.int .i64 a0_0,.int .i64 a0_1,.int .i64 a0_2,.int .i64 a0_3,.string a0_4,.string a0_5,.string a0_6]) (t := 40) ?_;intro gb551 hg w20 hbox hb;have BK551 := am_ (hbox);have GW551 := zw_ HB hg;have GE551 := zw_ HB hg;replace HB := zs_ HB hb;clear hb hbox hg) | ((with_reducible refine gate_dst (N := 3) rfl ?_);refine zbx (N := 3) (cs := #[.int .i64 a1_0,.int .i64 a1_1,.int .i64 a1_2,.int .i64 a1_3,.string a1_4,.string a1_5,.string a1_6]) (t := 40) ?_;intro gb552 hg w21 hbox hb;have BK552 := am_ (hbox);have GW552 := zw_ HB hg;have GE552 := zw_ HB hg;replace HB := zs_ HB hb;have NB551_552 := zl hg BK551;have NB552_551 := zg hg BK551;replace BK551 := zb BK551 hb;clear hb hbox hg;have hnb22 := NB551_552.out;have hnc22 := NB552_551.out;obtain ⟨hcz23_0,hcz23_1,hcz23_2,hcz23_3,hcz23_4,hcz23_5,hcz23_6,hfz23_0,hfz23_1,hfz23_2,hfz23_3,hfz23_4,hfz23_5,hfz23_6⟩ := zc7 BK551;obtain ⟨hcz24_0,hcz24_1,hcz24_2,hcz24_3,hcz24_4,hcz24_5,hcz24_6,hfz24_0,hfz24_1,hfz24_2,hfz24_3,hfz24_4,hfz24_5,hfz24_6⟩ := zc7 BK552))
  go_ret
  exact ⟨zt_,zl_ HB⟩
 rw [if_pos c8] at H
 have c8b0 := beq_iff_eq.mpr c8
 have c8b1 := bne_eq_false_iff_eq.mpr c8
 clear c8
 by_cases c9 : a0_6.toList = a1_6.toList
 case neg =>
  rw [if_neg c9] at H
  have c9b0 := beq_eq_false_iff_ne.mpr c9
  have c9b1 := bne_iff_ne.mpr c9
  obtain rfl := Option.some.inj H
  go_enter Tryz.func32,Tryz.ntmps32
  go_wp2_with (first | ((with_reducible refine gate_dst (N := 2) rfl ?_);refine zbx (N := 2) (cs := #[.int .i64 a0_0,.int .i64 a0_1,.int .i64 a0_2,.int .i64 a0_3,.string a0_4,.string a0_5,.string a0_6]) (t := 40) ?_;intro gb551 hg w15 hbox hb;have BK551 := am_ (hbox);have GW551 := zw_ HB hg;have GE551 := zw_ HB hg;replace HB := zs_ HB hb;clear hb hbox hg) | ((with_reducible refine gate_dst (N := 3) rfl ?_);refine zbx (N := 3) (cs := #[.int .i64 a1_0,.int .i64 a1_1,.int .i64 a1_2,.int .i64 a1_3,.string a1_4,.string a1_5,.string a1_6]) (t := 40) ?_;intro gb552 hg w16 hbox hb;have BK552 := am_ (hbox);have GW552 := zw_ HB hg;have GE552 := zw_ HB hg;replace HB := zs_ HB hb;have NB551_552 := zl hg BK551;have NB552_551 := zg hg BK551;replace BK551 := zb BK551 hb;clear hb hbox hg;have hnb17 := NB551_552.out;have hnc17 := NB552_551.out;obtain ⟨hcz18_0,hcz18_1,hcz18_2,hcz18_3,hcz18_4,hcz18_5,hcz18_6,hfz18_0,hfz18_1,hfz18_2,hfz18_3,hfz18_4,hfz18_5,hfz18_6⟩ := zc7 BK551;obtain ⟨hcz19_0,hcz19_1,hcz19_2,hcz19_3,hcz19_4,hcz19_5,hcz19_6,hfz19_0,hfz19_1,hfz19_2,hfz19_3,hfz19_4,hfz19_5,hfz19_6⟩ := zc7 BK552))
  go_ret
  exact ⟨zt_,zl_ HB⟩
 rw [if_pos c9] at H
 have c9b0 := beq_iff_eq.mpr c9
 have c9b1 := bne_eq_false_iff_eq.mpr c9
 clear c9
 obtain rfl := Option.some.inj H
 go_enter Tryz.func32,Tryz.ntmps32
 go_wp2_with (first | ((with_reducible refine gate_dst (N := 2) rfl ?_);refine zbx (N := 2) (cs := #[.int .i64 a0_0,.int .i64 a0_1,.int .i64 a0_2,.int .i64 a0_3,.string a0_4,.string a0_5,.string a0_6]) (t := 40) ?_;intro gb551 hg w10 hbox hb;have BK551 := am_ (hbox);have GW551 := zw_ HB hg;have GE551 := zw_ HB hg;replace HB := zs_ HB hb;clear hb hbox hg) | ((with_reducible refine gate_dst (N := 3) rfl ?_);refine zbx (N := 3) (cs := #[.int .i64 a1_0,.int .i64 a1_1,.int .i64 a1_2,.int .i64 a1_3,.string a1_4,.string a1_5,.string a1_6]) (t := 40) ?_;intro gb552 hg w11 hbox hb;have BK552 := am_ (hbox);have GW552 := zw_ HB hg;have GE552 := zw_ HB hg;replace HB := zs_ HB hb;have NB551_552 := zl hg BK551;have NB552_551 := zg hg BK551;replace BK551 := zb BK551 hb;clear hb hbox hg;have hnb12 := NB551_552.out;have hnc12 := NB552_551.out;obtain ⟨hcz13_0,hcz13_1,hcz13_2,hcz13_3,hcz13_4,hcz13_5,hcz13_6,hfz13_0,hfz13_1,hfz13_2,hfz13_3,hfz13_4,hfz13_5,hfz13_6⟩ := zc7 BK551;obtain ⟨hcz14_0,hcz14_1,hcz14_2,hcz14_3,hcz14_4,hcz14_5,hcz14_6,hfz14_0,hfz14_1,hfz14_2,hfz14_3,hfz14_4,hfz14_5,hfz14_6⟩ := zc7 BK552))
 go_ret
 exact ⟨zt_,zl_ HB⟩
def Zr.T6 : Bool × List (List Nat × List Nat) := (true,[([],[]),([],[]),([0,1],[0,1]),([2],[2]),([],[]),([],[]),([4,5],[4,5]),([6],[6]),([3,7],[3,7]),([8],[8])])
def Zr.B6 : List Nat := [0,0,3,7,0,0,48,112,255,511]
theorem Zr.tab6 : rtab .any (opsOf Tryz.f20 6) = Zr.T6 := by kernel_rfl
theorem Zr.bits6 : waitsOk Zr.T6.2 Zr.B6 = true := by kernel_rfl
theorem Zr.calls (k : Nat) (A0 : Option Addr) (c0 : Nat) (l0 : List (S40)) (A1 : Option Addr) (c1 : Nat) (l1 : List (S40)) (r : Bool) (w : World) (hr0 : Kd.C k40 w A0 l0.length l0) (hc0 : l0.length ≤ c0) (hr1 : Kd.C k40 w A1 l1.length l1) (hc1 : l1.length ≤ c1) (h : Zr.f k l0 l1 = some r) :
  Calls Tryz.prog 20 #[.slice A0 l0.length c0,.slice A1 l1.length c1] w fun e w' => e = .returned (.bool r) ∧ Below w.heap.size w w' := by
 have hu40 := Tryz.underlying40
 have HR0 := am_ hr0
 have HC0 := am_ hc0
 clear hr0 hc0
 have HR1 := am_ hr1
 have HC1 := am_ hc1
 clear hr1 hc1
 have HB := am_ (Below.refl w.heap.size w)
 have H : (if (l0.length : Int) = (l1.length : Int) then (Zr.l0 k l0 l1 0) else (some false)) = some r := h
 clear h
 by_cases c3 : (l0.length : Int) = (l1.length : Int)
 case neg =>
  rw [if_neg c3] at H
  have c3b0 := beq_eq_false_iff_ne.mpr c3
  have c3b1 := bne_iff_ne.mpr c3
  have c3b2 : (l0.length == l1.length) = false := by first | simpa using c3 | (simp at c3 ⊢;omega)
  obtain rfl := Option.some.inj H
  go_enter Tryz.func20,Tryz.ntmps20
  go_wp2
  go_ret
  exact ⟨zt_,zl_ HB⟩
 rw [if_pos c3] at H
 have c3b0 := beq_iff_eq.mpr c3
 have c3b1 := bne_eq_false_iff_eq.mpr c3
 have c3b2 : (l0.length == l1.length) = true := by first | simpa using c3 | (simp at c3 ⊢;omega)
 clear c3
 have H' := am_ H
 clear H
 go_enter Tryz.func20,Tryz.ntmps20
 go_wp2
 go_loopg [5] k (fun kq v5 w' => ∃ (x5_1 : Int),v5 = .int .i64 x5_1 ∧ Aside0 (Zr.l0 kq l0 l1 x5_1 = some r) ∧ Aside0 (kq ≤ k) ∧ Aside0 (Below w.heap.size w w'))
 case atStart => exact ⟨(0),(by first | rfl | (simp;done) | (simp [*];done)),H',⟨Nat.le_refl _⟩,⟨zl_ HB⟩⟩
 case round =>
  clear H'
  try clear c1
  try clear c2
  try clear p2
  try clear c3
  try clear c3b0
  try clear c3b1
  try clear c3b2
  obtain ⟨x5_1,rfl,HA,HK1,HB⟩ := hrel
  cases gk with
  | zero => exact absurd HA.out (by simp [Zr.l0])
  | succ k1 =>
   have H := HA.out
   clear HA
   simp only [Zr.l0] at H
   by_cases c4 : x5_1 < (l0.length : Int)
   case neg =>
    rw [if_neg c4] at H
    have c4b0 := decide_eq_false c4
    clear c4
    obtain rfl := Option.some.inj H
    go_wp2
    go_ret
    exact ⟨zt_,zl_ HB⟩
   rw [if_pos c4] at H
   have c4b0 := decide_eq_true c4
   clear c4
   by_cases c5 : 0 ≤ x5_1
   case neg =>
    rw [if_neg c5] at H
    exact absurd H (by simp)
   rw [if_pos c5] at H
   have c5b0 := decide_eq_true c5
   clear c5
   by_cases c6 : x5_1 < (l1.length : Int)
   case neg =>
    rw [if_neg c6] at H
    exact absurd H (by simp)
   rw [if_pos c6] at H
   have c6b0 := decide_eq_true c6
   clear c6
   replace H := Option.bind_eq_some_iff.mp H
   obtain ⟨t555,A70,H⟩ := H
   try dsimp only at H
   have A7 := am_ A70
   clear A70
   try go_wp2
   replace HB := am_ (below_drew1 HB.out)
   have p553 : 0 ≤ (x5_1 : Int) := zo_
   have q553 : x5_1 < (l0.length : Int) := zo_
   obtain ⟨ad553,e553,hx553_0,hx553_1,hx553_2,hx553_3,hx553_4,hx553_5,hx553_6⟩ := at_T40 HR0.out x5_1 p553 q553
   have hw553_6 := hx553_6
   have hw553_5 := hx553_5
   have hw553_4 := hx553_4
   have hw553_3 := hx553_3
   have hw553_2 := hx553_2
   have hw553_1 := hx553_1
   have hw553_0 := hx553_0
   cases e553
   replace hx553_0 := zx_ HB hx553_0
   replace hx553_1 := zx_ HB hx553_1
   replace hx553_2 := zx_ HB hx553_2
   replace hx553_3 := zx_ HB hx553_3
   replace hx553_4 := zx_ HB hx553_4
   replace hx553_5 := zx_ HB hx553_5
   replace hx553_6 := zx_ HB hx553_6
   replace p553 := eq_true p553
   replace q553 := eq_true q553
   have p554 : 0 ≤ (x5_1 : Int) := zo_
   have q554 : x5_1 < (l1.length : Int) := zo_
   obtain ⟨ad554,e554,hx554_0,hx554_1,hx554_2,hx554_3,hx554_4,hx554_5,hx554_6⟩ := at_T40 HR1.out x5_1 p554 q554
   have hw554_6 := hx554_6
   have hw554_5 := hx554_5
   have hw554_4 := hx554_4
   have hw554_3 := hx554_3
   have hw554_2 := hx554_2
   have hw554_1 := hx554_1
   have hw554_0 := hx554_0
   cases e554
   replace hx554_0 := zx_ HB hx554_0
   replace hx554_1 := zx_ HB hx554_1
   replace hx554_2 := zx_ HB hx554_2
   replace hx554_3 := zx_ HB hx554_3
   replace hx554_4 := zx_ HB hx554_4
   replace hx554_5 := zx_ HB hx554_5
   replace hx554_6 := zx_ HB hx554_6
   replace p554 := eq_true p554
   replace q554 := eq_true q554
   refine start_ (n := 10) (S := fun w' => w'.cell? (ad553.add ((x5_1).toNat * 7)) = some (.int .i64 ((rd_T40 l0 x5_1).f0)) ∧ w'.cell? ⟨(ad553.add ((x5_1).toNat * 7)).block,(ad553.add ((x5_1).toNat * 7)).off + 1,none⟩ = some (.int .i64 ((rd_T40 l0 x5_1).f1)) ∧ w'.cell? ⟨(ad553.add ((x5_1).toNat * 7)).block,(ad553.add ((x5_1).toNat * 7)).off + 2,none⟩ = some (.int .i64 ((rd_T40 l0 x5_1).f2)) ∧ w'.cell? ⟨(ad553.add ((x5_1).toNat * 7)).block,(ad553.add ((x5_1).toNat * 7)).off + 3,none⟩ = some (.int .i64 ((rd_T40 l0 x5_1).f3)) ∧ w'.cell? ⟨(ad553.add ((x5_1).toNat * 7)).block,(ad553.add ((x5_1).toNat * 7)).off + 4,none⟩ = some (.string ((rd_T40 l0 x5_1).f4)) ∧ w'.cell? ⟨(ad553.add ((x5_1).toNat * 7)).block,(ad553.add ((x5_1).toNat * 7)).off + 5,none⟩ = some (.string ((rd_T40 l0 x5_1).f5)) ∧ w'.cell? ⟨(ad553.add ((x5_1).toNat * 7)).block,(ad553.add ((x5_1).toNat * 7)).off + 6,none⟩ = some (.string ((rd_T40 l0 x5_1).f6)) ∧ w'.cell? (ad554.add ((x5_1).toNat * 7)) = some (.int .i64 ((rd_T40 l1 x5_1).f0)) ∧ w'.cell? ⟨(ad554.add ((x5_1).toNat * 7)).block,(ad554.add ((x5_1).toNat * 7)).off + 1,none⟩ = some (.int .i64 ((rd_T40 l1 x5_1).f1)) ∧ w'.cell? ⟨(ad554.add ((x5_1).toNat * 7)).block,(ad554.add ((x5_1).toNat * 7)).off + 2,none⟩ = some (.int .i64 ((rd_T40 l1 x5_1).f2)) ∧ w'.cell? ⟨(ad554.add ((x5_1).toNat * 7)).block,(ad554.add ((x5_1).toNat * 7)).off + 3,none⟩ = some (.int .i64 ((rd_T40 l1 x5_1).f3)) ∧ w'.cell? ⟨(ad554.add ((x5_1).toNat * 7)).block,(ad554.add ((x5_1).toNat * 7)).off + 4,none⟩ = some (.string ((rd_T40 l1 x5_1).f4)) ∧ w'.cell? ⟨(ad554.add ((x5_1).toNat * 7)).block,(ad554.add ((x5_1).toNat * 7)).off + 5,none⟩ = some (.string ((rd_T40 l1 x5_1).f5)) ∧ w'.cell? ⟨(ad554.add ((x5_1).toNat * 7)).block,(ad554.add ((x5_1).toNat * 7)).off + 6,none⟩ = some (.string ((rd_T40 l1 x5_1).f6))) (ds := []) #[false,false,false,false,false,false,false,false,false,false] (by kernel_rfl) rfl rfl ⟨(zx_ HB hw553_0),(zx_ HB hw553_1),(zx_ HB hw553_2),(zx_ HB hw553_3),(zx_ HB hw553_4),(zx_ HB hw553_5),(zx_ HB hw553_6),(zx_ HB hw554_0),(zx_ HB hw554_1),(zx_ HB hw554_2),(zx_ HB hw554_3),(zx_ HB hw554_4),(zx_ HB hw554_5),(zx_ HB hw554_6)⟩ (fun hHeld => ?_);refine with_tabW Zr.tab6 Zr.bits6 (fun HT_ HW_ => ?_)
   generalize wr.drew = w9 at HB hx553_0 hx553_1 hx553_2 hx553_3 hx553_4 hx553_5 hx553_6 hx554_0 hx554_1 hx554_2 hx554_3 hx554_4 hx554_5 hx554_6 hHeld ⊢
   refine pu_ 0 17 HT_ ?_
   refine pu_ 1 18 HT_ ?_
   refine pu_ 2 19 HT_ ?_
   refine pu_ 4 21 HT_ ?_
   refine pu_ 5 22 HT_ ?_
   refine pu_ 6 23 HT_ ?_
   refine tk_ 3 20 HT_ HW_ hHeld ?_
   refine tk_ 7 24 HT_ HW_ hHeld ?_
   refine zon 8 (N := some 25) HT_ (fun K hK => ?_)
   refine zgo Tryz.func32 #[.agg #[.int .i64 ((rd_T40 l0 x5_1).f0),.int .i64 ((rd_T40 l0 x5_1).f1),.int .i64 ((rd_T40 l0 x5_1).f2),.int .i64 ((rd_T40 l0 x5_1).f3),.string ((rd_T40 l0 x5_1).f4),.string ((rd_T40 l0 x5_1).f5),.string ((rd_T40 l0 x5_1).f6)],.agg #[.int .i64 ((rd_T40 l1 x5_1).f0),.int .i64 ((rd_T40 l1 x5_1).f1),.int .i64 ((rd_T40 l1 x5_1).f2),.int .i64 ((rd_T40 l1 x5_1).f3),.string ((rd_T40 l1 x5_1).f4),.string ((rd_T40 l1 x5_1).f5),.string ((rd_T40 l1 x5_1).f6)]] ?_
   with_reducible refine (Yt.calls ((rd_T40 l0 x5_1).f0) ((rd_T40 l0 x5_1).f1) ((rd_T40 l0 x5_1).f2) ((rd_T40 l0 x5_1).f3) ((rd_T40 l0 x5_1).f4) ((rd_T40 l0 x5_1).f5) ((rd_T40 l0 x5_1).f6) ((rd_T40 l1 x5_1).f0) ((rd_T40 l1 x5_1).f1) ((rd_T40 l1 x5_1).f2) ((rd_T40 l1 x5_1).f3) ((rd_T40 l1 x5_1).f4) ((rd_T40 l1 x5_1).f5) ((rd_T40 l1 x5_1).f6) t555 _ A7.out).mono ?_
   rintro e w10 ⟨rfl,hb⟩
   refine ⟨_,rfl,?_⟩
   replace HB := zs_ HB hb
   try clear hb
   refine hK.out _ _ ⟨(zx_ HB hw553_0),(zx_ HB hw553_1),(zx_ HB hw553_2),(zx_ HB hw553_3),(zx_ HB hw553_4),(zx_ HB hw553_5),(zx_ HB hw553_6),(zx_ HB hw554_0),(zx_ HB hw554_1),(zx_ HB hw554_2),(zx_ HB hw554_3),(zx_ HB hw554_4),(zx_ HB hw554_5),(zx_ HB hw554_6)⟩ (fun hHeld => ?_)
   clear hK K
   refine nm_ ?_
   by_cases c8 : t555 = true
   case neg =>
    replace c8 := Bool.eq_false_iff.mpr c8
    subst c8
    rw [if_neg (show ¬ (false = true) by decide)] at H
    obtain rfl := Option.some.inj H
    refine pu_ 9 26 HT_ ?_
    refine done_ (done_of HT_.out (by kernel_rfl)) ?_
    try go_wp2
    go_ret
    exact ⟨zt_,zl_ HB⟩
   subst c8
   rw [if_pos rfl] at H
   have H' := am_ H
   clear H
   refine pu_ 9 26 HT_ ?_
   refine done_ (done_of HT_.out (by kernel_rfl)) ?_
   try go_wp2
   go_roundg k1
   case measure => have := HK1.out;omega
   case rel => exact ⟨(wrap64 (x5_1 + 1)),(by first | rfl | (simp;done) | (simp [*];done)),H',⟨by have := HK1.out;omega⟩,⟨zl_ HB⟩⟩
theorem Ym.calls (k : Nat) (a0_0 : ByteArray) (A0_1 : Option Addr) (c0_1 : Nat) (l0_1 : List (S40)) (a1_0 : ByteArray) (A1_1 : Option Addr) (c1_1 : Nat) (l1_1 : List (S40)) (r : Bool) (w : World) (hr0_1 : Kd.C k40 w A0_1 l0_1.length l0_1) (hc0_1 : l0_1.length ≤ c0_1) (hr1_1 : Kd.C k40 w A1_1 l1_1.length l1_1) (hc1_1 : l1_1.length ≤ c1_1) (h : Ym.f k a0_0 l0_1 a1_0 l1_1 = some r) :
  Calls Tryz.prog 8 #[.agg #[.string a0_0,.slice A0_1 l0_1.length c0_1],.agg #[.string a1_0,.slice A1_1 l1_1.length c1_1]] w fun e w' => e = .returned (.bool r) ∧ Below w.heap.size w w' := by
 have hu29 := Tryz.underlying29
 have HR0_1 := am_ hr0_1
 have HC0_1 := am_ hc0_1
 clear hr0_1 hc0_1
 have HR1_1 := am_ hr1_1
 have HC1_1 := am_ hc1_1
 clear hr1_1 hc1_1
 have HB := am_ (Below.refl w.heap.size w)
 have H : (if a0_0.toList = a1_0.toList then ((Zr.f k l0_1 l1_1).bind fun t558 => (if t558 = true then (some true) else (some false))) else (some false)) = some r := h
 clear h
 by_cases c3 : a0_0.toList = a1_0.toList
 case neg =>
  rw [if_neg c3] at H
  have c3b0 := beq_eq_false_iff_ne.mpr c3
  have c3b1 := bne_iff_ne.mpr c3
  obtain rfl := Option.some.inj H
  go_enter Tryz.func8,Tryz.ntmps8
  go_wp2_with (first | ((with_reducible refine gate_dst (N := 2) rfl ?_);refine zbx (N := 2) (cs := #[.string a0_0,.slice A0_1 l0_1.length c0_1]) (t := 29) ?_;intro gb556 hg w18 hbox hb;have BK556 := am_ (hbox);have GW556 := zw_ HB hg;have GE556 := zw_ HB hg;replace HB := zs_ HB hb;clear hb hbox hg) | ((with_reducible refine gate_dst (N := 3) rfl ?_);refine zbx (N := 3) (cs := #[.string a1_0,.slice A1_1 l1_1.length c1_1]) (t := 29) ?_;intro gb557 hg w19 hbox hb;have BK557 := am_ (hbox);have GW557 := zw_ HB hg;have GE557 := zw_ HB hg;replace HB := zs_ HB hb;have NB556_557 := zl hg BK556;have NB557_556 := zg hg BK556;replace BK556 := zb BK556 hb;clear hb hbox hg;have hnb20 := NB556_557.out;have hnc20 := NB557_556.out;obtain ⟨hcz21_0,hcz21_1,hfz21_0,hfz21_1⟩ := zc2 BK556;obtain ⟨hcz22_0,hcz22_1,hfz22_0,hfz22_1⟩ := zc2 BK557))
  go_ret
  exact ⟨zt_,zl_ HB⟩
 rw [if_pos c3] at H
 have c3b0 := beq_iff_eq.mpr c3
 have c3b1 := bne_eq_false_iff_eq.mpr c3
 clear c3
 replace H := Option.bind_eq_some_iff.mp H
 obtain ⟨t558,A40,H⟩ := H
 try dsimp only at H
 have A4 := am_ A40
 clear A40
 by_cases c5 : t558 = true
 ·subst c5
  rw [if_pos rfl] at H
  obtain rfl := Option.some.inj H
  go_enter Tryz.func8,Tryz.ntmps8
  go_wp2_with (first | ((with_reducible refine gate_dst (N := 2) rfl ?_);refine zbx (N := 2) (cs := #[.string a0_0,.slice A0_1 l0_1.length c0_1]) (t := 29) ?_;intro gb556 hg w6 hbox hb;have BK556 := am_ (hbox);have GW556 := zw_ HB hg;have GE556 := zw_ HB hg;replace HB := zs_ HB hb;clear hb hbox hg) | ((with_reducible refine gate_dst (N := 3) rfl ?_);refine zbx (N := 3) (cs := #[.string a1_0,.slice A1_1 l1_1.length c1_1]) (t := 29) ?_;intro gb557 hg w7 hbox hb;have BK557 := am_ (hbox);have GW557 := zw_ HB hg;have GE557 := zw_ HB hg;replace HB := zs_ HB hb;have NB556_557 := zl hg BK556;have NB557_556 := zg hg BK556;replace BK556 := zb BK556 hb;clear hb hbox hg;have hnb8 := NB556_557.out;have hnc8 := NB557_556.out;obtain ⟨hcz9_0,hcz9_1,hfz9_0,hfz9_1⟩ := zc2 BK556;obtain ⟨hcz10_0,hcz10_1,hfz10_0,hfz10_1⟩ := zc2 BK557) | ((with_reducible refine gate_callee (f := 20) rfl ?_);refine zgl (some 14) Tryz.func20 #[.slice A0_1 l0_1.length c0_1,.slice A1_1 l1_1.length c1_1] ?_;(with_reducible refine (Zr.calls k _ _ l0_1 _ _ l1_1 true _ ?side1 ?side2 ?side3 ?side4 A4.out).mono ?_);(case side1 => exact zc_ HR0_1 HB);(case side2 => exact HC0_1.out);(case side3 => exact zc_ HR1_1 HB);(case side4 => exact HC1_1.out);rintro e w11 ⟨rfl,hb⟩;refine ⟨_,rfl,?_⟩;replace BK556 := zb BK556 hb;replace BK557 := zb BK557 hb;replace HB := zs_ HB hb;(try clear hb)))
  go_ret
  exact ⟨zt_,zl_ HB⟩
 replace c5 := Bool.eq_false_iff.mpr c5
 subst c5
 rw [if_neg (show ¬ (false = true) by decide)] at H
 obtain rfl := Option.some.inj H
 go_enter Tryz.func8,Tryz.ntmps8
 go_wp2_with (first | ((with_reducible refine gate_dst (N := 2) rfl ?_);refine zbx (N := 2) (cs := #[.string a0_0,.slice A0_1 l0_1.length c0_1]) (t := 29) ?_;intro gb556 hg w12 hbox hb;have BK556 := am_ (hbox);have GW556 := zw_ HB hg;have GE556 := zw_ HB hg;replace HB := zs_ HB hb;clear hb hbox hg) | ((with_reducible refine gate_dst (N := 3) rfl ?_);refine zbx (N := 3) (cs := #[.string a1_0,.slice A1_1 l1_1.length c1_1]) (t := 29) ?_;intro gb557 hg w13 hbox hb;have BK557 := am_ (hbox);have GW557 := zw_ HB hg;have GE557 := zw_ HB hg;replace HB := zs_ HB hb;have NB556_557 := zl hg BK556;have NB557_556 := zg hg BK556;replace BK556 := zb BK556 hb;clear hb hbox hg;have hnb14 := NB556_557.out;have hnc14 := NB557_556.out;obtain ⟨hcz15_0,hcz15_1,hfz15_0,hfz15_1⟩ := zc2 BK556;obtain ⟨hcz16_0,hcz16_1,hfz16_0,hfz16_1⟩ := zc2 BK557) | ((with_reducible refine gate_callee (f := 20) rfl ?_);refine zgl (some 14) Tryz.func20 #[.slice A0_1 l0_1.length c0_1,.slice A1_1 l1_1.length c1_1] ?_;(with_reducible refine (Zr.calls k _ _ l0_1 _ _ l1_1 false _ ?side1 ?side2 ?side3 ?side4 A4.out).mono ?_);(case side1 => exact zc_ HR0_1 HB);(case side2 => exact HC0_1.out);(case side3 => exact zc_ HR1_1 HB);(case side4 => exact HC1_1.out);rintro e w17 ⟨rfl,hb⟩;refine ⟨_,rfl,?_⟩;replace HB := zs_ HB hb;(try clear hb)))
 go_ret
 exact ⟨zt_,zl_ HB⟩
theorem Yp.calls (a0_0 : Int) (a0_1 : Int) (a0_2 : Int) (a0_3 : Int) (a0_4 : ByteArray) (a0_5 : ByteArray) (a0_6 : ByteArray) (a1 : Int) (r : Int) (w : World) (h : Yp.f a0_0 a0_1 a0_2 a0_3 a0_4 a0_5 a0_6 a1 = some r) :
  Calls Tryz.prog 21 #[.agg #[.int .i64 a0_0,.int .i64 a0_1,.int .i64 a0_2,.int .i64 a0_3,.string a0_4,.string a0_5,.string a0_6],.int .i64 a1] w fun e w' => e = .returned (.int .i64 r) ∧ Below w.heap.size w w' := by
 have hu46 := Tryz.underlying46
 have HB := am_ (Below.refl w.heap.size w)
 have H : (if (wrap64 (a1 - (a0_4.size : Int))) < 0 then (some (-1)) else (if (wrap64 ((wrap64 (a1 - (a0_4.size : Int))) - (a0_5.size : Int))) < 0 then (some (-1)) else (if (wrap64 ((wrap64 ((wrap64 (a1 - (a0_4.size : Int))) - (a0_5.size : Int))) - (a0_6.size : Int))) < 0 then (some (-1)) else (some (wrap64 ((wrap64 ((wrap64 (a1 - (a0_4.size : Int))) - (a0_5.size : Int))) - (a0_6.size : Int))))))) = some r := h
 clear h
 by_cases c3 : (wrap64 (a1 - (a0_4.size : Int))) < 0
 ·rw [if_pos c3] at H
  have c3b0 := decide_eq_true c3
  clear c3
  obtain rfl := Option.some.inj H
  go_enter Tryz.func21,Tryz.ntmps21
  go_wp2_with (first | ((with_reducible refine gate_dst (N := 2) rfl ?_);refine zbx (N := 2) (cs := #[.int .i64 a0_0,.int .i64 a0_1,.int .i64 a0_2,.int .i64 a0_3,.string a0_4,.string a0_5,.string a0_6]) (t := 46) ?_;intro gb101 hg w4 hbox hb;have BK101 := am_ (hbox);have GW101 := zw_ HB hg;have GE101 := zw_ HB hg;replace HB := zs_ HB hb;clear hb hbox hg;obtain ⟨hcz5_0,hcz5_1,hcz5_2,hcz5_3,hcz5_4,hcz5_5,hcz5_6,hfz5_0,hfz5_1,hfz5_2,hfz5_3,hfz5_4,hfz5_5,hfz5_6⟩ := zc7 BK101))
  go_ret
  exact ⟨zt_,zl_ HB⟩
 rw [if_neg c3] at H
 have c3b0 := decide_eq_false c3
 clear c3
 by_cases c6 : (wrap64 ((wrap64 (a1 - (a0_4.size : Int))) - (a0_5.size : Int))) < 0
 ·rw [if_pos c6] at H
  have c6b0 := decide_eq_true c6
  clear c6
  obtain rfl := Option.some.inj H
  go_enter Tryz.func21,Tryz.ntmps21
  go_wp2_with (first | ((with_reducible refine gate_dst (N := 2) rfl ?_);refine zbx (N := 2) (cs := #[.int .i64 a0_0,.int .i64 a0_1,.int .i64 a0_2,.int .i64 a0_3,.string a0_4,.string a0_5,.string a0_6]) (t := 46) ?_;intro gb101 hg w7 hbox hb;have BK101 := am_ (hbox);have GW101 := zw_ HB hg;have GE101 := zw_ HB hg;replace HB := zs_ HB hb;clear hb hbox hg;obtain ⟨hcz8_0,hcz8_1,hcz8_2,hcz8_3,hcz8_4,hcz8_5,hcz8_6,hfz8_0,hfz8_1,hfz8_2,hfz8_3,hfz8_4,hfz8_5,hfz8_6⟩ := zc7 BK101))
  go_ret
  exact ⟨zt_,zl_ HB⟩
 rw [if_neg c6] at H
 have c6b0 := decide_eq_false c6
 clear c6
 by_cases c9 : (wrap64 ((wrap64 ((wrap64 (a1 - (a0_4.size : Int))) - (a0_5.size : Int))) - (a0_6.size : Int))) < 0
 ·rw [if_pos c9] at H
  have c9b0 := decide_eq_true c9
  clear c9
  obtain rfl := Option.some.inj H
  go_enter Tryz.func21,Tryz.ntmps21
  go_wp2_with (first | ((with_reducible refine gate_dst (N := 2) rfl ?_);refine zbx (N := 2) (cs := #[.int .i64 a0_0,.int .i64 a0_1,.int .i64 a0_2,.int .i64 a0_3,.string a0_4,.string a0_5,.string a0_6]) (t := 46) ?_;intro gb101 hg w10 hbox hb;have BK101 := am_ (hbox);have GW101 := zw_ HB hg;have GE101 := zw_ HB hg;replace HB := zs_ HB hb;clear hb hbox hg;obtain ⟨hcz11_0,hcz11_1,hcz11_2,hcz11_3,hcz11_4,hcz11_5,hcz11_6,hfz11_0,hfz11_1,hfz11_2,hfz11_3,hfz11_4,hfz11_5,hfz11_6⟩ := zc7 BK101))
  go_ret
  exact ⟨zt_,zl_ HB⟩
 rw [if_neg c9] at H
 have c9b0 := decide_eq_false c9
 clear c9
 obtain rfl := Option.some.inj H
 go_enter Tryz.func21,Tryz.ntmps21
 go_wp2_with (first | ((with_reducible refine gate_dst (N := 2) rfl ?_);refine zbx (N := 2) (cs := #[.int .i64 a0_0,.int .i64 a0_1,.int .i64 a0_2,.int .i64 a0_3,.string a0_4,.string a0_5,.string a0_6]) (t := 46) ?_;intro gb101 hg w12 hbox hb;have BK101 := am_ (hbox);have GW101 := zw_ HB hg;have GE101 := zw_ HB hg;replace HB := zs_ HB hb;clear hb hbox hg;obtain ⟨hcz13_0,hcz13_1,hcz13_2,hcz13_3,hcz13_4,hcz13_5,hcz13_6,hfz13_0,hfz13_1,hfz13_2,hfz13_3,hfz13_4,hfz13_5,hfz13_6⟩ := zc7 BK101))
 go_ret
 exact ⟨zt_,zl_ HB⟩
theorem Zz.calls (k : Nat) (A0 : Option Addr) (c0 : Nat) (l0 : List (S46)) (a1 : Int) (r : Int) (w : World) (hr0 : Kd.C k46 w A0 l0.length l0) (hc0 : l0.length ≤ c0) (h : Zz.f k l0 a1 = some r) :
  Calls Tryz.prog 9 #[.slice A0 l0.length c0,.int .i64 a1] w fun e w' => e = .returned (.int .i64 r) ∧ Below w.heap.size w w' := by
 have hu46 := Tryz.underlying46
 have HR0 := am_ hr0
 have HC0 := am_ hc0
 clear hr0 hc0
 have HB := am_ (Below.refl w.heap.size w)
 have H : (if (wrap64 (a1 - (l0.length : Int))) < 0 then (some (-1)) else (Zz.l0 k l0 (wrap64 (a1 - (l0.length : Int))) 0)) = some r := h
 clear h
 by_cases c3 : (wrap64 (a1 - (l0.length : Int))) < 0
 ·rw [if_pos c3] at H
  have c3b0 := decide_eq_true c3
  clear c3
  obtain rfl := Option.some.inj H
  go_enter Tryz.func9,Tryz.ntmps9
  go_wp2
  go_ret
  exact ⟨zt_,zl_ HB⟩
 rw [if_neg c3] at H
 have c3b0 := decide_eq_false c3
 clear c3
 have H' := am_ H
 clear H
 go_enter Tryz.func9,Tryz.ntmps9
 go_wp2
 go_loopg [1,5] k (fun kq v1 v5 w' => ∃ (x1_1 : Int) (x5_1 : Int),v1 = .int .i64 x1_1 ∧ v5 = .int .i64 x5_1 ∧ Aside0 (Zz.l0 kq l0 x1_1 x5_1 = some r) ∧ Aside0 (kq ≤ k) ∧ Aside0 (Below w.heap.size w w'))
 case atStart => exact ⟨(wrap64 (a1 - (l0.length : Int))),(0),(by first | rfl | (simp;done) | (simp [*];done)),(by first | rfl | (simp;done) | (simp [*];done)),H',⟨Nat.le_refl _⟩,⟨zl_ HB⟩⟩
 case round =>
  clear H'
  try clear p2
  try clear c3
  try clear c3b0
  obtain ⟨x1_1,x5_1,rfl,rfl,HA,HK1,HB⟩ := hrel
  cases gk with
  | zero => exact absurd HA.out (by simp [Zz.l0])
  | succ k1 =>
   have H := HA.out
   clear HA
   simp only [Zz.l0] at H
   by_cases c4 : x5_1 < (l0.length : Int)
   case neg =>
    rw [if_neg c4] at H
    have c4b0 := decide_eq_false c4
    clear c4
    obtain rfl := Option.some.inj H
    go_wp2
    go_ret
    exact ⟨zt_,zl_ HB⟩
   rw [if_pos c4] at H
   have c4b0 := decide_eq_true c4
   clear c4
   by_cases c5 : 0 ≤ x5_1
   case neg =>
    rw [if_neg c5] at H
    exact absurd H (by simp)
   rw [if_pos c5] at H
   have c5b0 := decide_eq_true c5
   clear c5
   replace H := Option.bind_eq_some_iff.mp H
   obtain ⟨t103,A60,H⟩ := H
   try dsimp only at H
   have A6 := am_ A60
   clear A60
   by_cases c7 : t103 < 0
   ·rw [if_pos c7] at H
    have c7b0 := decide_eq_true c7
    clear c7
    obtain rfl := Option.some.inj H
    have p102 : 0 ≤ (x5_1 : Int) := zo_
    have q102 : x5_1 < (l0.length : Int) := zo_
    obtain ⟨ad102,e102,hx102_0,hx102_1,hx102_2,hx102_3,hx102_4,hx102_5,hx102_6⟩ := at_T46 HR0.out x5_1 p102 q102
    cases e102
    replace hx102_0 := zx_ HB hx102_0
    replace hx102_1 := zx_ HB hx102_1
    replace hx102_2 := zx_ HB hx102_2
    replace hx102_3 := zx_ HB hx102_3
    replace hx102_4 := zx_ HB hx102_4
    replace hx102_5 := zx_ HB hx102_5
    replace hx102_6 := zx_ HB hx102_6
    replace p102 := eq_true p102
    replace q102 := eq_true q102
    go_wp2_with (first | ((with_reducible refine gate_callee (f := 21) rfl ?_);refine zgl (some 23) Tryz.func21 #[.agg #[.int .i64 ((rd_T46 l0 x5_1).f0),.int .i64 ((rd_T46 l0 x5_1).f1),.int .i64 ((rd_T46 l0 x5_1).f2),.int .i64 ((rd_T46 l0 x5_1).f3),.string ((rd_T46 l0 x5_1).f4),.string ((rd_T46 l0 x5_1).f5),.string ((rd_T46 l0 x5_1).f6)],.int .i64 x1_1] ?_;(with_reducible refine (Yp.calls ((rd_T46 l0 x5_1).f0) ((rd_T46 l0 x5_1).f1) ((rd_T46 l0 x5_1).f2) ((rd_T46 l0 x5_1).f3) ((rd_T46 l0 x5_1).f4) ((rd_T46 l0 x5_1).f5) ((rd_T46 l0 x5_1).f6) x1_1 t103 _ A6.out).mono ?_);rintro e w8 ⟨rfl,hb⟩;refine ⟨_,rfl,?_⟩;replace HB := zs_ HB hb;(try clear hb)))
    go_ret
    exact ⟨zt_,zl_ HB⟩
   rw [if_neg c7] at H
   have c7b0 := decide_eq_false c7
   clear c7
   have H' := am_ H
   clear H
   have p102 : 0 ≤ (x5_1 : Int) := zo_
   have q102 : x5_1 < (l0.length : Int) := zo_
   obtain ⟨ad102,e102,hx102_0,hx102_1,hx102_2,hx102_3,hx102_4,hx102_5,hx102_6⟩ := at_T46 HR0.out x5_1 p102 q102
   cases e102
   replace hx102_0 := zx_ HB hx102_0
   replace hx102_1 := zx_ HB hx102_1
   replace hx102_2 := zx_ HB hx102_2
   replace hx102_3 := zx_ HB hx102_3
   replace hx102_4 := zx_ HB hx102_4
   replace hx102_5 := zx_ HB hx102_5
   replace hx102_6 := zx_ HB hx102_6
   replace p102 := eq_true p102
   replace q102 := eq_true q102
   go_wp2_with (first | ((with_reducible refine gate_callee (f := 21) rfl ?_);refine zgl (some 23) Tryz.func21 #[.agg #[.int .i64 ((rd_T46 l0 x5_1).f0),.int .i64 ((rd_T46 l0 x5_1).f1),.int .i64 ((rd_T46 l0 x5_1).f2),.int .i64 ((rd_T46 l0 x5_1).f3),.string ((rd_T46 l0 x5_1).f4),.string ((rd_T46 l0 x5_1).f5),.string ((rd_T46 l0 x5_1).f6)],.int .i64 x1_1] ?_;(with_reducible refine (Yp.calls ((rd_T46 l0 x5_1).f0) ((rd_T46 l0 x5_1).f1) ((rd_T46 l0 x5_1).f2) ((rd_T46 l0 x5_1).f3) ((rd_T46 l0 x5_1).f4) ((rd_T46 l0 x5_1).f5) ((rd_T46 l0 x5_1).f6) x1_1 t103 _ A6.out).mono ?_);rintro e w9 ⟨rfl,hb⟩;refine ⟨_,rfl,?_⟩;replace HB := zs_ HB hb;(try clear hb)))
   go_roundg k1
   case measure => have := HK1.out;omega
   case rel => exact ⟨(t103),(wrap64 (x5_1 + 1)),(by first | rfl | (simp;done) | (simp [*];done)),(by first | rfl | (simp;done) | (simp [*];done)),H',⟨by have := HK1.out;omega⟩,⟨zl_ HB⟩⟩
theorem Yf.calls (k : Nat) (a0_0 : ByteArray) (A0_1 : Option Addr) (c0_1 : Nat) (l0_1 : List (S46)) (a1 : Int) (r : Int) (w : World) (hr0_1 : Kd.C k46 w A0_1 l0_1.length l0_1) (hc0_1 : l0_1.length ≤ c0_1) (h : Yf.f k a0_0 l0_1 a1 = some r) :
  Calls Tryz.prog 4 #[.agg #[.string a0_0,.slice A0_1 l0_1.length c0_1],.int .i64 a1] w fun e w' => e = .returned (.int .i64 r) ∧ Below w.heap.size w w' := by
 have hu24 := Tryz.underlying24
 have HR0_1 := am_ hr0_1
 have HC0_1 := am_ hc0_1
 clear hr0_1 hc0_1
 have HB := am_ (Below.refl w.heap.size w)
 have H : (if (wrap64 (a1 - (a0_0.size : Int))) < 0 then (some (-1)) else ((Zz.f k l0_1 (wrap64 (a1 - (a0_0.size : Int)))).bind fun t105 => (if t105 < 0 then (some (-1)) else (some t105)))) = some r := h
 clear h
 by_cases c3 : (wrap64 (a1 - (a0_0.size : Int))) < 0
 ·rw [if_pos c3] at H
  have c3b0 := decide_eq_true c3
  clear c3
  obtain rfl := Option.some.inj H
  go_enter Tryz.func4,Tryz.ntmps4
  go_wp2_with (first | ((with_reducible refine gate_dst (N := 2) rfl ?_);refine zbx (N := 2) (cs := #[.string a0_0,.slice A0_1 l0_1.length c0_1]) (t := 24) ?_;intro gb104 hg w4 hbox hb;have BK104 := am_ (hbox);have GW104 := zw_ HB hg;have GE104 := zw_ HB hg;replace HB := zs_ HB hb;clear hb hbox hg;obtain ⟨hcz5_0,hcz5_1,hfz5_0,hfz5_1⟩ := zc2 BK104))
  go_ret
  exact ⟨zt_,zl_ HB⟩
 rw [if_neg c3] at H
 have c3b0 := decide_eq_false c3
 clear c3
 replace H := Option.bind_eq_some_iff.mp H
 obtain ⟨t105,A60,H⟩ := H
 try dsimp only at H
 have A6 := am_ A60
 clear A60
 by_cases c7 : t105 < 0
 case neg =>
  rw [if_neg c7] at H
  have c7b0 := decide_eq_false c7
  clear c7
  obtain rfl := Option.some.inj H
  go_enter Tryz.func4,Tryz.ntmps4
  go_wp2_with (first | ((with_reducible refine gate_dst (N := 2) rfl ?_);refine zbx (N := 2) (cs := #[.string a0_0,.slice A0_1 l0_1.length c0_1]) (t := 24) ?_;intro gb104 hg w11 hbox hb;have BK104 := am_ (hbox);have GW104 := zw_ HB hg;have GE104 := zw_ HB hg;replace HB := zs_ HB hb;clear hb hbox hg;obtain ⟨hcz12_0,hcz12_1,hfz12_0,hfz12_1⟩ := zc2 BK104) | ((with_reducible refine gate_callee (f := 9) rfl ?_);refine zgl (some 15) Tryz.func9 #[.slice A0_1 l0_1.length c0_1,.int .i64 (wrap64 (a1 - (a0_0.size : Int)))] ?_;(with_reducible refine (Zz.calls k _ _ l0_1 (wrap64 (a1 - (a0_0.size : Int))) t105 _ ?side1 ?side2 A6.out).mono ?_);(case side1 => exact zc_ HR0_1 HB);(case side2 => exact HC0_1.out);rintro e w13 ⟨rfl,hb⟩;refine ⟨_,rfl,?_⟩;replace HB := zs_ HB hb;(try clear hb)))
  go_ret
  exact ⟨zt_,zl_ HB⟩
 rw [if_pos c7] at H
 have c7b0 := decide_eq_true c7
 clear c7
 obtain rfl := Option.some.inj H
 go_enter Tryz.func4,Tryz.ntmps4
 go_wp2_with (first | ((with_reducible refine gate_dst (N := 2) rfl ?_);refine zbx (N := 2) (cs := #[.string a0_0,.slice A0_1 l0_1.length c0_1]) (t := 24) ?_;intro gb104 hg w8 hbox hb;have BK104 := am_ (hbox);have GW104 := zw_ HB hg;have GE104 := zw_ HB hg;replace HB := zs_ HB hb;clear hb hbox hg;obtain ⟨hcz9_0,hcz9_1,hfz9_0,hfz9_1⟩ := zc2 BK104) | ((with_reducible refine gate_callee (f := 9) rfl ?_);refine zgl (some 15) Tryz.func9 #[.slice A0_1 l0_1.length c0_1,.int .i64 (wrap64 (a1 - (a0_0.size : Int)))] ?_;(with_reducible refine (Zz.calls k _ _ l0_1 (wrap64 (a1 - (a0_0.size : Int))) t105 _ ?side1 ?side2 A6.out).mono ?_);(case side1 => exact zc_ HR0_1 HB);(case side2 => exact HC0_1.out);rintro e w10 ⟨rfl,hb⟩;refine ⟨_,rfl,?_⟩;replace BK104 := zb BK104 hb;replace HB := zs_ HB hb;(try clear hb)))
 go_ret
 exact ⟨zt_,zl_ HB⟩
theorem Ys.calls (a0_0 : Int) (a0_1 : Int) (a0_2 : Int) (a0_3 : Int) (a0_4 : ByteArray) (a0_5 : ByteArray) (a0_6 : ByteArray) (r1 : Int) (r2 : Int) (r3 : Int) (r4 : Int) (r5 : ByteArray) (r6 : ByteArray) (r7 : ByteArray) (w : World) (h : Ys.f a0_0 a0_1 a0_2 a0_3 a0_4 a0_5 a0_6 = some (r1,r2,r3,r4,r5,r6,r7)) :
  Calls Tryz.prog 26 #[.agg #[.int .i64 a0_0,.int .i64 a0_1,.int .i64 a0_2,.int .i64 a0_3,.string a0_4,.string a0_5,.string a0_6]] w fun e w' => e = .returned (.agg #[.int .i64 r1,.int .i64 r2,.int .i64 r3,.int .i64 r4,.string r5,.string r6,.string r7]) ∧ Below w.heap.size w w' := by
 have hu46 := Tryz.underlying46
 have hu40 := Tryz.underlying40
 have HB := am_ (Below.refl w.heap.size w)
 have H : (some (a0_0,a0_1,a0_2,a0_3,a0_4,a0_5,a0_6)) = some (r1,r2,r3,r4,r5,r6,r7) := h
 clear h
 simp only [Option.some.injEq,Prod.mk.injEq] at H
 obtain ⟨rfl,rfl,rfl,rfl,rfl,rfl,rfl⟩ := H
 go_enter Tryz.func26,Tryz.ntmps26
 go_wp2_with (first | ((with_reducible refine gate_dst (N := 1) rfl ?_);refine zbx (N := 1) (cs := #[.int .i64 a0_0,.int .i64 a0_1,.int .i64 a0_2,.int .i64 a0_3,.string a0_4,.string a0_5,.string a0_6]) (t := 46) ?_;intro gb360 hg w2 hbox hb;have BK360 := am_ (hbox);have GW360 := zw_ HB hg;have GE360 := zw_ HB hg;replace HB := zs_ HB hb;clear hb hbox hg) | ((with_reducible refine gate_dst (N := 2) rfl ?_);refine zbx (N := 2) (cs := #[.int .i64 0,.int .i64 0,.int .i64 0,.int .i64 0,.string ⟨#[]⟩,.string ⟨#[]⟩,.string ⟨#[]⟩]) (t := 40) ?_;intro gb361 hg w3 hbox hb;have BK361 := am_ (hbox);have GW361 := zw_ HB hg;have GE361 := zw_ HB hg;replace HB := zs_ HB hb;have NB360_361 := zl hg BK360;have NB361_360 := zg hg BK360;replace BK360 := zb BK360 hb;clear hb hbox hg) | ((with_reducible refine gate_dst (N := 3) rfl ?_);refine zbx (N := 3) (cs := #[.int .i64 0,.int .i64 0,.int .i64 0,.int .i64 0,.string ⟨#[]⟩,.string ⟨#[]⟩,.string ⟨#[]⟩]) (t := 40) ?_;intro gb362 hg w4 hbox hb;have BK362 := am_ (hbox);have GW362 := zw_ HB hg;have GE362 := zw_ HB hg;replace HB := zs_ HB hb;have NB360_362 := zl hg BK360;have NB362_360 := zg hg BK360;replace BK360 := zb BK360 hb;have NB361_362 := zl hg BK361;have NB362_361 := zg hg BK361;replace BK361 := zb BK361 hb;clear hb hbox hg;have hnb5 := NB360_361.out;have hnc5 := NB361_360.out;have hnb6 := NB360_362.out;have hnc6 := NB362_360.out;obtain ⟨hcz7_0,hcz7_1,hcz7_2,hcz7_3,hcz7_4,hcz7_5,hcz7_6,hfz7_0,hfz7_1,hfz7_2,hfz7_3,hfz7_4,hfz7_5,hfz7_6⟩ := zc7 BK360;have hnb8 := NB362_361.out;have hnc8 := NB361_362.out;obtain ⟨hcz9_0,hcz9_1,hcz9_2,hcz9_3,hcz9_4,hcz9_5,hcz9_6,hfz9_0,hfz9_1,hfz9_2,hfz9_3,hfz9_4,hfz9_5,hfz9_6⟩ := zc7 BK362;obtain ⟨hcz10_0,hcz10_1,hcz10_2,hcz10_3,hcz10_4,hcz10_5,hcz10_6,hfz10_0,hfz10_1,hfz10_2,hfz10_3,hfz10_4,hfz10_5,hfz10_6⟩ := zc7 BK361))
 refine bodyPost_ret (results_cell_row rfl _ _ gb361 40 #[.int .i64 a0_0,.int .i64 a0_1,.int .i64 a0_2,.int .i64 a0_3,.string a0_4,.string a0_5,.string a0_6] (0,0) _ rfl (zq BK361) Tryz.underlying40 rfl (by kernel_rfl)) rfl ?_
 exact ⟨zt_,zl_ HB⟩
theorem Zx.calls (k : Nat) (A0 : Option Addr) (c0 : Nat) (l0 : List (S46)) (r : List (S40)) (w : World) (hr0 : Kd.C k46 w A0 l0.length l0) (hc0 : l0.length ≤ c0) (h : Zx.f k l0 = some r) :
  Calls Tryz.prog 12 #[.slice A0 l0.length c0] w fun e w' => ∃ v0_ : Value,e = .returned (v0_) ∧ Kd.R k40 40 w' w.heap.size (fun _ => True) v0_ r ∧ Below w.heap.size w w' := by
 have hu46 := Tryz.underlying46
 have hu40 := Tryz.underlying40
 have HR0 := am_ hr0
 have HC0 := am_ hc0
 clear hr0 hc0
 have HB := am_ (Below.refl w.heap.size w)
 have H : (if 0 ≤ (l0.length : Int) then (if ((l0.length : Int) : Int).toNat ≤ 3518437208883 then (Zx.l0 k l0 (List.replicate ((l0.length : Int) : Int).toNat z40) 0) else (none)) else (none)) = some r := h
 clear h
 by_cases c2 : 0 ≤ (l0.length : Int)
 case neg =>
  rw [if_neg c2] at H
  exact absurd H (by simp)
 rw [if_pos c2] at H
 have c2b0 := eq_true c2
 have c2b1 := decide_eq_true c2
 clear c2
 by_cases c3 : ((l0.length : Int) : Int).toNat ≤ 3518437208883
 case neg =>
  rw [if_neg c3] at H
  exact absurd H (by simp)
 rw [if_pos c3] at H
 have c3b0 := eq_true c3
 have c3b1 := decide_eq_true c3
 clear c3
 obtain ⟨y363,hy363⟩ : ∃ y_ : List (S40),y_ = (List.replicate ((l0.length : Int) : Int).toNat z40) := ⟨_,rfl⟩
 replace H : (Zx.l0 k l0 y363 0) = some r := by first | (rw [hy363];with_reducible exact H) | (have H2_ := (Option.bind_some _ _).symm.trans H;rw [hy363];with_reducible exact H2_) | (have H2_ := (Option.bind_some _ _).symm.trans H;with_reducible exact H2_) | with_reducible exact H | (rw [hy363];exact H) | exact H
 have Ny363 := am_ hy363
 clear hy363
 have H' := am_ H
 clear H
 go_enter Tryz.func12,Tryz.ntmps12
 go_wp2_with (first | ((with_reducible refine gate_dst (N := 7) rfl ?_);refine Kd.R_make k40 _ 40 rfl (N := 7) rfl 27 _ _ rfl (l0.length : Int) rfl rfl Tryz.underlying27 (.agg #[(.int .i64 0),(.int .i64 0),(.int .i64 0),(.int .i64 0),(.string ⟨#[]⟩),(.string ⟨#[]⟩),(.string ⟨#[]⟩)]) 80 info40 rfl (by decide) (by omega) z40 (ok := fun _ => True) (okp := fun _ => True) (k40_mkM _ _ _ z40 ) (fun _ hk => hk) trivial (zo_) (Nat.le_trans (Nat.mul_le_mul_right _ (zo_ : (l0.length : Int).toNat ≤ 3518437208883)) (by omega)) (Below.refl _ _) (Nat.le_refl _) ?_;intro v364 w4 ho5 hb hg_ hnew_;clear hg_ hnew_;(first | rw [← Ny363.out] at ho5 | (simp only [Int.reduceToNat] at ho5;rw [← Ny363.out] at ho5));have HO365 := am_ (Kd.R_lower ho5 (below_size (zl_ HB)));replace HB := zs_ HB hb;clear hb ho5))
 go_loopg [4] k (fun kq v4 w' => ∃ (x3_1 : List (S40)) (x4_1 : Int),v4 = .int .i64 x4_1 ∧ Aside0 (Zx.l0 kq l0 x3_1 x4_1 = some r) ∧ Aside0 (kq ≤ k) ∧ Aside0 (Kd.R k40 40 w' w.heap.size (fun _ => True) v364 x3_1) ∧ Aside0 (Below w.heap.size w w'))
 case atStart => exact ⟨(y363),(0),(by first | rfl | (simp;done) | (simp [*];done)),H',⟨Nat.le_refl _⟩,⟨zr HO365⟩,⟨zl_ HB⟩⟩
 case round =>
  clear H'
  try clear c1
  try clear c2
  try clear c2b0
  try clear c2b1
  try clear p2
  try clear c3
  try clear c3b0
  try clear c3b1
  obtain ⟨x3_1,x4_1,rfl,HA,HK1,HO_3,HB⟩ := hrel
  cases gk with
  | zero => exact absurd HA.out (by simp [Zx.l0])
  | succ k1 =>
   have H := HA.out
   clear HA
   simp only [Zx.l0] at H
   by_cases c6 : x4_1 < (l0.length : Int)
   case neg =>
    rw [if_neg c6] at H
    have c6b0 := decide_eq_false c6
    clear c6
    obtain rfl := Option.some.inj H
    go_wp2
    go_ret
    exact ⟨_,zt_,zr HO_3,zl_ HB⟩
   rw [if_pos c6] at H
   have c6b0 := decide_eq_true c6
   clear c6
   by_cases c7 : 0 ≤ x4_1
   case neg =>
    rw [if_neg c7] at H
    exact absurd H (by simp)
   rw [if_pos c7] at H
   have c7b0 := decide_eq_true c7
   clear c7
   replace H := Option.bind_eq_some_iff.mp H
   obtain ⟨⟨t367,t368,t369,t370,t371,t372,t373⟩,A80,H⟩ := H
   try dsimp only at H
   have A8 := am_ A80
   clear A80
   by_cases c9 : x4_1 < (x3_1.length : Int)
   case neg =>
    rw [if_neg c9] at H
    exact absurd H (by simp)
   rw [if_pos c9] at H
   have c9b0 := decide_eq_true c9
   clear c9
   obtain ⟨y374,hy374⟩ : ∃ y_ : List (S40),y_ = (x3_1.set (x4_1 : Int).toNat (⟨t367,t368,t369,t370,t371,t372,t373⟩ : S40)) := ⟨_,rfl⟩
   replace H : (Zx.l0 k1 l0 y374 (wrap64 (x4_1 + 1))) = some r := by first | (rw [hy374];with_reducible exact H) | (have H2_ := (Option.bind_some _ _).symm.trans H;rw [hy374];with_reducible exact H2_) | (have H2_ := (Option.bind_some _ _).symm.trans H;with_reducible exact H2_) | with_reducible exact H | (rw [hy374];exact H) | exact H
   have Ny374 := am_ hy374
   clear hy374
   have H' := am_ H
   clear H
   have p366 : 0 ≤ (x4_1 : Int) := zo_
   have q366 : x4_1 < (l0.length : Int) := zo_
   obtain ⟨ad366,e366,hx366_0,hx366_1,hx366_2,hx366_3,hx366_4,hx366_5,hx366_6⟩ := at_T46 HR0.out x4_1 p366 q366
   cases e366
   replace hx366_0 := zx_ HB hx366_0
   replace hx366_1 := zx_ HB hx366_1
   replace hx366_2 := zx_ HB hx366_2
   replace hx366_3 := zx_ HB hx366_3
   replace hx366_4 := zx_ HB hx366_4
   replace hx366_5 := zx_ HB hx366_5
   replace hx366_6 := zx_ HB hx366_6
   replace p366 := eq_true p366
   replace q366 := eq_true q366
   go_wp2_with (first | ((with_reducible refine gate_callee (f := 26) rfl ?_);refine zgl (some 20) Tryz.func26 #[.agg #[.int .i64 ((rd_T46 l0 x4_1).f0),.int .i64 ((rd_T46 l0 x4_1).f1),.int .i64 ((rd_T46 l0 x4_1).f2),.int .i64 ((rd_T46 l0 x4_1).f3),.string ((rd_T46 l0 x4_1).f4),.string ((rd_T46 l0 x4_1).f5),.string ((rd_T46 l0 x4_1).f6)]] ?_;(with_reducible refine (Ys.calls ((rd_T46 l0 x4_1).f0) ((rd_T46 l0 x4_1).f1) ((rd_T46 l0 x4_1).f2) ((rd_T46 l0 x4_1).f3) ((rd_T46 l0 x4_1).f4) ((rd_T46 l0 x4_1).f5) ((rd_T46 l0 x4_1).f6) t367 t368 t369 t370 t371 t372 t373 _ A8.out).mono ?_);rintro e w11 ⟨rfl,hb⟩;refine ⟨_,rfl,?_⟩;replace HO_3 := zrb HO_3 hb;replace HB := zs_ HB hb;(try clear hb);have p10 : 0 ≤ (x4_1 : Int) := zo_;have q10 : (x4_1 : Int) < ((x3_1.length : Int) : Int) := zo_;obtain ⟨go10,co10,eo10,gb10,gl10,cl10,HG10⟩ := Kd.R_form HO_3.out (by omega);(first | cases eo10 | (injection eo10 with ea_ en_ ec_;(first | subst ea_ | (injection ea_ with ea_;subst ea_));subst ec_;clear en_));have GB10 := am_ gb10;have GG10 := am_ HG10;clear gb10 gl10 HG10;obtain ⟨ce10,hcl10,hM10,hcc10,hfr10⟩ := Kd.R_elem HO_3.out z40 (x4_1 : Int) p10 q10;obtain rfl := k40_openM hM10;have hx10_0 : w11.cell? ⟨go10,(x4_1 : Int).toNat * 7,none⟩ = some (.int .i64 ((rd_T40 x3_1 x4_1).f0)) := hcc10 0 _ rfl;have hx10_1 : w11.cell? ⟨go10,(x4_1 : Int).toNat * 7 + 1,none⟩ = some (.int .i64 ((rd_T40 x3_1 x4_1).f1)) := hcc10 1 _ rfl;have hx10_2 : w11.cell? ⟨go10,(x4_1 : Int).toNat * 7 + 2,none⟩ = some (.int .i64 ((rd_T40 x3_1 x4_1).f2)) := hcc10 2 _ rfl;have hx10_3 : w11.cell? ⟨go10,(x4_1 : Int).toNat * 7 + 3,none⟩ = some (.int .i64 ((rd_T40 x3_1 x4_1).f3)) := hcc10 3 _ rfl;have hx10_4 : w11.cell? ⟨go10,(x4_1 : Int).toNat * 7 + 4,none⟩ = some (.string ((rd_T40 x3_1 x4_1).f4)) := hcc10 4 _ rfl;have hx10_5 : w11.cell? ⟨go10,(x4_1 : Int).toNat * 7 + 5,none⟩ = some (.string ((rd_T40 x3_1 x4_1).f5)) := hcc10 5 _ rfl;have hx10_6 : w11.cell? ⟨go10,(x4_1 : Int).toNat * 7 + 6,none⟩ = some (.string ((rd_T40 x3_1 x4_1).f6)) := hcc10 6 _ rfl;have hf10_0 : w11.frozen? ⟨go10,(x4_1 : Int).toNat * 7,none⟩ = false := hfr10 0;have hf10_1 : w11.frozen? ⟨go10,(x4_1 : Int).toNat * 7 + 1,none⟩ = false := hfr10 1;have hf10_2 : w11.frozen? ⟨go10,(x4_1 : Int).toNat * 7 + 2,none⟩ = false := hfr10 2;have hf10_3 : w11.frozen? ⟨go10,(x4_1 : Int).toNat * 7 + 3,none⟩ = false := hfr10 3;have hf10_4 : w11.frozen? ⟨go10,(x4_1 : Int).toNat * 7 + 4,none⟩ = false := hfr10 4;have hf10_5 : w11.frozen? ⟨go10,(x4_1 : Int).toNat * 7 + 5,none⟩ = false := hfr10 5;have hf10_6 : w11.frozen? ⟨go10,(x4_1 : Int).toNat * 7 + 6,none⟩ = false := hfr10 6;clear hcl10 hcc10 hfr10 hM10;replace p10 := eq_true p10;replace q10 := eq_true q10;have HX12 := am_ (show Kd.R k40 40 w11 w.heap.size (fun _ => True) (.slice (some ⟨go10,0,none⟩) x3_1.length co10) x3_1 from (zr HO_3));obtain ⟨ce12,hcl12,hM12,hcc12,hfr12⟩ := Kd.R_elem HX12.out z40 (x4_1 : Int) (zo_) (by have h_ : (x4_1 : Int) < ((x3_1.length : Int) : Int) := zo_;first | exact h_ | (have e_ := (Kd.R_reads' HO_3.out).1;omega) | simpa using h_);obtain rfl := k40_openM hM12;have HP12 := Kd.R_seg HX12.out (x4_1 : Int) (zo_) (by have h_ : (x4_1 : Int) < ((x3_1.length : Int) : Int) := zo_;first | exact h_ | (have e_ := (Kd.R_reads' HO_3.out).1;omega) | simpa using h_) (seg := [.int .i64 t367,.int .i64 t368,.int .i64 t369,.int .i64 t370,.string t371,.string t372,.string t373]) (j := 0) hcl12 hcc12 (show 7 ≤ 7 from by decide) (x' := (⟨t367,t368,t369,t370,t371,t372,t373⟩ : S40)) (k40_mkM _ _ _ (⟨t367,t368,t369,t370,t371,t372,t373⟩ : S40) ) (fun _ hk => hk);have hx12_0 := hcc12 0 _ rfl;(try simp only [show (k40).sz = 7 from rfl,Nat.mul_one,Nat.add_zero] at hx12_0);have hf12_0 := hfr12 0;(try simp only [show (k40).sz = 7 from rfl,Nat.mul_one,Nat.add_zero] at hf12_0);have hx12_1 := hcc12 1 _ rfl;(try simp only [show (k40).sz = 7 from rfl,Nat.mul_one,Nat.add_zero] at hx12_1);have hf12_1 := hfr12 1;(try simp only [show (k40).sz = 7 from rfl,Nat.mul_one,Nat.add_zero] at hf12_1);have hx12_2 := hcc12 2 _ rfl;(try simp only [show (k40).sz = 7 from rfl,Nat.mul_one,Nat.add_zero] at hx12_2);have hf12_2 := hfr12 2;(try simp only [show (k40).sz = 7 from rfl,Nat.mul_one,Nat.add_zero] at hf12_2);have hx12_3 := hcc12 3 _ rfl;(try simp only [show (k40).sz = 7 from rfl,Nat.mul_one,Nat.add_zero] at hx12_3);have hf12_3 := hfr12 3;(try simp only [show (k40).sz = 7 from rfl,Nat.mul_one,Nat.add_zero] at hf12_3);have hx12_4 := hcc12 4 _ rfl;(try simp only [show (k40).sz = 7 from rfl,Nat.mul_one,Nat.add_zero] at hx12_4);have hf12_4 := hfr12 4;(try simp only [show (k40).sz = 7 from rfl,Nat.mul_one,Nat.add_zero] at hf12_4);have hx12_5 := hcc12 5 _ rfl;(try simp only [show (k40).sz = 7 from rfl,Nat.mul_one,Nat.add_zero] at hx12_5);have hf12_5 := hfr12 5;(try simp only [show (k40).sz = 7 from rfl,Nat.mul_one,Nat.add_zero] at hf12_5);have hx12_6 := hcc12 6 _ rfl;(try simp only [show (k40).sz = 7 from rfl,Nat.mul_one,Nat.add_zero] at hx12_6);have hf12_6 := hfr12 6;(try simp only [show (k40).sz = 7 from rfl,Nat.mul_one,Nat.add_zero] at hf12_6);clear hcl12 hcc12 hfr12 hM12) | ((with_reducible refine gate_store (t := 40) (p := 21) rfl ?_);refine store_event (t := 40) (p := 21) (v := ?vo_w13) (w1 := (((((((w11.setCell ⟨go10,(x4_1 : Int).toNat * 7,none⟩ (.int .i64 t367)).setCell ⟨go10,(x4_1 : Int).toNat * 7 + 1,none⟩ (.int .i64 t368)).setCell ⟨go10,(x4_1 : Int).toNat * 7 + 2,none⟩ (.int .i64 t369)).setCell ⟨go10,(x4_1 : Int).toNat * 7 + 3,none⟩ (.int .i64 t370)).setCell ⟨go10,(x4_1 : Int).toNat * 7 + 4,none⟩ (.string t371)).setCell ⟨go10,(x4_1 : Int).toNat * 7 + 5,none⟩ (.string t372)).setCell ⟨go10,(x4_1 : Int).toNat * 7 + 6,none⟩ (.string t373))) ?hg ?ho ?hn ?hr ?_;(case ho => rfl);(case hg => rfl);(case hn => rfl);(case hr => first | (go_simp;done) | (go_simp;rfl));intro w13 hw;have hg : w11.grownBy w13 (some go10) := (by rw [hw];exact HP12.2);have hp_ : Kd.R k40 40 w13 w.heap.size (fun _ => True) (.slice (some ⟨go10,0,none⟩) x3_1.length co10) y374 := (by rw [hw,Ny374.out];exact HP12.1);clear HP12;replace HO_3 := am_ (hp_);replace HB := am_ ((by rw [hw];exact below_set (below_set (below_set (below_set (below_set (below_set (below_set (HB.out) GB10.out) GB10.out) GB10.out) GB10.out) GB10.out) GB10.out) GB10.out : Below w.heap.size w w13));clear hg hw hp_))
   go_roundg k1
   case measure => have := HK1.out;omega
   case rel => exact ⟨(y374),(wrap64 (x4_1 + 1)),(by first | rfl | (simp;done) | (simp [*];done)),H',⟨by have := HK1.out;omega⟩,⟨zr HO_3⟩,⟨zl_ HB⟩⟩
theorem ZP.calls (k : Nat) (a0_0 : ByteArray) (A0_1 : Option Addr) (c0_1 : Nat) (l0_1 : List (S46)) (r1 : ByteArray) (r2 : List (S40)) (w : World) (hr0_1 : Kd.C k46 w A0_1 l0_1.length l0_1) (hc0_1 : l0_1.length ≤ c0_1) (h : ZP.f k a0_0 l0_1 = some (r1,r2)) :
  Calls Tryz.prog 6 #[.agg #[.string a0_0,.slice A0_1 l0_1.length c0_1]] w fun e w' => ∃ v1_ : Value,e = .returned (.agg #[.string r1,v1_]) ∧ Kd.R k40 40 w' w.heap.size (fun _ => True) v1_ r2 ∧ Below w.heap.size w w' := by
 have hu24 := Tryz.underlying24
 have hu29 := Tryz.underlying29
 have HR0_1 := am_ hr0_1
 have HC0_1 := am_ hc0_1
 clear hr0_1 hc0_1
 have HB := am_ (Below.refl w.heap.size w)
 have H : ((Zx.f k l0_1).bind fun t378 => (some (a0_0,t378))) = some (r1,r2) := h
 clear h
 replace H := Option.bind_eq_some_iff.mp H
 obtain ⟨t378,A20,H⟩ := H
 try dsimp only at H
 have A2 := am_ A20
 clear A20
 simp only [Option.some.injEq,Prod.mk.injEq] at H
 obtain ⟨rfl,rfl⟩ := H
 go_enter Tryz.func6,Tryz.ntmps6
 go_wp2_with (first | ((with_reducible refine gate_dst (N := 1) rfl ?_);refine zbx (N := 1) (cs := #[.string a0_0,.slice A0_1 l0_1.length c0_1]) (t := 24) ?_;intro gb375 hg w3 hbox hb;have BK375 := am_ (hbox);have GW375 := zw_ HB hg;have GE375 := zw_ HB hg;replace HB := zs_ HB hb;clear hb hbox hg) | ((with_reducible refine gate_dst (N := 2) rfl ?_);refine zbx (N := 2) (cs := #[.string ⟨#[]⟩,.slice none 0 0]) (t := 29) ?_;intro gb376 hg w4 hbox hb;have BK376 := am_ (hbox);have GW376 := zw_ HB hg;have GE376 := zw_ HB hg;replace HB := zs_ HB hb;have NB375_376 := zl hg BK375;have NB376_375 := zg hg BK375;replace BK375 := zb BK375 hb;clear hb hbox hg) | ((with_reducible refine gate_dst (N := 3) rfl ?_);refine zbx (N := 3) (cs := #[.string ⟨#[]⟩,.slice none 0 0]) (t := 29) ?_;intro gb377 hg w5 hbox hb;have BK377 := am_ (hbox);have GW377 := zw_ HB hg;have GE377 := zw_ HB hg;replace HB := zs_ HB hb;have NB375_377 := zl hg BK375;have NB377_375 := zg hg BK375;replace BK375 := zb BK375 hb;have NB376_377 := zl hg BK376;have NB377_376 := zg hg BK376;replace BK376 := zb BK376 hb;clear hb hbox hg;have hnb6 := NB375_376.out;have hnc6 := NB376_375.out;have hnb7 := NB375_377.out;have hnc7 := NB377_375.out;obtain ⟨hcz8_0,hcz8_1,hfz8_0,hfz8_1⟩ := zc2 BK375;have hnb9 := NB377_376.out;have hnc9 := NB376_377.out;obtain ⟨hcz10_0,hcz10_1,hfz10_0,hfz10_1⟩ := zc2 BK377) | ((with_reducible refine gate_callee (f := 12) rfl ?_);refine zgl (some 9) Tryz.func12 #[.slice A0_1 l0_1.length c0_1] ?_;(with_reducible refine (Zx.calls k _ _ l0_1 t378 _ ?side1 ?side2 A2.out).mono ?_);(case side1 => exact Kd.C_below HR0_1.out (zl_ HB));(case side2 => exact HC0_1.out);rintro e w11 ⟨v379,rfl,ho0,hb⟩;refine ⟨_,rfl,?_⟩;have HO380 := am_ (Kd.R_lower ho0 (below_size (zl_ HB)));replace BK376 := am_ (blk_below (g := gb376) (o := .cells #[.string ⟨#[]⟩,.slice none 0 0] 29 (0,0)) (zq BK376) hb);replace BK377 := am_ (blk_below (g := gb377) (o := .cells #[.string a0_0,.slice none 0 0] 29 (0,0)) (zq BK377) hb);replace HB := zs_ HB hb;(try clear hb);(try clear ho0);obtain ⟨Ao12,co12,eo12⟩ := Kd.R_slice HO380.out;subst eo12;obtain ⟨hcz13_0,hcz13_1,hfz13_0,hfz13_1⟩ := zc2 BK377;obtain ⟨hcz14_0,hcz14_1,hfz14_0,hfz14_1⟩ := zc2 BK376))
 refine bodyPost_ret (results_cell_row rfl _ _ gb376 29 #[.string a0_0,.slice Ao12 t378.length co12] (0,0) _ rfl (zq BK376) Tryz.underlying29 rfl (by kernel_rfl)) rfl ?_
 exact ⟨_,zt_,by (with_reducible repeat (first | apply r1_ | apply r2_ | apply r3_));exact Kd.R_mono (Kd.Rf (Kd.Rf (Kd.R_far (p := ⟨gb377,1,none⟩) (Kd.R_types (Kd.R_types HO380.out BK377.out (by decide)) BK376.out (by decide)) (fun _ hk => hk.1.2) (.slice Ao12 t378.length co12)))) (fun _ hk => trivial),zl_ HB⟩
theorem Yc.calls (a0 : Int) (r : Bool) (w : World) (h : Yc.f a0 = some r) :
  Calls Tryz.prog 10 #[.int .i64 a0] w fun e w' => e = .returned (.bool r) ∧ Drawn0 w w' := by
 have H : (if a0 = 1 then (some true) else (if a0 = 4 then (some true) else (some (a0 == 7)))) = some r := h
 clear h
 by_cases c2 : a0 = 1
 ·rw [if_pos c2] at H
  have c2b0 := beq_iff_eq.mpr c2
  have c2b1 := bne_eq_false_iff_eq.mpr c2
  clear c2
  obtain rfl := Option.some.inj H
  go_enter Tryz.func10,Tryz.ntmps10
  go_wp2
  go_ret
  exact ⟨by first | rfl | (simp;done) | (simp [*];done),by repeat (first | exact Drawn0.refl _ | apply Drawn0.step)⟩
 rw [if_neg c2] at H
 have c2b0 := beq_eq_false_iff_ne.mpr c2
 have c2b1 := bne_iff_ne.mpr c2
 by_cases c3 : a0 = 4
 case neg =>
  rw [if_neg c3] at H
  have c3b0 := beq_eq_false_iff_ne.mpr c3
  have c3b1 := bne_iff_ne.mpr c3
  obtain rfl := Option.some.inj H
  go_enter Tryz.func10,Tryz.ntmps10
  go_wp2
  go_ret
  exact ⟨by first | rfl | (simp;done) | (simp [*];done),by repeat (first | exact Drawn0.refl _ | apply Drawn0.step)⟩
 rw [if_pos c3] at H
 have c3b0 := beq_iff_eq.mpr c3
 have c3b1 := bne_eq_false_iff_eq.mpr c3
 clear c3
 obtain rfl := Option.some.inj H
 go_enter Tryz.func10,Tryz.ntmps10
 go_wp2
 go_ret
 exact ⟨by first | rfl | (simp;done) | (simp [*];done),by repeat (first | exact Drawn0.refl _ | apply Drawn0.step)⟩
theorem Zs.calls (a0 : Int) (a1 : Int) (a2 : Int) (r : Bool) (w : World) (h : Zs.f a0 a1 a2 = some r) :
  Calls Tryz.prog 52 #[.int .i64 a0,.int .i64 a1,.int .i64 a2] w fun e w' => e = .returned (.bool r) ∧ Drawn0 w w' := by
 have H : (if a0 ≥ a1 then (some (decide (a0 ≤ a2))) else (some false)) = some r := h
 clear h
 by_cases c4 : a0 ≥ a1
 ·rw [if_pos c4] at H
  have c4b0 : decide (a1 ≤ a0) = true := decide_eq_true c4
  clear c4
  obtain rfl := Option.some.inj H
  go_enter Tryz.func52,Tryz.ntmps52
  go_wp2
  go_ret
  exact ⟨by first | rfl | (simp;done) | (simp [*];done),by repeat (first | exact Drawn0.refl _ | apply Drawn0.step)⟩
 rw [if_neg c4] at H
 have c4b0 : decide (a1 ≤ a0) = false := decide_eq_false c4
 clear c4
 obtain rfl := Option.some.inj H
 go_enter Tryz.func52,Tryz.ntmps52
 go_wp2
 go_ret
 exact ⟨by first | rfl | (simp;done) | (simp [*];done),by repeat (first | exact Drawn0.refl _ | apply Drawn0.step)⟩
theorem Yr.calls (a0 : Int) (r : Bool) (w : World) (h : Yr.f a0 = some r) :
  Calls Tryz.prog 99 #[.int .u8 a0] w fun e w' => e = .returned (.bool r) ∧ Drawn0 w w' := by
 have H : (if a0 ≥ 48 then (some (decide (a0 ≤ 57))) else (some false)) = some r := h
 clear h
 by_cases c2 : a0 ≥ 48
 ·rw [if_pos c2] at H
  have c2b0 : decide (48 ≤ a0) = true := decide_eq_true c2
  clear c2
  obtain rfl := Option.some.inj H
  go_enter Tryz.func99,Tryz.ntmps99
  go_wp2
  go_ret
  exact ⟨by first | rfl | (simp;done) | (simp [*];done),by repeat (first | exact Drawn0.refl _ | apply Drawn0.step)⟩
 rw [if_neg c2] at H
 have c2b0 : decide (48 ≤ a0) = false := decide_eq_false c2
 clear c2
 obtain rfl := Option.some.inj H
 go_enter Tryz.func99,Tryz.ntmps99
 go_wp2
 go_ret
 exact ⟨by first | rfl | (simp;done) | (simp [*];done),by repeat (first | exact Drawn0.refl _ | apply Drawn0.step)⟩
theorem Ya.calls (a0 : Int) (r : Bool) (w : World) (h : Ya.f a0 = some r) :
  Calls Tryz.prog 98 #[.int .u8 a0] w fun e w' => e = .returned (.bool r) ∧ Drawn0 w w' := by
 have H : (if a0 ≥ 97 then (if a0 ≤ 122 then (some true) else (if a0 ≥ 65 then (if a0 ≤ 90 then (some true) else (some (a0 == 95))) else (some (a0 == 95)))) else (if a0 ≥ 65 then (if a0 ≤ 90 then (some true) else (some (a0 == 95))) else (some (a0 == 95)))) = some r := h
 clear h
 by_cases c2 : a0 ≥ 97
 case neg =>
  rw [if_neg c2] at H
  have c2b0 : decide (97 ≤ a0) = false := decide_eq_false c2
  clear c2
  by_cases c6 : a0 ≥ 65
  case neg =>
   rw [if_neg c6] at H
   have c6b0 : decide (65 ≤ a0) = false := decide_eq_false c6
   clear c6
   obtain rfl := Option.some.inj H
   go_enter Tryz.func98,Tryz.ntmps98
   go_wp2
   go_ret
   exact ⟨by first | rfl | (simp;done) | (simp [*];done),by repeat (first | exact Drawn0.refl _ | apply Drawn0.step)⟩
  rw [if_pos c6] at H
  have c6b0 : decide (65 ≤ a0) = true := decide_eq_true c6
  clear c6
  by_cases c7 : a0 ≤ 90
  ·rw [if_pos c7] at H
   have c7b0 := decide_eq_true c7
   clear c7
   obtain rfl := Option.some.inj H
   go_enter Tryz.func98,Tryz.ntmps98
   go_wp2
   go_ret
   exact ⟨by first | rfl | (simp;done) | (simp [*];done),by repeat (first | exact Drawn0.refl _ | apply Drawn0.step)⟩
  rw [if_neg c7] at H
  have c7b0 := decide_eq_false c7
  clear c7
  obtain rfl := Option.some.inj H
  go_enter Tryz.func98,Tryz.ntmps98
  go_wp2
  go_ret
  exact ⟨by first | rfl | (simp;done) | (simp [*];done),by repeat (first | exact Drawn0.refl _ | apply Drawn0.step)⟩
 rw [if_pos c2] at H
 have c2b0 : decide (97 ≤ a0) = true := decide_eq_true c2
 clear c2
 by_cases c3 : a0 ≤ 122
 ·rw [if_pos c3] at H
  have c3b0 := decide_eq_true c3
  clear c3
  obtain rfl := Option.some.inj H
  go_enter Tryz.func98,Tryz.ntmps98
  go_wp2
  go_ret
  exact ⟨by first | rfl | (simp;done) | (simp [*];done),by repeat (first | exact Drawn0.refl _ | apply Drawn0.step)⟩
 rw [if_neg c3] at H
 have c3b0 := decide_eq_false c3
 clear c3
 by_cases c4 : a0 ≥ 65
 case neg =>
  rw [if_neg c4] at H
  have c4b0 : decide (65 ≤ a0) = false := decide_eq_false c4
  clear c4
  obtain rfl := Option.some.inj H
  go_enter Tryz.func98,Tryz.ntmps98
  go_wp2
  go_ret
  exact ⟨by first | rfl | (simp;done) | (simp [*];done),by repeat (first | exact Drawn0.refl _ | apply Drawn0.step)⟩
 rw [if_pos c4] at H
 have c4b0 : decide (65 ≤ a0) = true := decide_eq_true c4
 clear c4
 by_cases c5 : a0 ≤ 90
 ·rw [if_pos c5] at H
  have c5b0 := decide_eq_true c5
  clear c5
  obtain rfl := Option.some.inj H
  go_enter Tryz.func98,Tryz.ntmps98
  go_wp2
  go_ret
  exact ⟨by first | rfl | (simp;done) | (simp [*];done),by repeat (first | exact Drawn0.refl _ | apply Drawn0.step)⟩
 rw [if_neg c5] at H
 have c5b0 := decide_eq_false c5
 clear c5
 obtain rfl := Option.some.inj H
 go_enter Tryz.func98,Tryz.ntmps98
 go_wp2
 go_ret
 exact ⟨by first | rfl | (simp;done) | (simp [*];done),by repeat (first | exact Drawn0.refl _ | apply Drawn0.step)⟩
theorem Zq.calls (k : Nat) (a0 : ByteArray) (r : Bool) (w : World) (h : Zq.f k a0 = some r) :
  Calls Tryz.prog 85 #[.string a0] w fun e w' => e = .returned (.bool r) ∧ Drawn0 w w' := by
 have H : (if (a0.size : Int) < 1 then (Zq.j0 k a0 true) else (if (a0.size : Int) > 40 then (Zq.j0 k a0 true) else (if 0 < (a0.size : Int) then ((Ya.f (bt a0 0)).bind fun t106 => (Zq.j0 k a0 (!t106))) else (none)))) = some r := h
 clear h
 have HC2 := am_ H
 clear H
 go_enter Tryz.func85,Tryz.ntmps85
 go_upto_region 1 with (fail)
 go_cut [17] (fun v17 wc => ∃ (kq : Nat) (x17_1 : Bool),v17 = .bool x17_1 ∧ Aside0 (Zq.j0 kq a0 x17_1 = some r) ∧ Aside0 (kq ≤ k) ∧ Drawn0 w wc)
 case first =>
  have H := HC2.out
  clear HC2
  by_cases c3 : (a0.size : Int) < 1
  ·rw [if_pos c3] at H
   have c3b0 := decide_eq_true c3
   have c3b1 : decide (a0.size < 1) = true := decide_eq_true (by omega)
   clear c3
   (first | rw [c3b0] | (simp only [i64_w,i32_w];rw [c3b0]) | skip)
   have H' := am_ H
   clear H
   go_wp2
   go_meet
   case rel => exact ⟨_,(true),(by first | rfl | (simp;done) | (simp [*];done)),H',⟨by first | omega | exact Nat.le_refl _⟩,by repeat (first | exact Drawn0.refl _ | apply Drawn0.step)⟩
  rw [if_neg c3] at H
  have c3b0 := decide_eq_false c3
  have c3b1 : decide (a0.size < 1) = false := decide_eq_false (by omega)
  clear c3
  (first | rw [c3b0] | (simp only [i64_w,i32_w];rw [c3b0]) | skip)
  by_cases c4 : (a0.size : Int) > 40
  ·rw [if_pos c4] at H
   have c4b0 : decide (40 < (a0.size : Int)) = true := decide_eq_true c4
   have c4b1 : decide (40 < a0.size) = true := decide_eq_true (by omega)
   clear c4
   have H' := am_ H
   clear H
   go_wp2
   go_meet
   case rel => exact ⟨_,(true),(by first | rfl | (simp;done) | (simp [*];done)),H',⟨by first | omega | exact Nat.le_refl _⟩,by repeat (first | exact Drawn0.refl _ | apply Drawn0.step)⟩
  rw [if_neg c4] at H
  have c4b0 : decide (40 < (a0.size : Int)) = false := decide_eq_false c4
  have c4b1 : decide (40 < a0.size) = false := decide_eq_false (by omega)
  clear c4
  by_cases c5 : 0 < (a0.size : Int)
  case neg =>
   rw [if_neg c5] at H
   exact absurd H (by simp)
  rw [if_pos c5] at H
  have c5b0 := decide_eq_true c5
  have c5b1 : decide (0 < a0.size) = true := decide_eq_true (by omega)
  clear c5
  replace H := Option.bind_eq_some_iff.mp H
  obtain ⟨t106,A70,H⟩ := H
  try dsimp only at H
  have A7 := am_ A70
  clear A70
  have H' := am_ H
  clear H
  have p6 : 0 ≤ (0 : Int) := (by omega)
  have q6 : 0 < a0.size := (by have : (0 : Int) < (a0.size : Int) := zo_;omega)
  have hx6 : ∀ h : 0 < a0.size,((a0[0]'h).toNat : Int) = bt a0 0 := bt_at a0 0
  clear p6
  have qi6 : (0 < (a0.size : Int)) = True := eq_true (zo_)
  replace q6 := eq_true q6
  go_wp2_with (first | (go_at_call 98;(with_reducible refine (Ya.calls (bt a0 0) t106 _ A7.out).mono ?_);rintro e w' ⟨rfl,⟨nd,rfl⟩⟩))
  go_meet
  case rel => exact ⟨_,(!t106),(by first | rfl | (simp;done) | (simp [*];done)),H',⟨by first | omega | exact Nat.le_refl _⟩,by repeat (first | exact Drawn0.refl _ | apply Drawn0.step)⟩
 case rest =>
  clear HC2
  try clear p2
  try clear c3
  try clear c3b0
  try clear c3b1
  try clear c4
  try clear c4b0
  try clear c4b1
  try clear c5
  try clear c5b0
  try clear c5b1
  try clear p6
  try clear q6
  try clear hx6
  try clear qi6
  try clear p6
  try clear q6
  obtain ⟨kq,x17_1,rfl,HA,HJ1,⟨mc1,rfl⟩⟩ := hcut
  cases kq with
  | zero => exact absurd HA.out (by simp [Zq.j0])
  | succ kj1 =>
   have H := HA.out
   clear HA
   simp only [Zq.j0] at H
   by_cases c8 : x17_1 = true
   ·subst c8
    rw [if_pos rfl] at H
    obtain rfl := Option.some.inj H
    go_wp2
    go_ret
    exact ⟨by first | rfl | (simp;done) | (simp [*];done),by repeat (first | exact Drawn0.refl _ | apply Drawn0.step)⟩
   replace c8 := Bool.eq_false_iff.mpr c8
   subst c8
   rw [if_neg (show ¬ (false = true) by decide)] at H
   have H' := am_ H
   clear H
   go_wp2
   go_loopg [3] kj1 (fun kq v3 w' => ∃ (x3_2 : Int),v3 = .int .i64 x3_2 ∧ Aside0 (Zq.l0 kq a0 x3_2 = some r) ∧ Aside0 (kq ≤ kj1) ∧ Drawn0 w w')
   case atStart => exact ⟨(1),(by first | rfl | (simp;done) | (simp [*];done)),H',⟨Nat.le_refl _⟩,by repeat (first | exact Drawn0.refl _ | apply Drawn0.step)⟩
   case round =>
    clear H'
    try clear c1
    try clear p2
    try clear c3
    try clear c3b0
    try clear c3b1
    try clear c4
    try clear c4b0
    try clear c4b1
    try clear c5
    try clear c5b0
    try clear c5b1
    try clear p6
    try clear q6
    try clear hx6
    try clear qi6
    try clear c8
    try clear p2
    try clear p6
    try clear q6
    obtain ⟨x3_2,rfl,HA,HK2,⟨m2,rfl⟩⟩ := hrel
    cases gk with
    | zero => exact absurd HA.out (by simp [Zq.l0])
    | succ k2 =>
     have H := HA.out
     clear HA
     simp only [Zq.l0] at H
     by_cases c9 : x3_2 < (a0.size : Int)
     case neg =>
      rw [if_neg c9] at H
      have c9b0 := decide_eq_false c9
      clear c9
      obtain rfl := Option.some.inj H
      go_wp2
      go_ret
      exact ⟨by first | rfl | (simp;done) | (simp [*];done),by repeat (first | exact Drawn0.refl _ | apply Drawn0.step)⟩
     rw [if_pos c9] at H
     have c9b0 := decide_eq_true c9
     clear c9
     by_cases c10 : 0 ≤ x3_2
     case neg =>
      rw [if_neg c10] at H
      exact absurd H (by simp)
     rw [if_pos c10] at H
     have c10b0 := decide_eq_true c10
     clear c10
     replace H := Option.bind_eq_some_iff.mp H
     obtain ⟨t107,A120,H⟩ := H
     try dsimp only at H
     have A12 := am_ A120
     clear A120
     by_cases c13 : t107 = true
     ·subst c13
      rw [if_pos rfl] at H
      have H' := am_ H
      clear H
      have p11 : 0 ≤ (x3_2 : Int) := zo_
      have q11 : x3_2 < (a0.size : Int) := zo_
      have hx11 := bt_at a0 x3_2
      replace p11 := eq_true p11
      replace q11 := eq_true q11
      go_wp2_with (first | ((with_reducible refine gate_callee (f := 98) rfl ?_);refine zgl (some 27) Tryz.func98 #[.int .u8 (bt a0 x3_2)] ?_;(with_reducible refine (Ya.calls (bt a0 x3_2) true _ A12.out).mono ?_);rintro e w' ⟨rfl,⟨nd,rfl⟩⟩;refine ⟨_,rfl,?_⟩))
      go_roundg k2
      case measure => have := HJ1.out;have := HK2.out;omega
      case rel => exact ⟨(wrap64 (x3_2 + 1)),(by first | rfl | (simp;done) | (simp [*];done)),H',⟨by have := HJ1.out;have := HK2.out;omega⟩,by repeat (first | exact Drawn0.refl _ | apply Drawn0.step)⟩
     replace c13 := Bool.eq_false_iff.mpr c13
     subst c13
     rw [if_neg (show ¬ (false = true) by decide)] at H
     replace H := Option.bind_eq_some_iff.mp H
     obtain ⟨t108,A150,H⟩ := H
     try dsimp only at H
     have A15 := am_ A150
     clear A150
     by_cases c16 : t108 = true
     case neg =>
      replace c16 := Bool.eq_false_iff.mpr c16
      subst c16
      rw [if_neg (show ¬ (false = true) by decide)] at H
      obtain rfl := Option.some.inj H
      have p11 : 0 ≤ (x3_2 : Int) := zo_
      have q11 : x3_2 < (a0.size : Int) := zo_
      have hx11 := bt_at a0 x3_2
      replace p11 := eq_true p11
      replace q11 := eq_true q11
      go_wp2_with (first | ((with_reducible refine gate_callee (f := 98) rfl ?_);refine zgl (some 27) Tryz.func98 #[.int .u8 (bt a0 x3_2)] ?_;(with_reducible refine (Ya.calls (bt a0 x3_2) false _ A12.out).mono ?_);rintro e w' ⟨rfl,⟨nd,rfl⟩⟩;refine ⟨_,rfl,?_⟩;have p14 : 0 ≤ (x3_2 : Int) := zo_;have q14 : x3_2 < (a0.size : Int) := zo_;have hx14 := bt_at a0 x3_2;replace p14 := eq_true p14;replace q14 := eq_true q14) | (go_at_call 99;(with_reducible refine (Yr.calls (bt a0 x3_2) false _ A15.out).mono ?_);rintro e w' ⟨rfl,⟨nd,rfl⟩⟩))
      go_ret
      exact ⟨by first | rfl | (simp;done) | (simp [*];done),by repeat (first | exact Drawn0.refl _ | apply Drawn0.step)⟩
     subst c16
     rw [if_pos rfl] at H
     have H' := am_ H
     clear H
     have p11 : 0 ≤ (x3_2 : Int) := zo_
     have q11 : x3_2 < (a0.size : Int) := zo_
     have hx11 := bt_at a0 x3_2
     replace p11 := eq_true p11
     replace q11 := eq_true q11
     go_wp2_with (first | ((with_reducible refine gate_callee (f := 98) rfl ?_);refine zgl (some 27) Tryz.func98 #[.int .u8 (bt a0 x3_2)] ?_;(with_reducible refine (Ya.calls (bt a0 x3_2) false _ A12.out).mono ?_);rintro e w' ⟨rfl,⟨nd,rfl⟩⟩;refine ⟨_,rfl,?_⟩;have p14 : 0 ≤ (x3_2 : Int) := zo_;have q14 : x3_2 < (a0.size : Int) := zo_;have hx14 := bt_at a0 x3_2;replace p14 := eq_true p14;replace q14 := eq_true q14) | (go_at_call 99;(with_reducible refine (Yr.calls (bt a0 x3_2) true _ A15.out).mono ?_);rintro e w' ⟨rfl,⟨nd,rfl⟩⟩))
     go_roundg k2
     case measure => have := HJ1.out;have := HK2.out;omega
     case rel => exact ⟨(wrap64 (x3_2 + 1)),(by first | rfl | (simp;done) | (simp [*];done)),H',⟨by have := HJ1.out;have := HK2.out;omega⟩,by repeat (first | exact Drawn0.refl _ | apply Drawn0.step)⟩
theorem Yk.calls (k : Nat) (a0 : ByteArray) (r : Bool) (w : World) (h : Yk.f k a0 = some r) :
  Calls Tryz.prog 80 #[.string a0] w fun e w' => e = .returned (.bool r) ∧ Drawn0 w w' := by
 have H : ((Zq.f k a0).bind fun t109 => (some t109)) = some r := h
 clear h
 replace H := Option.bind_eq_some_iff.mp H
 obtain ⟨t109,A20,H⟩ := H
 try dsimp only at H
 have A2 := am_ A20
 clear A20
 obtain rfl := Option.some.inj H
 go_enter Tryz.func80,Tryz.ntmps80
 go_wp2_with (first | ((with_reducible refine gate_callee (f := 85) rfl ?_);refine zgl (some 4) Tryz.func85 #[.string a0] ?_;(with_reducible refine (Zq.calls k a0 t109 _ A2.out).mono ?_);rintro e w' ⟨rfl,⟨nd,rfl⟩⟩;refine ⟨_,rfl,?_⟩))
 go_ret
 exact ⟨by first | rfl | (simp;done) | (simp [*];done),by repeat (first | exact Drawn0.refl _ | apply Drawn0.step)⟩
theorem ZY.calls (k : Nat) (a0 : ByteArray) (a1 : Int) (r : Bool) (w : World) (h : ZY.f k a0 a1 = some r) :
  Calls Tryz.prog 75 #[.string a0,.int .i64 a1] w fun e w' => e = .returned (.bool r) ∧ Drawn0 w w' := by
 have H : ((Zs.f (a0.size : Int) 1 a1).bind fun t110 => (if t110 = true then ((Yk.f k a0).bind fun t111 => (some t111)) else (some false))) = some r := h
 clear h
 replace H := Option.bind_eq_some_iff.mp H
 obtain ⟨t110,A30,H⟩ := H
 try dsimp only at H
 have A3 := am_ A30
 clear A30
 by_cases c4 : t110 = true
 case neg =>
  replace c4 := Bool.eq_false_iff.mpr c4
  subst c4
  rw [if_neg (show ¬ (false = true) by decide)] at H
  obtain rfl := Option.some.inj H
  go_enter Tryz.func75,Tryz.ntmps75
  go_wp2_with (first | ((with_reducible refine gate_callee (f := 52) rfl ?_);refine zgl (some 8) Tryz.func52 #[.int .i64 (a0.size : Int),.int .i64 1,.int .i64 a1] ?_;(with_reducible refine (Zs.calls (a0.size : Int) 1 a1 false _ A3.out).mono ?_);rintro e w' ⟨rfl,⟨nd,rfl⟩⟩;refine ⟨_,rfl,?_⟩))
  go_ret
  exact ⟨by first | rfl | (simp;done) | (simp [*];done),by repeat (first | exact Drawn0.refl _ | apply Drawn0.step)⟩
 subst c4
 rw [if_pos rfl] at H
 replace H := Option.bind_eq_some_iff.mp H
 obtain ⟨t111,A50,H⟩ := H
 try dsimp only at H
 have A5 := am_ A50
 clear A50
 obtain rfl := Option.some.inj H
 go_enter Tryz.func75,Tryz.ntmps75
 go_wp2_with (first | ((with_reducible refine gate_callee (f := 52) rfl ?_);refine zgl (some 8) Tryz.func52 #[.int .i64 (a0.size : Int),.int .i64 1,.int .i64 a1] ?_;(with_reducible refine (Zs.calls (a0.size : Int) 1 a1 true _ A3.out).mono ?_);rintro e w' ⟨rfl,⟨nd,rfl⟩⟩;refine ⟨_,rfl,?_⟩) | (go_at_call 80;(with_reducible refine (Yk.calls k a0 t111 _ A5.out).mono ?_);rintro e w' ⟨rfl,⟨nd,rfl⟩⟩))
 go_ret
 exact ⟨by first | rfl | (simp;done) | (simp [*];done),by repeat (first | exact Drawn0.refl _ | apply Drawn0.step)⟩
end Go.Proofs.YtbhegbhdenngbaaGreatDoor.A
end
