/- A part of the proof that FnExactCheckCertificate returns true at every input: plain functions, contracts and lemmas. No conditions. -/
import Derived.Test.YtlifdodphkimpaaDoorQCheckCertificatef
set_option linter.unusedVariables false
set_option linter.unusedSimpArgs false
set_option linter.unusedSectionVars false
section
namespace Go.Proofs.YtlifdodphkimpaaDoor.A
open Go.RowKit Go.Proofs.YtlifdodphkimpaaDoorW.PrintWords Go.Proofs.YtlifdodphkimpaaDoorW.PrintLast Go.Proofs.YtlifdodphkimpaaDoorW.PrintMore
attribute [local go_sem] max2_int min2_int max_two min_two max_three min_three max_four min_four
set_option maxHeartbeats 8000000 in
set_option maxRecDepth 100000 in
theorem laws_FnExactCheckCertificate.calls (k : Nat) (a0 : Int) (a1_0 : ByteArray) (a1_1 : Int) (a1_2 : Int) (a1_3 : Int) (A1_4 : Option Addr) (c1_4 : Nat) (l1_4 : List Int) (A1_5 : Option Addr) (c1_5 : Nat) (l1_5 : List (S139)) (r : Bool) (w : World) (hr1_4 : Kd.C (Kd.int .i64) w A1_4 l1_4.length l1_4) (hc1_4 : l1_4.length ≤ c1_4) (hr1_5 : Kd.C k139 w A1_5 l1_5.length l1_5) (hc1_5 : l1_5.length ≤ c1_5) (hL : Laid w) (hT : LaidT w) (h : laws_FnExactCheckCertificate.f k a0 a1_0 a1_1 a1_2 a1_3 l1_4 l1_5 = some r) :
  Calls Tryd.prog 3 #[.int .i64 a0,.agg #[.string a1_0,.int .i64 a1_1,.int .i64 a1_2,.int .i64 a1_3,.slice A1_4 l1_4.length c1_4,.slice A1_5 l1_5.length c1_5]] w fun e w' => e = .returned (.bool r) ∧ Below w.heap.size w w' := by
 have hu27 := Tryd.underlying27
 have hu33 := Tryd.underlying33
 have HR1_4 := am_ hr1_4
 have HC1_4 := am_ hc1_4
 clear hr1_4 hc1_4
 have HR1_5 := am_ hr1_5
 have HC1_5 := am_ hc1_5
 clear hr1_5 hc1_5
 have HLD := am_ hL
 clear hL
 have HTD := am_ hT
 clear hT
 have HB := am_ (Below.refl w.heap.size w)
 have H : ((laws_szCertificate.f k a1_0 a1_1 a1_2 a1_3 l1_4 l1_5 1048576).bind fun t516 => (if t516 < 0 then (some true) else ((laws_toCertificate.f k a1_0 a1_1 a1_2 a1_3 l1_4 l1_5).bind fun bt517 => ((spec_CheckCertificate.f k a0 bt517.1 bt517.2.1 bt517.2.2.1 bt517.2.2.2.1 bt517.2.2.2.2.1 bt517.2.2.2.2.2).bind fun t527 => ((laws_toCertificate.f k a1_0 a1_1 a1_2 a1_3 l1_4 l1_5).bind fun bt528 => ((impl_CheckCertificate.f k a0 bt528.1 bt528.2.1 bt528.2.2.1 bt528.2.2.2.1 bt528.2.2.2.2.1 bt528.2.2.2.2.2).bind fun t539 => (if t539 = t527 then ((laws_toCertificate.f k a1_0 a1_1 a1_2 a1_3 l1_4 l1_5).bind fun bt540 => ((laws_eqCertificate.f k bt528.1 bt528.2.1 bt528.2.2.1 bt528.2.2.2.1 bt528.2.2.2.2.1 bt528.2.2.2.2.2 bt540.1 bt540.2.1 bt540.2.2.1 bt540.2.2.2.1 bt540.2.2.2.2.1 bt540.2.2.2.2.2).bind fun t550 => (if t550 = true then (some true) else (some false)))) else (some false)))))))) = some r := h
 clear h
 replace H := Option.bind_eq_some_iff.mp H
 obtain ⟨t516,A30,H⟩ := H
 try dsimp only at H
 have A3 := am_ A30
 clear A30
 by_cases c4 : t516 < 0
 ·rw [if_pos c4] at H
  have c4b0 : decide (t516 < 0) = true := decide_eq_true c4
  clear c4
  obtain rfl := Option.some.inj H
  go_enter Tryd.func3,Tryd.ntmps3
  go_wp2_with (first | ((with_reducible refine gate_dst (N := 3) rfl ?_);refine zbx (N := 3) (cs := #[.string a1_0,.int .i64 a1_1,.int .i64 a1_2,.int .i64 a1_3,.slice A1_4 l1_4.length c1_4,.slice A1_5 l1_5.length c1_5]) (t := 27) ?_;intro gb515 hg w5 hbox hb;have BK515 := am_ (hbox);have GW515 := zw_ HB hg;have GE515 := zw_ HB hg;replace HB := zs_ HB hb;clear hb hbox hg;obtain ⟨hcz6_0,hcz6_1,hcz6_2,hcz6_3,hcz6_4,hcz6_5,hfz6_0,hfz6_1,hfz6_2,hfz6_3,hfz6_4,hfz6_5⟩ := zc6 BK515) | ((with_reducible refine gate_callee (f := 10) rfl ?_);refine zgl (some 11) Tryd.func10 #[.agg #[.string a1_0,.int .i64 a1_1,.int .i64 a1_2,.int .i64 a1_3,.slice A1_4 l1_4.length c1_4,.slice A1_5 l1_5.length c1_5],.int .i64 1048576] ?_;(with_reducible refine (laws_szCertificate.calls k a1_0 a1_1 a1_2 a1_3 _ _ l1_4 _ _ l1_5 1048576 t516 _ ?side1 ?side2 ?side3 ?side4 A3.out).mono ?_);(case side1 => exact zc_ HR1_4 HB);(case side2 => exact HC1_4.out);(case side3 => exact zc_ HR1_5 HB);(case side4 => exact HC1_5.out);rintro e w7 ⟨rfl,hb⟩;refine ⟨_,rfl,?_⟩;replace BK515 := zb BK515 hb;replace HB := zs_ HB hb;(try clear hb);(try clear hb2);(try clear hk);(try clear hi)))
  go_ret
  exact ⟨zt_,zl_ HB⟩
 ·rw [if_neg c4] at H
  have c4b0 : decide (t516 < 0) = false := decide_eq_false c4
  clear c4
  replace H := Option.bind_eq_some_iff.mp H
  obtain ⟨⟨t517,t518,t519,t520,t521,t524⟩,A80,H⟩ := H
  try dsimp only at H
  have A8 := am_ A80
  clear A80
  replace H := Option.bind_eq_some_iff.mp H
  obtain ⟨t527,A90,H⟩ := H
  try dsimp only at H
  have A9 := am_ A90
  clear A90
  replace H := Option.bind_eq_some_iff.mp H
  obtain ⟨⟨t528,t529,t530,t531,t532,t535⟩,A100,H⟩ := H
  try dsimp only at H
  have A10 := am_ A100
  clear A100
  replace H := Option.bind_eq_some_iff.mp H
  obtain ⟨t539,A110,H⟩ := H
  try dsimp only at H
  have A11 := am_ A110
  clear A110
  by_cases c12 : t539 = t527
  ·rw [if_pos c12] at H
   have c12b0 : (t539 == t527) = true := beq_iff_eq.mpr c12
   have c12b1 : (t539 != t527) = false := bne_eq_false_iff_eq.mpr c12
   clear c12
   replace H := Option.bind_eq_some_iff.mp H
   obtain ⟨⟨t540,t541,t542,t543,t544,t547⟩,A130,H⟩ := H
   try dsimp only at H
   have A13 := am_ A130
   clear A130
   replace H := Option.bind_eq_some_iff.mp H
   obtain ⟨t550,A140,H⟩ := H
   try dsimp only at H
   have A14 := am_ A140
   clear A140
   by_cases c15 : t550 = true
   ·subst c15
    have H1 : (some true) = some r := by rw [if_pos rfl] at H;exact H
    clear H
    have H := H1
    clear H1
    obtain rfl := Option.some.inj H
    go_enter Tryd.func3,Tryd.ntmps3
    try go_wp2_with (first | ((with_reducible refine gate_dst (N := 3) rfl ?_);refine zbx (N := 3) (cs := #[.string a1_0,.int .i64 a1_1,.int .i64 a1_2,.int .i64 a1_3,.slice A1_4 l1_4.length c1_4,.slice A1_5 l1_5.length c1_5]) (t := 27) ?_;intro gb515 hg w16 hbox hb;have BK515 := am_ (hbox);have GW515 := zw_ HB hg;have GE515 := zw_ HB hg;replace HB := zs_ HB hb;clear hb hbox hg;obtain ⟨hcz17_0,hcz17_1,hcz17_2,hcz17_3,hcz17_4,hcz17_5,hfz17_0,hfz17_1,hfz17_2,hfz17_3,hfz17_4,hfz17_5⟩ := zc6 BK515) | ((with_reducible refine gate_callee (f := 10) rfl ?_);refine zgl (some 11) Tryd.func10 #[.agg #[.string a1_0,.int .i64 a1_1,.int .i64 a1_2,.int .i64 a1_3,.slice A1_4 l1_4.length c1_4,.slice A1_5 l1_5.length c1_5],.int .i64 1048576] ?_;(with_reducible refine (laws_szCertificate.calls k a1_0 a1_1 a1_2 a1_3 _ _ l1_4 _ _ l1_5 1048576 t516 _ ?side1 ?side2 ?side3 ?side4 A3.out).mono ?_);(case side1 => exact zc_ HR1_4 HB);(case side2 => exact HC1_4.out);(case side3 => exact zc_ HR1_5 HB);(case side4 => exact HC1_5.out);rintro e w18 ⟨rfl,hb⟩;refine ⟨_,rfl,?_⟩;replace BK515 := zb BK515 hb;replace HB := zs_ HB hb;(try clear hb);(try clear hb2);(try clear hk);(try clear hi);obtain ⟨hcz19_0,hcz19_1,hcz19_2,hcz19_3,hcz19_4,hcz19_5,hfz19_0,hfz19_1,hfz19_2,hfz19_3,hfz19_4,hfz19_5⟩ := zc6 BK515) | ((with_reducible refine gate_callee (f := 12) rfl ?_);refine zgl (some 16) Tryd.func12 #[.agg #[.string a1_0,.int .i64 a1_1,.int .i64 a1_2,.int .i64 a1_3,.slice A1_4 l1_4.length c1_4,.slice A1_5 l1_5.length c1_5]] ?_;(with_reducible refine (laws_toCertificate.calls k a1_0 a1_1 a1_2 a1_3 _ _ l1_4 _ _ l1_5 t517 t518 t519 t520 t521 t524 _ ?side1 ?side2 ?side3 ?side4 A8.out).mono ?_);(case side1 => exact zc_ HR1_4 HB);(case side2 => exact HC1_4.out);(case side3 => exact zc_ HR1_5 HB);(case side4 => exact HC1_5.out);rintro e w20 ⟨v522,v525,rfl,ho0,ho1,hb⟩;refine ⟨_,rfl,?_⟩;have HO523 := am_ (Kd.R_lower ho0 (below_size (zl_ HB)));have HO526 := am_ (Kd.S_lower ho1 (below_size (zl_ HB)));replace BK515 := zb BK515 hb;replace HB := zs_ HB hb;(try clear hb);(try clear hb2);(try clear hk);(try clear hi);(try clear ho0);(try clear ho1);obtain ⟨Ao21,co21,eo21⟩ := Kd.R_slice HO523.out;subst eo21;obtain ⟨Ao22,co22,eo22⟩ := Kd.S_slice HO526.out;subst eo22) | ((with_reducible refine gate_callee (f := 11) rfl ?_);refine zgl (some 17) Tryd.func11 #[.int .i64 a0,.agg #[.string t517,.int .i64 t518,.int .i64 t519,.int .i64 t520,.slice Ao21 t521.length co21,.slice Ao22 t524.length co22]] ?_;(with_reducible refine (spec_CheckCertificate.calls k a0 t517 t518 t519 t520 _ _ t521 _ _ t524 t527 _ ?side1 ?side2 ?side3 ?side4 A9.out).mono ?_);(case side1 => repeat (first | exact (Kd.R_reads' HO523.out).2.2 | (with_reducible refine Kd.C_alloc ?_ _) | (with_reducible refine Kd.C_drewN ?_ _) | (with_reducible refine Kd.C_drew ?_)));(case side2 => exact (Kd.R_reads' HO523.out).2.1);(case side3 => repeat (first | exact (Kd.S_reads' HO526.out).2.2 | (with_reducible refine Kd.C_alloc ?_ _) | (with_reducible refine Kd.C_drewN ?_ _) | (with_reducible refine Kd.C_drew ?_)));(case side4 => exact (Kd.S_reads' HO526.out).2.1);rintro e w23 ⟨rfl,hb⟩;refine ⟨_,rfl,?_⟩;replace HO523 := zrb HO523 hb;replace HO526 := am_ (Kd.S_below (by (with_reducible repeat (first | apply Kd.S_alloc | apply Kd.S_drewN | apply Kd.S_drew));exact HO526.out) hb);replace BK515 := zb BK515 hb;replace HB := zs_ HB hb;(try clear hb);(try clear hb2);(try clear hk);(try clear hi);obtain ⟨hcz24_0,hcz24_1,hcz24_2,hcz24_3,hcz24_4,hcz24_5,hfz24_0,hfz24_1,hfz24_2,hfz24_3,hfz24_4,hfz24_5⟩ := zc6 BK515) | ((with_reducible refine gate_callee (f := 12) rfl ?_);refine zgl (some 19) Tryd.func12 #[.agg #[.string a1_0,.int .i64 a1_1,.int .i64 a1_2,.int .i64 a1_3,.slice A1_4 l1_4.length c1_4,.slice A1_5 l1_5.length c1_5]] ?_;(with_reducible refine (laws_toCertificate.calls k a1_0 a1_1 a1_2 a1_3 _ _ l1_4 _ _ l1_5 t528 t529 t530 t531 t532 t535 _ ?side1 ?side2 ?side3 ?side4 A10.out).mono ?_);(case side1 => exact zc_ HR1_4 HB);(case side2 => exact HC1_4.out);(case side3 => exact zc_ HR1_5 HB);(case side4 => exact HC1_5.out);rintro e w25 ⟨v533,v536,rfl,ho0,ho1,hb⟩;refine ⟨_,rfl,?_⟩;have HO534 := am_ (Kd.R_lower (Kd.R_new' ho0 (Kd.R_lt (zr HO523))) (below_size (zl_ HB)));replace HO523 := am_ (Kd.R_elder' (zr HO523) (Kd.R_base ho0) hb);have HO537 := am_ (Kd.S_lower (Kd.S_new' ho1 (Kd.S_lt (by (with_reducible repeat (first | apply Kd.S_alloc | apply Kd.S_drewN | apply Kd.S_drew));exact HO526.out))) (below_size (zl_ HB)));replace HO526 := am_ (Kd.S_elder' (by (with_reducible repeat (first | apply Kd.S_alloc | apply Kd.S_drewN | apply Kd.S_drew));exact HO526.out) (Kd.S_base ho1) hb);replace BK515 := zb BK515 hb;replace HB := zs_ HB hb;(try clear hb);(try clear hb2);(try clear hk);(try clear hi);(try clear ho0);(try clear ho1)) | ((with_reducible refine gate_dst (N := 7) rfl ?_);refine zbx (N := 7) (cs := #[.string ⟨#[]⟩,.int .i64 0,.int .i64 0,.int .i64 0,.slice none 0 0,.slice none 0 0]) (t := 33) ?_;intro gb538 hg w26 hbox hb;replace HO523 := zrb HO523 hb;replace HO526 := am_ (Kd.S_below (by (with_reducible repeat (first | apply Kd.S_alloc | apply Kd.S_drewN | apply Kd.S_drew));exact HO526.out) hb);replace HO534 := zrb HO534 hb;replace HO537 := am_ (Kd.S_below (by (with_reducible repeat (first | apply Kd.S_alloc | apply Kd.S_drewN | apply Kd.S_drew));exact HO537.out) hb);have BK538 := am_ (hbox);have GW538 := zw_ HB hg;have GE538 := zw_ HB hg;replace HB := zs_ HB hb;have NB515_538 := zl hg BK515;have NB538_515 := zg hg BK515;replace BK515 := zb BK515 hb;clear hb hbox hg;have hnb27 := NB538_515.out;have hnc27 := NB515_538.out;obtain ⟨hcz28_0,hcz28_1,hcz28_2,hcz28_3,hcz28_4,hcz28_5,hfz28_0,hfz28_1,hfz28_2,hfz28_3,hfz28_4,hfz28_5⟩ := zc6 BK538;obtain ⟨Ao29,co29,eo29⟩ := Kd.R_slice HO534.out;subst eo29;obtain ⟨Ao30,co30,eo30⟩ := Kd.S_slice HO537.out;subst eo30) | ((with_reducible refine gate_callee (f := 13) rfl ?_);refine zgl (some 22) Tryd.func13 #[.int .i64 a0,.agg #[.string t528,.int .i64 t529,.int .i64 t530,.int .i64 t531,.slice Ao29 t532.length co29,.slice Ao30 t535.length co30]] ?_;(with_reducible refine (impl_CheckCertificate.calls k a0 t528 t529 t530 t531 _ _ t532 _ _ t535 t539 _ ?side1 ?side2 ?side3 ?side4 ?side5 ?side6 A11.out).mono ?_);(case side1 => refine (Kd.R_reads' (e := 3) (base := w.heap.size) (ok := fun k_ => (True ∧ some k_ ≠ (.slice Ao21 t521.length co21 : Value).ownBlock)) (n := t532.length) (c := co29) ?_).2.2;exact (by (with_reducible repeat (first | apply r1_ | apply r2_ | apply r3_));exact (Kd.R_mono (zrf (Kd.R_types HO534.out BK538.out (by decide))) (fun _ h_ => h_.1))));(case side2 => exact (Kd.R_reads' HO534.out).2.1);(case side3 => refine (Kd.S_reads' (e := 52) (base := w.heap.size) (ok := fun k_ => (True ∧ some k_ ≠ (.slice Ao22 t524.length co22 : Value).ownBlock)) (n := t535.length) (c := co30) ?_).2.2;exact (by (with_reducible repeat (first | apply Kd.S_alloc | apply Kd.S_drewN | apply Kd.S_drew));exact (Kd.S_mono (Kd.S_far (p := ⟨gb538,5,none⟩) (Kd.S_far (p := ⟨gb538,4,none⟩) (Kd.S_far (p := ⟨gb538,3,none⟩) (Kd.S_far (p := ⟨gb538,2,none⟩) (Kd.S_far (p := ⟨gb538,1,none⟩) (Kd.S_far (p := ⟨gb538,0,none⟩) (Kd.S_types HO537.out BK538.out (by decide)) (fun _ hk => hk.2) (.string t528)) (fun _ hk => hk.2) (.int .i64 t529)) (fun _ hk => hk.2) (.int .i64 t530)) (fun _ hk => hk.2) (.int .i64 t531)) (fun _ hk => hk.2) (.slice Ao29 t532.length co29)) (fun _ hk => hk.2) (.slice Ao30 t535.length co30)) (fun _ h_ => h_.1))));(case side4 => exact (Kd.S_reads' HO537.out).2.1);(case side5 => exact HLD.out.on (zl_ HB));(case side6 => exact HTD.out.on (zl_ HB));rintro e w31 ⟨rfl,hb⟩;refine ⟨_,rfl,?_⟩;replace HO523 := am_ (Kd.R_below (by (with_reducible repeat (first | apply r1_ | apply r2_ | apply r3_));exact (Kd.R_mono (zrf (Kd.R_types HO523.out BK538.out (by decide))) (fun _ h_ => h_.1))) hb);replace HO526 := am_ (Kd.S_below (by (with_reducible repeat (first | apply Kd.S_alloc | apply Kd.S_drewN | apply Kd.S_drew));exact (Kd.S_mono (Kd.S_far (p := ⟨gb538,5,none⟩) (Kd.S_far (p := ⟨gb538,4,none⟩) (Kd.S_far (p := ⟨gb538,3,none⟩) (Kd.S_far (p := ⟨gb538,2,none⟩) (Kd.S_far (p := ⟨gb538,1,none⟩) (Kd.S_far (p := ⟨gb538,0,none⟩) (Kd.S_types HO526.out BK538.out (by decide)) (fun _ hk => hk.2) (.string t528)) (fun _ hk => hk.2) (.int .i64 t529)) (fun _ hk => hk.2) (.int .i64 t530)) (fun _ hk => hk.2) (.int .i64 t531)) (fun _ hk => hk.2) (.slice Ao29 t532.length co29)) (fun _ hk => hk.2) (.slice Ao30 t535.length co30)) (fun _ h_ => h_.1))) hb);replace HO534 := am_ (Kd.R_below (by (with_reducible repeat (first | apply r1_ | apply r2_ | apply r3_));exact (Kd.R_mono (zrf (Kd.R_types HO534.out BK538.out (by decide))) (fun _ h_ => h_.1))) hb);replace HO537 := am_ (Kd.S_below (by (with_reducible repeat (first | apply Kd.S_alloc | apply Kd.S_drewN | apply Kd.S_drew));exact (Kd.S_mono (Kd.S_far (p := ⟨gb538,5,none⟩) (Kd.S_far (p := ⟨gb538,4,none⟩) (Kd.S_far (p := ⟨gb538,3,none⟩) (Kd.S_far (p := ⟨gb538,2,none⟩) (Kd.S_far (p := ⟨gb538,1,none⟩) (Kd.S_far (p := ⟨gb538,0,none⟩) (Kd.S_types HO537.out BK538.out (by decide)) (fun _ hk => hk.2) (.string t528)) (fun _ hk => hk.2) (.int .i64 t529)) (fun _ hk => hk.2) (.int .i64 t530)) (fun _ hk => hk.2) (.int .i64 t531)) (fun _ hk => hk.2) (.slice Ao29 t532.length co29)) (fun _ hk => hk.2) (.slice Ao30 t535.length co30)) (fun _ h_ => h_.1))) hb);replace BK515 := am_ (blk_below (g := gb515) (o := .cells #[.string a1_0,.int .i64 a1_1,.int .i64 a1_2,.int .i64 a1_3,.slice A1_4 l1_4.length c1_4,.slice A1_5 l1_5.length c1_5] 27 (0,0)) (zq BK515) hb);replace BK538 := am_ (blk_below (g := gb538) (o := .cells #[.string t528,.int .i64 t529,.int .i64 t530,.int .i64 t531,.slice Ao29 t532.length co29,.slice Ao30 t535.length co30] 33 (0,0)) (zq BK538) hb);replace HB := zs_ HB hb;(try clear hb);(try clear hb2);(try clear hk);(try clear hi)))
    replace HO523 := am_ (Kd.R_drew HO523.out)
    replace HO526 := am_ (Kd.S_drew HO526.out)
    replace HO534 := am_ (Kd.R_drew HO534.out)
    replace HO537 := am_ (Kd.S_drew HO537.out)
    replace BK515 := am_ (blk_drew BK515.out)
    replace BK538 := am_ (blk_drew BK538.out)
    replace HB := am_ (below_drew1 HB.out)
    refine start_ (n := 5) (S := fun w' => w'.cell? ⟨gb538,0,none⟩ = some (.string t528) ∧ w'.cell? ⟨gb538,1,none⟩ = some (.int .i64 t529) ∧ w'.cell? ⟨gb538,2,none⟩ = some (.int .i64 t530) ∧ w'.cell? ⟨gb538,3,none⟩ = some (.int .i64 t531) ∧ w'.cell? ⟨gb538,4,none⟩ = some (.slice Ao29 t532.length co29) ∧ w'.cell? ⟨gb538,5,none⟩ = some (.slice Ao30 t535.length co30) ∧ w'.cell? ⟨gb515,0,none⟩ = some (.string a1_0) ∧ w'.cell? ⟨gb515,1,none⟩ = some (.int .i64 a1_1) ∧ w'.cell? ⟨gb515,2,none⟩ = some (.int .i64 a1_2) ∧ w'.cell? ⟨gb515,3,none⟩ = some (.int .i64 a1_3) ∧ w'.cell? ⟨gb515,4,none⟩ = some (.slice A1_4 l1_4.length c1_4) ∧ w'.cell? ⟨gb515,5,none⟩ = some (.slice A1_5 l1_5.length c1_5)) (ds := []) #[false,false,false,false,false] (by kernel_rfl) rfl rfl ⟨(blk_cell BK538.out 0).trans rfl,(blk_cell BK538.out 1).trans rfl,(blk_cell BK538.out 2).trans rfl,(blk_cell BK538.out 3).trans rfl,(blk_cell BK538.out 4).trans rfl,(blk_cell BK538.out 5).trans rfl,(blk_cell BK515.out 0).trans rfl,(blk_cell BK515.out 1).trans rfl,(blk_cell BK515.out 2).trans rfl,(blk_cell BK515.out 3).trans rfl,(blk_cell BK515.out 4).trans rfl,(blk_cell BK515.out 5).trans rfl⟩ (fun hHeld => ?_)
    generalize w31.drew = w32 at HO523 HO526 HO534 HO537 BK515 BK538 HB hHeld ⊢
    refine take_ (i := 0) (N := some 26) (v := ?_) (a' := ?_) #[true,false,false,false,false] rfl rfl (by kernel_rfl) (fun _ _ _ h => h) (Or.inl ⟨by rfl,?_⟩) hHeld ?_ ?_
    rotate_left
    ·rintro w' ⟨s0,s1,s2,s3,s4,s5,s6,s7,s8,s9,s10,s11⟩
     go_simp
     with_reducible rfl
    rotate_left
    ·simp only [Act.put,p1_,p2_,p3_,i64_w,i32_w]
     rfl
    refine take_ (i := 1) (N := some 27) (v := ?_) (a' := ?_) #[true,true,false,false,false] rfl rfl (by kernel_rfl) (fun _ _ _ h => h) (Or.inl ⟨by rfl,?_⟩) hHeld ?_ ?_
    rotate_left
    ·rintro w' ⟨s0,s1,s2,s3,s4,s5,s6,s7,s8,s9,s10,s11⟩
     go_simp
     with_reducible rfl
    rotate_left
    ·simp only [Act.put,p1_,p2_,p3_,i64_w,i32_w]
     rfl
    refine one_ (i := 2) (N := some 28) #[true,true,true,false,false] rfl rfl (by kernel_rfl) (by decide) (fun K hK => ?_)
    refine zgo Tryd.func12 #[.agg #[.string a1_0,.int .i64 a1_1,.int .i64 a1_2,.int .i64 a1_3,.slice A1_4 l1_4.length c1_4,.slice A1_5 l1_5.length c1_5]] ?_
    with_reducible refine (laws_toCertificate.calls k a1_0 a1_1 a1_2 a1_3 _ _ l1_4 _ _ l1_5 t540 t541 t542 t543 t544 t547 _ ?side1 ?side2 ?side3 ?side4 A13.out).mono ?_
    (case side1 => exact zc_ HR1_4 HB)
    (case side2 => exact HC1_4.out)
    (case side3 => exact zc_ HR1_5 HB)
    (case side4 => exact HC1_5.out)
    rintro e w33 ⟨v545,v548,rfl,ho0,ho1,hb⟩
    refine ⟨_,rfl,?_⟩
    have HO546 := am_ (Kd.R_lower (Kd.R_new' (Kd.R_new' ho0 (Kd.R_lt (zr HO523))) (Kd.R_lt (zr HO534))) (below_size (zl_ HB)))
    replace HO523 := am_ (Kd.R_elder' (zr HO523) (Kd.R_base ho0) hb)
    replace HO534 := am_ (Kd.R_elder' (zr HO534) (Kd.R_base ho0) hb)
    have HO549 := am_ (Kd.S_lower (Kd.S_new' (Kd.S_new' ho1 (Kd.S_lt (by (with_reducible repeat (first | apply Kd.S_alloc | apply Kd.S_drewN | apply Kd.S_drew));exact HO526.out))) (Kd.S_lt (by (with_reducible repeat (first | apply Kd.S_alloc | apply Kd.S_drewN | apply Kd.S_drew));exact HO537.out))) (below_size (zl_ HB)))
    replace HO526 := am_ (Kd.S_elder' (by (with_reducible repeat (first | apply Kd.S_alloc | apply Kd.S_drewN | apply Kd.S_drew));exact HO526.out) (Kd.S_base ho1) hb)
    replace HO537 := am_ (Kd.S_elder' (by (with_reducible repeat (first | apply Kd.S_alloc | apply Kd.S_drewN | apply Kd.S_drew));exact HO537.out) (Kd.S_base ho1) hb)
    replace BK515 := zb BK515 hb
    replace BK538 := zb BK538 hb
    replace HB := zs_ HB hb
    (try clear hb)
    (try clear hb2)
    (try clear hk)
    (try clear hi)
    (try clear ho0)
    (try clear ho1)
    obtain ⟨Ao34,co34,eo34⟩ := Kd.R_slice HO546.out
    (first | subst eo34 | (injection eo34 with f1_ f2_ f3_;have f4_ := f1_.symm;have f5_ := f3_.symm;clear f1_ f2_ f3_;subst f4_;subst f5_))
    obtain ⟨Ao35,co35,eo35⟩ := Kd.S_slice HO549.out
    (first | subst eo35 | (injection eo35 with f1_ f2_ f3_;have f4_ := f1_.symm;have f5_ := f3_.symm;clear f1_ f2_ f3_;subst f4_;subst f5_))
    refine hK.out _ _ ⟨(blk_cell BK538.out 0).trans rfl,(blk_cell BK538.out 1).trans rfl,(blk_cell BK538.out 2).trans rfl,(blk_cell BK538.out 3).trans rfl,(blk_cell BK538.out 4).trans rfl,(blk_cell BK538.out 5).trans rfl,(blk_cell BK515.out 0).trans rfl,(blk_cell BK515.out 1).trans rfl,(blk_cell BK515.out 2).trans rfl,(blk_cell BK515.out 3).trans rfl,(blk_cell BK515.out 4).trans rfl,(blk_cell BK515.out 5).trans rfl⟩ (fun hHeld => ?_)
    clear hK K
    refine norm_ (a' := ?_) ?_ ?_
    rotate_left
    ·show Act.put _ (some 28) _ = _
     simp only [Act.put,p1_,p2_,p3_,i64_w,i32_w]
     rfl
    refine one_ (i := 3) (N := some 29) #[true,true,true,true,false] rfl rfl (by kernel_rfl) (by decide) (fun K hK => ?_)
    refine zgo Tryd.func14 #[.agg #[.string t528,.int .i64 t529,.int .i64 t530,.int .i64 t531,.slice Ao29 t532.length co29,.slice Ao30 t535.length co30],.agg #[.string t540,.int .i64 t541,.int .i64 t542,.int .i64 t543,.slice Ao34 t544.length co34,.slice Ao35 t547.length co35]] ?_
    with_reducible refine (laws_eqCertificate.calls k t528 t529 t530 t531 _ _ t532 _ _ t535 t540 t541 t542 t543 _ _ t544 _ _ t547 true _ ?side1 ?side2 ?side3 ?side4 ?side5 ?side6 ?side7 ?side8 A14.out).mono ?_
    (case side1 => repeat (first | exact (Kd.R_reads' HO534.out).2.2 | (with_reducible refine Kd.C_alloc ?_ _) | (with_reducible refine Kd.C_drewN ?_ _) | (with_reducible refine Kd.C_drew ?_)))
    (case side2 => exact (Kd.R_reads' HO534.out).2.1)
    (case side3 => repeat (first | exact (Kd.S_reads' HO537.out).2.2 | (with_reducible refine Kd.C_alloc ?_ _) | (with_reducible refine Kd.C_drewN ?_ _) | (with_reducible refine Kd.C_drew ?_)))
    (case side4 => exact (Kd.S_reads' HO537.out).2.1)
    (case side5 => repeat (first | exact (Kd.R_reads' HO546.out).2.2 | (with_reducible refine Kd.C_alloc ?_ _) | (with_reducible refine Kd.C_drewN ?_ _) | (with_reducible refine Kd.C_drew ?_)))
    (case side6 => exact (Kd.R_reads' HO546.out).2.1)
    (case side7 => repeat (first | exact (Kd.S_reads' HO549.out).2.2 | (with_reducible refine Kd.C_alloc ?_ _) | (with_reducible refine Kd.C_drewN ?_ _) | (with_reducible refine Kd.C_drew ?_)))
    (case side8 => exact (Kd.S_reads' HO549.out).2.1)
    rintro e w36 ⟨rfl,hb⟩
    refine ⟨_,rfl,?_⟩
    replace HO523 := zrb HO523 hb
    replace HO526 := am_ (Kd.S_below (by (with_reducible repeat (first | apply Kd.S_alloc | apply Kd.S_drewN | apply Kd.S_drew));exact HO526.out) hb)
    replace HO534 := zrb HO534 hb
    replace HO537 := am_ (Kd.S_below (by (with_reducible repeat (first | apply Kd.S_alloc | apply Kd.S_drewN | apply Kd.S_drew));exact HO537.out) hb)
    replace HO546 := zrb HO546 hb
    replace HO549 := am_ (Kd.S_below (by (with_reducible repeat (first | apply Kd.S_alloc | apply Kd.S_drewN | apply Kd.S_drew));exact HO549.out) hb)
    replace BK515 := zb BK515 hb
    replace BK538 := zb BK538 hb
    replace HB := zs_ HB hb
    (try clear hb)
    (try clear hb2)
    (try clear hk)
    (try clear hi)
    refine hK.out _ _ ⟨(blk_cell BK538.out 0).trans rfl,(blk_cell BK538.out 1).trans rfl,(blk_cell BK538.out 2).trans rfl,(blk_cell BK538.out 3).trans rfl,(blk_cell BK538.out 4).trans rfl,(blk_cell BK538.out 5).trans rfl,(blk_cell BK515.out 0).trans rfl,(blk_cell BK515.out 1).trans rfl,(blk_cell BK515.out 2).trans rfl,(blk_cell BK515.out 3).trans rfl,(blk_cell BK515.out 4).trans rfl,(blk_cell BK515.out 5).trans rfl⟩ (fun hHeld => ?_)
    clear hK K
    refine norm_ (a' := ?_) ?_ ?_
    rotate_left
    ·show Act.put _ (some 29) _ = _
     simp only [Act.put,p1_,p2_,p3_,i64_w,i32_w]
     rfl
    refine pure_ (i := 4) (N := some 30) (v := ?_) (a' := ?_) #[true,true,true,true,true] rfl rfl (by kernel_rfl) (fun _ _ _ h => h) (Or.inl ⟨by rfl,?_⟩) ?_ ?_
    rotate_left
    ·intro w'
     go_simp
     with_reducible rfl
    rotate_left
    ·simp only [Act.put,p1_,p2_,p3_,i64_w,i32_w]
     rfl
    refine done_ (by kernel_rfl) ?_
    try go_wp2
    go_ret
    exact ⟨zt_,zl_ HB⟩
   ·replace c15 := Bool.eq_false_iff.mpr c15
    subst c15
    have H1 : (some false) = some r := by rw [if_neg (show ¬ (false = true) by decide)] at H;exact H
    clear H
    have H := H1
    clear H1
    obtain rfl := Option.some.inj H
    go_enter Tryd.func3,Tryd.ntmps3
    try go_wp2_with (first | ((with_reducible refine gate_dst (N := 3) rfl ?_);refine zbx (N := 3) (cs := #[.string a1_0,.int .i64 a1_1,.int .i64 a1_2,.int .i64 a1_3,.slice A1_4 l1_4.length c1_4,.slice A1_5 l1_5.length c1_5]) (t := 27) ?_;intro gb515 hg w37 hbox hb;have BK515 := am_ (hbox);have GW515 := zw_ HB hg;have GE515 := zw_ HB hg;replace HB := zs_ HB hb;clear hb hbox hg;obtain ⟨hcz38_0,hcz38_1,hcz38_2,hcz38_3,hcz38_4,hcz38_5,hfz38_0,hfz38_1,hfz38_2,hfz38_3,hfz38_4,hfz38_5⟩ := zc6 BK515) | ((with_reducible refine gate_callee (f := 10) rfl ?_);refine zgl (some 11) Tryd.func10 #[.agg #[.string a1_0,.int .i64 a1_1,.int .i64 a1_2,.int .i64 a1_3,.slice A1_4 l1_4.length c1_4,.slice A1_5 l1_5.length c1_5],.int .i64 1048576] ?_;(with_reducible refine (laws_szCertificate.calls k a1_0 a1_1 a1_2 a1_3 _ _ l1_4 _ _ l1_5 1048576 t516 _ ?side1 ?side2 ?side3 ?side4 A3.out).mono ?_);(case side1 => exact zc_ HR1_4 HB);(case side2 => exact HC1_4.out);(case side3 => exact zc_ HR1_5 HB);(case side4 => exact HC1_5.out);rintro e w39 ⟨rfl,hb⟩;refine ⟨_,rfl,?_⟩;replace BK515 := zb BK515 hb;replace HB := zs_ HB hb;(try clear hb);(try clear hb2);(try clear hk);(try clear hi);obtain ⟨hcz40_0,hcz40_1,hcz40_2,hcz40_3,hcz40_4,hcz40_5,hfz40_0,hfz40_1,hfz40_2,hfz40_3,hfz40_4,hfz40_5⟩ := zc6 BK515) | ((with_reducible refine gate_callee (f := 12) rfl ?_);refine zgl (some 16) Tryd.func12 #[.agg #[.string a1_0,.int .i64 a1_1,.int .i64 a1_2,.int .i64 a1_3,.slice A1_4 l1_4.length c1_4,.slice A1_5 l1_5.length c1_5]] ?_;(with_reducible refine (laws_toCertificate.calls k a1_0 a1_1 a1_2 a1_3 _ _ l1_4 _ _ l1_5 t517 t518 t519 t520 t521 t524 _ ?side1 ?side2 ?side3 ?side4 A8.out).mono ?_);(case side1 => exact zc_ HR1_4 HB);(case side2 => exact HC1_4.out);(case side3 => exact zc_ HR1_5 HB);(case side4 => exact HC1_5.out);rintro e w41 ⟨v522,v525,rfl,ho0,ho1,hb⟩;refine ⟨_,rfl,?_⟩;have HO523 := am_ (Kd.R_lower ho0 (below_size (zl_ HB)));have HO526 := am_ (Kd.S_lower ho1 (below_size (zl_ HB)));replace BK515 := zb BK515 hb;replace HB := zs_ HB hb;(try clear hb);(try clear hb2);(try clear hk);(try clear hi);(try clear ho0);(try clear ho1);obtain ⟨Ao42,co42,eo42⟩ := Kd.R_slice HO523.out;subst eo42;obtain ⟨Ao43,co43,eo43⟩ := Kd.S_slice HO526.out;subst eo43) | ((with_reducible refine gate_callee (f := 11) rfl ?_);refine zgl (some 17) Tryd.func11 #[.int .i64 a0,.agg #[.string t517,.int .i64 t518,.int .i64 t519,.int .i64 t520,.slice Ao42 t521.length co42,.slice Ao43 t524.length co43]] ?_;(with_reducible refine (spec_CheckCertificate.calls k a0 t517 t518 t519 t520 _ _ t521 _ _ t524 t527 _ ?side1 ?side2 ?side3 ?side4 A9.out).mono ?_);(case side1 => repeat (first | exact (Kd.R_reads' HO523.out).2.2 | (with_reducible refine Kd.C_alloc ?_ _) | (with_reducible refine Kd.C_drewN ?_ _) | (with_reducible refine Kd.C_drew ?_)));(case side2 => exact (Kd.R_reads' HO523.out).2.1);(case side3 => repeat (first | exact (Kd.S_reads' HO526.out).2.2 | (with_reducible refine Kd.C_alloc ?_ _) | (with_reducible refine Kd.C_drewN ?_ _) | (with_reducible refine Kd.C_drew ?_)));(case side4 => exact (Kd.S_reads' HO526.out).2.1);rintro e w44 ⟨rfl,hb⟩;refine ⟨_,rfl,?_⟩;replace HO523 := zrb HO523 hb;replace HO526 := am_ (Kd.S_below (by (with_reducible repeat (first | apply Kd.S_alloc | apply Kd.S_drewN | apply Kd.S_drew));exact HO526.out) hb);replace BK515 := zb BK515 hb;replace HB := zs_ HB hb;(try clear hb);(try clear hb2);(try clear hk);(try clear hi);obtain ⟨hcz45_0,hcz45_1,hcz45_2,hcz45_3,hcz45_4,hcz45_5,hfz45_0,hfz45_1,hfz45_2,hfz45_3,hfz45_4,hfz45_5⟩ := zc6 BK515) | ((with_reducible refine gate_callee (f := 12) rfl ?_);refine zgl (some 19) Tryd.func12 #[.agg #[.string a1_0,.int .i64 a1_1,.int .i64 a1_2,.int .i64 a1_3,.slice A1_4 l1_4.length c1_4,.slice A1_5 l1_5.length c1_5]] ?_;(with_reducible refine (laws_toCertificate.calls k a1_0 a1_1 a1_2 a1_3 _ _ l1_4 _ _ l1_5 t528 t529 t530 t531 t532 t535 _ ?side1 ?side2 ?side3 ?side4 A10.out).mono ?_);(case side1 => exact zc_ HR1_4 HB);(case side2 => exact HC1_4.out);(case side3 => exact zc_ HR1_5 HB);(case side4 => exact HC1_5.out);rintro e w46 ⟨v533,v536,rfl,ho0,ho1,hb⟩;refine ⟨_,rfl,?_⟩;have HO534 := am_ (Kd.R_lower (Kd.R_new' ho0 (Kd.R_lt (zr HO523))) (below_size (zl_ HB)));replace HO523 := am_ (Kd.R_elder' (zr HO523) (Kd.R_base ho0) hb);have HO537 := am_ (Kd.S_lower (Kd.S_new' ho1 (Kd.S_lt (by (with_reducible repeat (first | apply Kd.S_alloc | apply Kd.S_drewN | apply Kd.S_drew));exact HO526.out))) (below_size (zl_ HB)));replace HO526 := am_ (Kd.S_elder' (by (with_reducible repeat (first | apply Kd.S_alloc | apply Kd.S_drewN | apply Kd.S_drew));exact HO526.out) (Kd.S_base ho1) hb);replace BK515 := zb BK515 hb;replace HB := zs_ HB hb;(try clear hb);(try clear hb2);(try clear hk);(try clear hi);(try clear ho0);(try clear ho1)) | ((with_reducible refine gate_dst (N := 7) rfl ?_);refine zbx (N := 7) (cs := #[.string ⟨#[]⟩,.int .i64 0,.int .i64 0,.int .i64 0,.slice none 0 0,.slice none 0 0]) (t := 33) ?_;intro gb538 hg w47 hbox hb;replace HO523 := zrb HO523 hb;replace HO526 := am_ (Kd.S_below (by (with_reducible repeat (first | apply Kd.S_alloc | apply Kd.S_drewN | apply Kd.S_drew));exact HO526.out) hb);replace HO534 := zrb HO534 hb;replace HO537 := am_ (Kd.S_below (by (with_reducible repeat (first | apply Kd.S_alloc | apply Kd.S_drewN | apply Kd.S_drew));exact HO537.out) hb);have BK538 := am_ (hbox);have GW538 := zw_ HB hg;have GE538 := zw_ HB hg;replace HB := zs_ HB hb;have NB515_538 := zl hg BK515;have NB538_515 := zg hg BK515;replace BK515 := zb BK515 hb;clear hb hbox hg;have hnb48 := NB538_515.out;have hnc48 := NB515_538.out;obtain ⟨hcz49_0,hcz49_1,hcz49_2,hcz49_3,hcz49_4,hcz49_5,hfz49_0,hfz49_1,hfz49_2,hfz49_3,hfz49_4,hfz49_5⟩ := zc6 BK538;obtain ⟨Ao50,co50,eo50⟩ := Kd.R_slice HO534.out;subst eo50;obtain ⟨Ao51,co51,eo51⟩ := Kd.S_slice HO537.out;subst eo51) | ((with_reducible refine gate_callee (f := 13) rfl ?_);refine zgl (some 22) Tryd.func13 #[.int .i64 a0,.agg #[.string t528,.int .i64 t529,.int .i64 t530,.int .i64 t531,.slice Ao50 t532.length co50,.slice Ao51 t535.length co51]] ?_;(with_reducible refine (impl_CheckCertificate.calls k a0 t528 t529 t530 t531 _ _ t532 _ _ t535 t539 _ ?side1 ?side2 ?side3 ?side4 ?side5 ?side6 A11.out).mono ?_);(case side1 => refine (Kd.R_reads' (e := 3) (base := w.heap.size) (ok := fun k_ => (True ∧ some k_ ≠ (.slice Ao42 t521.length co42 : Value).ownBlock)) (n := t532.length) (c := co50) ?_).2.2;exact (by (with_reducible repeat (first | apply r1_ | apply r2_ | apply r3_));exact (Kd.R_mono (zrf (Kd.R_types HO534.out BK538.out (by decide))) (fun _ h_ => h_.1))));(case side2 => exact (Kd.R_reads' HO534.out).2.1);(case side3 => refine (Kd.S_reads' (e := 52) (base := w.heap.size) (ok := fun k_ => (True ∧ some k_ ≠ (.slice Ao43 t524.length co43 : Value).ownBlock)) (n := t535.length) (c := co51) ?_).2.2;exact (by (with_reducible repeat (first | apply Kd.S_alloc | apply Kd.S_drewN | apply Kd.S_drew));exact (Kd.S_mono (Kd.S_far (p := ⟨gb538,5,none⟩) (Kd.S_far (p := ⟨gb538,4,none⟩) (Kd.S_far (p := ⟨gb538,3,none⟩) (Kd.S_far (p := ⟨gb538,2,none⟩) (Kd.S_far (p := ⟨gb538,1,none⟩) (Kd.S_far (p := ⟨gb538,0,none⟩) (Kd.S_types HO537.out BK538.out (by decide)) (fun _ hk => hk.2) (.string t528)) (fun _ hk => hk.2) (.int .i64 t529)) (fun _ hk => hk.2) (.int .i64 t530)) (fun _ hk => hk.2) (.int .i64 t531)) (fun _ hk => hk.2) (.slice Ao50 t532.length co50)) (fun _ hk => hk.2) (.slice Ao51 t535.length co51)) (fun _ h_ => h_.1))));(case side4 => exact (Kd.S_reads' HO537.out).2.1);(case side5 => exact HLD.out.on (zl_ HB));(case side6 => exact HTD.out.on (zl_ HB));rintro e w52 ⟨rfl,hb⟩;refine ⟨_,rfl,?_⟩;replace HO523 := am_ (Kd.R_below (by (with_reducible repeat (first | apply r1_ | apply r2_ | apply r3_));exact (Kd.R_mono (zrf (Kd.R_types HO523.out BK538.out (by decide))) (fun _ h_ => h_.1))) hb);replace HO526 := am_ (Kd.S_below (by (with_reducible repeat (first | apply Kd.S_alloc | apply Kd.S_drewN | apply Kd.S_drew));exact (Kd.S_mono (Kd.S_far (p := ⟨gb538,5,none⟩) (Kd.S_far (p := ⟨gb538,4,none⟩) (Kd.S_far (p := ⟨gb538,3,none⟩) (Kd.S_far (p := ⟨gb538,2,none⟩) (Kd.S_far (p := ⟨gb538,1,none⟩) (Kd.S_far (p := ⟨gb538,0,none⟩) (Kd.S_types HO526.out BK538.out (by decide)) (fun _ hk => hk.2) (.string t528)) (fun _ hk => hk.2) (.int .i64 t529)) (fun _ hk => hk.2) (.int .i64 t530)) (fun _ hk => hk.2) (.int .i64 t531)) (fun _ hk => hk.2) (.slice Ao50 t532.length co50)) (fun _ hk => hk.2) (.slice Ao51 t535.length co51)) (fun _ h_ => h_.1))) hb);replace HO534 := am_ (Kd.R_below (by (with_reducible repeat (first | apply r1_ | apply r2_ | apply r3_));exact (Kd.R_mono (zrf (Kd.R_types HO534.out BK538.out (by decide))) (fun _ h_ => h_.1))) hb);replace HO537 := am_ (Kd.S_below (by (with_reducible repeat (first | apply Kd.S_alloc | apply Kd.S_drewN | apply Kd.S_drew));exact (Kd.S_mono (Kd.S_far (p := ⟨gb538,5,none⟩) (Kd.S_far (p := ⟨gb538,4,none⟩) (Kd.S_far (p := ⟨gb538,3,none⟩) (Kd.S_far (p := ⟨gb538,2,none⟩) (Kd.S_far (p := ⟨gb538,1,none⟩) (Kd.S_far (p := ⟨gb538,0,none⟩) (Kd.S_types HO537.out BK538.out (by decide)) (fun _ hk => hk.2) (.string t528)) (fun _ hk => hk.2) (.int .i64 t529)) (fun _ hk => hk.2) (.int .i64 t530)) (fun _ hk => hk.2) (.int .i64 t531)) (fun _ hk => hk.2) (.slice Ao50 t532.length co50)) (fun _ hk => hk.2) (.slice Ao51 t535.length co51)) (fun _ h_ => h_.1))) hb);replace BK515 := am_ (blk_below (g := gb515) (o := .cells #[.string a1_0,.int .i64 a1_1,.int .i64 a1_2,.int .i64 a1_3,.slice A1_4 l1_4.length c1_4,.slice A1_5 l1_5.length c1_5] 27 (0,0)) (zq BK515) hb);replace BK538 := am_ (blk_below (g := gb538) (o := .cells #[.string t528,.int .i64 t529,.int .i64 t530,.int .i64 t531,.slice Ao50 t532.length co50,.slice Ao51 t535.length co51] 33 (0,0)) (zq BK538) hb);replace HB := zs_ HB hb;(try clear hb);(try clear hb2);(try clear hk);(try clear hi)))
    replace HO523 := am_ (Kd.R_drew HO523.out)
    replace HO526 := am_ (Kd.S_drew HO526.out)
    replace HO534 := am_ (Kd.R_drew HO534.out)
    replace HO537 := am_ (Kd.S_drew HO537.out)
    replace BK515 := am_ (blk_drew BK515.out)
    replace BK538 := am_ (blk_drew BK538.out)
    replace HB := am_ (below_drew1 HB.out)
    refine start_ (n := 5) (S := fun w' => w'.cell? ⟨gb538,0,none⟩ = some (.string t528) ∧ w'.cell? ⟨gb538,1,none⟩ = some (.int .i64 t529) ∧ w'.cell? ⟨gb538,2,none⟩ = some (.int .i64 t530) ∧ w'.cell? ⟨gb538,3,none⟩ = some (.int .i64 t531) ∧ w'.cell? ⟨gb538,4,none⟩ = some (.slice Ao50 t532.length co50) ∧ w'.cell? ⟨gb538,5,none⟩ = some (.slice Ao51 t535.length co51) ∧ w'.cell? ⟨gb515,0,none⟩ = some (.string a1_0) ∧ w'.cell? ⟨gb515,1,none⟩ = some (.int .i64 a1_1) ∧ w'.cell? ⟨gb515,2,none⟩ = some (.int .i64 a1_2) ∧ w'.cell? ⟨gb515,3,none⟩ = some (.int .i64 a1_3) ∧ w'.cell? ⟨gb515,4,none⟩ = some (.slice A1_4 l1_4.length c1_4) ∧ w'.cell? ⟨gb515,5,none⟩ = some (.slice A1_5 l1_5.length c1_5)) (ds := []) #[false,false,false,false,false] (by kernel_rfl) rfl rfl ⟨(blk_cell BK538.out 0).trans rfl,(blk_cell BK538.out 1).trans rfl,(blk_cell BK538.out 2).trans rfl,(blk_cell BK538.out 3).trans rfl,(blk_cell BK538.out 4).trans rfl,(blk_cell BK538.out 5).trans rfl,(blk_cell BK515.out 0).trans rfl,(blk_cell BK515.out 1).trans rfl,(blk_cell BK515.out 2).trans rfl,(blk_cell BK515.out 3).trans rfl,(blk_cell BK515.out 4).trans rfl,(blk_cell BK515.out 5).trans rfl⟩ (fun hHeld => ?_)
    generalize w52.drew = w53 at HO523 HO526 HO534 HO537 BK515 BK538 HB hHeld ⊢
    refine take_ (i := 0) (N := some 26) (v := ?_) (a' := ?_) #[true,false,false,false,false] rfl rfl (by kernel_rfl) (fun _ _ _ h => h) (Or.inl ⟨by rfl,?_⟩) hHeld ?_ ?_
    rotate_left
    ·rintro w' ⟨s0,s1,s2,s3,s4,s5,s6,s7,s8,s9,s10,s11⟩
     go_simp
     with_reducible rfl
    rotate_left
    ·simp only [Act.put,p1_,p2_,p3_,i64_w,i32_w]
     rfl
    refine take_ (i := 1) (N := some 27) (v := ?_) (a' := ?_) #[true,true,false,false,false] rfl rfl (by kernel_rfl) (fun _ _ _ h => h) (Or.inl ⟨by rfl,?_⟩) hHeld ?_ ?_
    rotate_left
    ·rintro w' ⟨s0,s1,s2,s3,s4,s5,s6,s7,s8,s9,s10,s11⟩
     go_simp
     with_reducible rfl
    rotate_left
    ·simp only [Act.put,p1_,p2_,p3_,i64_w,i32_w]
     rfl
    refine one_ (i := 2) (N := some 28) #[true,true,true,false,false] rfl rfl (by kernel_rfl) (by decide) (fun K hK => ?_)
    refine zgo Tryd.func12 #[.agg #[.string a1_0,.int .i64 a1_1,.int .i64 a1_2,.int .i64 a1_3,.slice A1_4 l1_4.length c1_4,.slice A1_5 l1_5.length c1_5]] ?_
    with_reducible refine (laws_toCertificate.calls k a1_0 a1_1 a1_2 a1_3 _ _ l1_4 _ _ l1_5 t540 t541 t542 t543 t544 t547 _ ?side1 ?side2 ?side3 ?side4 A13.out).mono ?_
    (case side1 => exact zc_ HR1_4 HB)
    (case side2 => exact HC1_4.out)
    (case side3 => exact zc_ HR1_5 HB)
    (case side4 => exact HC1_5.out)
    rintro e w54 ⟨v545,v548,rfl,ho0,ho1,hb⟩
    refine ⟨_,rfl,?_⟩
    have HO546 := am_ (Kd.R_lower (Kd.R_new' (Kd.R_new' ho0 (Kd.R_lt (zr HO523))) (Kd.R_lt (zr HO534))) (below_size (zl_ HB)))
    replace HO534 := am_ (Kd.R_elder' (zr HO534) (Kd.R_base ho0) hb)
    have HO549 := am_ (Kd.S_lower (Kd.S_new' (Kd.S_new' ho1 (Kd.S_lt (by (with_reducible repeat (first | apply Kd.S_alloc | apply Kd.S_drewN | apply Kd.S_drew));exact HO526.out))) (Kd.S_lt (by (with_reducible repeat (first | apply Kd.S_alloc | apply Kd.S_drewN | apply Kd.S_drew));exact HO537.out))) (below_size (zl_ HB)))
    replace HO537 := am_ (Kd.S_elder' (by (with_reducible repeat (first | apply Kd.S_alloc | apply Kd.S_drewN | apply Kd.S_drew));exact HO537.out) (Kd.S_base ho1) hb)
    replace BK515 := zb BK515 hb
    replace BK538 := zb BK538 hb
    replace HB := zs_ HB hb
    (try clear hb)
    (try clear hb2)
    (try clear hk)
    (try clear hi)
    (try clear ho0)
    (try clear ho1)
    obtain ⟨Ao55,co55,eo55⟩ := Kd.R_slice HO546.out
    (first | subst eo55 | (injection eo55 with f1_ f2_ f3_;have f4_ := f1_.symm;have f5_ := f3_.symm;clear f1_ f2_ f3_;subst f4_;subst f5_))
    obtain ⟨Ao56,co56,eo56⟩ := Kd.S_slice HO549.out
    (first | subst eo56 | (injection eo56 with f1_ f2_ f3_;have f4_ := f1_.symm;have f5_ := f3_.symm;clear f1_ f2_ f3_;subst f4_;subst f5_))
    refine hK.out _ _ ⟨(blk_cell BK538.out 0).trans rfl,(blk_cell BK538.out 1).trans rfl,(blk_cell BK538.out 2).trans rfl,(blk_cell BK538.out 3).trans rfl,(blk_cell BK538.out 4).trans rfl,(blk_cell BK538.out 5).trans rfl,(blk_cell BK515.out 0).trans rfl,(blk_cell BK515.out 1).trans rfl,(blk_cell BK515.out 2).trans rfl,(blk_cell BK515.out 3).trans rfl,(blk_cell BK515.out 4).trans rfl,(blk_cell BK515.out 5).trans rfl⟩ (fun hHeld => ?_)
    clear hK K
    refine norm_ (a' := ?_) ?_ ?_
    rotate_left
    ·show Act.put _ (some 28) _ = _
     simp only [Act.put,p1_,p2_,p3_,i64_w,i32_w]
     rfl
    refine one_ (i := 3) (N := some 29) #[true,true,true,true,false] rfl rfl (by kernel_rfl) (by decide) (fun K hK => ?_)
    refine zgo Tryd.func14 #[.agg #[.string t528,.int .i64 t529,.int .i64 t530,.int .i64 t531,.slice Ao50 t532.length co50,.slice Ao51 t535.length co51],.agg #[.string t540,.int .i64 t541,.int .i64 t542,.int .i64 t543,.slice Ao55 t544.length co55,.slice Ao56 t547.length co56]] ?_
    with_reducible refine (laws_eqCertificate.calls k t528 t529 t530 t531 _ _ t532 _ _ t535 t540 t541 t542 t543 _ _ t544 _ _ t547 false _ ?side1 ?side2 ?side3 ?side4 ?side5 ?side6 ?side7 ?side8 A14.out).mono ?_
    (case side1 => repeat (first | exact (Kd.R_reads' HO534.out).2.2 | (with_reducible refine Kd.C_alloc ?_ _) | (with_reducible refine Kd.C_drewN ?_ _) | (with_reducible refine Kd.C_drew ?_)))
    (case side2 => exact (Kd.R_reads' HO534.out).2.1)
    (case side3 => repeat (first | exact (Kd.S_reads' HO537.out).2.2 | (with_reducible refine Kd.C_alloc ?_ _) | (with_reducible refine Kd.C_drewN ?_ _) | (with_reducible refine Kd.C_drew ?_)))
    (case side4 => exact (Kd.S_reads' HO537.out).2.1)
    (case side5 => repeat (first | exact (Kd.R_reads' HO546.out).2.2 | (with_reducible refine Kd.C_alloc ?_ _) | (with_reducible refine Kd.C_drewN ?_ _) | (with_reducible refine Kd.C_drew ?_)))
    (case side6 => exact (Kd.R_reads' HO546.out).2.1)
    (case side7 => repeat (first | exact (Kd.S_reads' HO549.out).2.2 | (with_reducible refine Kd.C_alloc ?_ _) | (with_reducible refine Kd.C_drewN ?_ _) | (with_reducible refine Kd.C_drew ?_)))
    (case side8 => exact (Kd.S_reads' HO549.out).2.1)
    rintro e w57 ⟨rfl,hb⟩
    refine ⟨_,rfl,?_⟩
    replace BK515 := zb BK515 hb
    replace BK538 := zb BK538 hb
    replace HB := zs_ HB hb
    (try clear hb)
    (try clear hb2)
    (try clear hk)
    (try clear hi)
    refine hK.out _ _ ⟨(blk_cell BK538.out 0).trans rfl,(blk_cell BK538.out 1).trans rfl,(blk_cell BK538.out 2).trans rfl,(blk_cell BK538.out 3).trans rfl,(blk_cell BK538.out 4).trans rfl,(blk_cell BK538.out 5).trans rfl,(blk_cell BK515.out 0).trans rfl,(blk_cell BK515.out 1).trans rfl,(blk_cell BK515.out 2).trans rfl,(blk_cell BK515.out 3).trans rfl,(blk_cell BK515.out 4).trans rfl,(blk_cell BK515.out 5).trans rfl⟩ (fun hHeld => ?_)
    clear hK K
    refine norm_ (a' := ?_) ?_ ?_
    rotate_left
    ·show Act.put _ (some 29) _ = _
     simp only [Act.put,p1_,p2_,p3_,i64_w,i32_w]
     rfl
    refine pure_ (i := 4) (N := some 30) (v := ?_) (a' := ?_) #[true,true,true,true,true] rfl rfl (by kernel_rfl) (fun _ _ _ h => h) (Or.inl ⟨by rfl,?_⟩) ?_ ?_
    rotate_left
    ·intro w'
     go_simp
     with_reducible rfl
    rotate_left
    ·simp only [Act.put,p1_,p2_,p3_,i64_w,i32_w]
     rfl
    refine done_ (by kernel_rfl) ?_
    try go_wp2
    go_ret
    exact ⟨zt_,zl_ HB⟩
  ·rw [if_neg c12] at H
   have c12b0 : (t539 == t527) = false := beq_eq_false_iff_ne.mpr c12
   have c12b1 : (t539 != t527) = true := bne_iff_ne.mpr c12
   obtain rfl := Option.some.inj H
   go_enter Tryd.func3,Tryd.ntmps3
   go_wp2_with (first | ((with_reducible refine gate_dst (N := 3) rfl ?_);refine zbx (N := 3) (cs := #[.string a1_0,.int .i64 a1_1,.int .i64 a1_2,.int .i64 a1_3,.slice A1_4 l1_4.length c1_4,.slice A1_5 l1_5.length c1_5]) (t := 27) ?_;intro gb515 hg w58 hbox hb;have BK515 := am_ (hbox);have GW515 := zw_ HB hg;have GE515 := zw_ HB hg;replace HB := zs_ HB hb;clear hb hbox hg;obtain ⟨hcz59_0,hcz59_1,hcz59_2,hcz59_3,hcz59_4,hcz59_5,hfz59_0,hfz59_1,hfz59_2,hfz59_3,hfz59_4,hfz59_5⟩ := zc6 BK515) | ((with_reducible refine gate_callee (f := 10) rfl ?_);refine zgl (some 11) Tryd.func10 #[.agg #[.string a1_0,.int .i64 a1_1,.int .i64 a1_2,.int .i64 a1_3,.slice A1_4 l1_4.length c1_4,.slice A1_5 l1_5.length c1_5],.int .i64 1048576] ?_;(with_reducible refine (laws_szCertificate.calls k a1_0 a1_1 a1_2 a1_3 _ _ l1_4 _ _ l1_5 1048576 t516 _ ?side1 ?side2 ?side3 ?side4 A3.out).mono ?_);(case side1 => exact zc_ HR1_4 HB);(case side2 => exact HC1_4.out);(case side3 => exact zc_ HR1_5 HB);(case side4 => exact HC1_5.out);rintro e w60 ⟨rfl,hb⟩;refine ⟨_,rfl,?_⟩;replace BK515 := zb BK515 hb;replace HB := zs_ HB hb;(try clear hb);(try clear hb2);(try clear hk);(try clear hi);obtain ⟨hcz61_0,hcz61_1,hcz61_2,hcz61_3,hcz61_4,hcz61_5,hfz61_0,hfz61_1,hfz61_2,hfz61_3,hfz61_4,hfz61_5⟩ := zc6 BK515) | ((with_reducible refine gate_callee (f := 12) rfl ?_);refine zgl (some 16) Tryd.func12 #[.agg #[.string a1_0,.int .i64 a1_1,.int .i64 a1_2,.int .i64 a1_3,.slice A1_4 l1_4.length c1_4,.slice A1_5 l1_5.length c1_5]] ?_;(with_reducible refine (laws_toCertificate.calls k a1_0 a1_1 a1_2 a1_3 _ _ l1_4 _ _ l1_5 t517 t518 t519 t520 t521 t524 _ ?side1 ?side2 ?side3 ?side4 A8.out).mono ?_);(case side1 => exact zc_ HR1_4 HB);(case side2 => exact HC1_4.out);(case side3 => exact zc_ HR1_5 HB);(case side4 => exact HC1_5.out);rintro e w62 ⟨v522,v525,rfl,ho0,ho1,hb⟩;refine ⟨_,rfl,?_⟩;have HO523 := am_ (Kd.R_lower ho0 (below_size (zl_ HB)));have HO526 := am_ (Kd.S_lower ho1 (below_size (zl_ HB)));replace BK515 := zb BK515 hb;replace HB := zs_ HB hb;(try clear hb);(try clear hb2);(try clear hk);(try clear hi);(try clear ho0);(try clear ho1);obtain ⟨Ao63,co63,eo63⟩ := Kd.R_slice HO523.out;subst eo63;obtain ⟨Ao64,co64,eo64⟩ := Kd.S_slice HO526.out;subst eo64) | ((with_reducible refine gate_callee (f := 11) rfl ?_);refine zgl (some 17) Tryd.func11 #[.int .i64 a0,.agg #[.string t517,.int .i64 t518,.int .i64 t519,.int .i64 t520,.slice Ao63 t521.length co63,.slice Ao64 t524.length co64]] ?_;(with_reducible refine (spec_CheckCertificate.calls k a0 t517 t518 t519 t520 _ _ t521 _ _ t524 t527 _ ?side1 ?side2 ?side3 ?side4 A9.out).mono ?_);(case side1 => repeat (first | exact (Kd.R_reads' HO523.out).2.2 | (with_reducible refine Kd.C_alloc ?_ _) | (with_reducible refine Kd.C_drewN ?_ _) | (with_reducible refine Kd.C_drew ?_)));(case side2 => exact (Kd.R_reads' HO523.out).2.1);(case side3 => repeat (first | exact (Kd.S_reads' HO526.out).2.2 | (with_reducible refine Kd.C_alloc ?_ _) | (with_reducible refine Kd.C_drewN ?_ _) | (with_reducible refine Kd.C_drew ?_)));(case side4 => exact (Kd.S_reads' HO526.out).2.1);rintro e w65 ⟨rfl,hb⟩;refine ⟨_,rfl,?_⟩;replace HO523 := zrb HO523 hb;replace HO526 := am_ (Kd.S_below (by (with_reducible repeat (first | apply Kd.S_alloc | apply Kd.S_drewN | apply Kd.S_drew));exact HO526.out) hb);replace BK515 := zb BK515 hb;replace HB := zs_ HB hb;(try clear hb);(try clear hb2);(try clear hk);(try clear hi);obtain ⟨hcz66_0,hcz66_1,hcz66_2,hcz66_3,hcz66_4,hcz66_5,hfz66_0,hfz66_1,hfz66_2,hfz66_3,hfz66_4,hfz66_5⟩ := zc6 BK515) | ((with_reducible refine gate_callee (f := 12) rfl ?_);refine zgl (some 19) Tryd.func12 #[.agg #[.string a1_0,.int .i64 a1_1,.int .i64 a1_2,.int .i64 a1_3,.slice A1_4 l1_4.length c1_4,.slice A1_5 l1_5.length c1_5]] ?_;(with_reducible refine (laws_toCertificate.calls k a1_0 a1_1 a1_2 a1_3 _ _ l1_4 _ _ l1_5 t528 t529 t530 t531 t532 t535 _ ?side1 ?side2 ?side3 ?side4 A10.out).mono ?_);(case side1 => exact zc_ HR1_4 HB);(case side2 => exact HC1_4.out);(case side3 => exact zc_ HR1_5 HB);(case side4 => exact HC1_5.out);rintro e w67 ⟨v533,v536,rfl,ho0,ho1,hb⟩;refine ⟨_,rfl,?_⟩;have HO534 := am_ (Kd.R_lower (Kd.R_new' ho0 (Kd.R_lt (zr HO523))) (below_size (zl_ HB)));have HO537 := am_ (Kd.S_lower (Kd.S_new' ho1 (Kd.S_lt (by (with_reducible repeat (first | apply Kd.S_alloc | apply Kd.S_drewN | apply Kd.S_drew));exact HO526.out))) (below_size (zl_ HB)));replace BK515 := zb BK515 hb;replace HB := zs_ HB hb;(try clear hb);(try clear hb2);(try clear hk);(try clear hi);(try clear ho0);(try clear ho1)) | ((with_reducible refine gate_dst (N := 7) rfl ?_);refine zbx (N := 7) (cs := #[.string ⟨#[]⟩,.int .i64 0,.int .i64 0,.int .i64 0,.slice none 0 0,.slice none 0 0]) (t := 33) ?_;intro gb538 hg w68 hbox hb;replace HO534 := zrb HO534 hb;replace HO537 := am_ (Kd.S_below (by (with_reducible repeat (first | apply Kd.S_alloc | apply Kd.S_drewN | apply Kd.S_drew));exact HO537.out) hb);have BK538 := am_ (hbox);have GW538 := zw_ HB hg;have GE538 := zw_ HB hg;replace HB := zs_ HB hb;have NB515_538 := zl hg BK515;have NB538_515 := zg hg BK515;clear hb hbox hg;have hnb69 := NB538_515.out;have hnc69 := NB515_538.out;obtain ⟨hcz70_0,hcz70_1,hcz70_2,hcz70_3,hcz70_4,hcz70_5,hfz70_0,hfz70_1,hfz70_2,hfz70_3,hfz70_4,hfz70_5⟩ := zc6 BK538;obtain ⟨Ao71,co71,eo71⟩ := Kd.R_slice HO534.out;subst eo71;obtain ⟨Ao72,co72,eo72⟩ := Kd.S_slice HO537.out;subst eo72) | ((with_reducible refine gate_callee (f := 13) rfl ?_);refine zgl (some 22) Tryd.func13 #[.int .i64 a0,.agg #[.string t528,.int .i64 t529,.int .i64 t530,.int .i64 t531,.slice Ao71 t532.length co71,.slice Ao72 t535.length co72]] ?_;(with_reducible refine (impl_CheckCertificate.calls k a0 t528 t529 t530 t531 _ _ t532 _ _ t535 t539 _ ?side1 ?side2 ?side3 ?side4 ?side5 ?side6 A11.out).mono ?_);(case side1 => refine (Kd.R_reads' (e := 3) (base := w.heap.size) (ok := fun k_ => (True ∧ some k_ ≠ (.slice Ao63 t521.length co63 : Value).ownBlock)) (n := t532.length) (c := co71) ?_).2.2;exact (by (with_reducible repeat (first | apply r1_ | apply r2_ | apply r3_));exact (Kd.R_mono (zrf (Kd.R_types HO534.out BK538.out (by decide))) (fun _ h_ => h_.1))));(case side2 => exact (Kd.R_reads' HO534.out).2.1);(case side3 => refine (Kd.S_reads' (e := 52) (base := w.heap.size) (ok := fun k_ => (True ∧ some k_ ≠ (.slice Ao64 t524.length co64 : Value).ownBlock)) (n := t535.length) (c := co72) ?_).2.2;exact (by (with_reducible repeat (first | apply Kd.S_alloc | apply Kd.S_drewN | apply Kd.S_drew));exact (Kd.S_mono (Kd.S_far (p := ⟨gb538,5,none⟩) (Kd.S_far (p := ⟨gb538,4,none⟩) (Kd.S_far (p := ⟨gb538,3,none⟩) (Kd.S_far (p := ⟨gb538,2,none⟩) (Kd.S_far (p := ⟨gb538,1,none⟩) (Kd.S_far (p := ⟨gb538,0,none⟩) (Kd.S_types HO537.out BK538.out (by decide)) (fun _ hk => hk.2) (.string t528)) (fun _ hk => hk.2) (.int .i64 t529)) (fun _ hk => hk.2) (.int .i64 t530)) (fun _ hk => hk.2) (.int .i64 t531)) (fun _ hk => hk.2) (.slice Ao71 t532.length co71)) (fun _ hk => hk.2) (.slice Ao72 t535.length co72)) (fun _ h_ => h_.1))));(case side4 => exact (Kd.S_reads' HO537.out).2.1);(case side5 => exact HLD.out.on (zl_ HB));(case side6 => exact HTD.out.on (zl_ HB));rintro e w73 ⟨rfl,hb⟩;refine ⟨_,rfl,?_⟩;replace HB := zs_ HB hb;(try clear hb);(try clear hb2);(try clear hk);(try clear hi)))
   go_ret
   exact ⟨zt_,zl_ HB⟩
end Go.Proofs.YtlifdodphkimpaaDoor.A
end
