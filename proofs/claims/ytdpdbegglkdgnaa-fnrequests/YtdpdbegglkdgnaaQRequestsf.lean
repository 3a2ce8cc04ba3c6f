/- A part of the proof that FnRequests returns true at every input: plain functions, contracts and lemmas. No conditions. -/
import Derived.Test.YtdpdbegglkdgnaaQRequestse
set_option linter.unusedVariables false
set_option linter.unusedSimpArgs false
set_option linter.unusedSectionVars false
section
namespace Go.Proofs.Ytdpdbegglkdgnaa.A
open Go.RowKit Go.Proofs.YtdpdbegglkdgnaaW.PrintWords Go.Proofs.YtdpdbegglkdgnaaW.PrintLast Go.Proofs.YtdpdbegglkdgnaaW.PrintMore
attribute [local go_sem] max2_int min2_int max_two min_two max_three min_three max_four min_four
set_option maxHeartbeats 8000000 in
set_option maxRecDepth 100000 in
theorem spec_RequestOf.calls (A0 : Option Addr) (c0 : Nat) (l0 : List Int) (r1 : Int) (r2 : Int) (r3 : Int) (r4 : Int) (r5 : ByteArray) (w : World) (hr0 : Kd.C (Kd.int .u8) w A0 l0.length l0) (hc0 : l0.length ≤ c0) (h : spec_RequestOf.f l0 = some (r1,r2,r3,r4,r5)) :
  Calls Try.prog 11 #[.slice A0 l0.length c0] w fun e w' => e = .returned (.agg #[.int .i64 r1,.int .i64 r2,.int .i64 r3,.int .i64 r4,.string r5]) ∧ Below w.heap.size w w' := by
 have hu33 := Try.underlying33
 have HR0 := am_ hr0
 have HC0 := am_ hc0
 clear hr0 hc0
 have HB := am_ (Below.refl w.heap.size w)
 have H : ((spec_l00Source.f l0).bind fun bt589 => ((spec_l00Src_request.f bt589.1 bt589.2.1 bt589.2.2).bind fun bt593 => (some (bt593.1,bt593.2.1,bt593.2.2.1,bt593.2.2.2.1,bt593.2.2.2.2.1)))) = some (r1,r2,r3,r4,r5) := h
 clear h
 replace H := Option.bind_eq_some_iff.mp H
 obtain ⟨⟨t589,t590,t591⟩,A20,H⟩ := H
 try dsimp only at H
 have A2 := am_ A20
 clear A20
 replace H := Option.bind_eq_some_iff.mp H
 obtain ⟨⟨t593,t594,t595,t596,t597,t598,t599⟩,A30,H⟩ := H
 try dsimp only at H
 have A3 := am_ A30
 clear A30
 simp only [Option.some.injEq,Prod.mk.injEq] at H
 obtain ⟨rfl,rfl,rfl,rfl,rfl⟩ := H
 go_enter Try.func11,Try.ntmps11
 go_wp2_with (first | ((with_reducible refine gate_dst (N := 2) rfl ?_);refine zbx (N := 2) (cs := #[.int .i64 0,.int .i64 0,.int .i64 0,.int .i64 0,.string ⟨#[]⟩]) (t := 33) ?_;intro gb588 hg w4 hbox hb;have BK588 := am_ (hbox);have GW588 := zw_ HB hg;have GE588 := zw_ HB hg;replace HB := zs_ HB hb;clear hb hbox hg) | ((with_reducible refine gate_callee (f := 22) rfl ?_);refine zgl (some 4) Try.func22 #[.slice A0 l0.length c0] ?_;(with_reducible refine (spec_l00Source.calls _ _ l0 t589 t590 t591 w _ ?side1 ?side2 ?side3 A2.out).mono ?_);(case side1 => exact zl_ HB);(case side2 => exact HR0.out);(case side3 => exact HC0.out);rintro e w5 ⟨g592,rfl,hi,hb,hb2⟩;refine ⟨_,rfl,?_⟩;replace HB := am_ (hb);have HI592 := am_ (hi);have NB592_588 := am_ (IsS72.ne_blk hi (blk_below (g := gb588) (o := .cells #[.int .i64 0,.int .i64 0,.int .i64 0,.int .i64 0,.string ⟨#[]⟩] 33 (0,0)) (zk BK588) hb2) (by decide));have NB588_592 := am_ (Ne.symm (IsS72.ne_blk hi (blk_below (g := gb588) (o := .cells #[.int .i64 0,.int .i64 0,.int .i64 0,.int .i64 0,.string ⟨#[]⟩] 33 (0,0)) (zk BK588) hb2) (by decide)));replace BK588 := am_ (blk_below (g := gb588) (o := .cells #[.int .i64 0,.int .i64 0,.int .i64 0,.int .i64 0,.string ⟨#[]⟩] 33 (0,0)) (zk BK588) hb2);(try clear hb);(try clear hb2);(try clear hk);(try clear hi)) | ((with_reducible refine gate_callee (f := 31) rfl ?_);refine zgl (some 5) Try.func31 #[.pointer (some ⟨g592,0,none⟩)] ?_;(with_reducible refine (spec_l00Src_request.calls g592 t589 t590 t591 t593 t594 t595 t596 t597 t598 t599 w _ ?side1 ?side2 A3.out).mono ?_);(case side1 => exact zi72 HI592);(case side2 => exact zl_ HB);rintro e w6 ⟨rfl,hi,hb,hk⟩;refine ⟨_,rfl,?_⟩;replace BK588 := zkb hk BK588 NB588_592;replace HB := am_ (hb);replace HI592 := am_ (hi);(try clear hb);(try clear hb2);(try clear hk);(try clear hi);have hnb7 := NB588_592.out;have hnc7 := NB592_588.out;obtain ⟨hcz8_0,hcz8_1,hcz8_2,hcz8_3,hcz8_4,hfz8_0,hfz8_1,hfz8_2,hfz8_3,hfz8_4⟩ := zc5 BK588))
 refine bodyPost_ret (results_cell_row rfl _ _ gb588 33 #[.int .i64 t593,.int .i64 t594,.int .i64 t595,.int .i64 t596,.string t597] (0,0) _ rfl (zq BK588) Try.underlying33 rfl (by kernel_rfl)) rfl ?_
 exact ⟨zt_,zl_ HB⟩
end Go.Proofs.Ytdpdbegglkdgnaa.A
end

section
namespace Go.Proofs.Ytdpdbegglkdgnaa.A
open Go.RowKit Go.Proofs.YtdpdbegglkdgnaaW.PrintWords Go.Proofs.YtdpdbegglkdgnaaW.PrintLast Go.Proofs.YtdpdbegglkdgnaaW.PrintMore
attribute [local go_sem] max2_int min2_int max_two min_two max_three min_three max_four min_four
attribute [local go_sem high] eqA33
set_option maxHeartbeats 8000000 in
set_option maxRecDepth 100000 in
theorem laws_FnRequests.calls (k : Nat) (A0 : Option Addr) (c0 : Nat) (l0 : List Int) (A1 : Option Addr) (c1 : Nat) (l1 : List Int) (r : Bool) (w : World) (hr0 : Kd.C (Kd.int .u8) w A0 l0.length l0) (hc0 : l0.length ≤ c0) (hr1 : Kd.C (Kd.int .u8) w A1 l1.length l1) (hc1 : l1.length ≤ c1) (h : laws_FnRequests.f k l0 l1 = some r) :
  Calls Try.prog 4 #[.slice A0 l0.length c0,.slice A1 l1.length c1] w fun e w' => e = .returned (.bool r) ∧ Below w.heap.size w w' := by
 have hu33 := Try.underlying33
 have hu41 := Try.underlying41
 have HR0 := am_ hr0
 have HC0 := am_ hc0
 clear hr0 hc0
 have HR1 := am_ hr1
 have HC1 := am_ hc1
 clear hr1 hc1
 have HB := am_ (Below.refl w.heap.size w)
 have H : (if (l0.length : Int) > 1048576 then (laws_FnRequests.j0 k l0 l1 true) else (laws_FnRequests.j0 k l0 l1 (decide ((l1.length : Int) > 1048576)))) = some r := h
 clear h
 have HC3 := am_ H
 clear H
 go_enter Try.func4,Try.ntmps4
 go_upto_region 1 with (fail)
 go_cut [32] (fun v32 wc => ∃ (kq : Nat) (x32_2 : Bool),v32 = .bool x32_2 ∧ Aside0 (laws_FnRequests.j0 kq l0 l1 x32_2 = some r) ∧ Aside0 (kq ≤ k) ∧ Aside0 (Below w.heap.size w wc))
 case first =>
  have H := HC3.out
  clear HC3
  by_cases c4 : (l0.length : Int) > 1048576
  ·rw [if_pos c4] at H
   have c4b0 : decide (1048576 < (l0.length : Int)) = true := decide_eq_true c4
   have c4b1 : decide (1048576 < l0.length) = true := decide_eq_true (by omega)
   clear c4
   (first | rw [c4b0] | (simp only [i64_w,i32_w];rw [c4b0]) | skip)
   have H' := am_ H
   clear H
   go_wp2
   go_meet
   case rel => exact ⟨_,(true),(by first | rfl | (simp;done) | (simp [*];done)),H',⟨by first | omega | exact Nat.le_refl _⟩,⟨zl_ HB⟩⟩
  ·rw [if_neg c4] at H
   have c4b0 : decide (1048576 < (l0.length : Int)) = false := decide_eq_false c4
   have c4b1 : decide (1048576 < l0.length) = false := decide_eq_false (by omega)
   clear c4
   (first | rw [c4b0] | (simp only [i64_w,i32_w];rw [c4b0]) | skip)
   have H' := am_ H
   clear H
   go_wp2
   go_meet
   case rel => exact ⟨_,(decide ((l1.length : Int) > 1048576)),(by first | rfl | (simp;done) | (simp [*];done)),H',⟨by first | omega | exact Nat.le_refl _⟩,⟨zl_ HB⟩⟩
 case rest =>
  clear HC3
  try clear c1
  try clear p2
  try clear c4
  try clear c4b0
  try clear c4b1
  obtain ⟨kq,x32_2,rfl,HA,HJ2,HB⟩ := hcut
  cases kq with
  | zero => exact absurd HA.out (by simp [laws_FnRequests.j0])
  | succ kj2 =>
   have H := HA.out
   clear HA
   simp only [laws_FnRequests.j0] at H
   by_cases c5 : x32_2 = true
   ·subst c5
    have H1 : (some true) = some r := by rw [if_pos rfl] at H;exact H
    clear H
    have H := H1
    clear H1
    obtain rfl := Option.some.inj H
    go_wp2
    go_ret
    exact ⟨zt_,zl_ HB⟩
   ·replace c5 := Bool.eq_false_iff.mpr c5
    subst c5
    have H1 : ((spec_RequestOf.f l0).bind fun bt808 => ((impl_RequestBytes.f kj2 bt808.1 bt808.2.1 bt808.2.2.1 bt808.2.2.2.1 bt808.2.2.2.2).bind fun bt814 => ((spec_RequestBytes.f kj2 bt808.1 bt808.2.1 bt808.2.2.1 bt808.2.2.2.1 bt808.2.2.2.2).bind fun bt818 => ((impl_ReadRequest.f kj2 bt814.1).bind fun bt822 => (if bt814.2 = 0 then (if (strOfNums bt814.1).toList = (strOfNums bt818.1).toList then (if bt822.2.2.2.2.2 = 0 then (if (!(bt822.1 == bt808.1) || (!(bt822.2.1 == bt808.2.1) || (!(bt822.2.2.1 == bt808.2.2.1) || (!(bt822.2.2.2.1 == bt808.2.2.2.1) || (!(bt822.2.2.2.2.1.toList == bt808.2.2.2.2.toList)))))) = true then (laws_FnRequests.j1 kj2 l1 true) else ((impl_RequestOK.f kj2 bt808.1 bt808.2.1 bt808.2.2.1 bt808.2.2.2.1 bt808.2.2.2.2).bind fun t829 => (laws_FnRequests.j1 kj2 l1 (!t829)))) else (laws_FnRequests.j1 kj2 l1 true)) else (laws_FnRequests.j1 kj2 l1 true)) else (laws_FnRequests.j1 kj2 l1 true)))))) = some r := by rw [if_neg (show ¬ (false = true) by decide)] at H;exact H
    clear H
    have H := H1
    clear H1
    replace H := Option.bind_eq_some_iff.mp H
    obtain ⟨⟨t808,t809,t810,t811,t812⟩,A60,H⟩ := H
    try dsimp only at H
    have A6 := am_ A60
    clear A60
    replace H := Option.bind_eq_some_iff.mp H
    obtain ⟨⟨t814,t817⟩,A70,H⟩ := H
    try dsimp only at H
    have A7 := am_ A70
    clear A70
    replace H := Option.bind_eq_some_iff.mp H
    obtain ⟨⟨t818,t821⟩,A80,H⟩ := H
    try dsimp only at H
    have A8 := am_ A80
    clear A80
    replace H := Option.bind_eq_some_iff.mp H
    obtain ⟨⟨t822,t823,t824,t825,t826,t827⟩,A90,H⟩ := H
    try dsimp only at H
    have A9 := am_ A90
    clear A90
    have HC10 := am_ H
    clear H
    go_upto_region 7 with (first | ((with_reducible refine gate_callee (f := 11) rfl ?_);refine zgl (some 34) Try.func11 #[.slice A0 l0.length c0] ?_;(with_reducible refine (spec_RequestOf.calls _ _ l0 t808 t809 t810 t811 t812 _ ?side1 ?side2 A6.out).mono ?_);(case side1 => repeat (first | exact (Kd.C_below HR0.out HB.out) | (with_reducible refine Kd.C_alloc ?_ _) | (with_reducible refine Kd.C_drewN ?_ _) | (with_reducible refine Kd.C_drew ?_)));(case side2 => exact HC0.out);rintro e w11 ⟨rfl,hb⟩;refine ⟨_,rfl,?_⟩;replace HB := zs_ HB hb;(try clear hb);(try clear hb2);(try clear hk);(try clear hi)) | ((with_reducible refine gate_dst (N := 5) rfl ?_);(try (refine gate_guard (by rfl) ?_;dsimp only));refine zbx (N := 5) (cs := #[.int .i64 0,.int .i64 0,.int .i64 0,.int .i64 0,.string ⟨#[]⟩]) (t := 33) ?_;intro gb813 hg w12 hbox hb;have BK813 := am_ (hbox);have GW813 := zw_ HB hg;have GE813 := zw_ HB hg;replace HB := zs_ HB hb;clear hb hbox hg;obtain ⟨hcz13_0,hcz13_1,hcz13_2,hcz13_3,hcz13_4,hfz13_0,hfz13_1,hfz13_2,hfz13_3,hfz13_4⟩ := zc5 BK813) | ((with_reducible refine gate_callee (f := 12) rfl ?_);refine zgl (some 37) Try.func12 #[.agg #[.int .i64 t808,.int .i64 t809,.int .i64 t810,.int .i64 t811,.string t812]] ?_;(with_reducible refine (impl_RequestBytes.calls kj2 t808 t809 t810 t811 t812 t814 t817 _ A7.out).mono ?_);rintro e w14 ⟨v815,rfl,ho0,hb⟩;refine ⟨_,rfl,?_⟩;have HO816 := am_ (Kd.V_lower (Kd.V_mono (ok' := fun k_ => k_ ≠ gb813) ho0 (fun k_ hk_ => (Kd.freshB (g := gb813) (o := .cells #[.int .i64 t808,.int .i64 t809,.int .i64 t810,.int .i64 t811,.string t812] 33 (0,0)) (zq BK813) k_ hk_))) (below_size (zl_ HB)));replace BK813 := am_ (blk_below (g := gb813) (o := .cells #[.int .i64 t808,.int .i64 t809,.int .i64 t810,.int .i64 t811,.string t812] 33 (0,0)) (zq BK813) hb);replace HB := zs_ HB hb;(try clear hb);(try clear hb2);(try clear hk);(try clear hi);(try clear ho0);obtain ⟨hcz15_0,hcz15_1,hcz15_2,hcz15_3,hcz15_4,hfz15_0,hfz15_1,hfz15_2,hfz15_3,hfz15_4⟩ := zc5 BK813) | ((with_reducible refine gate_callee (f := 13) rfl ?_);refine zgl (some 42) Try.func13 #[.agg #[.int .i64 t808,.int .i64 t809,.int .i64 t810,.int .i64 t811,.string t812]] ?_;(with_reducible refine (spec_RequestBytes.calls kj2 t808 t809 t810 t811 t812 t818 t821 _ A8.out).mono ?_);rintro e w16 ⟨v819,rfl,ho0,hb⟩;refine ⟨_,rfl,?_⟩;replace HO816 := am_ (Kd.V_elder' (by (with_reducible repeat (first | apply Kd.V_alloc | apply Kd.V_drewN | apply Kd.V_drew));exact HO816.out) (Kd.R_base ho0) hb);have HO820 := am_ (Kd.R_lower ho0 (below_size (zl_ HB)));replace BK813 := zb BK813 hb;replace HB := zs_ HB hb;(try clear hb);(try clear hb2);(try clear hk);(try clear hi);(try clear ho0);obtain ⟨Ao17,co17,eo17⟩ := Kd.V_slice HO816.out;subst eo17) | ((with_reducible refine gate_callee (f := 14) rfl ?_);refine zgl (some 47) Try.func14 #[.slice Ao17 t814.length co17] ?_;(with_reducible refine (impl_ReadRequest.calls kj2 _ _ t814 t822 t823 t824 t825 t826 t827 _ ?side1 ?side2 A9.out).mono ?_);(case side1 => repeat (first | exact (Kd.V_reads' HO816.out).2.2 | (with_reducible refine Kd.C_alloc ?_ _) | (with_reducible refine Kd.C_drewN ?_ _) | (with_reducible refine Kd.C_drew ?_)));(case side2 => exact (Kd.V_reads' HO816.out).2.1);rintro e w18 ⟨rfl,hb⟩;refine ⟨_,rfl,?_⟩;replace HO816 := am_ (Kd.V_below (by (with_reducible repeat (first | apply Kd.V_alloc | apply Kd.V_drewN | apply Kd.V_drew));exact HO816.out) hb);replace HO820 := zrb HO820 hb;replace BK813 := zb BK813 hb;replace HB := zs_ HB hb;(try clear hb);(try clear hb2);(try clear hk);(try clear hi)) | ((with_reducible refine gate_dst (N := 10) rfl ?_);(try (refine gate_guard (by rfl) ?_;dsimp only));refine zbx (N := 10) (cs := #[.int .i64 0,.int .i64 0,.int .i64 0,.int .i64 0,.string ⟨#[]⟩]) (t := 33) ?_;intro gb828 hg w19 hbox hb;replace HO816 := am_ (Kd.V_below (Kd.V_elderB (by (with_reducible repeat (first | apply Kd.V_alloc | apply Kd.V_drewN | apply Kd.V_drew));exact HO816.out) gb828 (Nat.le_of_eq hg.symm)) hb);replace HO820 := zrb HO820 hb;have BK828 := am_ (hbox);have GW828 := zw_ HB hg;have GE828 := zw_ HB hg;replace HB := zs_ HB hb;have NB813_828 := zl hg BK813;have NB828_813 := zg hg BK813;replace BK813 := zb BK813 hb;clear hb hbox hg;have hnb20 := NB828_813.out;have hnc20 := NB813_828.out;obtain ⟨hcz21_0,hcz21_1,hcz21_2,hcz21_3,hcz21_4,hfz21_0,hfz21_1,hfz21_2,hfz21_3,hfz21_4⟩ := zc5 BK828))
    (try simp only [Act.put,p1_,p2_,p3_])
    go_cut [72] (fun v72 wc => ∃ (kq : Nat) (x72_9 : Bool),v72 = .bool x72_9 ∧ Aside0 (laws_FnRequests.j1 kq l1 x72_9 = some r) ∧ Aside0 (kq ≤ kj2) ∧ Aside0 (wc.heap[gb813]? = some (.cells #[.int .i64 t808,.int .i64 t809,.int .i64 t810,.int .i64 t811,.string t812] 33 (0,0))) ∧ Aside0 (wc.heap[gb828]? = some (.cells #[.int .i64 t822,.int .i64 t823,.int .i64 t824,.int .i64 t825,.string t826] 33 (0,0))) ∧ Aside0 (Below w.heap.size w wc))
    case first =>
     have H := HC10.out
     clear HC10
     by_cases c22 : t817 = 0
     ·rw [if_pos c22] at H
      have c22b0 : (t817 == 0) = true := beq_iff_eq.mpr c22
      have c22b1 : (t817 != 0) = false := bne_eq_false_iff_eq.mpr c22
      clear c22
      (first | rw [c22b0] | (simp only [i64_w,i32_w];rw [c22b0]) | skip)
      by_cases c23 : (strOfNums t814).toList = (strOfNums t818).toList
      ·rw [if_pos c23] at H
       have c23b0 : ((strOfNums t814).toList == (strOfNums t818).toList) = true := beq_iff_eq.mpr c23
       have c23b1 : ((strOfNums t814).toList != (strOfNums t818).toList) = false := bne_eq_false_iff_eq.mpr c23
       clear c23
       by_cases c24 : t827 = 0
       ·rw [if_pos c24] at H
        have c24b0 : (t827 == 0) = true := beq_iff_eq.mpr c24
        have c24b1 : (t827 != 0) = false := bne_eq_false_iff_eq.mpr c24
        clear c24
        by_cases c25 : (!(t822 == t808) || (!(t823 == t809) || (!(t824 == t810) || (!(t825 == t811) || (!(t826.toList == t812.toList)))))) = true
        ·rw [if_pos c25] at H
         have c25k := am_ c25
         have c25b0 : (!(t822 == t808) || (!(t823 == t809) || (!(t824 == t810) || (!(t825 == t811) || (!(t826.toList == t812.toList)))))) = true := c25k.out
         (try simp only [*,Bool.not_true,Bool.not_false,Bool.false_or,Bool.true_or,Bool.or_false,Bool.or_true,Bool.true_and,Bool.and_true,Bool.false_and,Bool.and_false] at c25)
         have c25bs := c25
         clear c25k
         clear c25
         have H' := am_ H
         clear H
         have hcv26 := Kd.C_string (P := Try.prog) (A := Ao17) (c := co17) Try.underlying22 Try.underlying5 Try.underlying9 (Kd.V_reads' HO816.out).2.2
         (first | (have hcv26sgb813 := Kd.V_string_sb (P := Try.prog) (g := gb813) HO816.out (fun k hk => by first | exact hk.2 | exact hk.2.2 | exact hk.1.2 | exact hk.2.1 | exact hk.1.1.2 | exact hk.1.2.2 | exact hk.1.2.1) Try.underlying22 Try.underlying5 Try.underlying9) | skip)
         (first | (have hcv26sgb828 := Kd.V_string_sb (P := Try.prog) (g := gb828) HO816.out (fun k hk => by first | exact hk.2 | exact hk.2.2 | exact hk.1.2 | exact hk.2.1 | exact hk.1.1.2 | exact hk.1.2.2 | exact hk.1.2.1) Try.underlying22 Try.underlying5 Try.underlying9) | skip)
         have hcv27 := own_string (P := Try.prog) Try.underlying22 Try.underlying5 Try.underlying9 (Kd.own_of_R HO820.out)
         (first | (have hcv27sgb813 := Kd.R_string_sbv (P := Try.prog) (g := gb813) HO820.out (fun k hk => by first | exact hk.2 | exact hk.2.2 | exact hk.1.2 | exact hk.2.1 | exact hk.1.1.2 | exact hk.1.2.2 | exact hk.1.2.1) Try.underlying22 Try.underlying5 Try.underlying9) | (have hcv27sgb813 := Kd.R_string_sbv (P := Try.prog) (g := gb813) (Kd.R_types HO820.out BK813.out (by decide)) (fun k hk => hk.2) Try.underlying22 Try.underlying5 Try.underlying9) | skip)
         (first | (have hcv27sgb828 := Kd.R_string_sbv (P := Try.prog) (g := gb828) HO820.out (fun k hk => by first | exact hk.2 | exact hk.2.2 | exact hk.1.2 | exact hk.2.1 | exact hk.1.1.2 | exact hk.1.2.2 | exact hk.1.2.1) Try.underlying22 Try.underlying5 Try.underlying9) | (have hcv27sgb828 := Kd.R_string_sbv (P := Try.prog) (g := gb828) (Kd.R_types HO820.out BK828.out (by decide)) (fun k hk => hk.2) Try.underlying22 Try.underlying5 Try.underlying9) | skip)
         have hnb28 := NB828_813.out
         have hnc28 := NB813_828.out
         obtain ⟨hcz29_0,hcz29_1,hcz29_2,hcz29_3,hcz29_4,hfz29_0,hfz29_1,hfz29_2,hfz29_3,hfz29_4⟩ := zc5 BK828
         obtain ⟨hcz30_0,hcz30_1,hcz30_2,hcz30_3,hcz30_4,hfz30_0,hfz30_1,hfz30_2,hfz30_3,hfz30_4⟩ := zc5 BK813
         go_wp2
         go_meet
         case rel => exact ⟨_,(true),(by first | rfl | (simp;done) | (simp [*];done)),H',⟨by have := HJ2.out;first | omega | exact Nat.le_refl _⟩,⟨zq BK813⟩,⟨zq BK828⟩,⟨zl_ HB⟩⟩
        ·rw [if_neg c25] at H
         have c25k := am_ c25
         have c25b0 : (!(t822 == t808) || (!(t823 == t809) || (!(t824 == t810) || (!(t825 == t811) || (!(t826.toList == t812.toList)))))) = false := by simpa using c25k.out
         (try simp only [*,Bool.not_true,Bool.not_false,Bool.false_or,Bool.true_or,Bool.or_false,Bool.or_true,Bool.true_and,Bool.and_true,Bool.false_and,Bool.and_false] at c25)
         have c25bs := c25
         clear c25k
         clear c25
         replace H := Option.bind_eq_some_iff.mp H
         obtain ⟨t829,A310,H⟩ := H
         try dsimp only at H
         have A31 := am_ A310
         clear A310
         have H' := am_ H
         clear H
         have hcv32 := Kd.C_string (P := Try.prog) (A := Ao17) (c := co17) Try.underlying22 Try.underlying5 Try.underlying9 (Kd.V_reads' HO816.out).2.2
         (first | (have hcv32sgb813 := Kd.V_string_sb (P := Try.prog) (g := gb813) HO816.out (fun k hk => by first | exact hk.2 | exact hk.2.2 | exact hk.1.2 | exact hk.2.1 | exact hk.1.1.2 | exact hk.1.2.2 | exact hk.1.2.1) Try.underlying22 Try.underlying5 Try.underlying9) | skip)
         (first | (have hcv32sgb828 := Kd.V_string_sb (P := Try.prog) (g := gb828) HO816.out (fun k hk => by first | exact hk.2 | exact hk.2.2 | exact hk.1.2 | exact hk.2.1 | exact hk.1.1.2 | exact hk.1.2.2 | exact hk.1.2.1) Try.underlying22 Try.underlying5 Try.underlying9) | skip)
         have hcv33 := own_string (P := Try.prog) Try.underlying22 Try.underlying5 Try.underlying9 (Kd.own_of_R HO820.out)
         (first | (have hcv33sgb813 := Kd.R_string_sbv (P := Try.prog) (g := gb813) HO820.out (fun k hk => by first | exact hk.2 | exact hk.2.2 | exact hk.1.2 | exact hk.2.1 | exact hk.1.1.2 | exact hk.1.2.2 | exact hk.1.2.1) Try.underlying22 Try.underlying5 Try.underlying9) | (have hcv33sgb813 := Kd.R_string_sbv (P := Try.prog) (g := gb813) (Kd.R_types HO820.out BK813.out (by decide)) (fun k hk => hk.2) Try.underlying22 Try.underlying5 Try.underlying9) | skip)
         (first | (have hcv33sgb828 := Kd.R_string_sbv (P := Try.prog) (g := gb828) HO820.out (fun k hk => by first | exact hk.2 | exact hk.2.2 | exact hk.1.2 | exact hk.2.1 | exact hk.1.1.2 | exact hk.1.2.2 | exact hk.1.2.1) Try.underlying22 Try.underlying5 Try.underlying9) | (have hcv33sgb828 := Kd.R_string_sbv (P := Try.prog) (g := gb828) (Kd.R_types HO820.out BK828.out (by decide)) (fun k hk => hk.2) Try.underlying22 Try.underlying5 Try.underlying9) | skip)
         have hnb34 := NB828_813.out
         have hnc34 := NB813_828.out
         obtain ⟨hcz35_0,hcz35_1,hcz35_2,hcz35_3,hcz35_4,hfz35_0,hfz35_1,hfz35_2,hfz35_3,hfz35_4⟩ := zc5 BK828
         obtain ⟨hcz36_0,hcz36_1,hcz36_2,hcz36_3,hcz36_4,hfz36_0,hfz36_1,hfz36_2,hfz36_3,hfz36_4⟩ := zc5 BK813
         go_wp2_with (first | (go_at_call 15;(with_reducible refine (impl_RequestOK.calls kj2 t808 t809 t810 t811 t812 t829 _ A31.out).mono ?_);rintro e w37 ⟨rfl,hb⟩;replace BK813 := am_ (blk_below (g := gb813) (o := .cells #[.int .i64 t808,.int .i64 t809,.int .i64 t810,.int .i64 t811,.string t812] 33 (0,0)) (zq BK813) hb);replace BK828 := am_ (blk_below (g := gb828) (o := .cells #[.int .i64 t822,.int .i64 t823,.int .i64 t824,.int .i64 t825,.string t826] 33 (0,0)) (zq BK828) hb);replace HB := zs_ HB hb;(try clear hb);(try clear hb2);(try clear hk);(try clear hi)))
         go_meet
         case rel => exact ⟨_,(!t829),(by first | rfl | (simp;done) | (simp [*];done)),H',⟨by have := HJ2.out;first | omega | exact Nat.le_refl _⟩,⟨by (with_reducible repeat (first | apply k1_ | apply k2_ | apply k3_));exact BK813.out⟩,⟨by (with_reducible repeat (first | apply k1_ | apply k2_ | apply k3_));exact BK828.out⟩,⟨zl_ HB⟩⟩
       ·rw [if_neg c24] at H
        have c24b0 : (t827 == 0) = false := beq_eq_false_iff_ne.mpr c24
        have c24b1 : (t827 != 0) = true := bne_iff_ne.mpr c24
        have H' := am_ H
        clear H
        have hcv38 := Kd.C_string (P := Try.prog) (A := Ao17) (c := co17) Try.underlying22 Try.underlying5 Try.underlying9 (Kd.V_reads' HO816.out).2.2
        (first | (have hcv38sgb813 := Kd.V_string_sb (P := Try.prog) (g := gb813) HO816.out (fun k hk => by first | exact hk.2 | exact hk.2.2 | exact hk.1.2 | exact hk.2.1 | exact hk.1.1.2 | exact hk.1.2.2 | exact hk.1.2.1) Try.underlying22 Try.underlying5 Try.underlying9) | skip)
        (first | (have hcv38sgb828 := Kd.V_string_sb (P := Try.prog) (g := gb828) HO816.out (fun k hk => by first | exact hk.2 | exact hk.2.2 | exact hk.1.2 | exact hk.2.1 | exact hk.1.1.2 | exact hk.1.2.2 | exact hk.1.2.1) Try.underlying22 Try.underlying5 Try.underlying9) | skip)
        have hcv39 := own_string (P := Try.prog) Try.underlying22 Try.underlying5 Try.underlying9 (Kd.own_of_R HO820.out)
        (first | (have hcv39sgb813 := Kd.R_string_sbv (P := Try.prog) (g := gb813) HO820.out (fun k hk => by first | exact hk.2 | exact hk.2.2 | exact hk.1.2 | exact hk.2.1 | exact hk.1.1.2 | exact hk.1.2.2 | exact hk.1.2.1) Try.underlying22 Try.underlying5 Try.underlying9) | (have hcv39sgb813 := Kd.R_string_sbv (P := Try.prog) (g := gb813) (Kd.R_types HO820.out BK813.out (by decide)) (fun k hk => hk.2) Try.underlying22 Try.underlying5 Try.underlying9) | skip)
        (first | (have hcv39sgb828 := Kd.R_string_sbv (P := Try.prog) (g := gb828) HO820.out (fun k hk => by first | exact hk.2 | exact hk.2.2 | exact hk.1.2 | exact hk.2.1 | exact hk.1.1.2 | exact hk.1.2.2 | exact hk.1.2.1) Try.underlying22 Try.underlying5 Try.underlying9) | (have hcv39sgb828 := Kd.R_string_sbv (P := Try.prog) (g := gb828) (Kd.R_types HO820.out BK828.out (by decide)) (fun k hk => hk.2) Try.underlying22 Try.underlying5 Try.underlying9) | skip)
        go_wp2
        go_meet
        case rel => exact ⟨_,(true),(by first | rfl | (simp;done) | (simp [*];done)),H',⟨by have := HJ2.out;first | omega | exact Nat.le_refl _⟩,⟨zq BK813⟩,⟨zq BK828⟩,⟨zl_ HB⟩⟩
      ·rw [if_neg c23] at H
       have c23b0 : ((strOfNums t814).toList == (strOfNums t818).toList) = false := beq_eq_false_iff_ne.mpr c23
       have c23b1 : ((strOfNums t814).toList != (strOfNums t818).toList) = true := bne_iff_ne.mpr c23
       have H' := am_ H
       clear H
       have hcv40 := Kd.C_string (P := Try.prog) (A := Ao17) (c := co17) Try.underlying22 Try.underlying5 Try.underlying9 (Kd.V_reads' HO816.out).2.2
       (first | (have hcv40sgb813 := Kd.V_string_sb (P := Try.prog) (g := gb813) HO816.out (fun k hk => by first | exact hk.2 | exact hk.2.2 | exact hk.1.2 | exact hk.2.1 | exact hk.1.1.2 | exact hk.1.2.2 | exact hk.1.2.1) Try.underlying22 Try.underlying5 Try.underlying9) | skip)
       (first | (have hcv40sgb828 := Kd.V_string_sb (P := Try.prog) (g := gb828) HO816.out (fun k hk => by first | exact hk.2 | exact hk.2.2 | exact hk.1.2 | exact hk.2.1 | exact hk.1.1.2 | exact hk.1.2.2 | exact hk.1.2.1) Try.underlying22 Try.underlying5 Try.underlying9) | skip)
       have hcv41 := own_string (P := Try.prog) Try.underlying22 Try.underlying5 Try.underlying9 (Kd.own_of_R HO820.out)
       (first | (have hcv41sgb813 := Kd.R_string_sbv (P := Try.prog) (g := gb813) HO820.out (fun k hk => by first | exact hk.2 | exact hk.2.2 | exact hk.1.2 | exact hk.2.1 | exact hk.1.1.2 | exact hk.1.2.2 | exact hk.1.2.1) Try.underlying22 Try.underlying5 Try.underlying9) | (have hcv41sgb813 := Kd.R_string_sbv (P := Try.prog) (g := gb813) (Kd.R_types HO820.out BK813.out (by decide)) (fun k hk => hk.2) Try.underlying22 Try.underlying5 Try.underlying9) | skip)
       (first | (have hcv41sgb828 := Kd.R_string_sbv (P := Try.prog) (g := gb828) HO820.out (fun k hk => by first | exact hk.2 | exact hk.2.2 | exact hk.1.2 | exact hk.2.1 | exact hk.1.1.2 | exact hk.1.2.2 | exact hk.1.2.1) Try.underlying22 Try.underlying5 Try.underlying9) | (have hcv41sgb828 := Kd.R_string_sbv (P := Try.prog) (g := gb828) (Kd.R_types HO820.out BK828.out (by decide)) (fun k hk => hk.2) Try.underlying22 Try.underlying5 Try.underlying9) | skip)
       go_wp2
       go_meet
       case rel => exact ⟨_,(true),(by first | rfl | (simp;done) | (simp [*];done)),H',⟨by have := HJ2.out;first | omega | exact Nat.le_refl _⟩,⟨zq BK813⟩,⟨zq BK828⟩,⟨zl_ HB⟩⟩
     ·rw [if_neg c22] at H
      have c22b0 : (t817 == 0) = false := beq_eq_false_iff_ne.mpr c22
      have c22b1 : (t817 != 0) = true := bne_iff_ne.mpr c22
      (first | rw [c22b0] | (simp only [i64_w,i32_w];rw [c22b0]) | skip)
      have H' := am_ H
      clear H
      go_wp2
      go_meet
      case rel => exact ⟨_,(true),(by first | rfl | (simp;done) | (simp [*];done)),H',⟨by have := HJ2.out;first | omega | exact Nat.le_refl _⟩,⟨zq BK813⟩,⟨zq BK828⟩,⟨zl_ HB⟩⟩
    case rest =>
     clear HC10
     try clear c1
     try clear c2
     try clear p2
     try clear hcv2
     try clear c3
     try clear hcv3
     try clear c4
     try clear c4b0
     try clear c4b1
     try clear hcv4
     try clear c5
     try clear c11
     try clear c12
     try clear c13
     try clear c14
     try clear c20
     try clear c22
     try clear c22b0
     try clear c22b1
     try clear c23
     try clear c23b0
     try clear c23b1
     try clear c24
     try clear c24b0
     try clear c24b1
     try clear c25
     try clear c25b0
     try clear hcv26
     try clear hcv27
     try clear c28
     try clear hcv32
     try clear hcv33
     try clear c34
     try clear hcv38
     try clear hcv39
     try clear hcv40
     try clear hcv41
     try clear hcz13_0
     try clear hcz13_1
     try clear hcz13_2
     try clear hcz13_3
     try clear hcz13_4
     try clear hcz15_0
     try clear hcz15_1
     try clear hcz15_2
     try clear hcz15_3
     try clear hcz15_4
     try clear hcz21_0
     try clear hcz21_1
     try clear hcz21_2
     try clear hcz21_3
     try clear hcz21_4
     try clear hcz29_0
     try clear hcz29_1
     try clear hcz29_2
     try clear hcz29_3
     try clear hcz29_4
     try clear hcz30_0
     try clear hcz30_1
     try clear hcz30_2
     try clear hcz30_3
     try clear hcz30_4
     try clear hcz35_0
     try clear hcz35_1
     try clear hcz35_2
     try clear hcz35_3
     try clear hcz35_4
     try clear hcz36_0
     try clear hcz36_1
     try clear hcz36_2
     try clear hcz36_3
     try clear hcz36_4
     try clear hfz13_0
     try clear hfz13_1
     try clear hfz13_2
     try clear hfz13_3
     try clear hfz13_4
     try clear hfz15_0
     try clear hfz15_1
     try clear hfz15_2
     try clear hfz15_3
     try clear hfz15_4
     try clear hfz21_0
     try clear hfz21_1
     try clear hfz21_2
     try clear hfz21_3
     try clear hfz21_4
     try clear hfz29_0
     try clear hfz29_1
     try clear hfz29_2
     try clear hfz29_3
     try clear hfz29_4
     try clear hfz30_0
     try clear hfz30_1
     try clear hfz30_2
     try clear hfz30_3
     try clear hfz30_4
     try clear hfz35_0
     try clear hfz35_1
     try clear hfz35_2
     try clear hfz35_3
     try clear hfz35_4
     try clear hfz36_0
     try clear hfz36_1
     try clear hfz36_2
     try clear hfz36_3
     try clear hfz36_4
     try clear p2
     obtain ⟨kq,x72_9,rfl,HA,HJ9,BK813,BK828,HB⟩ := hcut
     cases kq with
     | zero => exact absurd HA.out (by simp [laws_FnRequests.j1])
     | succ kj9 =>
      have H := HA.out
      clear HA
      simp only [laws_FnRequests.j1] at H
      by_cases c42 : x72_9 = true
      ·subst c42
       have H1 : (some false) = some r := by rw [if_pos rfl] at H;exact H
       clear H
       have H := H1
       clear H1
       obtain rfl := Option.some.inj H
       go_wp2
       go_ret
       exact ⟨zt_,zl_ HB⟩
      ·replace c42 := Bool.eq_false_iff.mpr c42
       subst c42
       have H1 : ((spec_BatchOf.f kj9 l1).bind fun bt830 => ((impl_BatchBytes.f kj9 bt830.1 bt830.2.1 bt830.2.2.1 bt830.2.2.2.1 bt830.2.2.2.2.1 bt830.2.2.2.2.2.1 bt830.2.2.2.2.2.2).bind fun bt840 => ((spec_BatchBytes.f kj9 bt830.1 bt830.2.1 bt830.2.2.1 bt830.2.2.2.1 bt830.2.2.2.2.1 bt830.2.2.2.2.2.1 bt830.2.2.2.2.2.2).bind fun bt844 => ((impl_ReadBatch.f kj9 bt840.1).bind fun bt848 => (if bt840.2 = 0 then (if (strOfNums bt840.1).toList = (strOfNums bt844.1).toList then (if bt848.2.2.2.2.2.2.2 = 0 then ((laws_sameBatch.f kj9 bt848.1 bt848.2.1 bt848.2.2.1 bt848.2.2.2.1 bt848.2.2.2.2.1 bt848.2.2.2.2.2.1 bt848.2.2.2.2.2.2.1 bt830.1 bt830.2.1 bt830.2.2.1 bt830.2.2.2.1 bt830.2.2.2.2.1 bt830.2.2.2.2.2.1 bt830.2.2.2.2.2.2).bind fun t859 => (laws_FnRequests.j2 kj9 l1 (!t859))) else (laws_FnRequests.j2 kj9 l1 true)) else (laws_FnRequests.j2 kj9 l1 true)) else (laws_FnRequests.j2 kj9 l1 true)))))) = some r := by rw [if_neg (show ¬ (false = true) by decide)] at H;exact H
       clear H
       have H := H1
       clear H1
       replace H := Option.bind_eq_some_iff.mp H
       obtain ⟨⟨t830,t831,t832,t833,t834,t835,t836⟩,A430,H⟩ := H
       try dsimp only at H
       have A43 := am_ A430
       clear A430
       replace H := Option.bind_eq_some_iff.mp H
       obtain ⟨⟨t840,t843⟩,A440,H⟩ := H
       try dsimp only at H
       have A44 := am_ A440
       clear A440
       replace H := Option.bind_eq_some_iff.mp H
       obtain ⟨⟨t844,t847⟩,A450,H⟩ := H
       try dsimp only at H
       have A45 := am_ A450
       clear A450
       replace H := Option.bind_eq_some_iff.mp H
       obtain ⟨⟨t848,t849,t850,t851,t852,t853,t854,t857⟩,A460,H⟩ := H
       try dsimp only at H
       have A46 := am_ A460
       clear A460
       have HC47 := am_ H
       clear H
       go_upto_region 13 with (first | ((with_reducible refine gate_callee (f := 16) rfl ?_);refine zgl (some 74) Try.func16 #[.slice A1 l1.length c1] ?_;(with_reducible refine (spec_BatchOf.calls kj9 _ _ l1 t830 t831 t832 t833 t834 t835 t836 _ ?side1 ?side2 A43.out).mono ?_);(case side1 => repeat (first | exact (Kd.C_below HR1.out HB.out) | (with_reducible refine Kd.C_alloc ?_ _) | (with_reducible refine Kd.C_drewN ?_ _) | (with_reducible refine Kd.C_drew ?_)));(case side2 => exact HC1.out);rintro e w48 ⟨v837,rfl,ho0,hb⟩;refine ⟨_,rfl,?_⟩;have HO838 := am_ (Kd.R_lower ho0 (below_size (zl_ HB)));replace BK813 := zb BK813 hb;replace BK828 := zb BK828 hb;replace HB := zs_ HB hb;(try clear hb);(try clear hb2);(try clear hk);(try clear hi);(try clear ho0)) | ((with_reducible refine gate_dst (N := 12) rfl ?_);(try (refine gate_guard (by rfl) ?_;dsimp only));refine zbx (N := 12) (cs := #[.bool false,.int .i64 0,.int .i64 0,.int .i64 0,.int .i64 0,.string ⟨#[]⟩,.slice none 0 0]) (t := 41) ?_;intro gb839 hg w49 hbox hb;replace HO838 := zrb HO838 hb;have BK839 := am_ (hbox);have GW839 := zw_ HB hg;have GE839 := zw_ HB hg;replace HB := zs_ HB hb;have NB813_839 := zl hg BK813;have NB839_813 := zg hg BK813;replace BK813 := zb BK813 hb;have NB828_839 := zl hg BK828;have NB839_828 := zg hg BK828;replace BK828 := zb BK828 hb;clear hb hbox hg;have hnb50 := NB839_813.out;have hnc50 := NB813_839.out;have hnb51 := NB839_828.out;have hnc51 := NB828_839.out;obtain ⟨hcz52_0,hcz52_1,hcz52_2,hcz52_3,hcz52_4,hcz52_5,hcz52_6,hfz52_0,hfz52_1,hfz52_2,hfz52_3,hfz52_4,hfz52_5,hfz52_6⟩ := zc7 BK839;obtain ⟨Ao53,co53,eo53⟩ := Kd.R_slice HO838.out;subst eo53) | ((with_reducible refine gate_callee (f := 17) rfl ?_);refine zgl (some 77) Try.func17 #[.agg #[.bool t830,.int .i64 t831,.int .i64 t832,.int .i64 t833,.int .i64 t834,.string t835,.slice Ao53 t836.length co53]] ?_;(with_reducible refine (impl_BatchBytes.calls kj9 t830 t831 t832 t833 t834 t835 _ _ t836 t840 t843 _ ?side1 ?side2 A44.out).mono ?_);(case side1 => refine (Kd.R_reads' (e := 70) (base := w.heap.size) (ok := fun k_ => True) (n := t836.length) (c := co53) ?_).2.2;exact (by (with_reducible repeat (first | apply r1_ | apply r2_ | apply r3_));exact (Kd.R_mono (zrf (Kd.R_types HO838.out BK839.out (by decide))) (fun _ h_ => h_.1))));(case side2 => exact (Kd.R_reads' HO838.out).2.1);rintro e w54 ⟨v841,rfl,ho0,hb⟩;refine ⟨_,rfl,?_⟩;have HO842 := am_ (Kd.V_lower (Kd.V_mono (ok' := fun k_ => some k_ ≠ (.slice Ao53 t836.length co53 : Value).ownBlock ∧ k_ ≠ gb813 ∧ k_ ≠ gb828 ∧ k_ ≠ gb839) ho0 (fun k_ hk_ => ⟨(Kd.fresh' (Kd.R_lt (by (with_reducible repeat (first | apply r1_ | apply r2_ | apply r3_));exact (Kd.R_mono (zrf (Kd.R_types HO838.out BK839.out (by decide))) (fun _ h_ => h_.1)))) k_ hk_),(Kd.freshB (g := gb813) (o := .cells #[.int .i64 t808,.int .i64 t809,.int .i64 t810,.int .i64 t811,.string t812] 33 (0,0)) (zq BK813) k_ hk_),(Kd.freshB (g := gb828) (o := .cells #[.int .i64 t822,.int .i64 t823,.int .i64 t824,.int .i64 t825,.string t826] 33 (0,0)) (zq BK828) k_ hk_),(Kd.freshB (g := gb839) (o := .cells #[.bool t830,.int .i64 t831,.int .i64 t832,.int .i64 t833,.int .i64 t834,.string t835,.slice Ao53 t836.length co53] 41 (0,0)) (zq BK839) k_ hk_)⟩)) (below_size (zl_ HB)));replace HO838 := am_ (Kd.R_below (by (with_reducible repeat (first | apply r1_ | apply r2_ | apply r3_));exact (Kd.R_mono (zrf (Kd.R_types HO838.out BK839.out (by decide))) (fun _ h_ => h_.1))) hb);replace BK813 := am_ (blk_below (g := gb813) (o := .cells #[.int .i64 t808,.int .i64 t809,.int .i64 t810,.int .i64 t811,.string t812] 33 (0,0)) (zq BK813) hb);replace BK828 := am_ (blk_below (g := gb828) (o := .cells #[.int .i64 t822,.int .i64 t823,.int .i64 t824,.int .i64 t825,.string t826] 33 (0,0)) (zq BK828) hb);replace BK839 := am_ (blk_below (g := gb839) (o := .cells #[.bool t830,.int .i64 t831,.int .i64 t832,.int .i64 t833,.int .i64 t834,.string t835,.slice Ao53 t836.length co53] 41 (0,0)) (zq BK839) hb);replace HB := zs_ HB hb;(try clear hb);(try clear hb2);(try clear hk);(try clear hi);(try clear ho0);obtain ⟨hcz55_0,hcz55_1,hcz55_2,hcz55_3,hcz55_4,hcz55_5,hcz55_6,hfz55_0,hfz55_1,hfz55_2,hfz55_3,hfz55_4,hfz55_5,hfz55_6⟩ := zc7 BK839) | ((with_reducible refine gate_callee (f := 18) rfl ?_);refine zgl (some 82) Try.func18 #[.agg #[.bool t830,.int .i64 t831,.int .i64 t832,.int .i64 t833,.int .i64 t834,.string t835,.slice Ao53 t836.length co53]] ?_;(with_reducible refine (spec_BatchBytes.calls kj9 t830 t831 t832 t833 t834 t835 _ _ t836 t844 t847 _ ?side1 ?side2 A45.out).mono ?_);(case side1 => repeat (first | exact (Kd.R_reads' HO838.out).2.2 | (with_reducible refine Kd.C_alloc ?_ _) | (with_reducible refine Kd.C_drewN ?_ _) | (with_reducible refine Kd.C_drew ?_)));(case side2 => exact (Kd.R_reads' HO838.out).2.1);rintro e w56 ⟨v845,rfl,ho0,hb⟩;refine ⟨_,rfl,?_⟩;replace HO838 := zrb HO838 hb;replace HO842 := am_ (Kd.V_elder' (by (with_reducible repeat (first | apply Kd.V_alloc | apply Kd.V_drewN | apply Kd.V_drew));exact HO842.out) (Kd.R_base ho0) hb);have HO846 := am_ (Kd.R_lower ho0 (below_size (zl_ HB)));replace BK813 := zb BK813 hb;replace BK828 := zb BK828 hb;replace BK839 := zb BK839 hb;replace HB := zs_ HB hb;(try clear hb);(try clear hb2);(try clear hk);(try clear hi);(try clear ho0);obtain ⟨Ao57,co57,eo57⟩ := Kd.V_slice HO842.out;subst eo57) | ((with_reducible refine gate_callee (f := 19) rfl ?_);refine zgl (some 87) Try.func19 #[.slice Ao57 t840.length co57] ?_;(with_reducible refine (impl_ReadBatch.calls kj9 _ _ t840 t848 t849 t850 t851 t852 t853 t854 t857 _ ?side1 ?side2 A46.out).mono ?_);(case side1 => repeat (first | exact (Kd.V_reads' HO842.out).2.2 | (with_reducible refine Kd.C_alloc ?_ _) | (with_reducible refine Kd.C_drewN ?_ _) | (with_reducible refine Kd.C_drew ?_)));(case side2 => exact (Kd.V_reads' HO842.out).2.1);rintro e w58 ⟨v855,rfl,ho0,hb⟩;refine ⟨_,rfl,?_⟩;replace HO842 := am_ (Kd.V_elder' (by (with_reducible repeat (first | apply Kd.V_alloc | apply Kd.V_drewN | apply Kd.V_drew));exact HO842.out) (Kd.R_base ho0) hb);replace HO846 := zrb HO846 hb;have HO856 := am_ (Kd.R_lower (Kd.R_new' ho0 (Kd.R_lt (zr HO838))) (below_size (zl_ HB)));replace HO838 := am_ (Kd.R_elder' (zr HO838) (Kd.R_base ho0) hb);replace BK813 := zb BK813 hb;replace BK828 := zb BK828 hb;replace BK839 := zb BK839 hb;replace HB := zs_ HB hb;(try clear hb);(try clear hb2);(try clear hk);(try clear hi);(try clear ho0)) | ((with_reducible refine gate_dst (N := 17) rfl ?_);(try (refine gate_guard (by rfl) ?_;dsimp only));refine zbx (N := 17) (cs := #[.bool false,.int .i64 0,.int .i64 0,.int .i64 0,.int .i64 0,.string ⟨#[]⟩,.slice none 0 0]) (t := 41) ?_;intro gb858 hg w59 hbox hb;replace HO838 := zrb HO838 hb;replace HO842 := am_ (Kd.V_below (Kd.V_elderB (by (with_reducible repeat (first | apply Kd.V_alloc | apply Kd.V_drewN | apply Kd.V_drew));exact HO842.out) gb858 (Nat.le_of_eq hg.symm)) hb);replace HO846 := zrb HO846 hb;replace HO856 := zrb HO856 hb;have BK858 := am_ (hbox);have GW858 := zw_ HB hg;have GE858 := zw_ HB hg;replace HB := zs_ HB hb;have NB813_858 := zl hg BK813;have NB858_813 := zg hg BK813;replace BK813 := zb BK813 hb;have NB828_858 := zl hg BK828;have NB858_828 := zg hg BK828;replace BK828 := zb BK828 hb;have NB839_858 := zl hg BK839;have NB858_839 := zg hg BK839;replace BK839 := zb BK839 hb;clear hb hbox hg;have hnb60 := NB858_813.out;have hnc60 := NB813_858.out;have hnb61 := NB858_828.out;have hnc61 := NB828_858.out;have hnb62 := NB858_839.out;have hnc62 := NB839_858.out;obtain ⟨hcz63_0,hcz63_1,hcz63_2,hcz63_3,hcz63_4,hcz63_5,hcz63_6,hfz63_0,hfz63_1,hfz63_2,hfz63_3,hfz63_4,hfz63_5,hfz63_6⟩ := zc7 BK858;obtain ⟨Ao64,co64,eo64⟩ := Kd.R_slice HO856.out;subst eo64))
       (try simp only [Act.put,p1_,p2_,p3_])
       go_cut [108] (fun v108 wc => ∃ (kq : Nat) (x108_46 : Bool),v108 = .bool x108_46 ∧ Aside0 (laws_FnRequests.j2 kq l1 x108_46 = some r) ∧ Aside0 (kq ≤ kj9) ∧ Aside0 (Kd.R k70 70 wc w.heap.size (fun k_ => some k_ ≠ ((.slice Ao64 t854.length co64) : Value).ownBlock) (.slice Ao53 t836.length co53) t836) ∧ Aside0 (Kd.R k70 70 wc w.heap.size (fun k_ => some k_ ≠ ((.slice Ao53 t836.length co53) : Value).ownBlock) (.slice Ao64 t854.length co64) t854) ∧ Aside0 (wc.heap[gb813]? = some (.cells #[.int .i64 t808,.int .i64 t809,.int .i64 t810,.int .i64 t811,.string t812] 33 (0,0))) ∧ Aside0 (wc.heap[gb828]? = some (.cells #[.int .i64 t822,.int .i64 t823,.int .i64 t824,.int .i64 t825,.string t826] 33 (0,0))) ∧ Aside0 (wc.heap[gb839]? = some (.cells #[.bool t830,.int .i64 t831,.int .i64 t832,.int .i64 t833,.int .i64 t834,.string t835,(.slice Ao53 t836.length co53)] 41 (0,0))) ∧ Aside0 (wc.heap[gb858]? = some (.cells #[.bool t848,.int .i64 t849,.int .i64 t850,.int .i64 t851,.int .i64 t852,.string t853,(.slice Ao64 t854.length co64)] 41 (0,0))) ∧ Aside0 (Below w.heap.size w wc))
       case first =>
        have H := HC47.out
        clear HC47
        by_cases c65 : t843 = 0
        ·rw [if_pos c65] at H
         have c65b0 : (t843 == 0) = true := beq_iff_eq.mpr c65
         have c65b1 : (t843 != 0) = false := bne_eq_false_iff_eq.mpr c65
         clear c65
         (first | rw [c65b0] | (simp only [i64_w,i32_w];rw [c65b0]) | skip)
         by_cases c66 : (strOfNums t840).toList = (strOfNums t844).toList
         ·rw [if_pos c66] at H
          have c66b0 : ((strOfNums t840).toList == (strOfNums t844).toList) = true := beq_iff_eq.mpr c66
          have c66b1 : ((strOfNums t840).toList != (strOfNums t844).toList) = false := bne_eq_false_iff_eq.mpr c66
          clear c66
          by_cases c67 : t857 = 0
          ·rw [if_pos c67] at H
           have c67b0 : (t857 == 0) = true := beq_iff_eq.mpr c67
           have c67b1 : (t857 != 0) = false := bne_eq_false_iff_eq.mpr c67
           clear c67
           replace H := Option.bind_eq_some_iff.mp H
           obtain ⟨t859,A680,H⟩ := H
           try dsimp only at H
           have A68 := am_ A680
           clear A680
           have H' := am_ H
           clear H
           have hcv69 := Kd.C_string (P := Try.prog) (A := Ao57) (c := co57) Try.underlying22 Try.underlying5 Try.underlying9 (Kd.V_reads' HO842.out).2.2
           (first | (have hcv69sgb828 := Kd.V_string_sb (P := Try.prog) (g := gb828) HO842.out (fun k hk => by first | exact hk.2 | exact hk.2.2 | exact hk.1.2 | exact hk.2.1 | exact hk.1.1.2 | exact hk.1.2.2 | exact hk.1.2.1) Try.underlying22 Try.underlying5 Try.underlying9) | skip)
           (first | (have hcv69sgb839 := Kd.V_string_sb (P := Try.prog) (g := gb839) HO842.out (fun k hk => by first | exact hk.2 | exact hk.2.2 | exact hk.1.2 | exact hk.2.1 | exact hk.1.1.2 | exact hk.1.2.2 | exact hk.1.2.1) Try.underlying22 Try.underlying5 Try.underlying9) | skip)
           (first | (have hcv69sgb858 := Kd.V_string_sb (P := Try.prog) (g := gb858) HO842.out (fun k hk => by first | exact hk.2 | exact hk.2.2 | exact hk.1.2 | exact hk.2.1 | exact hk.1.1.2 | exact hk.1.2.2 | exact hk.1.2.1) Try.underlying22 Try.underlying5 Try.underlying9) | skip)
           have hcv70 := own_string (P := Try.prog) Try.underlying22 Try.underlying5 Try.underlying9 (Kd.own_of_R HO846.out)
           (first | (have hcv70sgb828 := Kd.R_string_sbv (P := Try.prog) (g := gb828) HO846.out (fun k hk => by first | exact hk.2 | exact hk.2.2 | exact hk.1.2 | exact hk.2.1 | exact hk.1.1.2 | exact hk.1.2.2 | exact hk.1.2.1) Try.underlying22 Try.underlying5 Try.underlying9) | (have hcv70sgb828 := Kd.R_string_sbv (P := Try.prog) (g := gb828) (Kd.R_types HO846.out BK828.out (by decide)) (fun k hk => hk.2) Try.underlying22 Try.underlying5 Try.underlying9) | skip)
           (first | (have hcv70sgb839 := Kd.R_string_sbv (P := Try.prog) (g := gb839) HO846.out (fun k hk => by first | exact hk.2 | exact hk.2.2 | exact hk.1.2 | exact hk.2.1 | exact hk.1.1.2 | exact hk.1.2.2 | exact hk.1.2.1) Try.underlying22 Try.underlying5 Try.underlying9) | (have hcv70sgb839 := Kd.R_string_sbv (P := Try.prog) (g := gb839) (Kd.R_types HO846.out BK839.out (by decide)) (fun k hk => hk.2) Try.underlying22 Try.underlying5 Try.underlying9) | skip)
           (first | (have hcv70sgb858 := Kd.R_string_sbv (P := Try.prog) (g := gb858) HO846.out (fun k hk => by first | exact hk.2 | exact hk.2.2 | exact hk.1.2 | exact hk.2.1 | exact hk.1.1.2 | exact hk.1.2.2 | exact hk.1.2.1) Try.underlying22 Try.underlying5 Try.underlying9) | (have hcv70sgb858 := Kd.R_string_sbv (P := Try.prog) (g := gb858) (Kd.R_types HO846.out BK858.out (by decide)) (fun k hk => hk.2) Try.underlying22 Try.underlying5 Try.underlying9) | skip)
           have hnb71 := NB858_813.out
           have hnc71 := NB813_858.out
           have hnb72 := NB858_828.out
           have hnc72 := NB828_858.out
           have hnb73 := NB858_839.out
           have hnc73 := NB839_858.out
           obtain ⟨hcz74_0,hcz74_1,hcz74_2,hcz74_3,hcz74_4,hcz74_5,hcz74_6,hfz74_0,hfz74_1,hfz74_2,hfz74_3,hfz74_4,hfz74_5,hfz74_6⟩ := zc7 BK858
           have hnb75 := NB839_813.out
           have hnc75 := NB813_839.out
           have hnb76 := NB839_828.out
           have hnc76 := NB828_839.out
           obtain ⟨hcz77_0,hcz77_1,hcz77_2,hcz77_3,hcz77_4,hcz77_5,hcz77_6,hfz77_0,hfz77_1,hfz77_2,hfz77_3,hfz77_4,hfz77_5,hfz77_6⟩ := zc7 BK839
           go_wp2_with (first | (go_at_call 20;(with_reducible refine (laws_sameBatch.calls kj9 t848 t849 t850 t851 t852 t853 _ _ t854 t830 t831 t832 t833 t834 t835 _ _ t836 t859 _ ?side1 ?side2 ?side3 ?side4 A68.out).mono ?_);(case side1 => refine (Kd.R_reads' (e := 70) (base := w.heap.size) (ok := fun k_ => (True ∧ some k_ ≠ (.slice Ao53 t836.length co53 : Value).ownBlock)) (n := t854.length) (c := co64) ?_).2.2;exact (by (with_reducible repeat (first | apply r1_ | apply r2_ | apply r3_));exact (Kd.R_mono (zrf (Kd.R_types HO856.out BK858.out (by decide))) (fun _ h_ => h_.1))));(case side2 => exact (Kd.R_reads' HO856.out).2.1);(case side3 => refine (Kd.R_reads' (e := 70) (base := w.heap.size) (ok := fun k_ => (True ∧ some k_ ≠ (.slice Ao64 t854.length co64 : Value).ownBlock)) (n := t836.length) (c := co53) ?_).2.2;exact (by (with_reducible repeat (first | apply r1_ | apply r2_ | apply r3_));exact (Kd.R_mono (zrf (Kd.R_types HO838.out BK858.out (by decide))) (fun _ h_ => h_.1))));(case side4 => exact (Kd.R_reads' HO838.out).2.1);rintro e w78 ⟨rfl,hb⟩;replace HO838 := am_ (Kd.R_below (by (with_reducible repeat (first | apply r1_ | apply r2_ | apply r3_));exact (Kd.R_mono (zrf (Kd.R_types HO838.out BK858.out (by decide))) (fun _ h_ => h_.1))) hb);replace HO842 := am_ (Kd.V_below (by (with_reducible repeat (first | apply Kd.V_alloc | apply Kd.V_drewN | apply Kd.V_drew));exact (Kd.V_mono (Kd.V_far (p := ⟨gb858,6,none⟩) (Kd.V_far (p := ⟨gb858,5,none⟩) (Kd.V_far (p := ⟨gb858,4,none⟩) (Kd.V_far (p := ⟨gb858,3,none⟩) (Kd.V_far (p := ⟨gb858,2,none⟩) (Kd.V_far (p := ⟨gb858,1,none⟩) (Kd.V_far (p := ⟨gb858,0,none⟩) (Kd.V_mono HO842.out (fun k_ hk => (⟨hk,hk.2⟩ : _ ∧ k_ ≠ gb858))) (fun _ hk => hk.2) (.bool t848)) (fun _ hk => hk.2) (.int .i64 t849)) (fun _ hk => hk.2) (.int .i64 t850)) (fun _ hk => hk.2) (.int .i64 t851)) (fun _ hk => hk.2) (.int .i64 t852)) (fun _ hk => hk.2) (.string t853)) (fun _ hk => hk.2) (.slice Ao64 t854.length co64)) (fun _ h_ => h_.1))) hb);replace HO846 := am_ (Kd.R_below (by (with_reducible repeat (first | apply r1_ | apply r2_ | apply r3_));exact (Kd.R_mono (zrf (Kd.R_types HO846.out BK858.out (by decide))) (fun _ h_ => h_.1))) hb);replace HO856 := am_ (Kd.R_below (by (with_reducible repeat (first | apply r1_ | apply r2_ | apply r3_));exact (Kd.R_mono (zrf (Kd.R_types HO856.out BK858.out (by decide))) (fun _ h_ => h_.1))) hb);replace BK813 := am_ (blk_below (g := gb813) (o := .cells #[.int .i64 t808,.int .i64 t809,.int .i64 t810,.int .i64 t811,.string t812] 33 (0,0)) (zq BK813) hb);replace BK828 := am_ (blk_below (g := gb828) (o := .cells #[.int .i64 t822,.int .i64 t823,.int .i64 t824,.int .i64 t825,.string t826] 33 (0,0)) (zq BK828) hb);replace BK839 := am_ (blk_below (g := gb839) (o := .cells #[.bool t830,.int .i64 t831,.int .i64 t832,.int .i64 t833,.int .i64 t834,.string t835,.slice Ao53 t836.length co53] 41 (0,0)) (zq BK839) hb);replace BK858 := am_ (blk_below (g := gb858) (o := .cells #[.bool t848,.int .i64 t849,.int .i64 t850,.int .i64 t851,.int .i64 t852,.string t853,.slice Ao64 t854.length co64] 41 (0,0)) (zq BK858) hb);replace HB := zs_ HB hb;(try clear hb);(try clear hb2);(try clear hk);(try clear hi)))
           go_meet
           case rel => exact ⟨_,(!t859),(by first | rfl | (simp;done) | (simp [*];done)),H',⟨by have := HJ2.out;have := HJ9.out;first | omega | exact Nat.le_refl _⟩,⟨by (with_reducible repeat (first | apply r1_ | apply r2_ | apply r3_));exact Kd.R_mono HO838.out (fun _ hk => hk.2)⟩,⟨by (with_reducible repeat (first | apply r1_ | apply r2_ | apply r3_));exact Kd.R_mono HO856.out (fun _ hk => hk.2)⟩,⟨by (with_reducible repeat (first | apply k1_ | apply k2_ | apply k3_));exact BK813.out⟩,⟨by (with_reducible repeat (first | apply k1_ | apply k2_ | apply k3_));exact BK828.out⟩,⟨by (with_reducible repeat (first | apply k1_ | apply k2_ | apply k3_));exact BK839.out⟩,⟨by (with_reducible repeat (first | apply k1_ | apply k2_ | apply k3_));exact BK858.out⟩,⟨zl_ HB⟩⟩
          ·rw [if_neg c67] at H
           have c67b0 : (t857 == 0) = false := beq_eq_false_iff_ne.mpr c67
           have c67b1 : (t857 != 0) = true := bne_iff_ne.mpr c67
           have H' := am_ H
           clear H
           have hcv79 := Kd.C_string (P := Try.prog) (A := Ao57) (c := co57) Try.underlying22 Try.underlying5 Try.underlying9 (Kd.V_reads' HO842.out).2.2
           (first | (have hcv79sgb828 := Kd.V_string_sb (P := Try.prog) (g := gb828) HO842.out (fun k hk => by first | exact hk.2 | exact hk.2.2 | exact hk.1.2 | exact hk.2.1 | exact hk.1.1.2 | exact hk.1.2.2 | exact hk.1.2.1) Try.underlying22 Try.underlying5 Try.underlying9) | skip)
           (first | (have hcv79sgb839 := Kd.V_string_sb (P := Try.prog) (g := gb839) HO842.out (fun k hk => by first | exact hk.2 | exact hk.2.2 | exact hk.1.2 | exact hk.2.1 | exact hk.1.1.2 | exact hk.1.2.2 | exact hk.1.2.1) Try.underlying22 Try.underlying5 Try.underlying9) | skip)
           (first | (have hcv79sgb858 := Kd.V_string_sb (P := Try.prog) (g := gb858) HO842.out (fun k hk => by first | exact hk.2 | exact hk.2.2 | exact hk.1.2 | exact hk.2.1 | exact hk.1.1.2 | exact hk.1.2.2 | exact hk.1.2.1) Try.underlying22 Try.underlying5 Try.underlying9) | skip)
           have hcv80 := own_string (P := Try.prog) Try.underlying22 Try.underlying5 Try.underlying9 (Kd.own_of_R HO846.out)
           (first | (have hcv80sgb828 := Kd.R_string_sbv (P := Try.prog) (g := gb828) HO846.out (fun k hk => by first | exact hk.2 | exact hk.2.2 | exact hk.1.2 | exact hk.2.1 | exact hk.1.1.2 | exact hk.1.2.2 | exact hk.1.2.1) Try.underlying22 Try.underlying5 Try.underlying9) | (have hcv80sgb828 := Kd.R_string_sbv (P := Try.prog) (g := gb828) (Kd.R_types HO846.out BK828.out (by decide)) (fun k hk => hk.2) Try.underlying22 Try.underlying5 Try.underlying9) | skip)
           (first | (have hcv80sgb839 := Kd.R_string_sbv (P := Try.prog) (g := gb839) HO846.out (fun k hk => by first | exact hk.2 | exact hk.2.2 | exact hk.1.2 | exact hk.2.1 | exact hk.1.1.2 | exact hk.1.2.2 | exact hk.1.2.1) Try.underlying22 Try.underlying5 Try.underlying9) | (have hcv80sgb839 := Kd.R_string_sbv (P := Try.prog) (g := gb839) (Kd.R_types HO846.out BK839.out (by decide)) (fun k hk => hk.2) Try.underlying22 Try.underlying5 Try.underlying9) | skip)
           (first | (have hcv80sgb858 := Kd.R_string_sbv (P := Try.prog) (g := gb858) HO846.out (fun k hk => by first | exact hk.2 | exact hk.2.2 | exact hk.1.2 | exact hk.2.1 | exact hk.1.1.2 | exact hk.1.2.2 | exact hk.1.2.1) Try.underlying22 Try.underlying5 Try.underlying9) | (have hcv80sgb858 := Kd.R_string_sbv (P := Try.prog) (g := gb858) (Kd.R_types HO846.out BK858.out (by decide)) (fun k hk => hk.2) Try.underlying22 Try.underlying5 Try.underlying9) | skip)
           go_wp2
           go_meet
           case rel => exact ⟨_,(true),(by first | rfl | (simp;done) | (simp [*];done)),H',⟨by have := HJ2.out;have := HJ9.out;first | omega | exact Nat.le_refl _⟩,⟨by (with_reducible repeat (first | apply r1_ | apply r2_ | apply r3_));exact Kd.R_mono (zrf (Kd.R_types HO838.out BK858.out (by decide))) (fun _ hk => hk.1.2)⟩,⟨by (with_reducible repeat (first | apply r1_ | apply r2_ | apply r3_));exact Kd.R_mono (zrf (Kd.R_types HO856.out BK858.out (by decide))) (fun _ hk => hk.1.2)⟩,⟨zq BK813⟩,⟨zq BK828⟩,⟨zq BK839⟩,⟨zq BK858⟩,⟨zl_ HB⟩⟩
         ·rw [if_neg c66] at H
          have c66b0 : ((strOfNums t840).toList == (strOfNums t844).toList) = false := beq_eq_false_iff_ne.mpr c66
          have c66b1 : ((strOfNums t840).toList != (strOfNums t844).toList) = true := bne_iff_ne.mpr c66
          have H' := am_ H
          clear H
          have hcv81 := Kd.C_string (P := Try.prog) (A := Ao57) (c := co57) Try.underlying22 Try.underlying5 Try.underlying9 (Kd.V_reads' HO842.out).2.2
          (first | (have hcv81sgb828 := Kd.V_string_sb (P := Try.prog) (g := gb828) HO842.out (fun k hk => by first | exact hk.2 | exact hk.2.2 | exact hk.1.2 | exact hk.2.1 | exact hk.1.1.2 | exact hk.1.2.2 | exact hk.1.2.1) Try.underlying22 Try.underlying5 Try.underlying9) | skip)
          (first | (have hcv81sgb839 := Kd.V_string_sb (P := Try.prog) (g := gb839) HO842.out (fun k hk => by first | exact hk.2 | exact hk.2.2 | exact hk.1.2 | exact hk.2.1 | exact hk.1.1.2 | exact hk.1.2.2 | exact hk.1.2.1) Try.underlying22 Try.underlying5 Try.underlying9) | skip)
          (first | (have hcv81sgb858 := Kd.V_string_sb (P := Try.prog) (g := gb858) HO842.out (fun k hk => by first | exact hk.2 | exact hk.2.2 | exact hk.1.2 | exact hk.2.1 | exact hk.1.1.2 | exact hk.1.2.2 | exact hk.1.2.1) Try.underlying22 Try.underlying5 Try.underlying9) | skip)
          have hcv82 := own_string (P := Try.prog) Try.underlying22 Try.underlying5 Try.underlying9 (Kd.own_of_R HO846.out)
          (first | (have hcv82sgb828 := Kd.R_string_sbv (P := Try.prog) (g := gb828) HO846.out (fun k hk => by first | exact hk.2 | exact hk.2.2 | exact hk.1.2 | exact hk.2.1 | exact hk.1.1.2 | exact hk.1.2.2 | exact hk.1.2.1) Try.underlying22 Try.underlying5 Try.underlying9) | (have hcv82sgb828 := Kd.R_string_sbv (P := Try.prog) (g := gb828) (Kd.R_types HO846.out BK828.out (by decide)) (fun k hk => hk.2) Try.underlying22 Try.underlying5 Try.underlying9) | skip)
          (first | (have hcv82sgb839 := Kd.R_string_sbv (P := Try.prog) (g := gb839) HO846.out (fun k hk => by first | exact hk.2 | exact hk.2.2 | exact hk.1.2 | exact hk.2.1 | exact hk.1.1.2 | exact hk.1.2.2 | exact hk.1.2.1) Try.underlying22 Try.underlying5 Try.underlying9) | (have hcv82sgb839 := Kd.R_string_sbv (P := Try.prog) (g := gb839) (Kd.R_types HO846.out BK839.out (by decide)) (fun k hk => hk.2) Try.underlying22 Try.underlying5 Try.underlying9) | skip)
          (first | (have hcv82sgb858 := Kd.R_string_sbv (P := Try.prog) (g := gb858) HO846.out (fun k hk => by first | exact hk.2 | exact hk.2.2 | exact hk.1.2 | exact hk.2.1 | exact hk.1.1.2 | exact hk.1.2.2 | exact hk.1.2.1) Try.underlying22 Try.underlying5 Try.underlying9) | (have hcv82sgb858 := Kd.R_string_sbv (P := Try.prog) (g := gb858) (Kd.R_types HO846.out BK858.out (by decide)) (fun k hk => hk.2) Try.underlying22 Try.underlying5 Try.underlying9) | skip)
          go_wp2
          go_meet
          case rel => exact ⟨_,(true),(by first | rfl | (simp;done) | (simp [*];done)),H',⟨by have := HJ2.out;have := HJ9.out;first | omega | exact Nat.le_refl _⟩,⟨by (with_reducible repeat (first | apply r1_ | apply r2_ | apply r3_));exact Kd.R_mono (zrf (Kd.R_types HO838.out BK858.out (by decide))) (fun _ hk => hk.1.2)⟩,⟨by (with_reducible repeat (first | apply r1_ | apply r2_ | apply r3_));exact Kd.R_mono (zrf (Kd.R_types HO856.out BK858.out (by decide))) (fun _ hk => hk.1.2)⟩,⟨zq BK813⟩,⟨zq BK828⟩,⟨zq BK839⟩,⟨zq BK858⟩,⟨zl_ HB⟩⟩
        ·rw [if_neg c65] at H
         have c65b0 : (t843 == 0) = false := beq_eq_false_iff_ne.mpr c65
         have c65b1 : (t843 != 0) = true := bne_iff_ne.mpr c65
         (first | rw [c65b0] | (simp only [i64_w,i32_w];rw [c65b0]) | skip)
         have H' := am_ H
         clear H
         go_wp2
         go_meet
         case rel => exact ⟨_,(true),(by first | rfl | (simp;done) | (simp [*];done)),H',⟨by have := HJ2.out;have := HJ9.out;first | omega | exact Nat.le_refl _⟩,⟨by (with_reducible repeat (first | apply r1_ | apply r2_ | apply r3_));exact Kd.R_mono (zrf (Kd.R_types HO838.out BK858.out (by decide))) (fun _ hk => hk.1.2)⟩,⟨by (with_reducible repeat (first | apply r1_ | apply r2_ | apply r3_));exact Kd.R_mono (zrf (Kd.R_types HO856.out BK858.out (by decide))) (fun _ hk => hk.1.2)⟩,⟨zq BK813⟩,⟨zq BK828⟩,⟨zq BK839⟩,⟨zq BK858⟩,⟨zl_ HB⟩⟩
       case rest =>
        clear HC47
        try clear c1
        try clear c2
        try clear p2
        try clear hcv2
        try clear c3
        try clear hcv3
        try clear c4
        try clear c4b0
        try clear c4b1
        try clear hcv4
        try clear c5
        try clear c6
        try clear hcv6
        try clear c7
        try clear hcv7
        try clear hcv8
        try clear c11
        try clear c12
        try clear c13
        try clear c14
        try clear c16
        try clear c17
        try clear c18
        try clear c19
        try clear c20
        try clear c22
        try clear c22b0
        try clear c22b1
        try clear c23
        try clear c23b0
        try clear c23b1
        try clear c24
        try clear c24b0
        try clear c24b1
        try clear c25
        try clear c25b0
        try clear hcv26
        try clear hcv27
        try clear c28
        try clear hcv32
        try clear hcv33
        try clear c34
        try clear hcv38
        try clear hcv39
        try clear hcv40
        try clear hcv41
        try clear c42
        try clear c50
        try clear c51
        try clear c60
        try clear c61
        try clear c62
        try clear c65
        try clear c65b0
        try clear c65b1
        try clear c66
        try clear c66b0
        try clear c66b1
        try clear c67
        try clear c67b0
        try clear c67b1
        try clear hcv69
        try clear hcv70
        try clear c71
        try clear c72
        try clear c73
        try clear c75
        try clear c76
        try clear hcv79
        try clear hcv80
        try clear hcv81
        try clear hcv82
        try clear hcz13_0
        try clear hcz13_1
        try clear hcz13_2
        try clear hcz13_3
        try clear hcz13_4
        try clear hcz15_0
        try clear hcz15_1
        try clear hcz15_2
        try clear hcz15_3
        try clear hcz15_4
        try clear hcz21_0
        try clear hcz21_1
        try clear hcz21_2
        try clear hcz21_3
        try clear hcz21_4
        try clear hcz29_0
        try clear hcz29_1
        try clear hcz29_2
        try clear hcz29_3
        try clear hcz29_4
        try clear hcz30_0
        try clear hcz30_1
        try clear hcz30_2
        try clear hcz30_3
        try clear hcz30_4
        try clear hcz35_0
        try clear hcz35_1
        try clear hcz35_2
        try clear hcz35_3
        try clear hcz35_4
        try clear hcz36_0
        try clear hcz36_1
        try clear hcz36_2
        try clear hcz36_3
        try clear hcz36_4
        try clear hcz52_0
        try clear hcz52_1
        try clear hcz52_2
        try clear hcz52_3
        try clear hcz52_4
        try clear hcz52_5
        try clear hcz52_6
        try clear hcz55_0
        try clear hcz55_1
        try clear hcz55_2
        try clear hcz55_3
        try clear hcz55_4
        try clear hcz55_5
        try clear hcz55_6
        try clear hcz63_0
        try clear hcz63_1
        try clear hcz63_2
        try clear hcz63_3
        try clear hcz63_4
        try clear hcz63_5
        try clear hcz63_6
        try clear hcz74_0
        try clear hcz74_1
        try clear hcz74_2
        try clear hcz74_3
        try clear hcz74_4
        try clear hcz74_5
        try clear hcz74_6
        try clear hcz77_0
        try clear hcz77_1
        try clear hcz77_2
        try clear hcz77_3
        try clear hcz77_4
        try clear hcz77_5
        try clear hcz77_6
        try clear hfz13_0
        try clear hfz13_1
        try clear hfz13_2
        try clear hfz13_3
        try clear hfz13_4
        try clear hfz15_0
        try clear hfz15_1
        try clear hfz15_2
        try clear hfz15_3
        try clear hfz15_4
        try clear hfz21_0
        try clear hfz21_1
        try clear hfz21_2
        try clear hfz21_3
        try clear hfz21_4
        try clear hfz29_0
        try clear hfz29_1
        try clear hfz29_2
        try clear hfz29_3
        try clear hfz29_4
        try clear hfz30_0
        try clear hfz30_1
        try clear hfz30_2
        try clear hfz30_3
        try clear hfz30_4
        try clear hfz35_0
        try clear hfz35_1
        try clear hfz35_2
        try clear hfz35_3
        try clear hfz35_4
        try clear hfz36_0
        try clear hfz36_1
        try clear hfz36_2
        try clear hfz36_3
        try clear hfz36_4
        try clear hfz52_0
        try clear hfz52_1
        try clear hfz52_2
        try clear hfz52_3
        try clear hfz52_4
        try clear hfz52_5
        try clear hfz52_6
        try clear hfz55_0
        try clear hfz55_1
        try clear hfz55_2
        try clear hfz55_3
        try clear hfz55_4
        try clear hfz55_5
        try clear hfz55_6
        try clear hfz63_0
        try clear hfz63_1
        try clear hfz63_2
        try clear hfz63_3
        try clear hfz63_4
        try clear hfz63_5
        try clear hfz63_6
        try clear hfz74_0
        try clear hfz74_1
        try clear hfz74_2
        try clear hfz74_3
        try clear hfz74_4
        try clear hfz74_5
        try clear hfz74_6
        try clear hfz77_0
        try clear hfz77_1
        try clear hfz77_2
        try clear hfz77_3
        try clear hfz77_4
        try clear hfz77_5
        try clear hfz77_6
        try clear p2
        obtain ⟨kq,x108_46,rfl,HA,HJ46,HO_840006,HO_859006,BK813,BK828,BK839,BK858,HB⟩ := hcut
        cases kq with
        | zero => exact absurd HA.out (by simp [laws_FnRequests.j2])
        | succ kj46 =>
         have H := HA.out
         clear HA
         simp only [laws_FnRequests.j2] at H
         by_cases c83 : x108_46 = true
         ·subst c83
          have H1 : (some false) = some r := by rw [if_pos rfl] at H;exact H
          clear H
          have H := H1
          clear H1
          obtain rfl := Option.some.inj H
          go_wp2
          go_ret
          exact ⟨zt_,zl_ HB⟩
         ·replace c83 := Bool.eq_false_iff.mpr c83
          subst c83
          have H1 : ((impl_ReadBatch.f kj46 l1).bind fun bt860 => ((spec_ReadBatch.f kj46 l1).bind fun bt871 => (if bt860.2.2.2.2.2.2.2 = bt871.2.2.2.2.2.2.2 then (if bt860.2.2.2.2.2.2.2 = 0 then ((impl_BatchBytes.f kj46 bt860.1 bt860.2.1 bt860.2.2.1 bt860.2.2.2.1 bt860.2.2.2.2.1 bt860.2.2.2.2.2.1 bt860.2.2.2.2.2.2.1).bind fun bt882 => (if bt882.2 = 0 then (some ((strOfNums bt882.1).toList == (strOfNums l1).toList)) else (some false))) else (some true)) else (some false)))) = some r := by rw [if_neg (show ¬ (false = true) by decide)] at H;exact H
          clear H
          have H := H1
          clear H1
          replace H := Option.bind_eq_some_iff.mp H
          obtain ⟨⟨t860,t861,t862,t863,t864,t865,t866,t869⟩,A840,H⟩ := H
          try dsimp only at H
          have A84 := am_ A840
          clear A840
          replace H := Option.bind_eq_some_iff.mp H
          obtain ⟨⟨t871,t872,t873,t874,t875,t876,t877,t880⟩,A850,H⟩ := H
          try dsimp only at H
          have A85 := am_ A850
          clear A850
          by_cases c86 : t869 = t880
          ·rw [if_pos c86] at H
           have c86b0 : (t869 == t880) = true := beq_iff_eq.mpr c86
           have c86b1 : (t869 != t880) = false := bne_eq_false_iff_eq.mpr c86
           clear c86
           by_cases c87 : t869 = 0
           ·rw [if_pos c87] at H
            have c87b0 : (t869 == 0) = true := beq_iff_eq.mpr c87
            have c87b1 : (t869 != 0) = false := bne_eq_false_iff_eq.mpr c87
            clear c87
            replace H := Option.bind_eq_some_iff.mp H
            obtain ⟨⟨t882,t885⟩,A880,H⟩ := H
            try dsimp only at H
            have A88 := am_ A880
            clear A880
            by_cases c89 : t885 = 0
            ·rw [if_pos c89] at H
             have c89b0 : (t885 == 0) = true := beq_iff_eq.mpr c89
             have c89b1 : (t885 != 0) = false := bne_eq_false_iff_eq.mpr c89
             clear c89
             obtain rfl := Option.some.inj H
             go_wp2_with (first | ((with_reducible refine gate_callee (f := 19) rfl ?_);refine zgl (some 111) Try.func19 #[.slice A1 l1.length c1] ?_;(with_reducible refine (impl_ReadBatch.calls kj46 _ _ l1 t860 t861 t862 t863 t864 t865 t866 t869 _ ?side1 ?side2 A84.out).mono ?_);(case side1 => repeat (first | exact (Kd.C_below HR1.out HB.out) | (with_reducible refine Kd.C_alloc ?_ _) | (with_reducible refine Kd.C_drewN ?_ _) | (with_reducible refine Kd.C_drew ?_)));(case side2 => exact HC1.out);rintro e w90 ⟨v867,rfl,ho0,hb⟩;refine ⟨_,rfl,?_⟩;have HO868 := am_ (Kd.R_lower (Kd.R_new' (Kd.R_new' ho0 (Kd.R_lt (zr HO_840006))) (Kd.R_lt (zr HO_859006))) (below_size (zl_ HB)));replace HO_840006 := am_ (Kd.R_elder' (zr HO_840006) (Kd.R_base ho0) hb);replace HO_859006 := am_ (Kd.R_elder' (zr HO_859006) (Kd.R_base ho0) hb);replace BK813 := zb BK813 hb;replace BK828 := zb BK828 hb;replace BK839 := zb BK839 hb;replace BK858 := zb BK858 hb;replace HB := zs_ HB hb;(try clear hb);(try clear hb2);(try clear hk);(try clear hi);(try clear ho0)) | ((with_reducible refine gate_dst (N := 19) rfl ?_);(try (refine gate_guard (by rfl) ?_;dsimp only));refine zbx (N := 19) (cs := #[.bool false,.int .i64 0,.int .i64 0,.int .i64 0,.int .i64 0,.string ⟨#[]⟩,.slice none 0 0]) (t := 41) ?_;intro gb870 hg w91 hbox hb;replace HO_840006 := zrb HO_840006 hb;replace HO_859006 := zrb HO_859006 hb;replace HO868 := zrb HO868 hb;have BK870 := am_ (hbox);have GW870 := zw_ HB hg;have GE870 := zw_ HB hg;replace HB := zs_ HB hb;have NB813_870 := zl hg BK813;have NB870_813 := zg hg BK813;replace BK813 := zb BK813 hb;have NB828_870 := zl hg BK828;have NB870_828 := zg hg BK828;replace BK828 := zb BK828 hb;have NB839_870 := zl hg BK839;have NB870_839 := zg hg BK839;replace BK839 := zb BK839 hb;have NB858_870 := zl hg BK858;have NB870_858 := zg hg BK858;replace BK858 := zb BK858 hb;clear hb hbox hg;have hnb92 := NB870_813.out;have hnc92 := NB813_870.out;have hnb93 := NB870_828.out;have hnc93 := NB828_870.out;have hnb94 := NB870_839.out;have hnc94 := NB839_870.out;have hnb95 := NB870_858.out;have hnc95 := NB858_870.out;obtain ⟨hcz96_0,hcz96_1,hcz96_2,hcz96_3,hcz96_4,hcz96_5,hcz96_6,hfz96_0,hfz96_1,hfz96_2,hfz96_3,hfz96_4,hfz96_5,hfz96_6⟩ := zc7 BK870;obtain ⟨Ao97,co97,eo97⟩ := Kd.R_slice HO868.out;subst eo97) | ((with_reducible refine gate_callee (f := 21) rfl ?_);refine zgl (some 116) Try.func21 #[.slice A1 l1.length c1] ?_;(with_reducible refine (spec_ReadBatch.calls kj46 _ _ l1 t871 t872 t873 t874 t875 t876 t877 t880 _ ?side1 ?side2 A85.out).mono ?_);(case side1 => exact Kd.C_below HR1.out (zl_ HB));(case side2 => exact HC1.out);rintro e w98 ⟨v878,rfl,ho0,hb⟩;refine ⟨_,rfl,?_⟩;have HO879 := am_ (Kd.R_lower (Kd.R_new' (Kd.R_new' (Kd.R_new' ho0 (Kd.R_lt (by (with_reducible repeat (first | apply r1_ | apply r2_ | apply r3_));exact (Kd.R_mono (zrf (Kd.R_types HO_840006.out BK870.out (by decide))) (fun _ h_ => h_.1))))) (Kd.R_lt (by (with_reducible repeat (first | apply r1_ | apply r2_ | apply r3_));exact (Kd.R_mono (zrf (Kd.R_types HO_859006.out BK870.out (by decide))) (fun _ h_ => h_.1))))) (Kd.R_lt (by (with_reducible repeat (first | apply r1_ | apply r2_ | apply r3_));exact (Kd.R_mono (zrf (Kd.R_types HO868.out BK870.out (by decide))) (fun _ h_ => h_.1))))) (below_size (zl_ HB)));replace HO_840006 := am_ (Kd.R_elder' (by (with_reducible repeat (first | apply r1_ | apply r2_ | apply r3_));exact (Kd.R_mono (zrf (Kd.R_types HO_840006.out BK870.out (by decide))) (fun _ h_ => h_.1))) (Kd.R_base ho0) hb);replace HO_859006 := am_ (Kd.R_elder' (by (with_reducible repeat (first | apply r1_ | apply r2_ | apply r3_));exact (Kd.R_mono (zrf (Kd.R_types HO_859006.out BK870.out (by decide))) (fun _ h_ => h_.1))) (Kd.R_base ho0) hb);replace HO868 := am_ (Kd.R_elder' (by (with_reducible repeat (first | apply r1_ | apply r2_ | apply r3_));exact (Kd.R_mono (zrf (Kd.R_types HO868.out BK870.out (by decide))) (fun _ h_ => h_.1))) (Kd.R_base ho0) hb);replace BK813 := am_ (blk_below (g := gb813) (o := .cells #[.int .i64 t808,.int .i64 t809,.int .i64 t810,.int .i64 t811,.string t812] 33 (0,0)) (zq BK813) hb);replace BK828 := am_ (blk_below (g := gb828) (o := .cells #[.int .i64 t822,.int .i64 t823,.int .i64 t824,.int .i64 t825,.string t826] 33 (0,0)) (zq BK828) hb);replace BK839 := am_ (blk_below (g := gb839) (o := .cells #[.bool t830,.int .i64 t831,.int .i64 t832,.int .i64 t833,.int .i64 t834,.string t835,.slice Ao53 t836.length co53] 41 (0,0)) (zq BK839) hb);replace BK858 := am_ (blk_below (g := gb858) (o := .cells #[.bool t848,.int .i64 t849,.int .i64 t850,.int .i64 t851,.int .i64 t852,.string t853,.slice Ao64 t854.length co64] 41 (0,0)) (zq BK858) hb);replace BK870 := am_ (blk_below (g := gb870) (o := .cells #[.bool t860,.int .i64 t861,.int .i64 t862,.int .i64 t863,.int .i64 t864,.string t865,.slice Ao97 t866.length co97] 41 (0,0)) (zq BK870) hb);replace HB := zs_ HB hb;(try clear hb);(try clear hb2);(try clear hk);(try clear hi);(try clear ho0)) | ((with_reducible refine gate_dst (N := 21) rfl ?_);(try (refine gate_guard (by rfl) ?_;dsimp only));refine zbx (N := 21) (cs := #[.bool false,.int .i64 0,.int .i64 0,.int .i64 0,.int .i64 0,.string ⟨#[]⟩,.slice none 0 0]) (t := 41) ?_;intro gb881 hg w99 hbox hb;replace HO_840006 := zrb HO_840006 hb;replace HO_859006 := zrb HO_859006 hb;replace HO868 := zrb HO868 hb;replace HO879 := zrb HO879 hb;have BK881 := am_ (hbox);have GW881 := zw_ HB hg;have GE881 := zw_ HB hg;replace HB := zs_ HB hb;have NB813_881 := zl hg BK813;have NB881_813 := zg hg BK813;replace BK813 := zb BK813 hb;have NB828_881 := zl hg BK828;have NB881_828 := zg hg BK828;replace BK828 := zb BK828 hb;have NB839_881 := zl hg BK839;have NB881_839 := zg hg BK839;replace BK839 := zb BK839 hb;have NB858_881 := zl hg BK858;have NB881_858 := zg hg BK858;replace BK858 := zb BK858 hb;have NB870_881 := zl hg BK870;have NB881_870 := zg hg BK870;replace BK870 := zb BK870 hb;clear hb hbox hg;have hnb100 := NB881_813.out;have hnc100 := NB813_881.out;have hnb101 := NB881_828.out;have hnc101 := NB828_881.out;have hnb102 := NB881_839.out;have hnc102 := NB839_881.out;have hnb103 := NB881_858.out;have hnc103 := NB858_881.out;have hnb104 := NB881_870.out;have hnc104 := NB870_881.out;obtain ⟨hcz105_0,hcz105_1,hcz105_2,hcz105_3,hcz105_4,hcz105_5,hcz105_6,hfz105_0,hfz105_1,hfz105_2,hfz105_3,hfz105_4,hfz105_5,hfz105_6⟩ := zc7 BK881;obtain ⟨Ao106,co106,eo106⟩ := Kd.R_slice HO879.out;subst eo106;obtain ⟨hcz107_0,hcz107_1,hcz107_2,hcz107_3,hcz107_4,hcz107_5,hcz107_6,hfz107_0,hfz107_1,hfz107_2,hfz107_3,hfz107_4,hfz107_5,hfz107_6⟩ := zc7 BK870) | ((with_reducible refine gate_callee (f := 17) rfl ?_);refine zgl (some 126) Try.func17 #[.agg #[.bool t860,.int .i64 t861,.int .i64 t862,.int .i64 t863,.int .i64 t864,.string t865,.slice Ao97 t866.length co97]] ?_;(with_reducible refine (impl_BatchBytes.calls kj46 t860 t861 t862 t863 t864 t865 _ _ t866 t882 t885 _ ?side1 ?side2 A88.out).mono ?_);(case side1 => refine (Kd.R_reads' (e := 70) (base := w.heap.size) (ok := fun k_ => (((True ∧ some k_ ≠ (.slice Ao53 t836.length co53 : Value).ownBlock) ∧ some k_ ≠ (.slice Ao64 t854.length co64 : Value).ownBlock) ∧ some k_ ≠ (.slice Ao106 t877.length co106 : Value).ownBlock)) (n := t866.length) (c := co97) ?_).2.2;exact (by (with_reducible repeat (first | apply r1_ | apply r2_ | apply r3_));exact (Kd.R_mono (zrf (Kd.R_types HO868.out BK881.out (by decide))) (fun _ h_ => h_.1))));(case side2 => exact (Kd.R_reads' HO868.out).2.1);rintro e w108 ⟨v883,rfl,ho0,hb⟩;refine ⟨_,rfl,?_⟩;have HO884 := am_ (Kd.V_lower (Kd.V_mono (ok' := fun k_ => some k_ ≠ (.slice Ao53 t836.length co53 : Value).ownBlock ∧ some k_ ≠ (.slice Ao64 t854.length co64 : Value).ownBlock ∧ some k_ ≠ (.slice Ao97 t866.length co97 : Value).ownBlock ∧ some k_ ≠ (.slice Ao106 t877.length co106 : Value).ownBlock ∧ k_ ≠ gb813 ∧ k_ ≠ gb828 ∧ k_ ≠ gb839 ∧ k_ ≠ gb858 ∧ k_ ≠ gb870 ∧ k_ ≠ gb881) ho0 (fun k_ hk_ => ⟨(Kd.fresh' (Kd.R_lt (by (with_reducible repeat (first | apply r1_ | apply r2_ | apply r3_));exact (Kd.R_mono (zrf (Kd.R_types HO_840006.out BK881.out (by decide))) (fun _ h_ => h_.1)))) k_ hk_),(Kd.fresh' (Kd.R_lt (by (with_reducible repeat (first | apply r1_ | apply r2_ | apply r3_));exact (Kd.R_mono (zrf (Kd.R_types HO_859006.out BK881.out (by decide))) (fun _ h_ => h_.1)))) k_ hk_),(Kd.fresh' (Kd.R_lt (by (with_reducible repeat (first | apply r1_ | apply r2_ | apply r3_));exact (Kd.R_mono (zrf (Kd.R_types HO868.out BK881.out (by decide))) (fun _ h_ => h_.1)))) k_ hk_),(Kd.fresh' (Kd.R_lt (by (with_reducible repeat (first | apply r1_ | apply r2_ | apply r3_));exact (Kd.R_mono (zrf (Kd.R_types HO879.out BK881.out (by decide))) (fun _ h_ => h_.1)))) k_ hk_),(Kd.freshB (g := gb813) (o := .cells #[.int .i64 t808,.int .i64 t809,.int .i64 t810,.int .i64 t811,.string t812] 33 (0,0)) (zq BK813) k_ hk_),(Kd.freshB (g := gb828) (o := .cells #[.int .i64 t822,.int .i64 t823,.int .i64 t824,.int .i64 t825,.string t826] 33 (0,0)) (zq BK828) k_ hk_),(Kd.freshB (g := gb839) (o := .cells #[.bool t830,.int .i64 t831,.int .i64 t832,.int .i64 t833,.int .i64 t834,.string t835,.slice Ao53 t836.length co53] 41 (0,0)) (zq BK839) k_ hk_),(Kd.freshB (g := gb858) (o := .cells #[.bool t848,.int .i64 t849,.int .i64 t850,.int .i64 t851,.int .i64 t852,.string t853,.slice Ao64 t854.length co64] 41 (0,0)) (zq BK858) k_ hk_),(Kd.freshB (g := gb870) (o := .cells #[.bool t860,.int .i64 t861,.int .i64 t862,.int .i64 t863,.int .i64 t864,.string t865,.slice Ao97 t866.length co97] 41 (0,0)) (zq BK870) k_ hk_),(Kd.freshB (g := gb881) (o := .cells #[.bool t871,.int .i64 t872,.int .i64 t873,.int .i64 t874,.int .i64 t875,.string t876,.slice Ao106 t877.length co106] 41 (0,0)) (zq BK881) k_ hk_)⟩)) (below_size (zl_ HB)));replace HO_840006 := am_ (Kd.R_below (by (with_reducible repeat (first | apply r1_ | apply r2_ | apply r3_));exact (Kd.R_mono (zrf (Kd.R_types HO_840006.out BK881.out (by decide))) (fun _ h_ => h_.1))) hb);replace HO_859006 := am_ (Kd.R_below (by (with_reducible repeat (first | apply r1_ | apply r2_ | apply r3_));exact (Kd.R_mono (zrf (Kd.R_types HO_859006.out BK881.out (by decide))) (fun _ h_ => h_.1))) hb);replace HO868 := am_ (Kd.R_below (by (with_reducible repeat (first | apply r1_ | apply r2_ | apply r3_));exact (Kd.R_mono (zrf (Kd.R_types HO868.out BK881.out (by decide))) (fun _ h_ => h_.1))) hb);replace HO879 := am_ (Kd.R_below (by (with_reducible repeat (first | apply r1_ | apply r2_ | apply r3_));exact (Kd.R_mono (zrf (Kd.R_types HO879.out BK881.out (by decide))) (fun _ h_ => h_.1))) hb);replace BK813 := am_ (blk_below (g := gb813) (o := .cells #[.int .i64 t808,.int .i64 t809,.int .i64 t810,.int .i64 t811,.string t812] 33 (0,0)) (zq BK813) hb);replace BK828 := am_ (blk_below (g := gb828) (o := .cells #[.int .i64 t822,.int .i64 t823,.int .i64 t824,.int .i64 t825,.string t826] 33 (0,0)) (zq BK828) hb);replace BK839 := am_ (blk_below (g := gb839) (o := .cells #[.bool t830,.int .i64 t831,.int .i64 t832,.int .i64 t833,.int .i64 t834,.string t835,.slice Ao53 t836.length co53] 41 (0,0)) (zq BK839) hb);replace BK858 := am_ (blk_below (g := gb858) (o := .cells #[.bool t848,.int .i64 t849,.int .i64 t850,.int .i64 t851,.int .i64 t852,.string t853,.slice Ao64 t854.length co64] 41 (0,0)) (zq BK858) hb);replace BK870 := am_ (blk_below (g := gb870) (o := .cells #[.bool t860,.int .i64 t861,.int .i64 t862,.int .i64 t863,.int .i64 t864,.string t865,.slice Ao97 t866.length co97] 41 (0,0)) (zq BK870) hb);replace BK881 := am_ (blk_below (g := gb881) (o := .cells #[.bool t871,.int .i64 t872,.int .i64 t873,.int .i64 t874,.int .i64 t875,.string t876,.slice Ao106 t877.length co106] 41 (0,0)) (zq BK881) hb);replace HB := zs_ HB hb;(try clear hb);(try clear hb2);(try clear hk);(try clear hi);(try clear ho0);obtain ⟨Ao109,co109,eo109⟩ := Kd.V_slice HO884.out;subst eo109;have hcv110 := Kd.C_string (P := Try.prog) (A := Ao109) (c := co109) Try.underlying22 Try.underlying5 Try.underlying9 (Kd.V_reads' HO884.out).2.2;have hcv111 := Kd.C_string (P := Try.prog) (A := A1) (c := c1) Try.underlying22 Try.underlying5 Try.underlying9 (Kd.C_below HR1.out HB.out)))
             go_ret
             exact ⟨zt_,zl_ HB⟩
            ·rw [if_neg c89] at H
             have c89b0 : (t885 == 0) = false := beq_eq_false_iff_ne.mpr c89
             have c89b1 : (t885 != 0) = true := bne_iff_ne.mpr c89
             obtain rfl := Option.some.inj H
             go_wp2_with (first | ((with_reducible refine gate_callee (f := 19) rfl ?_);refine zgl (some 111) Try.func19 #[.slice A1 l1.length c1] ?_;(with_reducible refine (impl_ReadBatch.calls kj46 _ _ l1 t860 t861 t862 t863 t864 t865 t866 t869 _ ?side1 ?side2 A84.out).mono ?_);(case side1 => repeat (first | exact (Kd.C_below HR1.out HB.out) | (with_reducible refine Kd.C_alloc ?_ _) | (with_reducible refine Kd.C_drewN ?_ _) | (with_reducible refine Kd.C_drew ?_)));(case side2 => exact HC1.out);rintro e w112 ⟨v867,rfl,ho0,hb⟩;refine ⟨_,rfl,?_⟩;have HO868 := am_ (Kd.R_lower (Kd.R_new' (Kd.R_new' ho0 (Kd.R_lt (zr HO_840006))) (Kd.R_lt (zr HO_859006))) (below_size (zl_ HB)));replace HO_840006 := am_ (Kd.R_elder' (zr HO_840006) (Kd.R_base ho0) hb);replace HO_859006 := am_ (Kd.R_elder' (zr HO_859006) (Kd.R_base ho0) hb);replace BK813 := zb BK813 hb;replace BK828 := zb BK828 hb;replace BK839 := zb BK839 hb;replace BK858 := zb BK858 hb;replace HB := zs_ HB hb;(try clear hb);(try clear hb2);(try clear hk);(try clear hi);(try clear ho0)) | ((with_reducible refine gate_dst (N := 19) rfl ?_);(try (refine gate_guard (by rfl) ?_;dsimp only));refine zbx (N := 19) (cs := #[.bool false,.int .i64 0,.int .i64 0,.int .i64 0,.int .i64 0,.string ⟨#[]⟩,.slice none 0 0]) (t := 41) ?_;intro gb870 hg w113 hbox hb;replace HO_840006 := zrb HO_840006 hb;replace HO_859006 := zrb HO_859006 hb;replace HO868 := zrb HO868 hb;have BK870 := am_ (hbox);have GW870 := zw_ HB hg;have GE870 := zw_ HB hg;replace HB := zs_ HB hb;have NB813_870 := zl hg BK813;have NB870_813 := zg hg BK813;replace BK813 := zb BK813 hb;have NB828_870 := zl hg BK828;have NB870_828 := zg hg BK828;replace BK828 := zb BK828 hb;have NB839_870 := zl hg BK839;have NB870_839 := zg hg BK839;replace BK839 := zb BK839 hb;have NB858_870 := zl hg BK858;have NB870_858 := zg hg BK858;replace BK858 := zb BK858 hb;clear hb hbox hg;have hnb114 := NB870_813.out;have hnc114 := NB813_870.out;have hnb115 := NB870_828.out;have hnc115 := NB828_870.out;have hnb116 := NB870_839.out;have hnc116 := NB839_870.out;have hnb117 := NB870_858.out;have hnc117 := NB858_870.out;obtain ⟨hcz118_0,hcz118_1,hcz118_2,hcz118_3,hcz118_4,hcz118_5,hcz118_6,hfz118_0,hfz118_1,hfz118_2,hfz118_3,hfz118_4,hfz118_5,hfz118_6⟩ := zc7 BK870;obtain ⟨Ao119,co119,eo119⟩ := Kd.R_slice HO868.out;subst eo119) | ((with_reducible refine gate_callee (f := 21) rfl ?_);refine zgl (some 116) Try.func21 #[.slice A1 l1.length c1] ?_;(with_reducible refine (spec_ReadBatch.calls kj46 _ _ l1 t871 t872 t873 t874 t875 t876 t877 t880 _ ?side1 ?side2 A85.out).mono ?_);(case side1 => exact Kd.C_below HR1.out (zl_ HB));(case side2 => exact HC1.out);rintro e w120 ⟨v878,rfl,ho0,hb⟩;refine ⟨_,rfl,?_⟩;have HO879 := am_ (Kd.R_lower (Kd.R_new' (Kd.R_new' (Kd.R_new' ho0 (Kd.R_lt (by (with_reducible repeat (first | apply r1_ | apply r2_ | apply r3_));exact (Kd.R_mono (zrf (Kd.R_types HO_840006.out BK870.out (by decide))) (fun _ h_ => h_.1))))) (Kd.R_lt (by (with_reducible repeat (first | apply r1_ | apply r2_ | apply r3_));exact (Kd.R_mono (zrf (Kd.R_types HO_859006.out BK870.out (by decide))) (fun _ h_ => h_.1))))) (Kd.R_lt (by (with_reducible repeat (first | apply r1_ | apply r2_ | apply r3_));exact (Kd.R_mono (zrf (Kd.R_types HO868.out BK870.out (by decide))) (fun _ h_ => h_.1))))) (below_size (zl_ HB)));replace HO868 := am_ (Kd.R_elder' (by (with_reducible repeat (first | apply r1_ | apply r2_ | apply r3_));exact (Kd.R_mono (zrf (Kd.R_types HO868.out BK870.out (by decide))) (fun _ h_ => h_.1))) (Kd.R_base ho0) hb);replace BK813 := am_ (blk_below (g := gb813) (o := .cells #[.int .i64 t808,.int .i64 t809,.int .i64 t810,.int .i64 t811,.string t812] 33 (0,0)) (zq BK813) hb);replace BK828 := am_ (blk_below (g := gb828) (o := .cells #[.int .i64 t822,.int .i64 t823,.int .i64 t824,.int .i64 t825,.string t826] 33 (0,0)) (zq BK828) hb);replace BK839 := am_ (blk_below (g := gb839) (o := .cells #[.bool t830,.int .i64 t831,.int .i64 t832,.int .i64 t833,.int .i64 t834,.string t835,.slice Ao53 t836.length co53] 41 (0,0)) (zq BK839) hb);replace BK858 := am_ (blk_below (g := gb858) (o := .cells #[.bool t848,.int .i64 t849,.int .i64 t850,.int .i64 t851,.int .i64 t852,.string t853,.slice Ao64 t854.length co64] 41 (0,0)) (zq BK858) hb);replace BK870 := am_ (blk_below (g := gb870) (o := .cells #[.bool t860,.int .i64 t861,.int .i64 t862,.int .i64 t863,.int .i64 t864,.string t865,.slice Ao119 t866.length co119] 41 (0,0)) (zq BK870) hb);replace HB := zs_ HB hb;(try clear hb);(try clear hb2);(try clear hk);(try clear hi);(try clear ho0)) | ((with_reducible refine gate_dst (N := 21) rfl ?_);(try (refine gate_guard (by rfl) ?_;dsimp only));refine zbx (N := 21) (cs := #[.bool false,.int .i64 0,.int .i64 0,.int .i64 0,.int .i64 0,.string ⟨#[]⟩,.slice none 0 0]) (t := 41) ?_;intro gb881 hg w121 hbox hb;replace HO868 := zrb HO868 hb;replace HO879 := zrb HO879 hb;have BK881 := am_ (hbox);have GW881 := zw_ HB hg;have GE881 := zw_ HB hg;replace HB := zs_ HB hb;have NB813_881 := zl hg BK813;have NB881_813 := zg hg BK813;have NB828_881 := zl hg BK828;have NB881_828 := zg hg BK828;have NB839_881 := zl hg BK839;have NB881_839 := zg hg BK839;have NB858_881 := zl hg BK858;have NB881_858 := zg hg BK858;have NB870_881 := zl hg BK870;have NB881_870 := zg hg BK870;replace BK870 := zb BK870 hb;clear hb hbox hg;have hnb122 := NB881_813.out;have hnc122 := NB813_881.out;have hnb123 := NB881_828.out;have hnc123 := NB828_881.out;have hnb124 := NB881_839.out;have hnc124 := NB839_881.out;have hnb125 := NB881_858.out;have hnc125 := NB858_881.out;have hnb126 := NB881_870.out;have hnc126 := NB870_881.out;obtain ⟨hcz127_0,hcz127_1,hcz127_2,hcz127_3,hcz127_4,hcz127_5,hcz127_6,hfz127_0,hfz127_1,hfz127_2,hfz127_3,hfz127_4,hfz127_5,hfz127_6⟩ := zc7 BK881;obtain ⟨Ao128,co128,eo128⟩ := Kd.R_slice HO879.out;subst eo128;obtain ⟨hcz129_0,hcz129_1,hcz129_2,hcz129_3,hcz129_4,hcz129_5,hcz129_6,hfz129_0,hfz129_1,hfz129_2,hfz129_3,hfz129_4,hfz129_5,hfz129_6⟩ := zc7 BK870) | ((with_reducible refine gate_callee (f := 17) rfl ?_);refine zgl (some 126) Try.func17 #[.agg #[.bool t860,.int .i64 t861,.int .i64 t862,.int .i64 t863,.int .i64 t864,.string t865,.slice Ao119 t866.length co119]] ?_;(with_reducible refine (impl_BatchBytes.calls kj46 t860 t861 t862 t863 t864 t865 _ _ t866 t882 t885 _ ?side1 ?side2 A88.out).mono ?_);(case side1 => refine (Kd.R_reads' (e := 70) (base := w.heap.size) (ok := fun k_ => (((True ∧ some k_ ≠ (.slice Ao53 t836.length co53 : Value).ownBlock) ∧ some k_ ≠ (.slice Ao64 t854.length co64 : Value).ownBlock) ∧ some k_ ≠ (.slice Ao128 t877.length co128 : Value).ownBlock)) (n := t866.length) (c := co119) ?_).2.2;exact (by (with_reducible repeat (first | apply r1_ | apply r2_ | apply r3_));exact (Kd.R_mono (zrf (Kd.R_types HO868.out BK881.out (by decide))) (fun _ h_ => h_.1))));(case side2 => exact (Kd.R_reads' HO868.out).2.1);rintro e w130 ⟨v883,rfl,ho0,hb⟩;refine ⟨_,rfl,?_⟩;replace HB := zs_ HB hb;(try clear hb);(try clear hb2);(try clear hk);(try clear hi);(try clear ho0)))
             go_ret
             exact ⟨zt_,zl_ HB⟩
           ·rw [if_neg c87] at H
            have c87b0 : (t869 == 0) = false := beq_eq_false_iff_ne.mpr c87
            have c87b1 : (t869 != 0) = true := bne_iff_ne.mpr c87
            obtain rfl := Option.some.inj H
            go_wp2_with (first | ((with_reducible refine gate_callee (f := 19) rfl ?_);refine zgl (some 111) Try.func19 #[.slice A1 l1.length c1] ?_;(with_reducible refine (impl_ReadBatch.calls kj46 _ _ l1 t860 t861 t862 t863 t864 t865 t866 t869 _ ?side1 ?side2 A84.out).mono ?_);(case side1 => repeat (first | exact (Kd.C_below HR1.out HB.out) | (with_reducible refine Kd.C_alloc ?_ _) | (with_reducible refine Kd.C_drewN ?_ _) | (with_reducible refine Kd.C_drew ?_)));(case side2 => exact HC1.out);rintro e w131 ⟨v867,rfl,ho0,hb⟩;refine ⟨_,rfl,?_⟩;have HO868 := am_ (Kd.R_lower (Kd.R_new' (Kd.R_new' ho0 (Kd.R_lt (zr HO_840006))) (Kd.R_lt (zr HO_859006))) (below_size (zl_ HB)));replace HO_840006 := am_ (Kd.R_elder' (zr HO_840006) (Kd.R_base ho0) hb);replace HO_859006 := am_ (Kd.R_elder' (zr HO_859006) (Kd.R_base ho0) hb);replace BK813 := zb BK813 hb;replace BK828 := zb BK828 hb;replace BK839 := zb BK839 hb;replace BK858 := zb BK858 hb;replace HB := zs_ HB hb;(try clear hb);(try clear hb2);(try clear hk);(try clear hi);(try clear ho0)) | ((with_reducible refine gate_dst (N := 19) rfl ?_);(try (refine gate_guard (by rfl) ?_;dsimp only));refine zbx (N := 19) (cs := #[.bool false,.int .i64 0,.int .i64 0,.int .i64 0,.int .i64 0,.string ⟨#[]⟩,.slice none 0 0]) (t := 41) ?_;intro gb870 hg w132 hbox hb;replace HO_840006 := zrb HO_840006 hb;replace HO_859006 := zrb HO_859006 hb;replace HO868 := zrb HO868 hb;have BK870 := am_ (hbox);have GW870 := zw_ HB hg;have GE870 := zw_ HB hg;replace HB := zs_ HB hb;have NB813_870 := zl hg BK813;have NB870_813 := zg hg BK813;replace BK813 := zb BK813 hb;have NB828_870 := zl hg BK828;have NB870_828 := zg hg BK828;replace BK828 := zb BK828 hb;have NB839_870 := zl hg BK839;have NB870_839 := zg hg BK839;replace BK839 := zb BK839 hb;have NB858_870 := zl hg BK858;have NB870_858 := zg hg BK858;replace BK858 := zb BK858 hb;clear hb hbox hg;have hnb133 := NB870_813.out;have hnc133 := NB813_870.out;have hnb134 := NB870_828.out;have hnc134 := NB828_870.out;have hnb135 := NB870_839.out;have hnc135 := NB839_870.out;have hnb136 := NB870_858.out;have hnc136 := NB858_870.out;obtain ⟨hcz137_0,hcz137_1,hcz137_2,hcz137_3,hcz137_4,hcz137_5,hcz137_6,hfz137_0,hfz137_1,hfz137_2,hfz137_3,hfz137_4,hfz137_5,hfz137_6⟩ := zc7 BK870;obtain ⟨Ao138,co138,eo138⟩ := Kd.R_slice HO868.out;subst eo138) | ((with_reducible refine gate_callee (f := 21) rfl ?_);refine zgl (some 116) Try.func21 #[.slice A1 l1.length c1] ?_;(with_reducible refine (spec_ReadBatch.calls kj46 _ _ l1 t871 t872 t873 t874 t875 t876 t877 t880 _ ?side1 ?side2 A85.out).mono ?_);(case side1 => exact Kd.C_below HR1.out (zl_ HB));(case side2 => exact HC1.out);rintro e w139 ⟨v878,rfl,ho0,hb⟩;refine ⟨_,rfl,?_⟩;have HO879 := am_ (Kd.R_lower (Kd.R_new' (Kd.R_new' (Kd.R_new' ho0 (Kd.R_lt (by (with_reducible repeat (first | apply r1_ | apply r2_ | apply r3_));exact (Kd.R_mono (zrf (Kd.R_types HO_840006.out BK870.out (by decide))) (fun _ h_ => h_.1))))) (Kd.R_lt (by (with_reducible repeat (first | apply r1_ | apply r2_ | apply r3_));exact (Kd.R_mono (zrf (Kd.R_types HO_859006.out BK870.out (by decide))) (fun _ h_ => h_.1))))) (Kd.R_lt (by (with_reducible repeat (first | apply r1_ | apply r2_ | apply r3_));exact (Kd.R_mono (zrf (Kd.R_types HO868.out BK870.out (by decide))) (fun _ h_ => h_.1))))) (below_size (zl_ HB)));replace BK813 := am_ (blk_below (g := gb813) (o := .cells #[.int .i64 t808,.int .i64 t809,.int .i64 t810,.int .i64 t811,.string t812] 33 (0,0)) (zq BK813) hb);replace BK828 := am_ (blk_below (g := gb828) (o := .cells #[.int .i64 t822,.int .i64 t823,.int .i64 t824,.int .i64 t825,.string t826] 33 (0,0)) (zq BK828) hb);replace BK839 := am_ (blk_below (g := gb839) (o := .cells #[.bool t830,.int .i64 t831,.int .i64 t832,.int .i64 t833,.int .i64 t834,.string t835,.slice Ao53 t836.length co53] 41 (0,0)) (zq BK839) hb);replace BK858 := am_ (blk_below (g := gb858) (o := .cells #[.bool t848,.int .i64 t849,.int .i64 t850,.int .i64 t851,.int .i64 t852,.string t853,.slice Ao64 t854.length co64] 41 (0,0)) (zq BK858) hb);replace BK870 := am_ (blk_below (g := gb870) (o := .cells #[.bool t860,.int .i64 t861,.int .i64 t862,.int .i64 t863,.int .i64 t864,.string t865,.slice Ao138 t866.length co138] 41 (0,0)) (zq BK870) hb);replace HB := zs_ HB hb;(try clear hb);(try clear hb2);(try clear hk);(try clear hi);(try clear ho0)) | ((with_reducible refine gate_dst (N := 21) rfl ?_);(try (refine gate_guard (by rfl) ?_;dsimp only));refine zbx (N := 21) (cs := #[.bool false,.int .i64 0,.int .i64 0,.int .i64 0,.int .i64 0,.string ⟨#[]⟩,.slice none 0 0]) (t := 41) ?_;intro gb881 hg w140 hbox hb;replace HO879 := zrb HO879 hb;have BK881 := am_ (hbox);have GW881 := zw_ HB hg;have GE881 := zw_ HB hg;replace HB := zs_ HB hb;have NB813_881 := zl hg BK813;have NB881_813 := zg hg BK813;have NB828_881 := zl hg BK828;have NB881_828 := zg hg BK828;have NB839_881 := zl hg BK839;have NB881_839 := zg hg BK839;have NB858_881 := zl hg BK858;have NB881_858 := zg hg BK858;have NB870_881 := zl hg BK870;have NB881_870 := zg hg BK870;clear hb hbox hg;have hnb141 := NB881_813.out;have hnc141 := NB813_881.out;have hnb142 := NB881_828.out;have hnc142 := NB828_881.out;have hnb143 := NB881_839.out;have hnc143 := NB839_881.out;have hnb144 := NB881_858.out;have hnc144 := NB858_881.out;have hnb145 := NB881_870.out;have hnc145 := NB870_881.out;obtain ⟨hcz146_0,hcz146_1,hcz146_2,hcz146_3,hcz146_4,hcz146_5,hcz146_6,hfz146_0,hfz146_1,hfz146_2,hfz146_3,hfz146_4,hfz146_5,hfz146_6⟩ := zc7 BK881;obtain ⟨Ao147,co147,eo147⟩ := Kd.R_slice HO879.out;subst eo147))
            go_ret
            exact ⟨zt_,zl_ HB⟩
          ·rw [if_neg c86] at H
           have c86b0 : (t869 == t880) = false := beq_eq_false_iff_ne.mpr c86
           have c86b1 : (t869 != t880) = true := bne_iff_ne.mpr c86
           obtain rfl := Option.some.inj H
           go_wp2_with (first | ((with_reducible refine gate_callee (f := 19) rfl ?_);refine zgl (some 111) Try.func19 #[.slice A1 l1.length c1] ?_;(with_reducible refine (impl_ReadBatch.calls kj46 _ _ l1 t860 t861 t862 t863 t864 t865 t866 t869 _ ?side1 ?side2 A84.out).mono ?_);(case side1 => repeat (first | exact (Kd.C_below HR1.out HB.out) | (with_reducible refine Kd.C_alloc ?_ _) | (with_reducible refine Kd.C_drewN ?_ _) | (with_reducible refine Kd.C_drew ?_)));(case side2 => exact HC1.out);rintro e w148 ⟨v867,rfl,ho0,hb⟩;refine ⟨_,rfl,?_⟩;have HO868 := am_ (Kd.R_lower (Kd.R_new' (Kd.R_new' ho0 (Kd.R_lt (zr HO_840006))) (Kd.R_lt (zr HO_859006))) (below_size (zl_ HB)));replace HO_840006 := am_ (Kd.R_elder' (zr HO_840006) (Kd.R_base ho0) hb);replace HO_859006 := am_ (Kd.R_elder' (zr HO_859006) (Kd.R_base ho0) hb);replace BK813 := zb BK813 hb;replace BK828 := zb BK828 hb;replace BK839 := zb BK839 hb;replace BK858 := zb BK858 hb;replace HB := zs_ HB hb;(try clear hb);(try clear hb2);(try clear hk);(try clear hi);(try clear ho0)) | ((with_reducible refine gate_dst (N := 19) rfl ?_);(try (refine gate_guard (by rfl) ?_;dsimp only));refine zbx (N := 19) (cs := #[.bool false,.int .i64 0,.int .i64 0,.int .i64 0,.int .i64 0,.string ⟨#[]⟩,.slice none 0 0]) (t := 41) ?_;intro gb870 hg w149 hbox hb;replace HO_840006 := zrb HO_840006 hb;replace HO_859006 := zrb HO_859006 hb;replace HO868 := zrb HO868 hb;have BK870 := am_ (hbox);have GW870 := zw_ HB hg;have GE870 := zw_ HB hg;replace HB := zs_ HB hb;have NB813_870 := zl hg BK813;have NB870_813 := zg hg BK813;replace BK813 := zb BK813 hb;have NB828_870 := zl hg BK828;have NB870_828 := zg hg BK828;replace BK828 := zb BK828 hb;have NB839_870 := zl hg BK839;have NB870_839 := zg hg BK839;replace BK839 := zb BK839 hb;have NB858_870 := zl hg BK858;have NB870_858 := zg hg BK858;replace BK858 := zb BK858 hb;clear hb hbox hg;have hnb150 := NB870_813.out;have hnc150 := NB813_870.out;have hnb151 := NB870_828.out;have hnc151 := NB828_870.out;have hnb152 := NB870_839.out;have hnc152 := NB839_870.out;have hnb153 := NB870_858.out;have hnc153 := NB858_870.out;obtain ⟨hcz154_0,hcz154_1,hcz154_2,hcz154_3,hcz154_4,hcz154_5,hcz154_6,hfz154_0,hfz154_1,hfz154_2,hfz154_3,hfz154_4,hfz154_5,hfz154_6⟩ := zc7 BK870;obtain ⟨Ao155,co155,eo155⟩ := Kd.R_slice HO868.out;subst eo155) | ((with_reducible refine gate_callee (f := 21) rfl ?_);refine zgl (some 116) Try.func21 #[.slice A1 l1.length c1] ?_;(with_reducible refine (spec_ReadBatch.calls kj46 _ _ l1 t871 t872 t873 t874 t875 t876 t877 t880 _ ?side1 ?side2 A85.out).mono ?_);(case side1 => exact Kd.C_below HR1.out (zl_ HB));(case side2 => exact HC1.out);rintro e w156 ⟨v878,rfl,ho0,hb⟩;refine ⟨_,rfl,?_⟩;have HO879 := am_ (Kd.R_lower (Kd.R_new' (Kd.R_new' (Kd.R_new' ho0 (Kd.R_lt (by (with_reducible repeat (first | apply r1_ | apply r2_ | apply r3_));exact (Kd.R_mono (zrf (Kd.R_types HO_840006.out BK870.out (by decide))) (fun _ h_ => h_.1))))) (Kd.R_lt (by (with_reducible repeat (first | apply r1_ | apply r2_ | apply r3_));exact (Kd.R_mono (zrf (Kd.R_types HO_859006.out BK870.out (by decide))) (fun _ h_ => h_.1))))) (Kd.R_lt (by (with_reducible repeat (first | apply r1_ | apply r2_ | apply r3_));exact (Kd.R_mono (zrf (Kd.R_types HO868.out BK870.out (by decide))) (fun _ h_ => h_.1))))) (below_size (zl_ HB)));replace BK813 := am_ (blk_below (g := gb813) (o := .cells #[.int .i64 t808,.int .i64 t809,.int .i64 t810,.int .i64 t811,.string t812] 33 (0,0)) (zq BK813) hb);replace BK828 := am_ (blk_below (g := gb828) (o := .cells #[.int .i64 t822,.int .i64 t823,.int .i64 t824,.int .i64 t825,.string t826] 33 (0,0)) (zq BK828) hb);replace BK839 := am_ (blk_below (g := gb839) (o := .cells #[.bool t830,.int .i64 t831,.int .i64 t832,.int .i64 t833,.int .i64 t834,.string t835,.slice Ao53 t836.length co53] 41 (0,0)) (zq BK839) hb);replace BK858 := am_ (blk_below (g := gb858) (o := .cells #[.bool t848,.int .i64 t849,.int .i64 t850,.int .i64 t851,.int .i64 t852,.string t853,.slice Ao64 t854.length co64] 41 (0,0)) (zq BK858) hb);replace BK870 := am_ (blk_below (g := gb870) (o := .cells #[.bool t860,.int .i64 t861,.int .i64 t862,.int .i64 t863,.int .i64 t864,.string t865,.slice Ao155 t866.length co155] 41 (0,0)) (zq BK870) hb);replace HB := zs_ HB hb;(try clear hb);(try clear hb2);(try clear hk);(try clear hi);(try clear ho0)) | ((with_reducible refine gate_dst (N := 21) rfl ?_);(try (refine gate_guard (by rfl) ?_;dsimp only));refine zbx (N := 21) (cs := #[.bool false,.int .i64 0,.int .i64 0,.int .i64 0,.int .i64 0,.string ⟨#[]⟩,.slice none 0 0]) (t := 41) ?_;intro gb881 hg w157 hbox hb;replace HO879 := zrb HO879 hb;have BK881 := am_ (hbox);have GW881 := zw_ HB hg;have GE881 := zw_ HB hg;replace HB := zs_ HB hb;have NB813_881 := zl hg BK813;have NB881_813 := zg hg BK813;have NB828_881 := zl hg BK828;have NB881_828 := zg hg BK828;have NB839_881 := zl hg BK839;have NB881_839 := zg hg BK839;have NB858_881 := zl hg BK858;have NB881_858 := zg hg BK858;have NB870_881 := zl hg BK870;have NB881_870 := zg hg BK870;clear hb hbox hg;have hnb158 := NB881_813.out;have hnc158 := NB813_881.out;have hnb159 := NB881_828.out;have hnc159 := NB828_881.out;have hnb160 := NB881_839.out;have hnc160 := NB839_881.out;have hnb161 := NB881_858.out;have hnc161 := NB858_881.out;have hnb162 := NB881_870.out;have hnc162 := NB870_881.out;obtain ⟨hcz163_0,hcz163_1,hcz163_2,hcz163_3,hcz163_4,hcz163_5,hcz163_6,hfz163_0,hfz163_1,hfz163_2,hfz163_3,hfz163_4,hfz163_5,hfz163_6⟩ := zc7 BK881;obtain ⟨Ao164,co164,eo164⟩ := Kd.R_slice HO879.out;subst eo164))
           go_ret
           exact ⟨zt_,zl_ HB⟩
end Go.Proofs.Ytdpdbegglkdgnaa.A
end
