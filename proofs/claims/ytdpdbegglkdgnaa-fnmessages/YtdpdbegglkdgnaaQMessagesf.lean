/- A part of the proof that FnMessages returns true at every input: plain functions, contracts and lemmas. No conditions. -/
import Derived.Test.YtdpdbegglkdgnaaQMessagese
set_option linter.unusedVariables false
set_option linter.unusedSimpArgs false
set_option linter.unusedSectionVars false
section
namespace Go.Proofs.Ytdpdbegglkdgnaa.A
open Go.RowKit Go.Proofs.YtdpdbegglkdgnaaW.PrintWords Go.Proofs.YtdpdbegglkdgnaaW.PrintLast Go.Proofs.YtdpdbegglkdgnaaW.PrintMore
attribute [local go_sem] max2_int min2_int max_two min_two max_three min_three max_four min_four
set_option maxHeartbeats 8000000 in
set_option maxRecDepth 100000 in
theorem spec_l00Src_message.calls (k : Nat) (g : Nat) (s0_0 : List Int) (s0_1 : Int) (s0_2 : Int) (r1 : Int) (r2 : Int) (r3 : Int) (r4 : Int) (r5 : ByteArray) (r6 : ByteArray) (r7 : ByteArray) (r8 : Int) (r9 : Int) (w0 w : World) (hI : IsS72 w0 w g s0_0 s0_1 s0_2) (hB : Below w0.heap.size w0 w) (h : spec_l00Src_message.f k s0_0 s0_1 s0_2 = some (r1,r2,r3,r4,r5,r6,r7,r8,r9)) :
  Calls Try.prog 23 #[.pointer (some ⟨g,0,none⟩)] w fun e w' => e = .returned (.agg #[.int .i64 r1,.int .i64 r2,.int .i64 r3,.int .i64 r4,.string r5,.string r6,.string r7]) ∧ IsS72 w0 w' g s0_0 r8 r9 ∧ Below w0.heap.size w0 w' ∧ KeepBut w w' g none := by
 have hu24 := Try.underlying24
 have HI0 := am_ hI
 have HK := am_ (KeepBut.refl w g none)
 have HL := am_ hB.size
 clear hI
 have HW0 := am_ hB.size
 have HB := am_ hB
 clear hB
 have H : ((spec_l00Src_next.f s0_0 s0_1 s0_2 5).bind fun bt346 => ((spec_l00Src_next.f s0_0 bt346.2.1 bt346.2.2 4).bind fun bt349 => ((spec_l00Src_next.f s0_0 bt349.2.1 bt349.2.2 4).bind fun bt352 => ((spec_l00Src_next.f s0_0 bt352.2.1 bt352.2.2 9).bind fun bt355 => ((spec_l01Hash.f k (([(bt355.1) % 256] : List Int))).bind fun t361 => (if 0 ≤ 8 then (if 8 ≤ (t361.size : Int) then (if (wrap64 (1 + bt346.1)) ≤ 3 then ((spec_l00Src_next.f s0_0 bt355.2.1 bt355.2.2 4).bind fun bt363 => ((spec_l00Src_next.f s0_0 bt363.2.1 bt363.2.2 4).bind fun bt366 => ((spec_l01Hash.f k (([(bt366.1) % 256] : List Int))).bind fun t372 => (spec_l00Src_message.j0 k s0_0 bt366.2.1 bt366.2.2 (wrap64 (1 + bt346.1)) bt349.1 (wrap64 (1 + bt363.1)) bt352.1 t372 (⟨#[]⟩ : ByteArray) (t361.extract 0 8))))) else (spec_l00Src_message.j0 k s0_0 bt355.2.1 bt355.2.2 (wrap64 (1 + bt346.1)) bt349.1 0 bt352.1 (⟨#[]⟩ : ByteArray) (⟨#[]⟩ : ByteArray) (t361.extract 0 8))) else (none)) else (none))))))) = some (r1,r2,r3,r4,r5,r6,r7,r8,r9) := h
 clear h
 replace H := Option.bind_eq_some_iff.mp H
 obtain ⟨⟨t346,t347,t348⟩,A20,H⟩ := H
 try dsimp only at H
 have A2 := am_ A20
 clear A20
 replace H := Option.bind_eq_some_iff.mp H
 obtain ⟨⟨t349,t350,t351⟩,A30,H⟩ := H
 try dsimp only at H
 have A3 := am_ A30
 clear A30
 replace H := Option.bind_eq_some_iff.mp H
 obtain ⟨⟨t352,t353,t354⟩,A40,H⟩ := H
 try dsimp only at H
 have A4 := am_ A40
 clear A40
 replace H := Option.bind_eq_some_iff.mp H
 obtain ⟨⟨t355,t356,t357⟩,A50,H⟩ := H
 try dsimp only at H
 have A5 := am_ A50
 clear A50
 obtain ⟨y358,hy358⟩ : ∃ y_ : List Int,y_ = (([(t355) % 256] : List Int)) := ⟨_,rfl⟩
 replace H : ((spec_l01Hash.f k y358).bind fun t361 => (if 0 ≤ 8 then (if 8 ≤ (t361.size : Int) then (if (wrap64 (1 + t346)) ≤ 3 then ((spec_l00Src_next.f s0_0 t356 t357 4).bind fun bt363 => ((spec_l00Src_next.f s0_0 bt363.2.1 bt363.2.2 4).bind fun bt366 => ((spec_l01Hash.f k (([(bt366.1) % 256] : List Int))).bind fun t372 => (spec_l00Src_message.j0 k s0_0 bt366.2.1 bt366.2.2 (wrap64 (1 + t346)) t349 (wrap64 (1 + bt363.1)) t352 t372 (⟨#[]⟩ : ByteArray) (t361.extract 0 8))))) else (spec_l00Src_message.j0 k s0_0 t356 t357 (wrap64 (1 + t346)) t349 0 t352 (⟨#[]⟩ : ByteArray) (⟨#[]⟩ : ByteArray) (t361.extract 0 8))) else (none)) else (none))) = some (r1,r2,r3,r4,r5,r6,r7,r8,r9) := by first | (rw [hy358];with_reducible exact H) | (have H2_ := (Option.bind_some _ _).symm.trans H;rw [hy358];with_reducible exact H2_) | (have H2_ := (Option.bind_some _ _).symm.trans H;with_reducible exact H2_) | with_reducible exact H | (rw [hy358];exact H) | exact H
 have Ny358 := am_ hy358
 clear hy358
 replace H := Option.bind_eq_some_iff.mp H
 obtain ⟨t361,A60,H⟩ := H
 try dsimp only at H
 have A6 := am_ A60
 clear A60
 by_cases c7 : 0 ≤ 8
 ·rw [if_pos c7] at H
  have c7b0 := eq_true c7
  have c7b1 : decide (0 ≤ 8) = true := decide_eq_true c7
  clear c7
  by_cases c8 : 8 ≤ (t361.size : Int)
  ·rw [if_pos c8] at H
   have c8b0 := eq_true c8
   have c8b1 : decide (8 ≤ (t361.size : Int)) = true := decide_eq_true c8
   clear c8
   have HC9 := am_ H
   clear H
   go_enter Try.func23,Try.ntmps23
   go_upto_if 20 with (first | ((with_reducible refine gate_dst (N := 2) rfl ?_);refine box_event ?hg (N := 2) ?hd (cs := #[.int .i64 0,.int .i64 0,.int .i64 0,.int .i64 0,.string ⟨#[]⟩,.string ⟨#[]⟩,.string ⟨#[]⟩]) (t := 24) ?hr ?_;(case hd => rfl);(case hg => rfl);(case hr => first | (go_simp;done) | (go_simp;rfl));intro gb345 hg w10 hbox hb;have n0_ := am_ (IsS72.below (by repeat (first | (with_reducible first | exact HI0.out | apply IsS72.alloc | apply IsS72.drewN | apply IsS72.drew | apply IsS72.set_1 | apply IsS72.set_2) | exact HI0.out)) hb);have n1_ := am_ (KeepBut.trans (by repeat (first | (with_reducible first | exact HK.out | apply KeepBut.set_ | apply keep_drewN | apply keep_drew | apply keep_alloc) | exact HK.out)) (KeepBut.of_below hb g none) (.inl rfl));have n2_ := am_ (below_step (by repeat (first | (with_reducible first | exact HB.out | apply b1_ | apply b2_ | apply b3_ | refine below_set ?_ (IsS72.ge HI0.out)) | exact HB.out)) hb);have n3_ := am_ (hbox);have n4_ := am_ ((by rw [hg];exact (keep_size (w := w) (g := g) (row := none) (by repeat (first | (with_reducible first | exact HK.out | apply KeepBut.set_ | apply keep_drewN | apply keep_drew | apply keep_alloc) | exact HK.out))) : w.heap.size ≤ gb345));have n5_ := am_ ((Nat.le_trans HW0.out (by rw [hg];exact (keep_size (w := w) (g := g) (row := none) (by repeat (first | (with_reducible first | exact HK.out | apply KeepBut.set_ | apply keep_drewN | apply keep_drew | apply keep_alloc) | exact HK.out))) : w.heap.size ≤ gb345) : w0.heap.size ≤ gb345));have n6_ := am_ ((by rw [hg];exact Nat.ne_of_lt (IsS72.lt (show IsS72 w0 _ g s0_0 s0_1 s0_2 from by repeat (first | (with_reducible first | exact HI0.out | apply IsS72.alloc | apply IsS72.drewN | apply IsS72.drew | apply IsS72.set_1 | apply IsS72.set_2) | exact HI0.out))) : g ≠ gb345));have n7_ := am_ ((by rw [hg];exact Nat.ne_of_gt (IsS72.lt (show IsS72 w0 _ g s0_0 s0_1 s0_2 from by repeat (first | (with_reducible first | exact HI0.out | apply IsS72.alloc | apply IsS72.drewN | apply IsS72.drew | apply IsS72.set_1 | apply IsS72.set_2) | exact HI0.out))) : gb345 ≠ g));clear HI0;clear HK;clear HB;have HI0 := n0_;have HK := n1_;have HB := n2_;have BK345 := n3_;have GW345 := n4_;have GE345 := n5_;have NB0_345 := n6_;have NB345_0 := n7_;clear n0_ n1_ n2_ n3_ n4_ n5_ n6_ n7_;clear hb hbox hg) | ((with_reducible refine gate_callee (f := 45) rfl ?_);refine goesL_ (some 5) rfl rfl Try.func45 (by kernel_rfl) rfl #[.pointer (some ⟨g,0,none⟩),.int .i64 5] rfl (by (try simp only [m1_,m2_,m3_]);first | done | rfl | (simp only [d1_,d2_];rfl)) ?_;(with_reducible refine (spec_l00Src_next.calls g s0_0 s0_1 s0_2 5 t346 t347 t348 w0 _ ?side1 ?side2 A2.out).mono ?_);(case side1 => repeat (first | (with_reducible first | exact HI0.out | apply IsS72.alloc | apply IsS72.drewN | apply IsS72.drew | apply IsS72.set_1 | apply IsS72.set_2 | refine IsS72.far ?_ NB0_345.out _) | exact HI0.out));(case side2 => repeat (first | (with_reducible first | exact HB.out | apply b1_ | apply b2_ | apply b3_ | refine below_set ?_ (IsS72.ge HI0.out) | refine below_set ?_ GE345.out) | exact HB.out));rintro e w11 ⟨rfl,hi,hb,hk⟩;refine ⟨_,rfl,?_⟩;have n0_ := am_ (KeepBut.blk hk (g' := gb345) (o := .cells #[.int .i64 0,.int .i64 0,.int .i64 0,.int .i64 0,.string ⟨#[]⟩,.string ⟨#[]⟩,.string ⟨#[]⟩] 24 (0,0)) (by (with_reducible repeat (first | apply k1_ | apply k2_ | apply k3_));exact BK345.out) NB345_0.out (by simp));have n1_ := am_ (KeepBut.trans (by repeat (first | (with_reducible first | exact HK.out | apply KeepBut.set_ | apply keep_drewN | apply keep_drew | apply keep_alloc | refine keep_far ?_ GW345.out _) | exact HK.out)) hk (.inl rfl));have n2_ := am_ (hb);have n3_ := am_ (hi);clear BK345;clear HK;clear HB;clear HI0;have BK345 := n0_;have HK := n1_;have HB := n2_;have HI0 := n3_;clear n0_ n1_ n2_ n3_;(try clear hb);(try clear hb2);(try clear hk);(try clear hi)) | ((with_reducible refine gate_callee (f := 45) rfl ?_);refine goesL_ (some 8) rfl rfl Try.func45 (by kernel_rfl) rfl #[.pointer (some ⟨g,0,none⟩),.int .i64 4] rfl (by (try simp only [m1_,m2_,m3_]);first | done | rfl | (simp only [d1_,d2_];rfl)) ?_;(with_reducible refine (spec_l00Src_next.calls g s0_0 t347 t348 4 t349 t350 t351 w0 _ ?side1 ?side2 A3.out).mono ?_);(case side1 => repeat (first | (with_reducible first | exact HI0.out | apply IsS72.alloc | apply IsS72.drewN | apply IsS72.drew | apply IsS72.set_1 | apply IsS72.set_2 | refine IsS72.far ?_ NB0_345.out _) | exact HI0.out));(case side2 => repeat (first | (with_reducible first | exact HB.out | apply b1_ | apply b2_ | apply b3_ | refine below_set ?_ (IsS72.ge HI0.out) | refine below_set ?_ GE345.out) | exact HB.out));rintro e w12 ⟨rfl,hi,hb,hk⟩;refine ⟨_,rfl,?_⟩;have n0_ := am_ (KeepBut.blk hk (g' := gb345) (o := .cells #[.int .i64 0,.int .i64 0,.int .i64 0,.int .i64 0,.string ⟨#[]⟩,.string ⟨#[]⟩,.string ⟨#[]⟩] 24 (0,0)) (by (with_reducible repeat (first | apply k1_ | apply k2_ | apply k3_));exact BK345.out) NB345_0.out (by simp));have n1_ := am_ (KeepBut.trans (by repeat (first | (with_reducible first | exact HK.out | apply KeepBut.set_ | apply keep_drewN | apply keep_drew | apply keep_alloc | refine keep_far ?_ GW345.out _) | exact HK.out)) hk (.inl rfl));have n2_ := am_ (hb);have n3_ := am_ (hi);clear BK345;clear HK;clear HB;clear HI0;have BK345 := n0_;have HK := n1_;have HB := n2_;have HI0 := n3_;clear n0_ n1_ n2_ n3_;(try clear hb);(try clear hb2);(try clear hk);(try clear hi)) | ((with_reducible refine gate_callee (f := 45) rfl ?_);refine goesL_ (some 10) rfl rfl Try.func45 (by kernel_rfl) rfl #[.pointer (some ⟨g,0,none⟩),.int .i64 4] rfl (by (try simp only [m1_,m2_,m3_]);first | done | rfl | (simp only [d1_,d2_];rfl)) ?_;(with_reducible refine (spec_l00Src_next.calls g s0_0 t350 t351 4 t352 t353 t354 w0 _ ?side1 ?side2 A4.out).mono ?_);(case side1 => repeat (first | (with_reducible first | exact HI0.out | apply IsS72.alloc | apply IsS72.drewN | apply IsS72.drew | apply IsS72.set_1 | apply IsS72.set_2 | refine IsS72.far ?_ NB0_345.out _) | exact HI0.out));(case side2 => repeat (first | (with_reducible first | exact HB.out | apply b1_ | apply b2_ | apply b3_ | refine below_set ?_ (IsS72.ge HI0.out) | refine below_set ?_ GE345.out) | exact HB.out));rintro e w13 ⟨rfl,hi,hb,hk⟩;refine ⟨_,rfl,?_⟩;have n0_ := am_ (KeepBut.blk hk (g' := gb345) (o := .cells #[.int .i64 0,.int .i64 0,.int .i64 0,.int .i64 0,.string ⟨#[]⟩,.string ⟨#[]⟩,.string ⟨#[]⟩] 24 (0,0)) (by (with_reducible repeat (first | apply k1_ | apply k2_ | apply k3_));exact BK345.out) NB345_0.out (by simp));have n1_ := am_ (KeepBut.trans (by repeat (first | (with_reducible first | exact HK.out | apply KeepBut.set_ | apply keep_drewN | apply keep_drew | apply keep_alloc | refine keep_far ?_ GW345.out _) | exact HK.out)) hk (.inl rfl));have n2_ := am_ (hb);have n3_ := am_ (hi);clear BK345;clear HK;clear HB;clear HI0;have BK345 := n0_;have HK := n1_;have HB := n2_;have HI0 := n3_;clear n0_ n1_ n2_ n3_;(try clear hb);(try clear hb2);(try clear hk);(try clear hi)) | ((with_reducible refine gate_callee (f := 45) rfl ?_);refine goesL_ (some 12) rfl rfl Try.func45 (by kernel_rfl) rfl #[.pointer (some ⟨g,0,none⟩),.int .i64 9] rfl (by (try simp only [m1_,m2_,m3_]);first | done | rfl | (simp only [d1_,d2_];rfl)) ?_;(with_reducible refine (spec_l00Src_next.calls g s0_0 t353 t354 9 t355 t356 t357 w0 _ ?side1 ?side2 A5.out).mono ?_);(case side1 => repeat (first | (with_reducible first | exact HI0.out | apply IsS72.alloc | apply IsS72.drewN | apply IsS72.drew | apply IsS72.set_1 | apply IsS72.set_2 | refine IsS72.far ?_ NB0_345.out _) | exact HI0.out));(case side2 => repeat (first | (with_reducible first | exact HB.out | apply b1_ | apply b2_ | apply b3_ | refine below_set ?_ (IsS72.ge HI0.out) | refine below_set ?_ GE345.out) | exact HB.out));rintro e w14 ⟨rfl,hi,hb,hk⟩;refine ⟨_,rfl,?_⟩;have n0_ := am_ (KeepBut.blk hk (g' := gb345) (o := .cells #[.int .i64 0,.int .i64 0,.int .i64 0,.int .i64 0,.string ⟨#[]⟩,.string ⟨#[]⟩,.string ⟨#[]⟩] 24 (0,0)) (by (with_reducible repeat (first | apply k1_ | apply k2_ | apply k3_));exact BK345.out) NB345_0.out (by simp));have n1_ := am_ (KeepBut.trans (by repeat (first | (with_reducible first | exact HK.out | apply KeepBut.set_ | apply keep_drewN | apply keep_drew | apply keep_alloc | refine keep_far ?_ GW345.out _) | exact HK.out)) hk (.inl rfl));have n2_ := am_ (hb);have n3_ := am_ (hi);clear BK345;clear HK;clear HB;clear HI0;have BK345 := n0_;have HK := n1_;have HB := n2_;have HI0 := n3_;clear n0_ n1_ n2_ n3_;(try clear hb);(try clear hb2);(try clear hk);(try clear hi)) | ((with_reducible refine gate_dst (N := 14) rfl ?_);refine Kd.R_lit (Kd.int .u8) _ 5 ?hg (N := 14) ?hd (xs := ([(t355) % 256] : List Int)) (inner := [.int .u8 ((t355) % 256)]) (ok := fun _ => True) (okp := fun _ => True) ?hr ?hp (fun _ hk => hk) trivial (Below.refl _ _) (Nat.le_refl _) (by simp) ?_;(case hd => rfl);(case hg => rfl);(case hr => first | (go_simp;done) | (go_simp;rfl));(case hp => exact (Reps.one (show Kd.M (Kd.int .u8) _ _ _ ((t355) % 256) [.int .u8 ((t355) % 256)] from rfl) (Reps.none _ _)));intro v359 w15 ho16 hb hg_ hnew_;clear hg_ hnew_;(first | rw [← Ny358.out] at ho16 | (simp only [Int.reduceToNat] at ho16;rw [← Ny358.out] at ho16));have n0_ := am_ (Kd.R_lower ho16 (keep_size (w := w) (g := g) (row := none) (by repeat (first | (with_reducible first | exact HK.out | apply KeepBut.set_ | apply keep_drewN | apply keep_drew | apply keep_alloc | refine keep_far ?_ GW345.out _) | exact HK.out))));have n1_ := am_ (IsS72.below (by repeat (first | (with_reducible first | exact HI0.out | apply IsS72.alloc | apply IsS72.drewN | apply IsS72.drew | apply IsS72.set_1 | apply IsS72.set_2 | refine IsS72.far ?_ NB0_345.out _) | exact HI0.out)) hb);have n2_ := am_ (blk_below (g := gb345) (o := .cells #[.int .i64 0,.int .i64 0,.int .i64 0,.int .i64 0,.string ⟨#[]⟩,.string ⟨#[]⟩,.string ⟨#[]⟩] 24 (0,0)) (by (with_reducible repeat (first | apply k1_ | apply k2_ | apply k3_));exact BK345.out) hb);have n3_ := am_ (KeepBut.trans (by repeat (first | (with_reducible first | exact HK.out | apply KeepBut.set_ | apply keep_drewN | apply keep_drew | apply keep_alloc | refine keep_far ?_ GW345.out _) | exact HK.out)) (KeepBut.of_below hb g none) (.inl rfl));have n4_ := am_ (below_step (by repeat (first | (with_reducible first | exact HB.out | apply b1_ | apply b2_ | apply b3_ | refine below_set ?_ (IsS72.ge HI0.out) | refine below_set ?_ GE345.out) | exact HB.out)) hb);clear HI0;clear BK345;clear HK;clear HB;have HO360 := n0_;have HI0 := n1_;have BK345 := n2_;have HK := n3_;have HB := n4_;clear n0_ n1_ n2_ n3_ n4_;clear hb ho16;obtain ⟨Ao17,co17,eo17⟩ := Kd.R_slice HO360.out;subst eo17) | ((with_reducible refine gate_callee (f := 46) rfl ?_);refine goesL_ (some 15) rfl rfl Try.func46 (by kernel_rfl) rfl #[.slice Ao17 y358.length co17] rfl (by (try simp only [m1_,m2_,m3_]);first | done | rfl | (simp only [d1_,d2_];rfl)) ?_;(with_reducible refine (spec_l01Hash.calls k _ _ y358 t361 _ ?side1 ?side2 A6.out).mono ?_);(case side1 => repeat (first | exact (Kd.R_reads' HO360.out).2.2 | (with_reducible refine Kd.C_alloc ?_ _) | (with_reducible refine Kd.C_drewN ?_ _) | (with_reducible refine Kd.C_drew ?_)));(case side2 => exact (Kd.R_reads' HO360.out).2.1);rintro e w18 ⟨rfl,hb⟩;refine ⟨_,rfl,?_⟩;have n0_ := am_ (Kd.R_below (by (with_reducible repeat (first | apply r1_ | apply r2_ | apply r3_));exact HO360.out) hb);have n1_ := am_ (IsS72.below (by repeat (first | (with_reducible first | exact HI0.out | apply IsS72.alloc | apply IsS72.drewN | apply IsS72.drew | apply IsS72.set_1 | apply IsS72.set_2 | refine IsS72.far ?_ NB0_345.out _) | exact HI0.out)) hb);have n2_ := am_ (blk_below (g := gb345) (o := .cells #[.int .i64 0,.int .i64 0,.int .i64 0,.int .i64 0,.string ⟨#[]⟩,.string ⟨#[]⟩,.string ⟨#[]⟩] 24 (0,0)) (by (with_reducible repeat (first | apply k1_ | apply k2_ | apply k3_));exact BK345.out) hb);have n3_ := am_ (KeepBut.trans (by repeat (first | (with_reducible first | exact HK.out | apply KeepBut.set_ | apply keep_drewN | apply keep_drew | apply keep_alloc | refine keep_far ?_ GW345.out _) | exact HK.out)) (KeepBut.of_below hb g none) (.inl rfl));have n4_ := am_ (below_step (by repeat (first | (with_reducible first | exact HB.out | apply b1_ | apply b2_ | apply b3_ | refine below_set ?_ (IsS72.ge HI0.out) | refine below_set ?_ GE345.out) | exact HB.out)) hb);clear HO360;clear HI0;clear BK345;clear HK;clear HB;have HO360 := n0_;have HI0 := n1_;have BK345 := n2_;have HK := n3_;have HB := n4_;clear n0_ n1_ n2_ n3_ n4_;(try clear hb);(try clear hb2);(try clear hk);(try clear hi)) | ((with_reducible refine gate_dst (N := 3) rfl ?_);refine box_event ?hg (N := 3) ?hd (cs := #[.int .i64 0,.int .i64 0,.int .i64 0,.int .i64 0,.string ⟨#[]⟩,.string ⟨#[]⟩,.string ⟨#[]⟩]) (t := 24) ?hr ?_;(case hd => rfl);(case hg => rfl);(case hr => first | (go_simp;done) | (go_simp;rfl));intro gb362 hg w19 hbox hb;have n0_ := am_ (Kd.R_below (by (with_reducible repeat (first | apply r1_ | apply r2_ | apply r3_));exact HO360.out) hb);have n1_ := am_ (IsS72.below (by repeat (first | (with_reducible first | exact HI0.out | apply IsS72.alloc | apply IsS72.drewN | apply IsS72.drew | apply IsS72.set_1 | apply IsS72.set_2 | refine IsS72.far ?_ NB0_345.out _) | exact HI0.out)) hb);have n2_ := am_ (blk_below (g := gb345) (o := .cells #[.int .i64 0,.int .i64 0,.int .i64 0,.int .i64 0,.string ⟨#[]⟩,.string ⟨#[]⟩,.string ⟨#[]⟩] 24 (0,0)) (by (with_reducible repeat (first | apply k1_ | apply k2_ | apply k3_));exact BK345.out) hb);have n3_ := am_ (KeepBut.trans (by repeat (first | (with_reducible first | exact HK.out | apply KeepBut.set_ | apply keep_drewN | apply keep_drew | apply keep_alloc | refine keep_far ?_ GW345.out _) | exact HK.out)) (KeepBut.of_below hb g none) (.inl rfl));have n4_ := am_ (below_step (by repeat (first | (with_reducible first | exact HB.out | apply b1_ | apply b2_ | apply b3_ | refine below_set ?_ (IsS72.ge HI0.out) | refine below_set ?_ GE345.out) | exact HB.out)) hb);have n5_ := am_ (hbox);have n6_ := am_ ((by rw [hg];exact (keep_size (w := w) (g := g) (row := none) (by repeat (first | (with_reducible first | exact HK.out | apply KeepBut.set_ | apply keep_drewN | apply keep_drew | apply keep_alloc | refine keep_far ?_ GW345.out _) | exact HK.out))) : w.heap.size ≤ gb362));have n7_ := am_ ((Nat.le_trans HW0.out (by rw [hg];exact (keep_size (w := w) (g := g) (row := none) (by repeat (first | (with_reducible first | exact HK.out | apply KeepBut.set_ | apply keep_drewN | apply keep_drew | apply keep_alloc | refine keep_far ?_ GW345.out _) | exact HK.out))) : w.heap.size ≤ gb362) : w0.heap.size ≤ gb362));have n8_ := am_ ((by rw [hg];exact Nat.ne_of_lt (blk_lt (g := gb345) (o := .cells #[.int .i64 0,.int .i64 0,.int .i64 0,.int .i64 0,.string ⟨#[]⟩,.string ⟨#[]⟩,.string ⟨#[]⟩] 24 (0,0)) (by (with_reducible repeat (first | apply k1_ | apply k2_ | apply k3_));exact BK345.out)) : gb345 ≠ gb362));have n9_ := am_ ((by rw [hg];exact Nat.ne_of_gt (blk_lt (g := gb345) (o := .cells #[.int .i64 0,.int .i64 0,.int .i64 0,.int .i64 0,.string ⟨#[]⟩,.string ⟨#[]⟩,.string ⟨#[]⟩] 24 (0,0)) (by (with_reducible repeat (first | apply k1_ | apply k2_ | apply k3_));exact BK345.out)) : gb362 ≠ gb345));have n10_ := am_ ((by rw [hg];exact Nat.ne_of_lt (IsS72.lt (show IsS72 w0 _ g s0_0 t356 t357 from by repeat (first | (with_reducible first | exact HI0.out | apply IsS72.alloc | apply IsS72.drewN | apply IsS72.drew | apply IsS72.set_1 | apply IsS72.set_2 | refine IsS72.far ?_ NB0_345.out _) | exact HI0.out))) : g ≠ gb362));have n11_ := am_ ((by rw [hg];exact Nat.ne_of_gt (IsS72.lt (show IsS72 w0 _ g s0_0 t356 t357 from by repeat (first | (with_reducible first | exact HI0.out | apply IsS72.alloc | apply IsS72.drewN | apply IsS72.drew | apply IsS72.set_1 | apply IsS72.set_2 | refine IsS72.far ?_ NB0_345.out _) | exact HI0.out))) : gb362 ≠ g));clear HO360;clear HI0;clear BK345;clear HK;clear HB;have HO360 := n0_;have HI0 := n1_;have BK345 := n2_;have HK := n3_;have HB := n4_;have BK362 := n5_;have GW362 := n6_;have GE362 := n7_;have NB345_362 := n8_;have NB362_345 := n9_;have NB0_362 := n10_;have NB362_0 := n11_;clear n0_ n1_ n2_ n3_ n4_ n5_ n6_ n7_ n8_ n9_ n10_ n11_;clear hb hbox hg;have hnb20 := NB362_345.out;have hnc20 := NB345_362.out;have hnb21 := NB362_0.out;have hnc21 := NB0_362.out;obtain ⟨hcz22_0,hcz22_1,hcz22_2,hcz22_3,hcz22_4,hcz22_5,hcz22_6,hfz22_0,hfz22_1,hfz22_2,hfz22_3,hfz22_4,hfz22_5,hfz22_6⟩ := bc7_ BK362.out))
   (try simp only [Act.put,p1_,p2_,p3_])
   go_cut [] (fun wc => ∃ (kq : Nat) (x1001_8 : Int) (x1002_8 : Int) (x363002_8 : Int) (x363004_8 : ByteArray),Aside0 (spec_l00Src_message.j0 kq s0_0 x1001_8 x1002_8 (wrap64 (1 + t346)) t349 x363002_8 t352 x363004_8 (⟨#[]⟩ : ByteArray) (t361.extract 0 8) = some (r1,r2,r3,r4,r5,r6,r7,r8,r9)) ∧ Aside0 (kq ≤ k) ∧ Aside0 (wc.heap[gb345]? = some (.cells #[.int .i64 0,.int .i64 0,.int .i64 0,.int .i64 0,.string ⟨#[]⟩,.string ⟨#[]⟩,.string ⟨#[]⟩] 24 (0,0))) ∧ Aside0 (wc.heap[gb362]? = some (.cells #[.int .i64 (wrap64 (1 + t346)),.int .i64 t349,.int .i64 x363002_8,.int .i64 t352,.string x363004_8,.string ⟨#[]⟩,.string (t361.extract 0 8)] 24 (0,0))) ∧ Aside0 (IsS72 w0 wc g s0_0 x1001_8 x1002_8) ∧ Aside0 (KeepBut w wc g none) ∧ Aside0 (Below w0.heap.size w0 wc))
   case first =>
    have H := HC9.out
    clear HC9
    by_cases c23 : (wrap64 (1 + t346)) ≤ 3
    ·rw [if_pos c23] at H
     have c23b0 : decide ((wrap64 (1 + t346)) ≤ 3) = true := decide_eq_true c23
     clear c23
     (first | rw [c23b0] | (simp only [i64_w,i32_w];rw [c23b0]) | skip)
     replace H := Option.bind_eq_some_iff.mp H
     obtain ⟨⟨t363,t364,t365⟩,A240,H⟩ := H
     try dsimp only at H
     have A24 := am_ A240
     clear A240
     replace H := Option.bind_eq_some_iff.mp H
     obtain ⟨⟨t366,t367,t368⟩,A250,H⟩ := H
     try dsimp only at H
     have A25 := am_ A250
     clear A250
     obtain ⟨y369,hy369⟩ : ∃ y_ : List Int,y_ = (([(t366) % 256] : List Int)) := ⟨_,rfl⟩
     replace H : ((spec_l01Hash.f k y369).bind fun t372 => (spec_l00Src_message.j0 k s0_0 t367 t368 (wrap64 (1 + t346)) t349 (wrap64 (1 + t363)) t352 t372 (⟨#[]⟩ : ByteArray) (t361.extract 0 8))) = some (r1,r2,r3,r4,r5,r6,r7,r8,r9) := by first | (rw [hy369];with_reducible exact H) | (have H2_ := (Option.bind_some _ _).symm.trans H;rw [hy369];with_reducible exact H2_) | (have H2_ := (Option.bind_some _ _).symm.trans H;with_reducible exact H2_) | with_reducible exact H | (rw [hy369];exact H) | exact H
     have Ny369 := am_ hy369
     clear hy369
     replace H := Option.bind_eq_some_iff.mp H
     obtain ⟨t372,A260,H⟩ := H
     try dsimp only at H
     have A26 := am_ A260
     clear A260
     have H' := am_ H
     clear H
     go_wp2_with (first | ((with_reducible refine gate_callee (f := 45) rfl ?_);refine goesL_ (some 22) rfl rfl Try.func45 (by kernel_rfl) rfl #[.pointer (some ⟨g,0,none⟩),.int .i64 4] rfl (by (try simp only [m1_,m2_,m3_]);first | done | rfl | (simp only [d1_,d2_];rfl)) ?_;(with_reducible refine (spec_l00Src_next.calls g s0_0 t356 t357 4 t363 t364 t365 w0 _ ?side1 ?side2 A24.out).mono ?_);(case side1 => repeat (first | (with_reducible first | exact HI0.out | apply IsS72.alloc | apply IsS72.drewN | apply IsS72.drew | apply IsS72.set_1 | apply IsS72.set_2 | refine IsS72.far ?_ NB0_345.out _ | refine IsS72.far ?_ NB0_362.out _) | exact HI0.out));(case side2 => repeat (first | (with_reducible first | exact HB.out | apply b1_ | apply b2_ | apply b3_ | refine below_set ?_ (IsS72.ge HI0.out) | refine below_set ?_ GE345.out | refine below_set ?_ GE362.out) | exact HB.out));rintro e w27 ⟨rfl,hi,hb,hk⟩;refine ⟨_,rfl,?_⟩;have n0_ := am_ (KeepBut.blk hk (g' := gb345) (o := .cells #[.int .i64 0,.int .i64 0,.int .i64 0,.int .i64 0,.string ⟨#[]⟩,.string ⟨#[]⟩,.string ⟨#[]⟩] 24 (0,0)) (by (repeat (first | (with_reducible first | apply k1_ | apply k2_ | apply k3_) | refine blk_far ?_ NB345_362.out _));exact BK345.out) NB345_0.out (by simp));have n1_ := am_ (Kd.R_mono (Kd.R_keep (IsS72.apart (show IsS72 w0 _ g s0_0 t356 t357 from by repeat (first | (with_reducible first | exact HI0.out | apply IsS72.alloc | apply IsS72.drewN | apply IsS72.drew | apply IsS72.set_1 | apply IsS72.set_2 | refine IsS72.far ?_ NB0_345.out _ | refine IsS72.far ?_ NB0_362.out _) | exact HI0.out)) (by (with_reducible repeat (first | apply r1_ | apply r2_ | apply r3_));exact (Kd.R_mono (Kd.Rf (Kd.Rf (Kd.Rf (Kd.Rf (Kd.Rf (Kd.Rf (Kd.Rf (Kd.R_types HO360.out BK362.out (by decide))))))))) (fun _ h_ => h_.1))) (by decide)) hk (fun _ h => h.2)) (fun _ h => h.1));have n2_ := am_ (KeepBut.blk hk (g' := gb362) (o := .cells #[.int .i64 (wrap64 (1 + t346)),.int .i64 t349,.int .i64 0,.int .i64 t352,.string ⟨#[]⟩,.string ⟨#[]⟩,.string (t361.extract 0 8)] 24 (0,0)) (by (with_reducible repeat (first | apply k1_ | apply k2_ | apply k3_));refine blk_put (cs := #[.int .i64 (wrap64 (1 + t346)),.int .i64 t349,.int .i64 0,.int .i64 t352,.string ⟨#[]⟩,.string ⟨#[]⟩,.string ⟨#[]⟩]) ?_ 6 _ rfl;(with_reducible repeat (first | apply k1_ | apply k2_ | apply k3_));refine blk_put (cs := #[.int .i64 (wrap64 (1 + t346)),.int .i64 t349,.int .i64 0,.int .i64 t352,.string ⟨#[]⟩,.string ⟨#[]⟩,.string ⟨#[]⟩]) ?_ 5 _ rfl;(with_reducible repeat (first | apply k1_ | apply k2_ | apply k3_));refine blk_put (cs := #[.int .i64 (wrap64 (1 + t346)),.int .i64 t349,.int .i64 0,.int .i64 t352,.string ⟨#[]⟩,.string ⟨#[]⟩,.string ⟨#[]⟩]) ?_ 4 _ rfl;(with_reducible repeat (first | apply k1_ | apply k2_ | apply k3_));refine blk_put (cs := #[.int .i64 (wrap64 (1 + t346)),.int .i64 t349,.int .i64 0,.int .i64 0,.string ⟨#[]⟩,.string ⟨#[]⟩,.string ⟨#[]⟩]) ?_ 3 _ rfl;(with_reducible repeat (first | apply k1_ | apply k2_ | apply k3_));refine blk_put (cs := #[.int .i64 (wrap64 (1 + t346)),.int .i64 t349,.int .i64 0,.int .i64 0,.string ⟨#[]⟩,.string ⟨#[]⟩,.string ⟨#[]⟩]) ?_ 2 _ rfl;(with_reducible repeat (first | apply k1_ | apply k2_ | apply k3_));refine blk_put (cs := #[.int .i64 (wrap64 (1 + t346)),.int .i64 0,.int .i64 0,.int .i64 0,.string ⟨#[]⟩,.string ⟨#[]⟩,.string ⟨#[]⟩]) ?_ 1 _ rfl;(with_reducible repeat (first | apply k1_ | apply k2_ | apply k3_));refine blk_put (cs := #[.int .i64 0,.int .i64 0,.int .i64 0,.int .i64 0,.string ⟨#[]⟩,.string ⟨#[]⟩,.string ⟨#[]⟩]) ?_ 0 _ rfl;(with_reducible repeat (first | apply k1_ | apply k2_ | apply k3_));exact BK362.out) NB362_0.out (by simp));have n3_ := am_ (KeepBut.trans (by repeat (first | (with_reducible first | exact HK.out | apply KeepBut.set_ | apply keep_drewN | apply keep_drew | apply keep_alloc | refine keep_far ?_ GW345.out _ | refine keep_far ?_ GW362.out _) | exact HK.out)) hk (.inl rfl));have n4_ := am_ (hb);have n5_ := am_ (hi);clear BK345;clear HO360;clear BK362;clear HK;clear HB;clear HI0;have BK345 := n0_;have HO360 := n1_;have BK362 := n2_;have HK := n3_;have HB := n4_;have HI0 := n5_;clear n0_ n1_ n2_ n3_ n4_ n5_;(try clear hb);(try clear hb2);(try clear hk);(try clear hi);have hnb28 := NB362_345.out;have hnc28 := NB345_362.out;have hnb29 := NB362_0.out;have hnc29 := NB0_362.out;obtain ⟨hcz30_0,hcz30_1,hcz30_2,hcz30_3,hcz30_4,hcz30_5,hcz30_6,hfz30_0,hfz30_1,hfz30_2,hfz30_3,hfz30_4,hfz30_5,hfz30_6⟩ := bc7_ BK362.out) | ((with_reducible refine gate_callee (f := 45) rfl ?_);refine goesL_ (some 26) rfl rfl Try.func45 (by kernel_rfl) rfl #[.pointer (some ⟨g,0,none⟩),.int .i64 4] rfl (by (try simp only [m1_,m2_,m3_]);first | done | rfl | (simp only [d1_,d2_];rfl)) ?_;(with_reducible refine (spec_l00Src_next.calls g s0_0 t364 t365 4 t366 t367 t368 w0 _ ?side1 ?side2 A25.out).mono ?_);(case side1 => repeat (first | (with_reducible first | exact HI0.out | apply IsS72.alloc | apply IsS72.drewN | apply IsS72.drew | apply IsS72.set_1 | apply IsS72.set_2 | refine IsS72.far ?_ NB0_345.out _ | refine IsS72.far ?_ NB0_362.out _) | exact HI0.out));(case side2 => repeat (first | (with_reducible first | exact HB.out | apply b1_ | apply b2_ | apply b3_ | refine below_set ?_ (IsS72.ge HI0.out) | refine below_set ?_ GE345.out | refine below_set ?_ GE362.out) | exact HB.out));rintro e w31 ⟨rfl,hi,hb,hk⟩;refine ⟨_,rfl,?_⟩;have n0_ := am_ (KeepBut.blk hk (g' := gb345) (o := .cells #[.int .i64 0,.int .i64 0,.int .i64 0,.int .i64 0,.string ⟨#[]⟩,.string ⟨#[]⟩,.string ⟨#[]⟩] 24 (0,0)) (by (repeat (first | (with_reducible first | apply k1_ | apply k2_ | apply k3_) | refine blk_far ?_ NB345_362.out _));exact BK345.out) NB345_0.out (by simp));have n1_ := am_ (Kd.R_mono (Kd.R_keep (IsS72.apart (show IsS72 w0 _ g s0_0 t364 t365 from by repeat (first | (with_reducible first | exact HI0.out | apply IsS72.alloc | apply IsS72.drewN | apply IsS72.drew | apply IsS72.set_1 | apply IsS72.set_2 | refine IsS72.far ?_ NB0_345.out _ | refine IsS72.far ?_ NB0_362.out _) | exact HI0.out)) (by (with_reducible repeat (first | apply r1_ | apply r2_ | apply r3_));exact (Kd.R_mono (Kd.Rf (Kd.R_types HO360.out BK362.out (by decide))) (fun _ h_ => h_.1))) (by decide)) hk (fun _ h => h.2)) (fun _ h => h.1));have n2_ := am_ (KeepBut.blk hk (g' := gb362) (o := .cells #[.int .i64 (wrap64 (1 + t346)),.int .i64 t349,.int .i64 (wrap64 (1 + t363)),.int .i64 t352,.string ⟨#[]⟩,.string ⟨#[]⟩,.string (t361.extract 0 8)] 24 (0,0)) (by (with_reducible repeat (first | apply k1_ | apply k2_ | apply k3_));refine blk_put (cs := #[.int .i64 (wrap64 (1 + t346)),.int .i64 t349,.int .i64 0,.int .i64 t352,.string ⟨#[]⟩,.string ⟨#[]⟩,.string (t361.extract 0 8)]) ?_ 2 _ rfl;(with_reducible repeat (first | apply k1_ | apply k2_ | apply k3_));exact BK362.out) NB362_0.out (by simp));have n3_ := am_ (KeepBut.trans (by repeat (first | (with_reducible first | exact HK.out | apply KeepBut.set_ | apply keep_drewN | apply keep_drew | apply keep_alloc | refine keep_far ?_ GW345.out _ | refine keep_far ?_ GW362.out _) | exact HK.out)) hk (.inl rfl));have n4_ := am_ (hb);have n5_ := am_ (hi);clear BK345;clear HO360;clear BK362;clear HK;clear HB;clear HI0;have BK345 := n0_;have HO360 := n1_;have BK362 := n2_;have HK := n3_;have HB := n4_;have HI0 := n5_;clear n0_ n1_ n2_ n3_ n4_ n5_;(try clear hb);(try clear hb2);(try clear hk);(try clear hi)) | ((with_reducible refine gate_dst (N := 28) rfl ?_);refine Kd.R_lit (Kd.int .u8) _ 5 ?hg (N := 28) ?hd (xs := ([(t366) % 256] : List Int)) (inner := [.int .u8 ((t366) % 256)]) (ok := fun _ => True) (okp := fun _ => True) ?hr ?hp (fun _ hk => hk) trivial (Below.refl _ _) (Nat.le_refl _) (by simp) ?_;(case hd => rfl);(case hg => rfl);(case hr => first | (go_simp;done) | (go_simp;rfl));(case hp => exact (Reps.one (show Kd.M (Kd.int .u8) _ _ _ ((t366) % 256) [.int .u8 ((t366) % 256)] from rfl) (Reps.none _ _)));intro v370 w32 ho33 hb hg_ hnew_;clear hg_ hnew_;(first | rw [← Ny369.out] at ho33 | (simp only [Int.reduceToNat] at ho33;rw [← Ny369.out] at ho33));have n0_ := am_ (Kd.R_elder' (by (with_reducible repeat (first | apply r1_ | apply r2_ | apply r3_));exact HO360.out) (Kd.R_base ho33) hb);have n1_ := am_ (Kd.R_lower (Kd.R_new' ho33 (Kd.R_lt (by (with_reducible repeat (first | apply r1_ | apply r2_ | apply r3_));exact HO360.out))) (keep_size (w := w) (g := g) (row := none) (by repeat (first | (with_reducible first | exact HK.out | apply KeepBut.set_ | apply keep_drewN | apply keep_drew | apply keep_alloc | refine keep_far ?_ GW345.out _ | refine keep_far ?_ GW362.out _) | exact HK.out))));have n2_ := am_ (IsS72.below (by repeat (first | (with_reducible first | exact HI0.out | apply IsS72.alloc | apply IsS72.drewN | apply IsS72.drew | apply IsS72.set_1 | apply IsS72.set_2 | refine IsS72.far ?_ NB0_345.out _ | refine IsS72.far ?_ NB0_362.out _) | exact HI0.out)) hb);have n3_ := am_ (blk_below (g := gb345) (o := .cells #[.int .i64 0,.int .i64 0,.int .i64 0,.int .i64 0,.string ⟨#[]⟩,.string ⟨#[]⟩,.string ⟨#[]⟩] 24 (0,0)) (by (with_reducible repeat (first | apply k1_ | apply k2_ | apply k3_));exact BK345.out) hb);have n4_ := am_ (blk_below (g := gb362) (o := .cells #[.int .i64 (wrap64 (1 + t346)),.int .i64 t349,.int .i64 (wrap64 (1 + t363)),.int .i64 t352,.string ⟨#[]⟩,.string ⟨#[]⟩,.string (t361.extract 0 8)] 24 (0,0)) (by (with_reducible repeat (first | apply k1_ | apply k2_ | apply k3_));exact BK362.out) hb);have n5_ := am_ (KeepBut.trans (by repeat (first | (with_reducible first | exact HK.out | apply KeepBut.set_ | apply keep_drewN | apply keep_drew | apply keep_alloc | refine keep_far ?_ GW345.out _ | refine keep_far ?_ GW362.out _) | exact HK.out)) (KeepBut.of_below hb g none) (.inl rfl));have n6_ := am_ (below_step (by repeat (first | (with_reducible first | exact HB.out | apply b1_ | apply b2_ | apply b3_ | refine below_set ?_ (IsS72.ge HI0.out) | refine below_set ?_ GE345.out | refine below_set ?_ GE362.out) | exact HB.out)) hb);clear HO360;clear HI0;clear BK345;clear BK362;clear HK;clear HB;have HO360 := n0_;have HO371 := n1_;have HI0 := n2_;have BK345 := n3_;have BK362 := n4_;have HK := n5_;have HB := n6_;clear n0_ n1_ n2_ n3_ n4_ n5_ n6_;clear hb ho33;obtain ⟨Ao34,co34,eo34⟩ := Kd.R_slice HO371.out;subst eo34) | ((with_reducible refine gate_callee (f := 46) rfl ?_);refine goesL_ (some 29) rfl rfl Try.func46 (by kernel_rfl) rfl #[.slice Ao34 y369.length co34] rfl (by (try simp only [m1_,m2_,m3_]);first | done | rfl | (simp only [d1_,d2_];rfl)) ?_;(with_reducible refine (spec_l01Hash.calls k _ _ y369 t372 _ ?side1 ?side2 A26.out).mono ?_);(case side1 => repeat (first | exact (Kd.R_reads' HO371.out).2.2 | (with_reducible refine Kd.C_alloc ?_ _) | (with_reducible refine Kd.C_drewN ?_ _) | (with_reducible refine Kd.C_drew ?_)));(case side2 => exact (Kd.R_reads' HO371.out).2.1);rintro e w35 ⟨rfl,hb⟩;refine ⟨_,rfl,?_⟩;have n0_ := am_ (Kd.R_below (by (with_reducible repeat (first | apply r1_ | apply r2_ | apply r3_));exact HO360.out) hb);have n1_ := am_ (Kd.R_below (by (with_reducible repeat (first | apply r1_ | apply r2_ | apply r3_));exact HO371.out) hb);have n2_ := am_ (IsS72.below (by repeat (first | (with_reducible first | exact HI0.out | apply IsS72.alloc | apply IsS72.drewN | apply IsS72.drew | apply IsS72.set_1 | apply IsS72.set_2 | refine IsS72.far ?_ NB0_345.out _ | refine IsS72.far ?_ NB0_362.out _) | exact HI0.out)) hb);have n3_ := am_ (blk_below (g := gb345) (o := .cells #[.int .i64 0,.int .i64 0,.int .i64 0,.int .i64 0,.string ⟨#[]⟩,.string ⟨#[]⟩,.string ⟨#[]⟩] 24 (0,0)) (by (with_reducible repeat (first | apply k1_ | apply k2_ | apply k3_));exact BK345.out) hb);have n4_ := am_ (blk_below (g := gb362) (o := .cells #[.int .i64 (wrap64 (1 + t346)),.int .i64 t349,.int .i64 (wrap64 (1 + t363)),.int .i64 t352,.string ⟨#[]⟩,.string ⟨#[]⟩,.string (t361.extract 0 8)] 24 (0,0)) (by (with_reducible repeat (first | apply k1_ | apply k2_ | apply k3_));exact BK362.out) hb);have n5_ := am_ (KeepBut.trans (by repeat (first | (with_reducible first | exact HK.out | apply KeepBut.set_ | apply keep_drewN | apply keep_drew | apply keep_alloc | refine keep_far ?_ GW345.out _ | refine keep_far ?_ GW362.out _) | exact HK.out)) (KeepBut.of_below hb g none) (.inl rfl));have n6_ := am_ (below_step (by repeat (first | (with_reducible first | exact HB.out | apply b1_ | apply b2_ | apply b3_ | refine below_set ?_ (IsS72.ge HI0.out) | refine below_set ?_ GE345.out | refine below_set ?_ GE362.out) | exact HB.out)) hb);clear HO360;clear HO371;clear HI0;clear BK345;clear BK362;clear HK;clear HB;have HO360 := n0_;have HO371 := n1_;have HI0 := n2_;have BK345 := n3_;have BK362 := n4_;have HK := n5_;have HB := n6_;clear n0_ n1_ n2_ n3_ n4_ n5_ n6_;(try clear hb);(try clear hb2);(try clear hk);(try clear hi);obtain ⟨hcz36_0,hcz36_1,hcz36_2,hcz36_3,hcz36_4,hcz36_5,hcz36_6,hfz36_0,hfz36_1,hfz36_2,hfz36_3,hfz36_4,hfz36_5,hfz36_6⟩ := bc7_ BK362.out))
     go_meet
     case rel => exact ⟨_,(t367),(t368),(wrap64 (1 + t363)),(t372),H',⟨by first | omega | exact Nat.le_refl _⟩,⟨by (repeat (first | (with_reducible first | apply k1_ | apply k2_ | apply k3_) | refine blk_far ?_ NB345_362.out _));exact BK345.out⟩,⟨by (with_reducible repeat (first | apply k1_ | apply k2_ | apply k3_));refine blk_put (cs := #[.int .i64 (wrap64 (1 + t346)),.int .i64 t349,.int .i64 (wrap64 (1 + t363)),.int .i64 t352,.string ⟨#[]⟩,.string ⟨#[]⟩,.string (t361.extract 0 8)]) ?_ 4 _ rfl;(with_reducible repeat (first | apply k1_ | apply k2_ | apply k3_));exact BK362.out⟩,⟨by repeat (first | (with_reducible first | exact HI0.out | apply IsS72.alloc | apply IsS72.drewN | apply IsS72.drew | apply IsS72.set_1 | apply IsS72.set_2 | refine IsS72.far ?_ NB0_345.out _ | refine IsS72.far ?_ NB0_362.out _) | exact HI0.out)⟩,⟨by repeat (first | (with_reducible first | exact HK.out | apply KeepBut.set_ | apply keep_drewN | apply keep_drew | apply keep_alloc | refine keep_far ?_ GW345.out _ | refine keep_far ?_ GW362.out _) | exact HK.out)⟩,⟨by repeat (first | (with_reducible first | exact HB.out | apply b1_ | apply b2_ | apply b3_ | refine below_set ?_ (IsS72.ge HI0.out) | refine below_set ?_ GE345.out | refine below_set ?_ GE362.out) | exact HB.out)⟩⟩
    ·rw [if_neg c23] at H
     have c23b0 : decide ((wrap64 (1 + t346)) ≤ 3) = false := decide_eq_false c23
     clear c23
     (first | rw [c23b0] | (simp only [i64_w,i32_w];rw [c23b0]) | skip)
     have H' := am_ H
     clear H
     go_wp2
     go_meet
     case rel => exact ⟨_,(t356),(t357),(0),((⟨#[]⟩ : ByteArray)),H',⟨by first | omega | exact Nat.le_refl _⟩,⟨by (repeat (first | (with_reducible first | apply k1_ | apply k2_ | apply k3_) | refine blk_far ?_ NB345_362.out _));exact BK345.out⟩,⟨by (with_reducible repeat (first | apply k1_ | apply k2_ | apply k3_));refine blk_put (cs := #[.int .i64 (wrap64 (1 + t346)),.int .i64 t349,.int .i64 0,.int .i64 t352,.string ⟨#[]⟩,.string ⟨#[]⟩,.string ⟨#[]⟩]) ?_ 6 _ rfl;(with_reducible repeat (first | apply k1_ | apply k2_ | apply k3_));refine blk_put (cs := #[.int .i64 (wrap64 (1 + t346)),.int .i64 t349,.int .i64 0,.int .i64 t352,.string ⟨#[]⟩,.string ⟨#[]⟩,.string ⟨#[]⟩]) ?_ 5 _ rfl;(with_reducible repeat (first | apply k1_ | apply k2_ | apply k3_));refine blk_put (cs := #[.int .i64 (wrap64 (1 + t346)),.int .i64 t349,.int .i64 0,.int .i64 t352,.string ⟨#[]⟩,.string ⟨#[]⟩,.string ⟨#[]⟩]) ?_ 4 _ rfl;(with_reducible repeat (first | apply k1_ | apply k2_ | apply k3_));refine blk_put (cs := #[.int .i64 (wrap64 (1 + t346)),.int .i64 t349,.int .i64 0,.int .i64 0,.string ⟨#[]⟩,.string ⟨#[]⟩,.string ⟨#[]⟩]) ?_ 3 _ rfl;(with_reducible repeat (first | apply k1_ | apply k2_ | apply k3_));refine blk_put (cs := #[.int .i64 (wrap64 (1 + t346)),.int .i64 t349,.int .i64 0,.int .i64 0,.string ⟨#[]⟩,.string ⟨#[]⟩,.string ⟨#[]⟩]) ?_ 2 _ rfl;(with_reducible repeat (first | apply k1_ | apply k2_ | apply k3_));refine blk_put (cs := #[.int .i64 (wrap64 (1 + t346)),.int .i64 0,.int .i64 0,.int .i64 0,.string ⟨#[]⟩,.string ⟨#[]⟩,.string ⟨#[]⟩]) ?_ 1 _ rfl;(with_reducible repeat (first | apply k1_ | apply k2_ | apply k3_));refine blk_put (cs := #[.int .i64 0,.int .i64 0,.int .i64 0,.int .i64 0,.string ⟨#[]⟩,.string ⟨#[]⟩,.string ⟨#[]⟩]) ?_ 0 _ rfl;(with_reducible repeat (first | apply k1_ | apply k2_ | apply k3_));exact BK362.out⟩,⟨by repeat (first | (with_reducible first | exact HI0.out | apply IsS72.alloc | apply IsS72.drewN | apply IsS72.drew | apply IsS72.set_1 | apply IsS72.set_2 | refine IsS72.far ?_ NB0_345.out _ | refine IsS72.far ?_ NB0_362.out _) | exact HI0.out)⟩,⟨by repeat (first | (with_reducible first | exact HK.out | apply KeepBut.set_ | apply keep_drewN | apply keep_drew | apply keep_alloc | refine keep_far ?_ GW345.out _ | refine keep_far ?_ GW362.out _) | exact HK.out)⟩,⟨by repeat (first | (with_reducible first | exact HB.out | apply b1_ | apply b2_ | apply b3_ | refine below_set ?_ (IsS72.ge HI0.out) | refine below_set ?_ GE345.out | refine below_set ?_ GE362.out) | exact HB.out)⟩⟩
   case rest =>
    clear HC9
    try clear c2
    try clear p2
    try clear c4
    try clear p6
    try clear c7
    try clear c7b0
    try clear c7b1
    try clear c8
    try clear c8b0
    try clear c8b1
    try clear c20
    try clear c21
    try clear c23
    try clear c23b0
    try clear c28
    try clear c29
    try clear hcz22_0
    try clear hcz22_1
    try clear hcz22_2
    try clear hcz22_3
    try clear hcz22_4
    try clear hcz22_5
    try clear hcz22_6
    try clear hcz30_0
    try clear hcz30_1
    try clear hcz30_2
    try clear hcz30_3
    try clear hcz30_4
    try clear hcz30_5
    try clear hcz30_6
    try clear hcz36_0
    try clear hcz36_1
    try clear hcz36_2
    try clear hcz36_3
    try clear hcz36_4
    try clear hcz36_5
    try clear hcz36_6
    try clear hfz22_0
    try clear hfz22_1
    try clear hfz22_2
    try clear hfz22_3
    try clear hfz22_4
    try clear hfz22_5
    try clear hfz22_6
    try clear hfz30_0
    try clear hfz30_1
    try clear hfz30_2
    try clear hfz30_3
    try clear hfz30_4
    try clear hfz30_5
    try clear hfz30_6
    try clear hfz36_0
    try clear hfz36_1
    try clear hfz36_2
    try clear hfz36_3
    try clear hfz36_4
    try clear hfz36_5
    try clear hfz36_6
    obtain ⟨kq,x1001_8,x1002_8,x363002_8,x363004_8,HA,HJ8,BK345,BK362,HI0,HK,HB⟩ := hcut
    cases kq with
    | zero => exact absurd HA.out (by simp [spec_l00Src_message.j0])
    | succ kj8 =>
     have H := HA.out
     clear HA
     simp only [spec_l00Src_message.j0] at H
     by_cases c37 : (wrap64 (1 + t346)) = 1
     ·rw [if_pos c37] at H
      have c37b0 : ((wrap64 (1 + t346)) == 1) = true := beq_iff_eq.mpr c37
      have c37b1 : ((wrap64 (1 + t346)) != 1) = false := bne_eq_false_iff_eq.mpr c37
      clear c37
      replace H := Option.bind_eq_some_iff.mp H
      obtain ⟨⟨t373,t374,t375,t376,t377,t378,t379,t382,t383⟩,A380,H⟩ := H
      try dsimp only at H
      have A38 := am_ A380
      clear A380
      replace H := Option.bind_eq_some_iff.mp H
      obtain ⟨t384,A390,H⟩ := H
      try dsimp only at H
      have A39 := am_ A390
      clear A390
      by_cases c40 : (wrap64 (1 + t346)) ≥ 4
      ·rw [if_pos c40] at H
       have c40b0 : decide (4 ≤ (wrap64 (1 + t346))) = true := decide_eq_true c40
       clear c40
       obtain ⟨y387,hy387⟩ : ∃ y_ : List ByteArray,y_ = (([(⟨#[111,110,101]⟩ : ByteArray),(⟨#[116,119,111]⟩ : ByteArray)] : List ByteArray)) := ⟨_,rfl⟩
       replace H : ((spec_l02List.f kj8 y387).bind fun t390 => (some ((wrap64 (1 + t346)),t349,x363002_8,t352,x363004_8,strOfNums t390,(t361.extract 0 8),t382,t383))) = some (r1,r2,r3,r4,r5,r6,r7,r8,r9) := by first | (rw [hy387];with_reducible exact H) | (have H2_ := (Option.bind_some _ _).symm.trans H;rw [hy387];with_reducible exact H2_) | (have H2_ := (Option.bind_some _ _).symm.trans H;with_reducible exact H2_) | with_reducible exact H | (rw [hy387];exact H) | exact H
       have Ny387 := am_ hy387
       clear hy387
       replace H := Option.bind_eq_some_iff.mp H
       obtain ⟨t390,A410,H⟩ := H
       try dsimp only at H
       have A41 := am_ A410
       clear A410
       simp only [Option.some.injEq,Prod.mk.injEq] at H
       obtain ⟨rfl,rfl,rfl,rfl,rfl,rfl,rfl,rfl,rfl⟩ := H
       have hnb42 := NB362_345.out
       have hnc42 := NB345_362.out
       have hnb43 := NB362_0.out
       have hnc43 := NB0_362.out
       obtain ⟨hcz44_0,hcz44_1,hcz44_2,hcz44_3,hcz44_4,hcz44_5,hcz44_6,hfz44_0,hfz44_1,hfz44_2,hfz44_3,hfz44_4,hfz44_5,hfz44_6⟩ := bc7_ BK362.out
       go_wp2_with (first | ((with_reducible refine gate_callee (f := 38) rfl ?_);refine goesL_ (some 35) rfl rfl Try.func38 (by kernel_rfl) rfl #[.pointer (some ⟨g,0,none⟩)] rfl (by (try simp only [m1_,m2_,m3_]);first | done | rfl | (simp only [d1_,d2_];rfl)) ?_;(with_reducible refine (spec_l00Src_batch.calls kj8 g s0_0 x1001_8 x1002_8 t373 t374 t375 t376 t377 t378 t379 t382 t383 w0 _ ?side1 ?side2 A38.out).mono ?_);(case side1 => repeat (first | (with_reducible first | exact HI0.out | apply IsS72.alloc | apply IsS72.drewN | apply IsS72.drew | apply IsS72.set_1 | apply IsS72.set_2 | refine IsS72.far ?_ NB0_345.out _ | refine IsS72.far ?_ NB0_362.out _) | exact HI0.out));(case side2 => repeat (first | (with_reducible first | exact HB.out | apply b1_ | apply b2_ | apply b3_ | refine below_set ?_ (IsS72.ge HI0.out) | refine below_set ?_ GE345.out | refine below_set ?_ GE362.out) | exact HB.out));rintro e w45 ⟨v380,rfl,ho0,hi,hb,hk⟩;refine ⟨_,rfl,?_⟩;have n0_ := am_ (KeepBut.blk hk (g' := gb345) (o := .cells #[.int .i64 0,.int .i64 0,.int .i64 0,.int .i64 0,.string ⟨#[]⟩,.string ⟨#[]⟩,.string ⟨#[]⟩] 24 (0,0)) (by (with_reducible repeat (first | apply k1_ | apply k2_ | apply k3_));exact BK345.out) NB345_0.out (by simp));have n1_ := am_ (KeepBut.blk hk (g' := gb362) (o := .cells #[.int .i64 (wrap64 (1 + t346)),.int .i64 t349,.int .i64 x363002_8,.int .i64 t352,.string x363004_8,.string ⟨#[]⟩,.string (t361.extract 0 8)] 24 (0,0)) (by (with_reducible repeat (first | apply k1_ | apply k2_ | apply k3_));exact BK362.out) NB362_0.out (by simp));have n2_ := am_ (Kd.R_lower ho0 (keep_size (w := w) (g := g) (row := none) (by repeat (first | (with_reducible first | exact HK.out | apply KeepBut.set_ | apply keep_drewN | apply keep_drew | apply keep_alloc | refine keep_far ?_ GW345.out _ | refine keep_far ?_ GW362.out _) | exact HK.out))));have n3_ := am_ (KeepBut.trans (by repeat (first | (with_reducible first | exact HK.out | apply KeepBut.set_ | apply keep_drewN | apply keep_drew | apply keep_alloc | refine keep_far ?_ GW345.out _ | refine keep_far ?_ GW362.out _) | exact HK.out)) hk (.inl rfl));have n4_ := am_ (hb);have n5_ := am_ (hi);clear BK345;clear BK362;clear HK;clear HB;clear HI0;have BK345 := n0_;have BK362 := n1_;have HO381 := n2_;have HK := n3_;have HB := n4_;have HI0 := n5_;clear n0_ n1_ n2_ n3_ n4_ n5_;(try clear hb);(try clear hb2);(try clear hk);(try clear hi);(try clear ho0);obtain ⟨Ao46,co46,eo46⟩ := Kd.R_slice HO381.out;subst eo46) | ((with_reducible refine gate_callee (f := 42) rfl ?_);refine goesL_ (some 36) rfl rfl Try.func42 (by kernel_rfl) rfl #[.agg #[.bool t373,.int .i64 t374,.int .i64 t375,.int .i64 t376,.int .i64 t377,.string t378,.slice Ao46 t379.length co46]] rfl (by (try simp only [m1_,m2_,m3_]);first | done | rfl | (simp only [d1_,d2_];rfl)) ?_;(with_reducible refine (spec_l02Batch.calls kj8 t373 t374 t375 t376 t377 t378 _ _ t379 t384 _ ?side1 ?side2 A39.out).mono ?_);(case side1 => repeat (first | exact (Kd.R_reads' HO381.out).2.2 | (with_reducible refine Kd.C_alloc ?_ _) | (with_reducible refine Kd.C_drewN ?_ _) | (with_reducible refine Kd.C_drew ?_)));(case side2 => exact (Kd.R_reads' HO381.out).2.1);rintro e w47 ⟨v385,rfl,ho0,hb⟩;refine ⟨_,rfl,?_⟩;have n0_ := am_ (Kd.R_below (by (with_reducible repeat (first | apply r1_ | apply r2_ | apply r3_));exact HO381.out) hb);have n1_ := am_ (Kd.R_lower ho0 (keep_size (w := w) (g := g) (row := none) (by repeat (first | (with_reducible first | exact HK.out | apply KeepBut.set_ | apply keep_drewN | apply keep_drew | apply keep_alloc | refine keep_far ?_ GW345.out _ | refine keep_far ?_ GW362.out _) | exact HK.out))));have n2_ := am_ (blk_below (g := gb345) (o := .cells #[.int .i64 0,.int .i64 0,.int .i64 0,.int .i64 0,.string ⟨#[]⟩,.string ⟨#[]⟩,.string ⟨#[]⟩] 24 (0,0)) (by (with_reducible repeat (first | apply k1_ | apply k2_ | apply k3_));exact BK345.out) hb);have n3_ := am_ (blk_below (g := gb362) (o := .cells #[.int .i64 (wrap64 (1 + t346)),.int .i64 t349,.int .i64 x363002_8,.int .i64 t352,.string x363004_8,.string ⟨#[]⟩,.string (t361.extract 0 8)] 24 (0,0)) (by (with_reducible repeat (first | apply k1_ | apply k2_ | apply k3_));exact BK362.out) hb);have n4_ := am_ (IsS72.below (by repeat (first | (with_reducible first | exact HI0.out | apply IsS72.alloc | apply IsS72.drewN | apply IsS72.drew | apply IsS72.set_1 | apply IsS72.set_2 | refine IsS72.far ?_ NB0_345.out _ | refine IsS72.far ?_ NB0_362.out _) | exact HI0.out)) hb);have n5_ := am_ (KeepBut.trans (by repeat (first | (with_reducible first | exact HK.out | apply KeepBut.set_ | apply keep_drewN | apply keep_drew | apply keep_alloc | refine keep_far ?_ GW345.out _ | refine keep_far ?_ GW362.out _) | exact HK.out)) (KeepBut.of_below hb g none) (.inl rfl));have n6_ := am_ (below_step (by repeat (first | (with_reducible first | exact HB.out | apply b1_ | apply b2_ | apply b3_ | refine below_set ?_ (IsS72.ge HI0.out) | refine below_set ?_ GE345.out | refine below_set ?_ GE362.out) | exact HB.out)) hb);clear HO381;clear BK345;clear BK362;clear HI0;clear HK;clear HB;have HO381 := n0_;have HO386 := n1_;have BK345 := n2_;have BK362 := n3_;have HI0 := n4_;have HK := n5_;have HB := n6_;clear n0_ n1_ n2_ n3_ n4_ n5_ n6_;(try clear hb);(try clear hb2);(try clear hk);(try clear hi);(try clear ho0);have hcv48 := own_string (P := Try.prog) Try.underlying22 Try.underlying5 Try.underlying9 (Kd.own_of_R HO386.out);obtain ⟨hcz49_0,hcz49_1,hcz49_2,hcz49_3,hcz49_4,hcz49_5,hcz49_6,hfz49_0,hfz49_1,hfz49_2,hfz49_3,hfz49_4,hfz49_5,hfz49_6⟩ := bc7_ BK362.out) | ((with_reducible refine gate_dst (N := 42) rfl ?_);refine Kd.R_lit Kd.string _ 9 ?hg (N := 42) ?hd (xs := ([(⟨#[111,110,101]⟩ : ByteArray),(⟨#[116,119,111]⟩ : ByteArray)] : List ByteArray)) (inner := [.string ⟨#[111,110,101]⟩,.string ⟨#[116,119,111]⟩]) (ok := fun _ => True) (okp := fun _ => True) ?hr ?hp (fun _ hk => hk) trivial (Below.refl _ _) (Nat.le_refl _) (by simp) ?_;(case hd => rfl);(case hg => rfl);(case hr => first | (go_simp;done) | (go_simp;rfl));(case hp => exact (Reps.one (show Kd.M Kd.string _ _ _ (⟨#[111,110,101]⟩ : ByteArray) [.string ⟨#[111,110,101]⟩] from rfl) (Reps.one (show Kd.M Kd.string _ _ _ (⟨#[116,119,111]⟩ : ByteArray) [.string ⟨#[116,119,111]⟩] from rfl) (Reps.none _ _))));intro v388 w50 ho51 hb hg_ hnew_;clear hg_ hnew_;(first | rw [← Ny387.out] at ho51 | (simp only [Int.reduceToNat] at ho51;rw [← Ny387.out] at ho51));have n0_ := am_ (Kd.R_below (by (with_reducible repeat (first | apply r1_ | apply r2_ | apply r3_));exact (Kd.R_mono (Kd.Rf (Kd.R_types HO381.out BK362.out (by decide))) (fun _ h_ => h_.1))) hb);have n1_ := am_ (Kd.R_below (by (with_reducible repeat (first | apply r1_ | apply r2_ | apply r3_));exact (Kd.R_mono (Kd.Rf (Kd.R_types HO386.out BK362.out (by decide))) (fun _ h_ => h_.1))) hb);have n2_ := am_ (Kd.R_lower ho51 (keep_size (w := w) (g := g) (row := none) (by repeat (first | (with_reducible first | exact HK.out | apply KeepBut.set_ | apply keep_drewN | apply keep_drew | apply keep_alloc | refine keep_far ?_ GW345.out _ | refine keep_far ?_ GW362.out _) | exact HK.out))));have n3_ := am_ (blk_below (g := gb345) (o := .cells #[.int .i64 0,.int .i64 0,.int .i64 0,.int .i64 0,.string ⟨#[]⟩,.string ⟨#[]⟩,.string ⟨#[]⟩] 24 (0,0)) (by (repeat (first | (with_reducible first | apply k1_ | apply k2_ | apply k3_) | refine blk_far ?_ NB345_362.out _));exact BK345.out) hb);have n4_ := am_ (blk_below (g := gb362) (o := .cells #[.int .i64 (wrap64 (1 + t346)),.int .i64 t349,.int .i64 x363002_8,.int .i64 t352,.string x363004_8,.string (strOfNums t384),.string (t361.extract 0 8)] 24 (0,0)) (by (with_reducible repeat (first | apply k1_ | apply k2_ | apply k3_));refine blk_put (cs := #[.int .i64 (wrap64 (1 + t346)),.int .i64 t349,.int .i64 x363002_8,.int .i64 t352,.string x363004_8,.string ⟨#[]⟩,.string (t361.extract 0 8)]) ?_ 5 _ rfl;(with_reducible repeat (first | apply k1_ | apply k2_ | apply k3_));exact BK362.out) hb);have n5_ := am_ (IsS72.below (show IsS72 w0 (w47.setCell ⟨gb362,5,none⟩ (.string (strOfNums t384))) g s0_0 t382 t383 from by repeat (first | (with_reducible first | exact HI0.out | apply IsS72.alloc | apply IsS72.drewN | apply IsS72.drew | apply IsS72.set_1 | apply IsS72.set_2 | refine IsS72.far ?_ NB0_345.out _ | refine IsS72.far ?_ NB0_362.out _) | exact HI0.out)) hb);have n6_ := am_ (KeepBut.trans (by repeat (first | (with_reducible first | exact HK.out | apply KeepBut.set_ | apply keep_drewN | apply keep_drew | apply keep_alloc | refine keep_far ?_ GW345.out _ | refine keep_far ?_ GW362.out _) | exact HK.out)) (KeepBut.of_below hb g none) (.inl rfl));have n7_ := am_ (below_step (by repeat (first | (with_reducible first | exact HB.out | apply b1_ | apply b2_ | apply b3_ | refine below_set ?_ (IsS72.ge HI0.out) | refine below_set ?_ GE345.out | refine below_set ?_ GE362.out) | exact HB.out)) hb);clear HO381;clear HO386;clear BK345;clear BK362;clear HI0;clear HK;clear HB;have HO381 := n0_;have HO386 := n1_;have HO389 := n2_;have BK345 := n3_;have BK362 := n4_;have HI0 := n5_;have HK := n6_;have HB := n7_;clear n0_ n1_ n2_ n3_ n4_ n5_ n6_ n7_;clear hb ho51;obtain ⟨Ao52,co52,eo52⟩ := Kd.R_slice HO389.out;subst eo52) | ((with_reducible refine gate_callee (f := 47) rfl ?_);refine goesL_ (some 43) rfl rfl Try.func47 (by kernel_rfl) rfl #[.slice Ao52 y387.length co52] rfl (by (try simp only [m1_,m2_,m3_]);first | done | rfl | (simp only [d1_,d2_];rfl)) ?_;(with_reducible refine (spec_l02List.calls kj8 _ _ y387 t390 _ ?side1 ?side2 A41.out).mono ?_);(case side1 => repeat (first | exact (Kd.R_reads' HO389.out).2.2 | (with_reducible refine Kd.C_alloc ?_ _) | (with_reducible refine Kd.C_drewN ?_ _) | (with_reducible refine Kd.C_drew ?_)));(case side2 => exact (Kd.R_reads' HO389.out).2.1);rintro e w53 ⟨v391,rfl,ho0,hb⟩;refine ⟨_,rfl,?_⟩;have n0_ := am_ (Kd.R_below (by (with_reducible repeat (first | apply r1_ | apply r2_ | apply r3_));exact HO381.out) hb);have n1_ := am_ (Kd.R_elder' (by (with_reducible repeat (first | apply r1_ | apply r2_ | apply r3_));exact HO386.out) (Kd.R_base ho0) hb);have n2_ := am_ (Kd.R_below (by (with_reducible repeat (first | apply r1_ | apply r2_ | apply r3_));exact HO389.out) hb);have n3_ := am_ (Kd.R_lower (Kd.R_new' ho0 (Kd.R_lt (by (with_reducible repeat (first | apply r1_ | apply r2_ | apply r3_));exact HO386.out))) (keep_size (w := w) (g := g) (row := none) (by repeat (first | (with_reducible first | exact HK.out | apply KeepBut.set_ | apply keep_drewN | apply keep_drew | apply keep_alloc | refine keep_far ?_ GW345.out _ | refine keep_far ?_ GW362.out _) | exact HK.out))));have n4_ := am_ (blk_below (g := gb345) (o := .cells #[.int .i64 0,.int .i64 0,.int .i64 0,.int .i64 0,.string ⟨#[]⟩,.string ⟨#[]⟩,.string ⟨#[]⟩] 24 (0,0)) (by (with_reducible repeat (first | apply k1_ | apply k2_ | apply k3_));exact BK345.out) hb);have n5_ := am_ (blk_below (g := gb362) (o := .cells #[.int .i64 (wrap64 (1 + t346)),.int .i64 t349,.int .i64 x363002_8,.int .i64 t352,.string x363004_8,.string (strOfNums t384),.string (t361.extract 0 8)] 24 (0,0)) (by (with_reducible repeat (first | apply k1_ | apply k2_ | apply k3_));exact BK362.out) hb);have n6_ := am_ (IsS72.below (by repeat (first | (with_reducible first | exact HI0.out | apply IsS72.alloc | apply IsS72.drewN | apply IsS72.drew | apply IsS72.set_1 | apply IsS72.set_2 | refine IsS72.far ?_ NB0_345.out _ | refine IsS72.far ?_ NB0_362.out _) | exact HI0.out)) hb);have n7_ := am_ (KeepBut.trans (by repeat (first | (with_reducible first | exact HK.out | apply KeepBut.set_ | apply keep_drewN | apply keep_drew | apply keep_alloc | refine keep_far ?_ GW345.out _ | refine keep_far ?_ GW362.out _) | exact HK.out)) (KeepBut.of_below hb g none) (.inl rfl));have n8_ := am_ (below_step (by repeat (first | (with_reducible first | exact HB.out | apply b1_ | apply b2_ | apply b3_ | refine below_set ?_ (IsS72.ge HI0.out) | refine below_set ?_ GE345.out | refine below_set ?_ GE362.out) | exact HB.out)) hb);clear HO381;clear HO386;clear HO389;clear BK345;clear BK362;clear HI0;clear HK;clear HB;have HO381 := n0_;have HO386 := n1_;have HO389 := n2_;have HO392 := n3_;have BK345 := n4_;have BK362 := n5_;have HI0 := n6_;have HK := n7_;have HB := n8_;clear n0_ n1_ n2_ n3_ n4_ n5_ n6_ n7_ n8_;(try clear hb);(try clear hb2);(try clear hk);(try clear hi);(try clear ho0);have hcv54 := own_string (P := Try.prog) Try.underlying22 Try.underlying5 Try.underlying9 (Kd.own_of_R HO392.out);obtain ⟨hcz55_0,hcz55_1,hcz55_2,hcz55_3,hcz55_4,hcz55_5,hcz55_6,hfz55_0,hfz55_1,hfz55_2,hfz55_3,hfz55_4,hfz55_5,hfz55_6⟩ := bc7_ BK362.out;have hnb56 := NB345_0.out;have hnc56 := NB0_345.out;obtain ⟨hcz57_0,hcz57_1,hcz57_2,hcz57_3,hcz57_4,hcz57_5,hcz57_6,hfz57_0,hfz57_1,hfz57_2,hfz57_3,hfz57_4,hfz57_5,hfz57_6⟩ := bc7_ BK345.out))
       refine bodyPost_ret (results_cell_row rfl _ _ gb345 24 #[.int .i64 (wrap64 (1 + t346)),.int .i64 t349,.int .i64 x363002_8,.int .i64 t352,.string x363004_8,.string (strOfNums t390),.string (t361.extract 0 8)] (0,0) _ rfl (by (with_reducible repeat (first | apply k1_ | apply k2_ | apply k3_));refine blk_put (cs := #[.int .i64 (wrap64 (1 + t346)),.int .i64 t349,.int .i64 x363002_8,.int .i64 t352,.string x363004_8,.string (strOfNums t390),.string ⟨#[]⟩]) ?_ 6 _ rfl;(with_reducible repeat (first | apply k1_ | apply k2_ | apply k3_));refine blk_put (cs := #[.int .i64 (wrap64 (1 + t346)),.int .i64 t349,.int .i64 x363002_8,.int .i64 t352,.string x363004_8,.string ⟨#[]⟩,.string ⟨#[]⟩]) ?_ 5 _ rfl;(with_reducible repeat (first | apply k1_ | apply k2_ | apply k3_));refine blk_put (cs := #[.int .i64 (wrap64 (1 + t346)),.int .i64 t349,.int .i64 x363002_8,.int .i64 t352,.string ⟨#[]⟩,.string ⟨#[]⟩,.string ⟨#[]⟩]) ?_ 4 _ rfl;(with_reducible repeat (first | apply k1_ | apply k2_ | apply k3_));refine blk_put (cs := #[.int .i64 (wrap64 (1 + t346)),.int .i64 t349,.int .i64 x363002_8,.int .i64 0,.string ⟨#[]⟩,.string ⟨#[]⟩,.string ⟨#[]⟩]) ?_ 3 _ rfl;(with_reducible repeat (first | apply k1_ | apply k2_ | apply k3_));refine blk_put (cs := #[.int .i64 (wrap64 (1 + t346)),.int .i64 t349,.int .i64 0,.int .i64 0,.string ⟨#[]⟩,.string ⟨#[]⟩,.string ⟨#[]⟩]) ?_ 2 _ rfl;(with_reducible repeat (first | apply k1_ | apply k2_ | apply k3_));refine blk_put (cs := #[.int .i64 (wrap64 (1 + t346)),.int .i64 0,.int .i64 0,.int .i64 0,.string ⟨#[]⟩,.string ⟨#[]⟩,.string ⟨#[]⟩]) ?_ 1 _ rfl;(with_reducible repeat (first | apply k1_ | apply k2_ | apply k3_));refine blk_put (cs := #[.int .i64 0,.int .i64 0,.int .i64 0,.int .i64 0,.string ⟨#[]⟩,.string ⟨#[]⟩,.string ⟨#[]⟩]) ?_ 0 _ rfl;(repeat (first | (with_reducible first | apply k1_ | apply k2_ | apply k3_) | refine blk_far ?_ NB345_362.out _));exact BK345.out) Try.underlying24 rfl (by kernel_rfl)) rfl ?_
       exact ⟨by first | rfl | (simp [e1_,e2_] <;> rfl) | (simp [*,e1_,e2_] <;> rfl) | (simp [e3_,e4_];done) | (simp [*,e3_,e4_];done),by repeat (first | (with_reducible first | exact HI0.out | apply IsS72.alloc | apply IsS72.drewN | apply IsS72.drew | apply IsS72.set_1 | apply IsS72.set_2 | refine IsS72.far ?_ NB0_345.out _ | refine IsS72.far ?_ NB0_362.out _) | exact HI0.out),by repeat (first | (with_reducible first | exact HB.out | apply b1_ | apply b2_ | apply b3_ | refine below_set ?_ (IsS72.ge HI0.out) | refine below_set ?_ GE345.out | refine below_set ?_ GE362.out) | exact HB.out),by repeat (first | (with_reducible first | exact HK.out | apply KeepBut.set_ | apply keep_drewN | apply keep_drew | apply keep_alloc | refine keep_far ?_ GW345.out _ | refine keep_far ?_ GW362.out _) | exact HK.out)⟩
      ·rw [if_neg c40] at H
       have c40b0 : decide (4 ≤ (wrap64 (1 + t346))) = false := decide_eq_false c40
       clear c40
       simp only [Option.some.injEq,Prod.mk.injEq] at H
       obtain ⟨rfl,rfl,rfl,rfl,rfl,rfl,rfl,rfl,rfl⟩ := H
       have hnb58 := NB362_345.out
       have hnc58 := NB345_362.out
       have hnb59 := NB362_0.out
       have hnc59 := NB0_362.out
       obtain ⟨hcz60_0,hcz60_1,hcz60_2,hcz60_3,hcz60_4,hcz60_5,hcz60_6,hfz60_0,hfz60_1,hfz60_2,hfz60_3,hfz60_4,hfz60_5,hfz60_6⟩ := bc7_ BK362.out
       go_wp2_with (first | ((with_reducible refine gate_callee (f := 38) rfl ?_);refine goesL_ (some 35) rfl rfl Try.func38 (by kernel_rfl) rfl #[.pointer (some ⟨g,0,none⟩)] rfl (by (try simp only [m1_,m2_,m3_]);first | done | rfl | (simp only [d1_,d2_];rfl)) ?_;(with_reducible refine (spec_l00Src_batch.calls kj8 g s0_0 x1001_8 x1002_8 t373 t374 t375 t376 t377 t378 t379 t382 t383 w0 _ ?side1 ?side2 A38.out).mono ?_);(case side1 => repeat (first | (with_reducible first | exact HI0.out | apply IsS72.alloc | apply IsS72.drewN | apply IsS72.drew | apply IsS72.set_1 | apply IsS72.set_2 | refine IsS72.far ?_ NB0_345.out _ | refine IsS72.far ?_ NB0_362.out _) | exact HI0.out));(case side2 => repeat (first | (with_reducible first | exact HB.out | apply b1_ | apply b2_ | apply b3_ | refine below_set ?_ (IsS72.ge HI0.out) | refine below_set ?_ GE345.out | refine below_set ?_ GE362.out) | exact HB.out));rintro e w61 ⟨v380,rfl,ho0,hi,hb,hk⟩;refine ⟨_,rfl,?_⟩;have n0_ := am_ (KeepBut.blk hk (g' := gb345) (o := .cells #[.int .i64 0,.int .i64 0,.int .i64 0,.int .i64 0,.string ⟨#[]⟩,.string ⟨#[]⟩,.string ⟨#[]⟩] 24 (0,0)) (by (with_reducible repeat (first | apply k1_ | apply k2_ | apply k3_));exact BK345.out) NB345_0.out (by simp));have n1_ := am_ (KeepBut.blk hk (g' := gb362) (o := .cells #[.int .i64 (wrap64 (1 + t346)),.int .i64 t349,.int .i64 x363002_8,.int .i64 t352,.string x363004_8,.string ⟨#[]⟩,.string (t361.extract 0 8)] 24 (0,0)) (by (with_reducible repeat (first | apply k1_ | apply k2_ | apply k3_));exact BK362.out) NB362_0.out (by simp));have n2_ := am_ (Kd.R_lower ho0 (keep_size (w := w) (g := g) (row := none) (by repeat (first | (with_reducible first | exact HK.out | apply KeepBut.set_ | apply keep_drewN | apply keep_drew | apply keep_alloc | refine keep_far ?_ GW345.out _ | refine keep_far ?_ GW362.out _) | exact HK.out))));have n3_ := am_ (KeepBut.trans (by repeat (first | (with_reducible first | exact HK.out | apply KeepBut.set_ | apply keep_drewN | apply keep_drew | apply keep_alloc | refine keep_far ?_ GW345.out _ | refine keep_far ?_ GW362.out _) | exact HK.out)) hk (.inl rfl));have n4_ := am_ (hb);have n5_ := am_ (hi);clear BK345;clear BK362;clear HK;clear HB;clear HI0;have BK345 := n0_;have BK362 := n1_;have HO381 := n2_;have HK := n3_;have HB := n4_;have HI0 := n5_;clear n0_ n1_ n2_ n3_ n4_ n5_;(try clear hb);(try clear hb2);(try clear hk);(try clear hi);(try clear ho0);obtain ⟨Ao62,co62,eo62⟩ := Kd.R_slice HO381.out;subst eo62) | ((with_reducible refine gate_callee (f := 42) rfl ?_);refine goesL_ (some 36) rfl rfl Try.func42 (by kernel_rfl) rfl #[.agg #[.bool t373,.int .i64 t374,.int .i64 t375,.int .i64 t376,.int .i64 t377,.string t378,.slice Ao62 t379.length co62]] rfl (by (try simp only [m1_,m2_,m3_]);first | done | rfl | (simp only [d1_,d2_];rfl)) ?_;(with_reducible refine (spec_l02Batch.calls kj8 t373 t374 t375 t376 t377 t378 _ _ t379 t384 _ ?side1 ?side2 A39.out).mono ?_);(case side1 => repeat (first | exact (Kd.R_reads' HO381.out).2.2 | (with_reducible refine Kd.C_alloc ?_ _) | (with_reducible refine Kd.C_drewN ?_ _) | (with_reducible refine Kd.C_drew ?_)));(case side2 => exact (Kd.R_reads' HO381.out).2.1);rintro e w63 ⟨v385,rfl,ho0,hb⟩;refine ⟨_,rfl,?_⟩;have n0_ := am_ (Kd.R_below (by (with_reducible repeat (first | apply r1_ | apply r2_ | apply r3_));exact HO381.out) hb);have n1_ := am_ (Kd.R_lower ho0 (keep_size (w := w) (g := g) (row := none) (by repeat (first | (with_reducible first | exact HK.out | apply KeepBut.set_ | apply keep_drewN | apply keep_drew | apply keep_alloc | refine keep_far ?_ GW345.out _ | refine keep_far ?_ GW362.out _) | exact HK.out))));have n2_ := am_ (blk_below (g := gb345) (o := .cells #[.int .i64 0,.int .i64 0,.int .i64 0,.int .i64 0,.string ⟨#[]⟩,.string ⟨#[]⟩,.string ⟨#[]⟩] 24 (0,0)) (by (with_reducible repeat (first | apply k1_ | apply k2_ | apply k3_));exact BK345.out) hb);have n3_ := am_ (blk_below (g := gb362) (o := .cells #[.int .i64 (wrap64 (1 + t346)),.int .i64 t349,.int .i64 x363002_8,.int .i64 t352,.string x363004_8,.string ⟨#[]⟩,.string (t361.extract 0 8)] 24 (0,0)) (by (with_reducible repeat (first | apply k1_ | apply k2_ | apply k3_));exact BK362.out) hb);have n4_ := am_ (IsS72.below (by repeat (first | (with_reducible first | exact HI0.out | apply IsS72.alloc | apply IsS72.drewN | apply IsS72.drew | apply IsS72.set_1 | apply IsS72.set_2 | refine IsS72.far ?_ NB0_345.out _ | refine IsS72.far ?_ NB0_362.out _) | exact HI0.out)) hb);have n5_ := am_ (KeepBut.trans (by repeat (first | (with_reducible first | exact HK.out | apply KeepBut.set_ | apply keep_drewN | apply keep_drew | apply keep_alloc | refine keep_far ?_ GW345.out _ | refine keep_far ?_ GW362.out _) | exact HK.out)) (KeepBut.of_below hb g none) (.inl rfl));have n6_ := am_ (below_step (by repeat (first | (with_reducible first | exact HB.out | apply b1_ | apply b2_ | apply b3_ | refine below_set ?_ (IsS72.ge HI0.out) | refine below_set ?_ GE345.out | refine below_set ?_ GE362.out) | exact HB.out)) hb);clear HO381;clear BK345;clear BK362;clear HI0;clear HK;clear HB;have HO381 := n0_;have HO386 := n1_;have BK345 := n2_;have BK362 := n3_;have HI0 := n4_;have HK := n5_;have HB := n6_;clear n0_ n1_ n2_ n3_ n4_ n5_ n6_;(try clear hb);(try clear hb2);(try clear hk);(try clear hi);(try clear ho0);have hcv64 := own_string (P := Try.prog) Try.underlying22 Try.underlying5 Try.underlying9 (Kd.own_of_R HO386.out);obtain ⟨hcz65_0,hcz65_1,hcz65_2,hcz65_3,hcz65_4,hcz65_5,hcz65_6,hfz65_0,hfz65_1,hfz65_2,hfz65_3,hfz65_4,hfz65_5,hfz65_6⟩ := bc7_ BK362.out;have hnb66 := NB345_0.out;have hnc66 := NB0_345.out;obtain ⟨hcz67_0,hcz67_1,hcz67_2,hcz67_3,hcz67_4,hcz67_5,hcz67_6,hfz67_0,hfz67_1,hfz67_2,hfz67_3,hfz67_4,hfz67_5,hfz67_6⟩ := bc7_ BK345.out))
       refine bodyPost_ret (results_cell_row rfl _ _ gb345 24 #[.int .i64 (wrap64 (1 + t346)),.int .i64 t349,.int .i64 x363002_8,.int .i64 t352,.string x363004_8,.string (strOfNums t384),.string (t361.extract 0 8)] (0,0) _ rfl (by (with_reducible repeat (first | apply k1_ | apply k2_ | apply k3_));refine blk_put (cs := #[.int .i64 (wrap64 (1 + t346)),.int .i64 t349,.int .i64 x363002_8,.int .i64 t352,.string x363004_8,.string (strOfNums t384),.string ⟨#[]⟩]) ?_ 6 _ rfl;(with_reducible repeat (first | apply k1_ | apply k2_ | apply k3_));refine blk_put (cs := #[.int .i64 (wrap64 (1 + t346)),.int .i64 t349,.int .i64 x363002_8,.int .i64 t352,.string x363004_8,.string ⟨#[]⟩,.string ⟨#[]⟩]) ?_ 5 _ rfl;(with_reducible repeat (first | apply k1_ | apply k2_ | apply k3_));refine blk_put (cs := #[.int .i64 (wrap64 (1 + t346)),.int .i64 t349,.int .i64 x363002_8,.int .i64 t352,.string ⟨#[]⟩,.string ⟨#[]⟩,.string ⟨#[]⟩]) ?_ 4 _ rfl;(with_reducible repeat (first | apply k1_ | apply k2_ | apply k3_));refine blk_put (cs := #[.int .i64 (wrap64 (1 + t346)),.int .i64 t349,.int .i64 x363002_8,.int .i64 0,.string ⟨#[]⟩,.string ⟨#[]⟩,.string ⟨#[]⟩]) ?_ 3 _ rfl;(with_reducible repeat (first | apply k1_ | apply k2_ | apply k3_));refine blk_put (cs := #[.int .i64 (wrap64 (1 + t346)),.int .i64 t349,.int .i64 0,.int .i64 0,.string ⟨#[]⟩,.string ⟨#[]⟩,.string ⟨#[]⟩]) ?_ 2 _ rfl;(with_reducible repeat (first | apply k1_ | apply k2_ | apply k3_));refine blk_put (cs := #[.int .i64 (wrap64 (1 + t346)),.int .i64 0,.int .i64 0,.int .i64 0,.string ⟨#[]⟩,.string ⟨#[]⟩,.string ⟨#[]⟩]) ?_ 1 _ rfl;(with_reducible repeat (first | apply k1_ | apply k2_ | apply k3_));refine blk_put (cs := #[.int .i64 0,.int .i64 0,.int .i64 0,.int .i64 0,.string ⟨#[]⟩,.string ⟨#[]⟩,.string ⟨#[]⟩]) ?_ 0 _ rfl;(repeat (first | (with_reducible first | apply k1_ | apply k2_ | apply k3_) | refine blk_far ?_ NB345_362.out _));exact BK345.out) Try.underlying24 rfl (by kernel_rfl)) rfl ?_
       exact ⟨by first | rfl | (simp [e1_,e2_] <;> rfl) | (simp [*,e1_,e2_] <;> rfl) | (simp [e3_,e4_];done) | (simp [*,e3_,e4_];done),by repeat (first | (with_reducible first | exact HI0.out | apply IsS72.alloc | apply IsS72.drewN | apply IsS72.drew | apply IsS72.set_1 | apply IsS72.set_2 | refine IsS72.far ?_ NB0_345.out _ | refine IsS72.far ?_ NB0_362.out _) | exact HI0.out),by repeat (first | (with_reducible first | exact HB.out | apply b1_ | apply b2_ | apply b3_ | refine below_set ?_ (IsS72.ge HI0.out) | refine below_set ?_ GE345.out | refine below_set ?_ GE362.out) | exact HB.out),by repeat (first | (with_reducible first | exact HK.out | apply KeepBut.set_ | apply keep_drewN | apply keep_drew | apply keep_alloc | refine keep_far ?_ GW345.out _ | refine keep_far ?_ GW362.out _) | exact HK.out)⟩
     ·rw [if_neg c37] at H
      have c37b0 : ((wrap64 (1 + t346)) == 1) = false := beq_eq_false_iff_ne.mpr c37
      have c37b1 : ((wrap64 (1 + t346)) != 1) = true := bne_iff_ne.mpr c37
      by_cases c68 : (wrap64 (1 + t346)) ≥ 4
      ·rw [if_pos c68] at H
       have c68b0 : decide (4 ≤ (wrap64 (1 + t346))) = true := decide_eq_true c68
       clear c68
       obtain ⟨y393,hy393⟩ : ∃ y_ : List ByteArray,y_ = (([(⟨#[111,110,101]⟩ : ByteArray),(⟨#[116,119,111]⟩ : ByteArray)] : List ByteArray)) := ⟨_,rfl⟩
       replace H : ((spec_l02List.f kj8 y393).bind fun t396 => (some ((wrap64 (1 + t346)),t349,x363002_8,t352,x363004_8,strOfNums t396,(t361.extract 0 8),x1001_8,x1002_8))) = some (r1,r2,r3,r4,r5,r6,r7,r8,r9) := by first | (rw [hy393];with_reducible exact H) | (have H2_ := (Option.bind_some _ _).symm.trans H;rw [hy393];with_reducible exact H2_) | (have H2_ := (Option.bind_some _ _).symm.trans H;with_reducible exact H2_) | with_reducible exact H | (rw [hy393];exact H) | exact H
       have Ny393 := am_ hy393
       clear hy393
       replace H := Option.bind_eq_some_iff.mp H
       obtain ⟨t396,A690,H⟩ := H
       try dsimp only at H
       have A69 := am_ A690
       clear A690
       simp only [Option.some.injEq,Prod.mk.injEq] at H
       obtain ⟨rfl,rfl,rfl,rfl,rfl,rfl,rfl,rfl,rfl⟩ := H
       have hnb70 := NB362_345.out
       have hnc70 := NB345_362.out
       have hnb71 := NB362_0.out
       have hnc71 := NB0_362.out
       obtain ⟨hcz72_0,hcz72_1,hcz72_2,hcz72_3,hcz72_4,hcz72_5,hcz72_6,hfz72_0,hfz72_1,hfz72_2,hfz72_3,hfz72_4,hfz72_5,hfz72_6⟩ := bc7_ BK362.out
       go_wp2_with (first | ((with_reducible refine gate_dst (N := 42) rfl ?_);refine Kd.R_lit Kd.string _ 9 ?hg (N := 42) ?hd (xs := ([(⟨#[111,110,101]⟩ : ByteArray),(⟨#[116,119,111]⟩ : ByteArray)] : List ByteArray)) (inner := [.string ⟨#[111,110,101]⟩,.string ⟨#[116,119,111]⟩]) (ok := fun _ => True) (okp := fun _ => True) ?hr ?hp (fun _ hk => hk) trivial (Below.refl _ _) (Nat.le_refl _) (by simp) ?_;(case hd => rfl);(case hg => rfl);(case hr => first | (go_simp;done) | (go_simp;rfl));(case hp => exact (Reps.one (show Kd.M Kd.string _ _ _ (⟨#[111,110,101]⟩ : ByteArray) [.string ⟨#[111,110,101]⟩] from rfl) (Reps.one (show Kd.M Kd.string _ _ _ (⟨#[116,119,111]⟩ : ByteArray) [.string ⟨#[116,119,111]⟩] from rfl) (Reps.none _ _))));intro v394 w73 ho74 hb hg_ hnew_;clear hg_ hnew_;(first | rw [← Ny393.out] at ho74 | (simp only [Int.reduceToNat] at ho74;rw [← Ny393.out] at ho74));have n0_ := am_ (Kd.R_lower ho74 (keep_size (w := w) (g := g) (row := none) (by repeat (first | (with_reducible first | exact HK.out | apply KeepBut.set_ | apply keep_drewN | apply keep_drew | apply keep_alloc | refine keep_far ?_ GW345.out _ | refine keep_far ?_ GW362.out _) | exact HK.out))));have n1_ := am_ (blk_below (g := gb345) (o := .cells #[.int .i64 0,.int .i64 0,.int .i64 0,.int .i64 0,.string ⟨#[]⟩,.string ⟨#[]⟩,.string ⟨#[]⟩] 24 (0,0)) (by (with_reducible repeat (first | apply k1_ | apply k2_ | apply k3_));exact BK345.out) hb);have n2_ := am_ (blk_below (g := gb362) (o := .cells #[.int .i64 (wrap64 (1 + t346)),.int .i64 t349,.int .i64 x363002_8,.int .i64 t352,.string x363004_8,.string ⟨#[]⟩,.string (t361.extract 0 8)] 24 (0,0)) (by (with_reducible repeat (first | apply k1_ | apply k2_ | apply k3_));exact BK362.out) hb);have n3_ := am_ (IsS72.below (by repeat (first | (with_reducible first | exact HI0.out | apply IsS72.alloc | apply IsS72.drewN | apply IsS72.drew | apply IsS72.set_1 | apply IsS72.set_2 | refine IsS72.far ?_ NB0_345.out _ | refine IsS72.far ?_ NB0_362.out _) | exact HI0.out)) hb);have n4_ := am_ (KeepBut.trans (by repeat (first | (with_reducible first | exact HK.out | apply KeepBut.set_ | apply keep_drewN | apply keep_drew | apply keep_alloc | refine keep_far ?_ GW345.out _ | refine keep_far ?_ GW362.out _) | exact HK.out)) (KeepBut.of_below hb g none) (.inl rfl));have n5_ := am_ (below_step (by repeat (first | (with_reducible first | exact HB.out | apply b1_ | apply b2_ | apply b3_ | refine below_set ?_ (IsS72.ge HI0.out) | refine below_set ?_ GE345.out | refine below_set ?_ GE362.out) | exact HB.out)) hb);clear BK345;clear BK362;clear HI0;clear HK;clear HB;have HO395 := n0_;have BK345 := n1_;have BK362 := n2_;have HI0 := n3_;have HK := n4_;have HB := n5_;clear n0_ n1_ n2_ n3_ n4_ n5_;clear hb ho74;obtain ⟨Ao75,co75,eo75⟩ := Kd.R_slice HO395.out;subst eo75) | ((with_reducible refine gate_callee (f := 47) rfl ?_);refine goesL_ (some 43) rfl rfl Try.func47 (by kernel_rfl) rfl #[.slice Ao75 y393.length co75] rfl (by (try simp only [m1_,m2_,m3_]);first | done | rfl | (simp only [d1_,d2_];rfl)) ?_;(with_reducible refine (spec_l02List.calls kj8 _ _ y393 t396 _ ?side1 ?side2 A69.out).mono ?_);(case side1 => repeat (first | exact (Kd.R_reads' HO395.out).2.2 | (with_reducible refine Kd.C_alloc ?_ _) | (with_reducible refine Kd.C_drewN ?_ _) | (with_reducible refine Kd.C_drew ?_)));(case side2 => exact (Kd.R_reads' HO395.out).2.1);rintro e w76 ⟨v397,rfl,ho0,hb⟩;refine ⟨_,rfl,?_⟩;have n0_ := am_ (Kd.R_below (by (with_reducible repeat (first | apply r1_ | apply r2_ | apply r3_));exact HO395.out) hb);have n1_ := am_ (Kd.R_lower ho0 (keep_size (w := w) (g := g) (row := none) (by repeat (first | (with_reducible first | exact HK.out | apply KeepBut.set_ | apply keep_drewN | apply keep_drew | apply keep_alloc | refine keep_far ?_ GW345.out _ | refine keep_far ?_ GW362.out _) | exact HK.out))));have n2_ := am_ (blk_below (g := gb345) (o := .cells #[.int .i64 0,.int .i64 0,.int .i64 0,.int .i64 0,.string ⟨#[]⟩,.string ⟨#[]⟩,.string ⟨#[]⟩] 24 (0,0)) (by (with_reducible repeat (first | apply k1_ | apply k2_ | apply k3_));exact BK345.out) hb);have n3_ := am_ (blk_below (g := gb362) (o := .cells #[.int .i64 (wrap64 (1 + t346)),.int .i64 t349,.int .i64 x363002_8,.int .i64 t352,.string x363004_8,.string ⟨#[]⟩,.string (t361.extract 0 8)] 24 (0,0)) (by (with_reducible repeat (first | apply k1_ | apply k2_ | apply k3_));exact BK362.out) hb);have n4_ := am_ (IsS72.below (by repeat (first | (with_reducible first | exact HI0.out | apply IsS72.alloc | apply IsS72.drewN | apply IsS72.drew | apply IsS72.set_1 | apply IsS72.set_2 | refine IsS72.far ?_ NB0_345.out _ | refine IsS72.far ?_ NB0_362.out _) | exact HI0.out)) hb);have n5_ := am_ (KeepBut.trans (by repeat (first | (with_reducible first | exact HK.out | apply KeepBut.set_ | apply keep_drewN | apply keep_drew | apply keep_alloc | refine keep_far ?_ GW345.out _ | refine keep_far ?_ GW362.out _) | exact HK.out)) (KeepBut.of_below hb g none) (.inl rfl));have n6_ := am_ (below_step (by repeat (first | (with_reducible first | exact HB.out | apply b1_ | apply b2_ | apply b3_ | refine below_set ?_ (IsS72.ge HI0.out) | refine below_set ?_ GE345.out | refine below_set ?_ GE362.out) | exact HB.out)) hb);clear HO395;clear BK345;clear BK362;clear HI0;clear HK;clear HB;have HO395 := n0_;have HO398 := n1_;have BK345 := n2_;have BK362 := n3_;have HI0 := n4_;have HK := n5_;have HB := n6_;clear n0_ n1_ n2_ n3_ n4_ n5_ n6_;(try clear hb);(try clear hb2);(try clear hk);(try clear hi);(try clear ho0);have hcv77 := own_string (P := Try.prog) Try.underlying22 Try.underlying5 Try.underlying9 (Kd.own_of_R HO398.out);obtain ⟨hcz78_0,hcz78_1,hcz78_2,hcz78_3,hcz78_4,hcz78_5,hcz78_6,hfz78_0,hfz78_1,hfz78_2,hfz78_3,hfz78_4,hfz78_5,hfz78_6⟩ := bc7_ BK362.out;have hnb79 := NB345_0.out;have hnc79 := NB0_345.out;obtain ⟨hcz80_0,hcz80_1,hcz80_2,hcz80_3,hcz80_4,hcz80_5,hcz80_6,hfz80_0,hfz80_1,hfz80_2,hfz80_3,hfz80_4,hfz80_5,hfz80_6⟩ := bc7_ BK345.out))
       refine bodyPost_ret (results_cell_row rfl _ _ gb345 24 #[.int .i64 (wrap64 (1 + t346)),.int .i64 t349,.int .i64 x363002_8,.int .i64 t352,.string x363004_8,.string (strOfNums t396),.string (t361.extract 0 8)] (0,0) _ rfl (by (with_reducible repeat (first | apply k1_ | apply k2_ | apply k3_));refine blk_put (cs := #[.int .i64 (wrap64 (1 + t346)),.int .i64 t349,.int .i64 x363002_8,.int .i64 t352,.string x363004_8,.string (strOfNums t396),.string ⟨#[]⟩]) ?_ 6 _ rfl;(with_reducible repeat (first | apply k1_ | apply k2_ | apply k3_));refine blk_put (cs := #[.int .i64 (wrap64 (1 + t346)),.int .i64 t349,.int .i64 x363002_8,.int .i64 t352,.string x363004_8,.string ⟨#[]⟩,.string ⟨#[]⟩]) ?_ 5 _ rfl;(with_reducible repeat (first | apply k1_ | apply k2_ | apply k3_));refine blk_put (cs := #[.int .i64 (wrap64 (1 + t346)),.int .i64 t349,.int .i64 x363002_8,.int .i64 t352,.string ⟨#[]⟩,.string ⟨#[]⟩,.string ⟨#[]⟩]) ?_ 4 _ rfl;(with_reducible repeat (first | apply k1_ | apply k2_ | apply k3_));refine blk_put (cs := #[.int .i64 (wrap64 (1 + t346)),.int .i64 t349,.int .i64 x363002_8,.int .i64 0,.string ⟨#[]⟩,.string ⟨#[]⟩,.string ⟨#[]⟩]) ?_ 3 _ rfl;(with_reducible repeat (first | apply k1_ | apply k2_ | apply k3_));refine blk_put (cs := #[.int .i64 (wrap64 (1 + t346)),.int .i64 t349,.int .i64 0,.int .i64 0,.string ⟨#[]⟩,.string ⟨#[]⟩,.string ⟨#[]⟩]) ?_ 2 _ rfl;(with_reducible repeat (first | apply k1_ | apply k2_ | apply k3_));refine blk_put (cs := #[.int .i64 (wrap64 (1 + t346)),.int .i64 0,.int .i64 0,.int .i64 0,.string ⟨#[]⟩,.string ⟨#[]⟩,.string ⟨#[]⟩]) ?_ 1 _ rfl;(with_reducible repeat (first | apply k1_ | apply k2_ | apply k3_));refine blk_put (cs := #[.int .i64 0,.int .i64 0,.int .i64 0,.int .i64 0,.string ⟨#[]⟩,.string ⟨#[]⟩,.string ⟨#[]⟩]) ?_ 0 _ rfl;(repeat (first | (with_reducible first | apply k1_ | apply k2_ | apply k3_) | refine blk_far ?_ NB345_362.out _));exact BK345.out) Try.underlying24 rfl (by kernel_rfl)) rfl ?_
       exact ⟨by first | rfl | (simp [e1_,e2_] <;> rfl) | (simp [*,e1_,e2_] <;> rfl) | (simp [e3_,e4_];done) | (simp [*,e3_,e4_];done),by repeat (first | (with_reducible first | exact HI0.out | apply IsS72.alloc | apply IsS72.drewN | apply IsS72.drew | apply IsS72.set_1 | apply IsS72.set_2 | refine IsS72.far ?_ NB0_345.out _ | refine IsS72.far ?_ NB0_362.out _) | exact HI0.out),by repeat (first | (with_reducible first | exact HB.out | apply b1_ | apply b2_ | apply b3_ | refine below_set ?_ (IsS72.ge HI0.out) | refine below_set ?_ GE345.out | refine below_set ?_ GE362.out) | exact HB.out),by repeat (first | (with_reducible first | exact HK.out | apply KeepBut.set_ | apply keep_drewN | apply keep_drew | apply keep_alloc | refine keep_far ?_ GW345.out _ | refine keep_far ?_ GW362.out _) | exact HK.out)⟩
      ·rw [if_neg c68] at H
       have c68b0 : decide (4 ≤ (wrap64 (1 + t346))) = false := decide_eq_false c68
       clear c68
       simp only [Option.some.injEq,Prod.mk.injEq] at H
       obtain ⟨rfl,rfl,rfl,rfl,rfl,rfl,rfl,rfl,rfl⟩ := H
       have hnb81 := NB362_345.out
       have hnc81 := NB345_362.out
       have hnb82 := NB362_0.out
       have hnc82 := NB0_362.out
       obtain ⟨hcz83_0,hcz83_1,hcz83_2,hcz83_3,hcz83_4,hcz83_5,hcz83_6,hfz83_0,hfz83_1,hfz83_2,hfz83_3,hfz83_4,hfz83_5,hfz83_6⟩ := bc7_ BK362.out
       have hnb84 := NB345_0.out
       have hnc84 := NB0_345.out
       obtain ⟨hcz85_0,hcz85_1,hcz85_2,hcz85_3,hcz85_4,hcz85_5,hcz85_6,hfz85_0,hfz85_1,hfz85_2,hfz85_3,hfz85_4,hfz85_5,hfz85_6⟩ := bc7_ BK345.out
       go_wp2
       refine bodyPost_ret (results_cell_row rfl _ _ gb345 24 #[.int .i64 (wrap64 (1 + t346)),.int .i64 t349,.int .i64 x363002_8,.int .i64 t352,.string x363004_8,.string ⟨#[]⟩,.string (t361.extract 0 8)] (0,0) _ rfl (by (with_reducible repeat (first | apply k1_ | apply k2_ | apply k3_));refine blk_put (cs := #[.int .i64 (wrap64 (1 + t346)),.int .i64 t349,.int .i64 x363002_8,.int .i64 t352,.string x363004_8,.string ⟨#[]⟩,.string ⟨#[]⟩]) ?_ 6 _ rfl;(with_reducible repeat (first | apply k1_ | apply k2_ | apply k3_));refine blk_put (cs := #[.int .i64 (wrap64 (1 + t346)),.int .i64 t349,.int .i64 x363002_8,.int .i64 t352,.string x363004_8,.string ⟨#[]⟩,.string ⟨#[]⟩]) ?_ 5 _ rfl;(with_reducible repeat (first | apply k1_ | apply k2_ | apply k3_));refine blk_put (cs := #[.int .i64 (wrap64 (1 + t346)),.int .i64 t349,.int .i64 x363002_8,.int .i64 t352,.string ⟨#[]⟩,.string ⟨#[]⟩,.string ⟨#[]⟩]) ?_ 4 _ rfl;(with_reducible repeat (first | apply k1_ | apply k2_ | apply k3_));refine blk_put (cs := #[.int .i64 (wrap64 (1 + t346)),.int .i64 t349,.int .i64 x363002_8,.int .i64 0,.string ⟨#[]⟩,.string ⟨#[]⟩,.string ⟨#[]⟩]) ?_ 3 _ rfl;(with_reducible repeat (first | apply k1_ | apply k2_ | apply k3_));refine blk_put (cs := #[.int .i64 (wrap64 (1 + t346)),.int .i64 t349,.int .i64 0,.int .i64 0,.string ⟨#[]⟩,.string ⟨#[]⟩,.string ⟨#[]⟩]) ?_ 2 _ rfl;(with_reducible repeat (first | apply k1_ | apply k2_ | apply k3_));refine blk_put (cs := #[.int .i64 (wrap64 (1 + t346)),.int .i64 0,.int .i64 0,.int .i64 0,.string ⟨#[]⟩,.string ⟨#[]⟩,.string ⟨#[]⟩]) ?_ 1 _ rfl;(with_reducible repeat (first | apply k1_ | apply k2_ | apply k3_));refine blk_put (cs := #[.int .i64 0,.int .i64 0,.int .i64 0,.int .i64 0,.string ⟨#[]⟩,.string ⟨#[]⟩,.string ⟨#[]⟩]) ?_ 0 _ rfl;(with_reducible repeat (first | apply k1_ | apply k2_ | apply k3_));exact BK345.out) Try.underlying24 rfl (by kernel_rfl)) rfl ?_
       exact ⟨by first | rfl | (simp [e1_,e2_] <;> rfl) | (simp [*,e1_,e2_] <;> rfl) | (simp [e3_,e4_];done) | (simp [*,e3_,e4_];done),by repeat (first | (with_reducible first | exact HI0.out | apply IsS72.alloc | apply IsS72.drewN | apply IsS72.drew | apply IsS72.set_1 | apply IsS72.set_2 | refine IsS72.far ?_ NB0_345.out _ | refine IsS72.far ?_ NB0_362.out _) | exact HI0.out),by repeat (first | (with_reducible first | exact HB.out | apply b1_ | apply b2_ | apply b3_ | refine below_set ?_ (IsS72.ge HI0.out) | refine below_set ?_ GE345.out | refine below_set ?_ GE362.out) | exact HB.out),by repeat (first | (with_reducible first | exact HK.out | apply KeepBut.set_ | apply keep_drewN | apply keep_drew | apply keep_alloc | refine keep_far ?_ GW345.out _ | refine keep_far ?_ GW362.out _) | exact HK.out)⟩
  ·rw [if_neg c8] at H
   exact absurd H (by simp)
 ·rw [if_neg c7] at H
  exact absurd H (by simp)
set_option maxHeartbeats 8000000 in
set_option maxRecDepth 100000 in
theorem spec_MessageOf.calls (k : Nat) (A0 : Option Addr) (c0 : Nat) (l0 : List Int) (r1 : Int) (r2 : Int) (r3 : Int) (r4 : Int) (r5 : ByteArray) (r6 : ByteArray) (r7 : ByteArray) (w : World) (hr0 : Kd.C (Kd.int .u8) w A0 l0.length l0) (hc0 : l0.length ≤ c0) (h : spec_MessageOf.f k l0 = some (r1,r2,r3,r4,r5,r6,r7)) :
  Calls Try.prog 5 #[.slice A0 l0.length c0] w fun e w' => e = .returned (.agg #[.int .i64 r1,.int .i64 r2,.int .i64 r3,.int .i64 r4,.string r5,.string r6,.string r7]) ∧ Below w.heap.size w w' := by
 have hu24 := Try.underlying24
 have HR0 := am_ hr0
 have HC0 := am_ hc0
 clear hr0 hc0
 have HB := am_ (Below.refl w.heap.size w)
 have H : ((spec_l00Source.f l0).bind fun bt400 => ((spec_l00Src_message.f k bt400.1 bt400.2.1 bt400.2.2).bind fun bt404 => (some (bt404.1,bt404.2.1,bt404.2.2.1,bt404.2.2.2.1,bt404.2.2.2.2.1,bt404.2.2.2.2.2.1,bt404.2.2.2.2.2.2.1)))) = some (r1,r2,r3,r4,r5,r6,r7) := h
 clear h
 replace H := Option.bind_eq_some_iff.mp H
 obtain ⟨⟨t400,t401,t402⟩,A20,H⟩ := H
 try dsimp only at H
 have A2 := am_ A20
 clear A20
 replace H := Option.bind_eq_some_iff.mp H
 obtain ⟨⟨t404,t405,t406,t407,t408,t409,t410,t411,t412⟩,A30,H⟩ := H
 try dsimp only at H
 have A3 := am_ A30
 clear A30
 simp only [Option.some.injEq,Prod.mk.injEq] at H
 obtain ⟨rfl,rfl,rfl,rfl,rfl,rfl,rfl⟩ := H
 go_enter Try.func5,Try.ntmps5
 go_wp2_with (first | ((with_reducible refine gate_dst (N := 2) rfl ?_);refine box_event ?hg (N := 2) ?hd (cs := #[.int .i64 0,.int .i64 0,.int .i64 0,.int .i64 0,.string ⟨#[]⟩,.string ⟨#[]⟩,.string ⟨#[]⟩]) (t := 24) ?hr ?_;(case hd => rfl);(case hg => rfl);(case hr => first | (go_simp;done) | (go_simp;rfl));intro gb399 hg w4 hbox hb;have n0_ := am_ (below_step (by repeat (first | (with_reducible first | exact HB.out | apply b1_ | apply b2_ | apply b3_) | exact HB.out)) hb);have n1_ := am_ (hbox);have n2_ := am_ ((by rw [hg];exact (below_size (by repeat (first | (with_reducible first | exact HB.out | apply b1_ | apply b2_ | apply b3_) | exact HB.out))) : w.heap.size ≤ gb399));have n3_ := am_ ((by rw [hg];exact (below_size (by repeat (first | (with_reducible first | exact HB.out | apply b1_ | apply b2_ | apply b3_) | exact HB.out))) : w.heap.size ≤ gb399));clear HB;have HB := n0_;have BK399 := n1_;have GW399 := n2_;have GE399 := n3_;clear n0_ n1_ n2_ n3_;clear hb hbox hg) | ((with_reducible refine gate_callee (f := 22) rfl ?_);refine goesL_ (some 4) rfl rfl Try.func22 (by kernel_rfl) rfl #[.slice A0 l0.length c0] rfl (by (try simp only [m1_,m2_,m3_]);first | done | rfl | (simp only [d1_,d2_];rfl)) ?_;(with_reducible refine (spec_l00Source.calls _ _ l0 t400 t401 t402 w _ ?side1 ?side2 ?side3 A2.out).mono ?_);(case side1 => repeat (first | (with_reducible first | exact HB.out | apply b1_ | apply b2_ | apply b3_ | refine below_set ?_ GE399.out) | exact HB.out));(case side2 => exact HR0.out);(case side3 => exact HC0.out);rintro e w5 ⟨g403,rfl,hi,hb,hb2⟩;refine ⟨_,rfl,?_⟩;have n0_ := am_ (blk_below (g := gb399) (o := .cells #[.int .i64 0,.int .i64 0,.int .i64 0,.int .i64 0,.string ⟨#[]⟩,.string ⟨#[]⟩,.string ⟨#[]⟩] 24 (0,0)) (by (with_reducible repeat (first | apply k1_ | apply k2_ | apply k3_));exact BK399.out) hb2);have n1_ := am_ (hb);have n2_ := am_ (hi);have n3_ := am_ (IsS72.ne_blk hi (blk_below (g := gb399) (o := .cells #[.int .i64 0,.int .i64 0,.int .i64 0,.int .i64 0,.string ⟨#[]⟩,.string ⟨#[]⟩,.string ⟨#[]⟩] 24 (0,0)) (by (with_reducible repeat (first | apply k1_ | apply k2_ | apply k3_));exact BK399.out) hb2) (by decide));have n4_ := am_ (Ne.symm (IsS72.ne_blk hi (blk_below (g := gb399) (o := .cells #[.int .i64 0,.int .i64 0,.int .i64 0,.int .i64 0,.string ⟨#[]⟩,.string ⟨#[]⟩,.string ⟨#[]⟩] 24 (0,0)) (by (with_reducible repeat (first | apply k1_ | apply k2_ | apply k3_));exact BK399.out) hb2) (by decide)));clear BK399;clear HB;have BK399 := n0_;have HB := n1_;have HI403 := n2_;have NB403_399 := n3_;have NB399_403 := n4_;clear n0_ n1_ n2_ n3_ n4_;(try clear hb);(try clear hb2);(try clear hk);(try clear hi)) | ((with_reducible refine gate_callee (f := 23) rfl ?_);refine goesL_ (some 5) rfl rfl Try.func23 (by kernel_rfl) rfl #[.pointer (some ⟨g403,0,none⟩)] rfl (by (try simp only [m1_,m2_,m3_]);first | done | rfl | (simp only [d1_,d2_];rfl)) ?_;(with_reducible refine (spec_l00Src_message.calls k g403 t400 t401 t402 t404 t405 t406 t407 t408 t409 t410 t411 t412 w _ ?side1 ?side2 A3.out).mono ?_);(case side1 => repeat (first | (with_reducible first | exact HI403.out | apply IsS72.alloc | apply IsS72.drewN | apply IsS72.drew | apply IsS72.set_1 | apply IsS72.set_2 | refine IsS72.far ?_ NB403_399.out _) | exact HI403.out));(case side2 => repeat (first | (with_reducible first | exact HB.out | apply b1_ | apply b2_ | apply b3_ | refine below_set ?_ (IsS72.ge HI403.out) | refine below_set ?_ GE399.out) | exact HB.out));rintro e w6 ⟨rfl,hi,hb,hk⟩;refine ⟨_,rfl,?_⟩;have n0_ := am_ (KeepBut.blk hk (g' := gb399) (o := .cells #[.int .i64 0,.int .i64 0,.int .i64 0,.int .i64 0,.string ⟨#[]⟩,.string ⟨#[]⟩,.string ⟨#[]⟩] 24 (0,0)) (by (with_reducible repeat (first | apply k1_ | apply k2_ | apply k3_));exact BK399.out) NB399_403.out (by simp));have n1_ := am_ (hb);have n2_ := am_ (hi);clear BK399;clear HB;clear HI403;have BK399 := n0_;have HB := n1_;have HI403 := n2_;clear n0_ n1_ n2_;(try clear hb);(try clear hb2);(try clear hk);(try clear hi);have hnb7 := NB399_403.out;have hnc7 := NB403_399.out;obtain ⟨hcz8_0,hcz8_1,hcz8_2,hcz8_3,hcz8_4,hcz8_5,hcz8_6,hfz8_0,hfz8_1,hfz8_2,hfz8_3,hfz8_4,hfz8_5,hfz8_6⟩ := bc7_ BK399.out))
 refine bodyPost_ret (results_cell_row rfl _ _ gb399 24 #[.int .i64 t404,.int .i64 t405,.int .i64 t406,.int .i64 t407,.string t408,.string t409,.string t410] (0,0) _ rfl (by (with_reducible repeat (first | apply k1_ | apply k2_ | apply k3_));refine blk_put (cs := #[.int .i64 t404,.int .i64 t405,.int .i64 t406,.int .i64 t407,.string t408,.string t409,.string ⟨#[]⟩]) ?_ 6 _ rfl;(with_reducible repeat (first | apply k1_ | apply k2_ | apply k3_));refine blk_put (cs := #[.int .i64 t404,.int .i64 t405,.int .i64 t406,.int .i64 t407,.string t408,.string ⟨#[]⟩,.string ⟨#[]⟩]) ?_ 5 _ rfl;(with_reducible repeat (first | apply k1_ | apply k2_ | apply k3_));refine blk_put (cs := #[.int .i64 t404,.int .i64 t405,.int .i64 t406,.int .i64 t407,.string ⟨#[]⟩,.string ⟨#[]⟩,.string ⟨#[]⟩]) ?_ 4 _ rfl;(with_reducible repeat (first | apply k1_ | apply k2_ | apply k3_));refine blk_put (cs := #[.int .i64 t404,.int .i64 t405,.int .i64 t406,.int .i64 0,.string ⟨#[]⟩,.string ⟨#[]⟩,.string ⟨#[]⟩]) ?_ 3 _ rfl;(with_reducible repeat (first | apply k1_ | apply k2_ | apply k3_));refine blk_put (cs := #[.int .i64 t404,.int .i64 t405,.int .i64 0,.int .i64 0,.string ⟨#[]⟩,.string ⟨#[]⟩,.string ⟨#[]⟩]) ?_ 2 _ rfl;(with_reducible repeat (first | apply k1_ | apply k2_ | apply k3_));refine blk_put (cs := #[.int .i64 t404,.int .i64 0,.int .i64 0,.int .i64 0,.string ⟨#[]⟩,.string ⟨#[]⟩,.string ⟨#[]⟩]) ?_ 1 _ rfl;(with_reducible repeat (first | apply k1_ | apply k2_ | apply k3_));refine blk_put (cs := #[.int .i64 0,.int .i64 0,.int .i64 0,.int .i64 0,.string ⟨#[]⟩,.string ⟨#[]⟩,.string ⟨#[]⟩]) ?_ 0 _ rfl;(with_reducible repeat (first | apply k1_ | apply k2_ | apply k3_));exact BK399.out) Try.underlying24 rfl (by kernel_rfl)) rfl ?_
 exact ⟨by first | rfl | (simp [e1_,e2_] <;> rfl) | (simp [*,e1_,e2_] <;> rfl) | (simp [e3_,e4_];done) | (simp [*,e3_,e4_];done),by repeat (first | (with_reducible first | exact HB.out | apply b1_ | apply b2_ | apply b3_ | refine below_set ?_ (IsS72.ge HI403.out) | refine below_set ?_ GE399.out) | exact HB.out)⟩
set_option maxHeartbeats 8000000 in
set_option maxRecDepth 100000 in
theorem spec_l02Of.calls (k : Nat) (a0 : ByteArray) (r : Int) (w : World) (h : spec_l02Of.f k a0 = some r) :
  Calls Try.prog 54 #[.string a0] w fun e w' => e = .returned (.int .i64 r) ∧ Drawn0 w w' := by
 have H : (spec_l02Of.l0 k a0 0 0) = some r := h
 clear h
 have H' := am_ H
 clear H
 go_enter Try.func54,Try.ntmps54
 go_wp2
 go_loopg [3,4] k (fun kq v3 v4 w' => ∃ (x3_1 : Int) (x4_1 : Int),v3 = .int .i64 x3_1 ∧ v4 = .int .i64 x4_1 ∧ Aside0 (spec_l02Of.l0 kq a0 x3_1 x4_1 = some r) ∧ Aside0 (kq ≤ k) ∧ Drawn0 w w')
 case atStart => exact ⟨(0),(0),(by first | rfl | (simp;done) | (simp [*];done)),(by first | rfl | (simp;done) | (simp [*];done)),H',⟨Nat.le_refl _⟩,by repeat (first | exact Drawn0.refl _ | apply Drawn0.step)⟩
 case round =>
  clear H'
  obtain ⟨x3_1,x4_1,rfl,rfl,HA,HK1,⟨m1,rfl⟩⟩ := hrel
  cases gk with
  | zero => exact absurd HA.out (by simp [spec_l02Of.l0])
  | succ k1 =>
   have H := HA.out
   clear HA
   simp only [spec_l02Of.l0] at H
   by_cases c2 : x4_1 < (a0.size : Int)
   ·rw [if_pos c2] at H
    have c2b0 : decide (x4_1 < (a0.size : Int)) = true := decide_eq_true c2
    clear c2
    by_cases c3 : 0 ≤ x4_1
    ·rw [if_pos c3] at H
     have c3b0 : decide (0 ≤ x4_1) = true := decide_eq_true c3
     clear c3
     have H' := am_ H
     clear H
     have p4 : 0 ≤ (x4_1 : Int) := o1_ (by first | (with_reducible assumption) | assumption)
     have q4 : x4_1 < (a0.size : Int) := o1_ (by first | (with_reducible assumption) | assumption)
     have hx4 := bt_at a0 x4_1
     replace p4 := eq_true p4
     replace q4 := eq_true q4
     go_wp2
     go_roundg k1
     case measure => have := HK1.out;omega
     case rel => exact ⟨(wrap64 ((wrap64 (x3_1 * 256)) + (wrap64 (bt a0 x4_1)))),(wrap64 (x4_1 + 1)),(by first | rfl | (simp;done) | (simp [*];done)),(by first | rfl | (simp;done) | (simp [*];done)),H',⟨by have := HK1.out;omega⟩,by repeat (first | exact Drawn0.refl _ | apply Drawn0.step)⟩
    ·rw [if_neg c3] at H
     exact absurd H (by simp)
   ·rw [if_neg c2] at H
    have c2b0 : decide (x4_1 < (a0.size : Int)) = false := decide_eq_false c2
    clear c2
    obtain rfl := Option.some.inj H
    go_wp2
    go_ret
    exact ⟨by first | rfl | (simp;done) | (simp [*];done),by repeat (first | exact Drawn0.refl _ | apply Drawn0.step)⟩
def spec_l02ReadMessage.T7 : Bool × List (List Nat × List Nat) := (true,[([],[]),([0],[0]),([1],[1]),([],[]),([3],[3]),([4],[4]),([],[]),([6],[6]),([7],[7]),([],[]),([9],[9]),([10],[10]),([],[]),([],[]),([12,13],[12,13]),([],[]),([],[]),([16],[16]),([],[]),([18],[18]),([],[]),([19,20],[19,20]),([15,17,21],[15,17,21]),([],[]),([],[]),([24],[24]),([],[]),([25,26],[25,26]),([23,27],[23,27]),([2,5,8,11,14,22,28],[2,5,8,11,14,22,28]),([],[]),([30,29,0,1,2,3,4,5,6,7,8,9,10,11,12,13,14,15,16,17,18,19,20,21,22,23,24,25,26,27,28,29,30],[29,30])])
def spec_l02ReadMessage.B7 : List Nat := [0,1,3,0,8,24,0,64,192,0,512,1536,0,0,12288,0,0,65536,0,262144,0,1835008,4161536,0,0,16777216,0,117440512,260046848,536870911,0,2147483647]
theorem spec_l02ReadMessage.tab7 : rtab .any (opsOf Try.f30 7) = spec_l02ReadMessage.T7 := by kernel_rfl
theorem spec_l02ReadMessage.bits7 : waitsOk spec_l02ReadMessage.T7.2 spec_l02ReadMessage.B7 = true := by kernel_rfl
set_option maxHeartbeats 8000000 in
set_option maxRecDepth 100000 in
theorem spec_l02ReadMessage.calls (k : Nat) (a0 : ByteArray) (r1 : Int) (r2 : Int) (r3 : Int) (r4 : Int) (r5 : ByteArray) (r6 : ByteArray) (r7 : ByteArray) (r8 : Bool) (w : World) (h : spec_l02ReadMessage.f k a0 = some (r1,r2,r3,r4,r5,r6,r7,r8)) :
  Calls Try.prog 30 #[.string a0] w fun e w' => e = .returned (.tuple #[.agg #[.int .i64 r1,.int .i64 r2,.int .i64 r3,.int .i64 r4,.string r5,.string r6,.string r7],.bool r8]) ∧ Below w.heap.size w w' := by
 have hu24 := Try.underlying24
 have HB := am_ (Below.refl w.heap.size w)
 have H : (if (a0.size : Int) < 7 then (spec_l02ReadMessage.j0 k a0 true) else (if 4 < (a0.size : Int) then (spec_l02ReadMessage.j0 k a0 (decide ((a0.size : Int) < (wrap64 (7 + (wrap64 (bt a0 4))))))) else (none))) = some (r1,r2,r3,r4,r5,r6,r7,r8) := h
 clear h
 have HC2 := am_ H
 clear H
 go_enter Try.func30,Try.ntmps30
 go_upto_region 1 with (first | ((with_reducible refine gate_dst (N := 2) rfl ?_);(try (refine gate_guard (by rfl) ?_;dsimp only));refine box_event ?hg (N := 2) ?hd (cs := #[.int .i64 0,.int .i64 0,.int .i64 0,.int .i64 0,.string ⟨#[]⟩,.string ⟨#[]⟩,.string ⟨#[]⟩]) (t := 24) ?hr ?_;(case hd => rfl);(case hg => rfl);(case hr => first | (go_simp;done) | (go_simp;rfl));intro gb526 hg w3 hbox hb;have n0_ := am_ (below_step (by repeat (first | (with_reducible first | exact HB.out | apply b1_ | apply b2_ | apply b3_) | exact HB.out)) hb);have n1_ := am_ (hbox);have n2_ := am_ ((by rw [hg];exact (below_size (by repeat (first | (with_reducible first | exact HB.out | apply b1_ | apply b2_ | apply b3_) | exact HB.out))) : w.heap.size ≤ gb526));have n3_ := am_ ((by rw [hg];exact (below_size (by repeat (first | (with_reducible first | exact HB.out | apply b1_ | apply b2_ | apply b3_) | exact HB.out))) : w.heap.size ≤ gb526));clear HB;have HB := n0_;have BK526 := n1_;have GW526 := n2_;have GE526 := n3_;clear n0_ n1_ n2_ n3_;clear hb hbox hg))
 (try simp only [Act.put,p1_,p2_,p3_])
 go_cut [18] (fun v18 wc => ∃ (kq : Nat) (x18_1 : Bool),v18 = .bool x18_1 ∧ Aside0 (spec_l02ReadMessage.j0 kq a0 x18_1 = some (r1,r2,r3,r4,r5,r6,r7,r8)) ∧ Aside0 (kq ≤ k) ∧ Aside0 (wc.heap[gb526]? = some (.cells #[.int .i64 0,.int .i64 0,.int .i64 0,.int .i64 0,.string ⟨#[]⟩,.string ⟨#[]⟩,.string ⟨#[]⟩] 24 (0,0))) ∧ Aside0 (Below w.heap.size w wc))
 case first =>
  have H := HC2.out
  clear HC2
  by_cases c4 : (a0.size : Int) < 7
  ·rw [if_pos c4] at H
   have c4b0 : decide ((a0.size : Int) < 7) = true := decide_eq_true c4
   have c4b1 : decide (a0.size < 7) = true := decide_eq_true (by omega)
   clear c4
   (first | rw [c4b0] | (simp only [i64_w,i32_w];rw [c4b0]) | skip)
   have H' := am_ H
   clear H
   go_wp2
   go_meet
   case rel => exact ⟨_,(true),(by first | rfl | (simp;done) | (simp [*];done)),H',⟨by first | omega | exact Nat.le_refl _⟩,⟨by (with_reducible repeat (first | apply k1_ | apply k2_ | apply k3_));exact BK526.out⟩,⟨by repeat (first | (with_reducible first | exact HB.out | apply b1_ | apply b2_ | apply b3_ | refine below_set ?_ GE526.out) | exact HB.out)⟩⟩
  ·rw [if_neg c4] at H
   have c4b0 : decide ((a0.size : Int) < 7) = false := decide_eq_false c4
   have c4b1 : decide (a0.size < 7) = false := decide_eq_false (by omega)
   clear c4
   (first | rw [c4b0] | (simp only [i64_w,i32_w];rw [c4b0]) | skip)
   by_cases c5 : 4 < (a0.size : Int)
   ·rw [if_pos c5] at H
    have c5b0 : decide (4 < (a0.size : Int)) = true := decide_eq_true c5
    have c5b1 : decide (4 < a0.size) = true := decide_eq_true (by omega)
    clear c5
    have H' := am_ H
    clear H
    have p6 : 0 ≤ (4 : Int) := (by omega)
    have q6 : 4 < a0.size := (by have : (4 : Int) < (a0.size : Int) := o1_ (by first | (with_reducible assumption) | assumption);omega)
    have hx6 : ∀ h : 4 < a0.size,((a0[4]'h).toNat : Int) = bt a0 4 := bt_at a0 4
    clear p6
    have qi6 : (4 < (a0.size : Int)) = True := eq_true (o1_ (by first | (with_reducible assumption) | assumption))
    replace q6 := eq_true q6
    go_wp2
    go_meet
    case rel => exact ⟨_,(decide ((a0.size : Int) < (wrap64 (7 + (wrap64 (bt a0 4)))))),(by first | rfl | (simp;done) | (simp [*];done)),H',⟨by first | omega | exact Nat.le_refl _⟩,⟨by (with_reducible repeat (first | apply k1_ | apply k2_ | apply k3_));exact BK526.out⟩,⟨by repeat (first | (with_reducible first | exact HB.out | apply b1_ | apply b2_ | apply b3_ | refine below_set ?_ GE526.out) | exact HB.out)⟩⟩
   ·rw [if_neg c5] at H
    exact absurd H (by simp)
 case rest =>
  clear HC2
  try clear p2
  try clear c3
  try clear c4
  try clear c4b0
  try clear c4b1
  try clear c5
  try clear c5b0
  try clear c5b1
  try clear p6
  try clear q6
  try clear hx6
  try clear qi6
  try clear p6
  try clear q6
  obtain ⟨kq,x18_1,rfl,HA,HJ1,BK526,HB⟩ := hcut
  cases kq with
  | zero => exact absurd HA.out (by simp [spec_l02ReadMessage.j0])
  | succ kj1 =>
   have H := HA.out
   clear HA
   simp only [spec_l02ReadMessage.j0] at H
   by_cases c7 : x18_1 = true
   ·subst c7
    have H1 : (some (0,0,0,0,(⟨#[]⟩ : ByteArray),(⟨#[]⟩ : ByteArray),(⟨#[]⟩ : ByteArray),false)) = some (r1,r2,r3,r4,r5,r6,r7,r8) := by rw [if_pos rfl] at H;exact H
    clear H
    have H := H1
    clear H1
    simp only [Option.some.injEq,Prod.mk.injEq] at H
    obtain ⟨rfl,rfl,rfl,rfl,rfl,rfl,rfl,rfl⟩ := H
    obtain ⟨hcz8_0,hcz8_1,hcz8_2,hcz8_3,hcz8_4,hcz8_5,hcz8_6,hfz8_0,hfz8_1,hfz8_2,hfz8_3,hfz8_4,hfz8_5,hfz8_6⟩ := bc7_ BK526.out
    go_wp2
    refine bodyPost_ret (results_ct rfl _ _ gb526 24 #[.int .i64 0,.int .i64 0,.int .i64 0,.int .i64 0,.string ⟨#[]⟩,.string ⟨#[]⟩,.string ⟨#[]⟩] (0,0) _ rfl (by (with_reducible repeat (first | apply k1_ | apply k2_ | apply k3_));refine blk_put (cs := #[.int .i64 0,.int .i64 0,.int .i64 0,.int .i64 0,.string ⟨#[]⟩,.string ⟨#[]⟩,.string ⟨#[]⟩]) ?_ 6 _ rfl;(with_reducible repeat (first | apply k1_ | apply k2_ | apply k3_));refine blk_put (cs := #[.int .i64 0,.int .i64 0,.int .i64 0,.int .i64 0,.string ⟨#[]⟩,.string ⟨#[]⟩,.string ⟨#[]⟩]) ?_ 5 _ rfl;(with_reducible repeat (first | apply k1_ | apply k2_ | apply k3_));refine blk_put (cs := #[.int .i64 0,.int .i64 0,.int .i64 0,.int .i64 0,.string ⟨#[]⟩,.string ⟨#[]⟩,.string ⟨#[]⟩]) ?_ 4 _ rfl;(with_reducible repeat (first | apply k1_ | apply k2_ | apply k3_));refine blk_put (cs := #[.int .i64 0,.int .i64 0,.int .i64 0,.int .i64 0,.string ⟨#[]⟩,.string ⟨#[]⟩,.string ⟨#[]⟩]) ?_ 3 _ rfl;(with_reducible repeat (first | apply k1_ | apply k2_ | apply k3_));refine blk_put (cs := #[.int .i64 0,.int .i64 0,.int .i64 0,.int .i64 0,.string ⟨#[]⟩,.string ⟨#[]⟩,.string ⟨#[]⟩]) ?_ 2 _ rfl;(with_reducible repeat (first | apply k1_ | apply k2_ | apply k3_));refine blk_put (cs := #[.int .i64 0,.int .i64 0,.int .i64 0,.int .i64 0,.string ⟨#[]⟩,.string ⟨#[]⟩,.string ⟨#[]⟩]) ?_ 1 _ rfl;(with_reducible repeat (first | apply k1_ | apply k2_ | apply k3_));refine blk_put (cs := #[.int .i64 0,.int .i64 0,.int .i64 0,.int .i64 0,.string ⟨#[]⟩,.string ⟨#[]⟩,.string ⟨#[]⟩]) ?_ 0 _ rfl;(with_reducible repeat (first | apply k1_ | apply k2_ | apply k3_));exact BK526.out) Try.underlying24 rfl (by kernel_rfl)) rfl ?_
    exact ⟨by first | rfl | (simp [e1_,e2_] <;> rfl) | (simp [*,e1_,e2_] <;> rfl) | (simp [e3_,e4_];done) | (simp [*,e3_,e4_];done),by repeat (first | (with_reducible first | exact HB.out | apply b1_ | apply b2_ | apply b3_ | refine below_set ?_ GE526.out) | exact HB.out)⟩
   ·replace c7 := Bool.eq_false_iff.mpr c7
    subst c7
    have H1 : (if 4 < (a0.size : Int) then (if 0 ≤ (wrap64 (5 + (wrap64 (bt a0 4)))) then (if (wrap64 (5 + (wrap64 (bt a0 4)))) ≤ (wrap64 ((wrap64 (5 + (wrap64 (bt a0 4)))) + 2)) then (if (wrap64 ((wrap64 (5 + (wrap64 (bt a0 4)))) + 2)) ≤ (a0.size : Int) then ((spec_l02Of.f kj1 (a0.extract ((wrap64 (5 + (wrap64 (bt a0 4)))) : Int).toNat ((wrap64 ((wrap64 (5 + (wrap64 (bt a0 4)))) + 2)) : Int).toNat)).bind fun t527 => (if (a0.size : Int) = (wrap64 ((wrap64 ((wrap64 ((wrap64 (5 + (wrap64 (bt a0 4)))) + 2)) + t527)) + 8)) then (if 0 < (a0.size : Int) then (if 1 < (a0.size : Int) then (if 2 < (a0.size : Int) then (if 3 < (a0.size : Int) then (if 5 ≤ (wrap64 (5 + (wrap64 (bt a0 4)))) then (if (wrap64 (5 + (wrap64 (bt a0 4)))) ≤ (a0.size : Int) then (if 0 ≤ (wrap64 ((wrap64 (5 + (wrap64 (bt a0 4)))) + 2)) then (if (wrap64 ((wrap64 (5 + (wrap64 (bt a0 4)))) + 2)) ≤ (wrap64 ((wrap64 ((wrap64 (5 + (wrap64 (bt a0 4)))) + 2)) + t527)) then (if (wrap64 ((wrap64 ((wrap64 (5 + (wrap64 (bt a0 4)))) + 2)) + t527)) ≤ (a0.size : Int) then (if 0 ≤ (wrap64 ((wrap64 ((wrap64 (5 + (wrap64 (bt a0 4)))) + 2)) + t527)) then ((spec_MessageOK.f kj1 (wrap64 (bt a0 0)) (wrap64 (bt a0 1)) (wrap64 (bt a0 2)) (wrap64 (bt a0 3)) (a0.extract 5 ((wrap64 (5 + (wrap64 (bt a0 4)))) : Int).toNat) (a0.extract ((wrap64 ((wrap64 (5 + (wrap64 (bt a0 4)))) + 2)) : Int).toNat ((wrap64 ((wrap64 ((wrap64 (5 + (wrap64 (bt a0 4)))) + 2)) + t527)) : Int).toNat) (a0.extract ((wrap64 ((wrap64 ((wrap64 (5 + (wrap64 (bt a0 4)))) + 2)) + t527)) : Int).toNat a0.size)).bind fun t529 => (some (wrap64 (bt a0 0),wrap64 (bt a0 1),wrap64 (bt a0 2),wrap64 (bt a0 3),a0.extract 5 ((wrap64 (5 + (wrap64 (bt a0 4)))) : Int).toNat,a0.extract ((wrap64 ((wrap64 (5 + (wrap64 (bt a0 4)))) + 2)) : Int).toNat ((wrap64 ((wrap64 ((wrap64 (5 + (wrap64 (bt a0 4)))) + 2)) + t527)) : Int).toNat,a0.extract ((wrap64 ((wrap64 ((wrap64 (5 + (wrap64 (bt a0 4)))) + 2)) + t527)) : Int).toNat a0.size,t529))) else (none)) else (none)) else (none)) else (none)) else (none)) else (none)) else (none)) else (none)) else (none)) else (none)) else (some (0,0,0,0,(⟨#[]⟩ : ByteArray),(⟨#[]⟩ : ByteArray),(⟨#[]⟩ : ByteArray),false)))) else (none)) else (none)) else (none)) else (none)) = some (r1,r2,r3,r4,r5,r6,r7,r8) := by rw [if_neg (show ¬ (false = true) by decide)] at H;exact H
    clear H
    have H := H1
    clear H1
    by_cases c9 : 4 < (a0.size : Int)
    ·rw [if_pos c9] at H
     have c9b0 : decide (4 < (a0.size : Int)) = true := decide_eq_true c9
     have c9b1 : decide (4 < a0.size) = true := decide_eq_true (by omega)
     clear c9
     obtain ⟨ji11,hji11⟩ : ∃ j_ : Int,(wrap64 (5 + (wrap64 (bt a0 4)))) = j_ := ⟨_,rfl⟩
     replace H : (if 0 ≤ (ji11) then (if (ji11) ≤ (wrap64 ((ji11) + 2)) then (if (wrap64 ((ji11) + 2)) ≤ (a0.size : Int) then ((spec_l02Of.f kj1 (a0.extract ((ji11) : Int).toNat ((wrap64 ((ji11) + 2)) : Int).toNat)).bind fun t527 => (if (a0.size : Int) = (wrap64 ((wrap64 ((wrap64 ((ji11) + 2)) + t527)) + 8)) then (if 0 < (a0.size : Int) then (if 1 < (a0.size : Int) then (if 2 < (a0.size : Int) then (if 3 < (a0.size : Int) then (if 5 ≤ (ji11) then (if (ji11) ≤ (a0.size : Int) then (if 0 ≤ (wrap64 ((ji11) + 2)) then (if (wrap64 ((ji11) + 2)) ≤ (wrap64 ((wrap64 ((ji11) + 2)) + t527)) then (if (wrap64 ((wrap64 ((ji11) + 2)) + t527)) ≤ (a0.size : Int) then (if 0 ≤ (wrap64 ((wrap64 ((ji11) + 2)) + t527)) then ((spec_MessageOK.f kj1 (wrap64 (bt a0 0)) (wrap64 (bt a0 1)) (wrap64 (bt a0 2)) (wrap64 (bt a0 3)) (a0.extract 5 ((ji11) : Int).toNat) (a0.extract ((wrap64 ((ji11) + 2)) : Int).toNat ((wrap64 ((wrap64 ((ji11) + 2)) + t527)) : Int).toNat) (a0.extract ((wrap64 ((wrap64 ((ji11) + 2)) + t527)) : Int).toNat a0.size)).bind fun t529 => (some (wrap64 (bt a0 0),wrap64 (bt a0 1),wrap64 (bt a0 2),wrap64 (bt a0 3),a0.extract 5 ((ji11) : Int).toNat,a0.extract ((wrap64 ((ji11) + 2)) : Int).toNat ((wrap64 ((wrap64 ((ji11) + 2)) + t527)) : Int).toNat,a0.extract ((wrap64 ((wrap64 ((ji11) + 2)) + t527)) : Int).toNat a0.size,t529))) else (none)) else (none)) else (none)) else (none)) else (none)) else (none)) else (none)) else (none)) else (none)) else (none)) else (some (0,0,0,0,(⟨#[]⟩ : ByteArray),(⟨#[]⟩ : ByteArray),(⟨#[]⟩ : ByteArray),false)))) else (none)) else (none)) else (none)) = some (r1,r2,r3,r4,r5,r6,r7,r8) := by first | (rw [hji11] at H;exact H) | (simp only [hji11] at H ⊢;exact H)
     have hji11w : (IntKind.i64.wrap (5 + (wrap64 (bt a0 4)))) = ji11 := (i64_w _).trans hji11
     by_cases c12 : 0 ≤ (ji11)
     ·rw [if_pos c12] at H
      have c12b0 := eq_true c12
      have c12b1 : decide (0 ≤ (ji11)) = true := decide_eq_true c12
      clear c12
      by_cases c13 : (ji11) ≤ (wrap64 ((ji11) + 2))
      ·rw [if_pos c13] at H
       have c13b0 := eq_true c13
       have c13b1 : decide ((ji11) ≤ (wrap64 ((ji11) + 2))) = true := decide_eq_true c13
       by_cases c14 : (wrap64 ((ji11) + 2)) ≤ (a0.size : Int)
       ·rw [if_pos c14] at H
        have c14b0 := eq_true c14
        have c14b1 : decide ((wrap64 ((ji11) + 2)) ≤ (a0.size : Int)) = true := decide_eq_true c14
        replace H := Option.bind_eq_some_iff.mp H
        obtain ⟨t527,A150,H⟩ := H
        try dsimp only at H
        have A15 := am_ A150
        clear A150
        by_cases c16 : (a0.size : Int) = (wrap64 ((wrap64 ((wrap64 ((ji11) + 2)) + t527)) + 8))
        ·rw [if_pos c16] at H
         have c16b0 : ((a0.size : Int) == (wrap64 ((wrap64 ((wrap64 ((ji11) + 2)) + t527)) + 8))) = true := beq_iff_eq.mpr c16
         have c16b1 : ((a0.size : Int) != (wrap64 ((wrap64 ((wrap64 ((ji11) + 2)) + t527)) + 8))) = false := bne_eq_false_iff_eq.mpr c16
         clear c16
         by_cases c17 : 0 < (a0.size : Int)
         ·rw [if_pos c17] at H
          have c17b0 : decide (0 < (a0.size : Int)) = true := decide_eq_true c17
          have c17b1 : decide (0 < a0.size) = true := decide_eq_true (by omega)
          clear c17
          by_cases c19 : 1 < (a0.size : Int)
          ·rw [if_pos c19] at H
           have c19b0 : decide (1 < (a0.size : Int)) = true := decide_eq_true c19
           have c19b1 : decide (1 < a0.size) = true := decide_eq_true (by omega)
           clear c19
           by_cases c21 : 2 < (a0.size : Int)
           ·rw [if_pos c21] at H
            have c21b0 : decide (2 < (a0.size : Int)) = true := decide_eq_true c21
            have c21b1 : decide (2 < a0.size) = true := decide_eq_true (by omega)
            clear c21
            by_cases c23 : 3 < (a0.size : Int)
            ·rw [if_pos c23] at H
             have c23b0 : decide (3 < (a0.size : Int)) = true := decide_eq_true c23
             have c23b1 : decide (3 < a0.size) = true := decide_eq_true (by omega)
             clear c23
             by_cases c25 : 5 ≤ (ji11)
             ·rw [if_pos c25] at H
              have c25b0 := eq_true c25
              have c25b1 : decide (5 ≤ (ji11)) = true := decide_eq_true c25
              clear c25
              by_cases c26 : (ji11) ≤ (a0.size : Int)
              ·rw [if_pos c26] at H
               have c26b0 := eq_true c26
               have c26b1 : decide ((ji11) ≤ (a0.size : Int)) = true := decide_eq_true c26
               clear c26
               obtain ⟨ji27,hji27⟩ : ∃ j_ : Int,(wrap64 ((ji11) + 2)) = j_ := ⟨_,rfl⟩
               replace H : (if 0 ≤ (ji27) then (if (ji27) ≤ (wrap64 ((ji27) + t527)) then (if (wrap64 ((ji27) + t527)) ≤ (a0.size : Int) then (if 0 ≤ (wrap64 ((ji27) + t527)) then ((spec_MessageOK.f kj1 (wrap64 (bt a0 0)) (wrap64 (bt a0 1)) (wrap64 (bt a0 2)) (wrap64 (bt a0 3)) (a0.extract 5 ((ji11) : Int).toNat) (a0.extract ((ji27) : Int).toNat ((wrap64 ((ji27) + t527)) : Int).toNat) (a0.extract ((wrap64 ((ji27) + t527)) : Int).toNat a0.size)).bind fun t529 => (some (wrap64 (bt a0 0),wrap64 (bt a0 1),wrap64 (bt a0 2),wrap64 (bt a0 3),a0.extract 5 ((ji11) : Int).toNat,a0.extract ((ji27) : Int).toNat ((wrap64 ((ji27) + t527)) : Int).toNat,a0.extract ((wrap64 ((ji27) + t527)) : Int).toNat a0.size,t529))) else (none)) else (none)) else (none)) else (none)) = some (r1,r2,r3,r4,r5,r6,r7,r8) := by first | (rw [hji27] at H;exact H) | (simp only [hji27] at H ⊢;exact H)
               (try rw [hji27] at c13b0)
               (try rw [hji27] at c13b1)
               (try rw [hji27] at c13)
               (try rw [hji27] at c14b0)
               (try rw [hji27] at c14b1)
               (try rw [hji27] at c14)
               (try rw [hji27] at c16b0)
               (try rw [hji27] at c16b1)
               (try rw [hji27] at A15)
               have hji27w : (IntKind.i64.wrap ((ji11) + 2)) = ji27 := (i64_w _).trans hji27
               by_cases c28 : 0 ≤ (ji27)
               ·rw [if_pos c28] at H
                have c28b0 := eq_true c28
                have c28b1 : decide (0 ≤ (ji27)) = true := decide_eq_true c28
                clear c28
                by_cases c29 : (ji27) ≤ (wrap64 ((ji27) + t527))
                ·rw [if_pos c29] at H
                 have c29b0 := eq_true c29
                 have c29b1 : decide ((ji27) ≤ (wrap64 ((ji27) + t527))) = true := decide_eq_true c29
                 by_cases c30 : (wrap64 ((ji27) + t527)) ≤ (a0.size : Int)
                 ·rw [if_pos c30] at H
                  have c30b0 := eq_true c30
                  have c30b1 : decide ((wrap64 ((ji27) + t527)) ≤ (a0.size : Int)) = true := decide_eq_true c30
                  obtain ⟨ji31,hji31⟩ : ∃ j_ : Int,(wrap64 ((ji27) + t527)) = j_ := ⟨_,rfl⟩
                  replace H : (if 0 ≤ (ji31) then ((spec_MessageOK.f kj1 (wrap64 (bt a0 0)) (wrap64 (bt a0 1)) (wrap64 (bt a0 2)) (wrap64 (bt a0 3)) (a0.extract 5 ((ji11) : Int).toNat) (a0.extract ((ji27) : Int).toNat ((ji31) : Int).toNat) (a0.extract ((ji31) : Int).toNat a0.size)).bind fun t529 => (some (wrap64 (bt a0 0),wrap64 (bt a0 1),wrap64 (bt a0 2),wrap64 (bt a0 3),a0.extract 5 ((ji11) : Int).toNat,a0.extract ((ji27) : Int).toNat ((ji31) : Int).toNat,a0.extract ((ji31) : Int).toNat a0.size,t529))) else (none)) = some (r1,r2,r3,r4,r5,r6,r7,r8) := by first | (rw [hji31] at H;exact H) | (simp only [hji31] at H ⊢;exact H)
                  (try rw [hji31] at c16b0)
                  (try rw [hji31] at c16b1)
                  (try rw [hji31] at c29b0)
                  (try rw [hji31] at c29b1)
                  (try rw [hji31] at c29)
                  (try rw [hji31] at c30b0)
                  (try rw [hji31] at c30b1)
                  (try rw [hji31] at c30)
                  (try rw [hji31] at A15)
                  have hji31w : (IntKind.i64.wrap ((ji27) + t527)) = ji31 := (i64_w _).trans hji31
                  by_cases c32 : 0 ≤ (ji31)
                  ·rw [if_pos c32] at H
                   have c32b0 := eq_true c32
                   have c32b1 : decide (0 ≤ (ji31)) = true := decide_eq_true c32
                   clear c32
                   have c33b0 := eq_true (o1_ (by first | (with_reducible assumption) | assumption) : (ji31) ≤ (a0.size : Int))
                   replace H := Option.bind_eq_some_iff.mp H
                   obtain ⟨t529,A340,H⟩ := H
                   try dsimp only at H
                   have A34 := am_ A340
                   clear A340
                   simp only [Option.some.injEq,Prod.mk.injEq] at H
                   obtain ⟨rfl,rfl,rfl,rfl,rfl,rfl,rfl,rfl⟩ := H
                   have p10 : 0 ≤ (4 : Int) := (by omega)
                   have q10 : 4 < a0.size := (by have : (4 : Int) < (a0.size : Int) := o1_ (by first | (with_reducible assumption) | assumption);omega)
                   have hx10 : ∀ h : 4 < a0.size,((a0[4]'h).toNat : Int) = bt a0 4 := bt_at a0 4
                   clear p10
                   have qi10 : (4 < (a0.size : Int)) = True := eq_true (o1_ (by first | (with_reducible assumption) | assumption))
                   replace q10 := eq_true q10
                   try go_wp2_with (first | ((with_reducible refine gate_callee (f := 54) rfl ?_);refine goesL_ (some 29) rfl rfl Try.func54 (by kernel_rfl) rfl #[.string (a0.extract ((ji11) : Int).toNat ((ji27) : Int).toNat)] rfl (by (try simp only [m1_,m2_,m3_]);first | done | (simp only [hji11,hji27];rfl) | rfl | (simp only [d1_,d2_];rfl)) ?_;(with_reducible refine (spec_l02Of.calls kj1 (a0.extract ((ji11) : Int).toNat ((ji27) : Int).toNat) t527 _ A15.out).mono ?_);rintro e w' ⟨rfl,⟨nd,rfl⟩⟩;refine ⟨_,rfl,?_⟩;(try (rw [drewN_self wc];generalize hq_ : World.drewN wc _ = wc;have n0_ : Aside0 (wc.heap[gb526]? = some (.cells #[.int .i64 0,.int .i64 0,.int .i64 0,.int .i64 0,.string ⟨#[]⟩,.string ⟨#[]⟩,.string ⟨#[]⟩] 24 (0,0))) := ⟨by rw [← hq_];exact (by (with_reducible repeat (first | apply k1_ | apply k2_ | apply k3_));exact BK526.out)⟩;have n1_ : Aside0 (Below w.heap.size w wc) := ⟨by rw [← hq_];exact (by repeat (first | (with_reducible first | exact HB.out | apply b1_ | apply b2_ | apply b3_ | refine below_set ?_ GE526.out) | exact HB.out))⟩;clear BK526 HB hq_;have BK526 := n0_;have HB := n1_;clear n0_ n1_));(try have hfu526_0 := blk_frozen BK526.out 0);(try have hcu526_0 : wc.cell? ⟨gb526,0,none⟩ = some (.int .i64 0) := (blk_cell BK526.out 0).trans rfl);(try have hfu526_1 := blk_frozen BK526.out 1);(try have hcu526_1 : wc.cell? ⟨gb526,1,none⟩ = some (.int .i64 0) := (blk_cell BK526.out 1).trans rfl);(try have hfu526_2 := blk_frozen BK526.out 2);(try have hcu526_2 : wc.cell? ⟨gb526,2,none⟩ = some (.int .i64 0) := (blk_cell BK526.out 2).trans rfl);(try have hfu526_3 := blk_frozen BK526.out 3);(try have hcu526_3 : wc.cell? ⟨gb526,3,none⟩ = some (.int .i64 0) := (blk_cell BK526.out 3).trans rfl);(try have hfu526_4 := blk_frozen BK526.out 4);(try have hcu526_4 : wc.cell? ⟨gb526,4,none⟩ = some (.string ⟨#[]⟩) := (blk_cell BK526.out 4).trans rfl);(try have hfu526_5 := blk_frozen BK526.out 5);(try have hcu526_5 : wc.cell? ⟨gb526,5,none⟩ = some (.string ⟨#[]⟩) := (blk_cell BK526.out 5).trans rfl);(try have hfu526_6 := blk_frozen BK526.out 6);(try have hcu526_6 : wc.cell? ⟨gb526,6,none⟩ = some (.string ⟨#[]⟩) := (blk_cell BK526.out 6).trans rfl)))
                   have n0_ := am_ (blk_drew BK526.out)
                   have n1_ := am_ (below_drew1 HB.out)
                   clear BK526
                   clear HB
                   have BK526 := n0_
                   have HB := n1_
                   clear n0_ n1_
                   have p18 : 0 ≤ (0 : Int) := (by omega)
                   have q18 : 0 < a0.size := (by have : (0 : Int) < (a0.size : Int) := o1_ (by first | (with_reducible assumption) | assumption);omega)
                   have hx18 : ∀ h : 0 < a0.size,((a0[0]'h).toNat : Int) = bt a0 0 := bt_at a0 0
                   clear p18
                   have qi18 : (0 < (a0.size : Int)) = True := eq_true (o1_ (by first | (with_reducible assumption) | assumption))
                   replace q18 := eq_true q18
                   have p20 : 0 ≤ (1 : Int) := (by omega)
                   have q20 : 1 < a0.size := (by have : (1 : Int) < (a0.size : Int) := o1_ (by first | (with_reducible assumption) | assumption);omega)
                   have hx20 : ∀ h : 1 < a0.size,((a0[1]'h).toNat : Int) = bt a0 1 := bt_at a0 1
                   clear p20
                   have qi20 : (1 < (a0.size : Int)) = True := eq_true (o1_ (by first | (with_reducible assumption) | assumption))
                   replace q20 := eq_true q20
                   have p22 : 0 ≤ (2 : Int) := (by omega)
                   have q22 : 2 < a0.size := (by have : (2 : Int) < (a0.size : Int) := o1_ (by first | (with_reducible assumption) | assumption);omega)
                   have hx22 : ∀ h : 2 < a0.size,((a0[2]'h).toNat : Int) = bt a0 2 := bt_at a0 2
                   clear p22
                   have qi22 : (2 < (a0.size : Int)) = True := eq_true (o1_ (by first | (with_reducible assumption) | assumption))
                   replace q22 := eq_true q22
                   have p24 : 0 ≤ (3 : Int) := (by omega)
                   have q24 : 3 < a0.size := (by have : (3 : Int) < (a0.size : Int) := o1_ (by first | (with_reducible assumption) | assumption);omega)
                   have hx24 : ∀ h : 3 < a0.size,((a0[3]'h).toNat : Int) = bt a0 3 := bt_at a0 3
                   clear p24
                   have qi24 : (3 < (a0.size : Int)) = True := eq_true (o1_ (by first | (with_reducible assumption) | assumption))
                   replace q24 := eq_true q24
                   refine start_ (n := 32) (S := fun w' => True) (ds := []) #[false,false,false,false,false,false,false,false,false,false,false,false,false,false,false,false,false,false,false,false,false,false,false,false,false,false,false,false,false,false,false,false] (by kernel_rfl) rfl rfl trivial (fun hHeld => ?_);refine with_tabW spec_l02ReadMessage.tab7 spec_l02ReadMessage.bits7 (fun HT_ HW_ => ?_)
                   generalize wc.drew = w35 at BK526 HB hHeld ⊢
                   refine pure_ (i := 0) (N := some 39) (v := ?_) (a' := ?_) #[true,false,false,false,false,false,false,false,false,false,false,false,false,false,false,false,false,false,false,false,false,false,false,false,false,false,false,false,false,false,false,false] rfl rfl (any_of HT_.out (by kernel_rfl)) (fun _ _ _ h => h) (Or.inl ⟨by rfl,?_⟩) ?_ ?_
                   rotate_left
                   ·intro w'
                    go_simp
                    with_reducible rfl
                   rotate_left
                   ·simp only [Act.put,p1_,p2_,p3_,i64_w,i32_w]
                    rfl
                   refine pure_ (i := 3) (N := some 42) (v := ?_) (a' := ?_) #[true,false,false,true,false,false,false,false,false,false,false,false,false,false,false,false,false,false,false,false,false,false,false,false,false,false,false,false,false,false,false,false] rfl rfl (any_of HT_.out (by kernel_rfl)) (fun _ _ _ h => h) (Or.inl ⟨by rfl,?_⟩) ?_ ?_
                   rotate_left
                   ·intro w'
                    go_simp
                    with_reducible rfl
                   rotate_left
                   ·simp only [Act.put,p1_,p2_,p3_,i64_w,i32_w]
                    rfl
                   refine pure_ (i := 6) (N := some 45) (v := ?_) (a' := ?_) #[true,false,false,true,false,false,true,false,false,false,false,false,false,false,false,false,false,false,false,false,false,false,false,false,false,false,false,false,false,false,false,false] rfl rfl (any_of HT_.out (by kernel_rfl)) (fun _ _ _ h => h) (Or.inl ⟨by rfl,?_⟩) ?_ ?_
                   rotate_left
                   ·intro w'
                    go_simp
                    with_reducible rfl
                   rotate_left
                   ·simp only [Act.put,p1_,p2_,p3_,i64_w,i32_w]
                    rfl
                   refine pure_ (i := 9) (N := some 48) (v := ?_) (a' := ?_) #[true,false,false,true,false,false,true,false,false,true,false,false,false,false,false,false,false,false,false,false,false,false,false,false,false,false,false,false,false,false,false,false] rfl rfl (any_of HT_.out (by kernel_rfl)) (fun _ _ _ h => h) (Or.inl ⟨by rfl,?_⟩) ?_ ?_
                   rotate_left
                   ·intro w'
                    go_simp
                    with_reducible rfl
                   rotate_left
                   ·simp only [Act.put,p1_,p2_,p3_,i64_w,i32_w]
                    rfl
                   refine pure_ (i := 12) (N := some 51) (v := ?_) (a' := ?_) #[true,false,false,true,false,false,true,false,false,true,false,false,true,false,false,false,false,false,false,false,false,false,false,false,false,false,false,false,false,false,false,false] rfl rfl (any_of HT_.out (by kernel_rfl)) (fun _ _ _ h => h) (Or.inl ⟨by rfl,?_⟩) ?_ ?_
                   rotate_left
                   ·intro w'
                    go_simp
                    with_reducible rfl
                   rotate_left
                   ·simp only [Act.put,p1_,p2_,p3_,i64_w,i32_w]
                    rfl
                   refine pure_ (i := 13) (N := some 52) (v := ?_) (a' := ?_) #[true,false,false,true,false,false,true,false,false,true,false,false,true,true,false,false,false,false,false,false,false,false,false,false,false,false,false,false,false,false,false,false] rfl rfl (any_of HT_.out (by kernel_rfl)) (fun _ _ _ h => h) (Or.inl ⟨by rfl,?_⟩) ?_ ?_
                   rotate_left
                   ·intro w'
                    go_simp
                    with_reducible rfl
                   rotate_left
                   ·simp only [Act.put,p1_,p2_,p3_,i64_w,i32_w]
                    rfl
                   refine pure_ (i := 14) (N := some 53) (v := ?_) (a' := ?_) #[true,false,false,true,false,false,true,false,false,true,false,false,true,true,true,false,false,false,false,false,false,false,false,false,false,false,false,false,false,false,false,false] rfl rfl (any_of HT_.out (by kernel_rfl)) (fun _ _ _ h => h) (Or.inl ⟨by rfl,?_⟩) ?_ ?_
                   rotate_left
                   ·intro w'
                    go_simp
                    with_reducible rfl
                   rotate_left
                   ·simp only [Act.put,p1_,p2_,p3_,i64_w,i32_w]
                    rfl
                   refine pure_ (i := 15) (N := some 54) (v := ?_) (a' := ?_) #[true,false,false,true,false,false,true,false,false,true,false,false,true,true,true,true,false,false,false,false,false,false,false,false,false,false,false,false,false,false,false,false] rfl rfl (any_of HT_.out (by kernel_rfl)) (fun _ _ _ h => h) (Or.inl ⟨by rfl,?_⟩) ?_ ?_
                   rotate_left
                   ·intro w'
                    go_simp
                    with_reducible rfl
                   rotate_left
                   ·simp only [Act.put,p1_,p2_,p3_,i64_w,i32_w]
                    rfl
                   refine pure_ (i := 16) (N := some 55) (v := ?_) (a' := ?_) #[true,false,false,true,false,false,true,false,false,true,false,false,true,true,true,true,true,false,false,false,false,false,false,false,false,false,false,false,false,false,false,false] rfl rfl (any_of HT_.out (by kernel_rfl)) (fun _ _ _ h => h) (Or.inl ⟨by rfl,?_⟩) ?_ ?_
                   rotate_left
                   ·intro w'
                    go_simp
                    with_reducible rfl
                   rotate_left
                   ·simp only [Act.put,p1_,p2_,p3_,i64_w,i32_w]
                    rfl
                   refine pure_ (i := 17) (N := some 56) (v := ?_) (a' := ?_) #[true,false,false,true,false,false,true,false,false,true,false,false,true,true,true,true,true,true,false,false,false,false,false,false,false,false,false,false,false,false,false,false] rfl rfl (any_of HT_.out (by kernel_rfl)) (fun _ _ _ h => h) (Or.inl ⟨by rfl,?_⟩) ?_ ?_
                   rotate_left
                   ·intro w'
                    go_simp
                    with_reducible rfl
                   rotate_left
                   ·simp only [Act.put,p1_,p2_,p3_,i64_w,i32_w]
                    rfl
                   refine pure_ (i := 18) (N := some 57) (v := ?_) (a' := ?_) #[true,false,false,true,false,false,true,false,false,true,false,false,true,true,true,true,true,true,true,false,false,false,false,false,false,false,false,false,false,false,false,false] rfl rfl (any_of HT_.out (by kernel_rfl)) (fun _ _ _ h => h) (Or.inl ⟨by rfl,?_⟩) ?_ ?_
                   rotate_left
                   ·intro w'
                    go_simp
                    with_reducible rfl
                   rotate_left
                   ·simp only [Act.put,p1_,p2_,p3_,i64_w,i32_w]
                    rfl
                   refine pure_ (i := 19) (N := some 58) (v := ?_) (a' := ?_) #[true,false,false,true,false,false,true,false,false,true,false,false,true,true,true,true,true,true,true,true,false,false,false,false,false,false,false,false,false,false,false,false] rfl rfl (any_of HT_.out (by kernel_rfl)) (fun _ _ _ h => h) (Or.inl ⟨by rfl,?_⟩) ?_ ?_
                   rotate_left
                   ·intro w'
                    go_simp
                    with_reducible rfl
                   rotate_left
                   ·simp only [Act.put,p1_,p2_,p3_,i64_w,i32_w]
                    rfl
                   refine pure_ (i := 20) (N := some 59) (v := ?_) (a' := ?_) #[true,false,false,true,false,false,true,false,false,true,false,false,true,true,true,true,true,true,true,true,true,false,false,false,false,false,false,false,false,false,false,false] rfl rfl (any_of HT_.out (by kernel_rfl)) (fun _ _ _ h => h) (Or.inl ⟨by rfl,?_⟩) ?_ ?_
                   rotate_left
                   ·intro w'
                    go_simp
                    with_reducible rfl
                   rotate_left
                   ·simp only [Act.put,p1_,p2_,p3_,i64_w,i32_w]
                    rfl
                   refine pure_ (i := 21) (N := some 60) (v := ?_) (a' := ?_) #[true,false,false,true,false,false,true,false,false,true,false,false,true,true,true,true,true,true,true,true,true,true,false,false,false,false,false,false,false,false,false,false] rfl rfl (any_of HT_.out (by kernel_rfl)) (fun _ _ _ h => h) (Or.inl ⟨by rfl,?_⟩) ?_ ?_
                   rotate_left
                   ·intro w'
                    go_simp
                    with_reducible rfl
                   rotate_left
                   ·simp only [Act.put,p1_,p2_,p3_,i64_w,i32_w]
                    rfl
                   refine pure_ (i := 22) (N := some 61) (v := ?_) (a' := ?_) #[true,false,false,true,false,false,true,false,false,true,false,false,true,true,true,true,true,true,true,true,true,true,true,false,false,false,false,false,false,false,false,false] rfl rfl (any_of HT_.out (by kernel_rfl)) (fun _ _ _ h => h) (Or.inl ⟨by rfl,?_⟩) ?_ ?_
                   rotate_left
                   ·intro w'
                    go_simp
                    with_reducible rfl
                   rotate_left
                   ·simp only [Act.put,p1_,p2_,p3_,i64_w,i32_w]
                    rfl
                   refine pure_ (i := 23) (N := some 62) (v := ?_) (a' := ?_) #[true,false,false,true,false,false,true,false,false,true,false,false,true,true,true,true,true,true,true,true,true,true,true,true,false,false,false,false,false,false,false,false] rfl rfl (any_of HT_.out (by kernel_rfl)) (fun _ _ _ h => h) (Or.inl ⟨by rfl,?_⟩) ?_ ?_
                   rotate_left
                   ·intro w'
                    go_simp
                    with_reducible rfl
                   rotate_left
                   ·simp only [Act.put,p1_,p2_,p3_,i64_w,i32_w]
                    rfl
                   refine pure_ (i := 24) (N := some 63) (v := ?_) (a' := ?_) #[true,false,false,true,false,false,true,false,false,true,false,false,true,true,true,true,true,true,true,true,true,true,true,true,true,false,false,false,false,false,false,false] rfl rfl (any_of HT_.out (by kernel_rfl)) (fun _ _ _ h => h) (Or.inl ⟨by rfl,?_⟩) ?_ ?_
                   rotate_left
                   ·intro w'
                    go_simp
                    with_reducible rfl
                   rotate_left
                   ·simp only [Act.put,p1_,p2_,p3_,i64_w,i32_w]
                    rfl
                   refine pure_ (i := 25) (N := some 64) (v := ?_) (a' := ?_) #[true,false,false,true,false,false,true,false,false,true,false,false,true,true,true,true,true,true,true,true,true,true,true,true,true,true,false,false,false,false,false,false] rfl rfl (any_of HT_.out (by kernel_rfl)) (fun _ _ _ h => h) (Or.inl ⟨by rfl,?_⟩) ?_ ?_
                   rotate_left
                   ·intro w'
                    go_simp
                    with_reducible rfl
                   rotate_left
                   ·simp only [Act.put,p1_,p2_,p3_,i64_w,i32_w]
                    rfl
                   refine pure_ (i := 26) (N := some 65) (v := ?_) (a' := ?_) #[true,false,false,true,false,false,true,false,false,true,false,false,true,true,true,true,true,true,true,true,true,true,true,true,true,true,true,false,false,false,false,false] rfl rfl (any_of HT_.out (by kernel_rfl)) (fun _ _ _ h => h) (Or.inl ⟨by rfl,?_⟩) ?_ ?_
                   rotate_left
                   ·intro w'
                    go_simp
                    with_reducible rfl
                   rotate_left
                   ·simp only [Act.put,p1_,p2_,p3_,i64_w,i32_w]
                    rfl
                   refine pure_ (i := 27) (N := some 66) (v := ?_) (a' := ?_) #[true,false,false,true,false,false,true,false,false,true,false,false,true,true,true,true,true,true,true,true,true,true,true,true,true,true,true,true,false,false,false,false] rfl rfl (any_of HT_.out (by kernel_rfl)) (fun _ _ _ h => h) (Or.inl ⟨by rfl,?_⟩) ?_ ?_
                   rotate_left
                   ·intro w'
                    go_simp
                    with_reducible rfl
                   rotate_left
                   ·simp only [Act.put,p1_,p2_,p3_,i64_w,i32_w]
                    rfl
                   refine pure_ (i := 28) (N := some 67) (v := ?_) (a' := ?_) #[true,false,false,true,false,false,true,false,false,true,false,false,true,true,true,true,true,true,true,true,true,true,true,true,true,true,true,true,true,false,false,false] rfl rfl (any_of HT_.out (by kernel_rfl)) (fun _ _ _ h => h) (Or.inl ⟨by rfl,?_⟩) ?_ ?_
                   rotate_left
                   ·intro w'
                    go_simp
                    with_reducible rfl
                   rotate_left
                   ·simp only [Act.put,p1_,p2_,p3_,i64_w,i32_w]
                    rfl
                   refine take_ (i := 1) (N := some 40) (v := ?_) (a' := ?_) #[true,true,false,true,false,false,true,false,false,true,false,false,true,true,true,true,true,true,true,true,true,true,true,true,true,true,true,true,true,false,false,false] rfl rfl (take_ofW HT_.out HW_.out (by kernel_rfl)) (fun _ _ _ h => h) (Or.inl ⟨by rfl,?_⟩) hHeld ?_ ?_
                   rotate_left
                   ·intro w' _
                    go_simp
                    with_reducible rfl
                   rotate_left
                   ·simp only [Act.put,p1_,p2_,p3_,i64_w,i32_w]
                    rfl
                   refine pure_ (i := 2) (N := some 41) (v := ?_) (a' := ?_) #[true,true,true,true,false,false,true,false,false,true,false,false,true,true,true,true,true,true,true,true,true,true,true,true,true,true,true,true,true,false,false,false] rfl rfl (any_of HT_.out (by kernel_rfl)) (fun _ _ _ h => h) (Or.inl ⟨by rfl,?_⟩) ?_ ?_
                   rotate_left
                   ·intro w'
                    go_simp
                    with_reducible rfl
                   rotate_left
                   ·simp only [Act.put,p1_,p2_,p3_,i64_w,i32_w]
                    rfl
                   refine take_ (i := 4) (N := some 43) (v := ?_) (a' := ?_) #[true,true,true,true,true,false,true,false,false,true,false,false,true,true,true,true,true,true,true,true,true,true,true,true,true,true,true,true,true,false,false,false] rfl rfl (take_ofW HT_.out HW_.out (by kernel_rfl)) (fun _ _ _ h => h) (Or.inl ⟨by rfl,?_⟩) hHeld ?_ ?_
                   rotate_left
                   ·intro w' _
                    go_simp
                    with_reducible rfl
                   rotate_left
                   ·simp only [Act.put,p1_,p2_,p3_,i64_w,i32_w]
                    rfl
                   refine pure_ (i := 5) (N := some 44) (v := ?_) (a' := ?_) #[true,true,true,true,true,true,true,false,false,true,false,false,true,true,true,true,true,true,true,true,true,true,true,true,true,true,true,true,true,false,false,false] rfl rfl (any_of HT_.out (by kernel_rfl)) (fun _ _ _ h => h) (Or.inl ⟨by rfl,?_⟩) ?_ ?_
                   rotate_left
                   ·intro w'
                    go_simp
                    with_reducible rfl
                   rotate_left
                   ·simp only [Act.put,p1_,p2_,p3_,i64_w,i32_w]
                    rfl
                   refine take_ (i := 7) (N := some 46) (v := ?_) (a' := ?_) #[true,true,true,true,true,true,true,true,false,true,false,false,true,true,true,true,true,true,true,true,true,true,true,true,true,true,true,true,true,false,false,false] rfl rfl (take_ofW HT_.out HW_.out (by kernel_rfl)) (fun _ _ _ h => h) (Or.inl ⟨by rfl,?_⟩) hHeld ?_ ?_
                   rotate_left
                   ·intro w' _
                    go_simp
                    with_reducible rfl
                   rotate_left
                   ·simp only [Act.put,p1_,p2_,p3_,i64_w,i32_w]
                    rfl
                   refine pure_ (i := 8) (N := some 47) (v := ?_) (a' := ?_) #[true,true,true,true,true,true,true,true,true,true,false,false,true,true,true,true,true,true,true,true,true,true,true,true,true,true,true,true,true,false,false,false] rfl rfl (any_of HT_.out (by kernel_rfl)) (fun _ _ _ h => h) (Or.inl ⟨by rfl,?_⟩) ?_ ?_
                   rotate_left
                   ·intro w'
                    go_simp
                    with_reducible rfl
                   rotate_left
                   ·simp only [Act.put,p1_,p2_,p3_,i64_w,i32_w]
                    rfl
                   refine take_ (i := 10) (N := some 49) (v := ?_) (a' := ?_) #[true,true,true,true,true,true,true,true,true,true,true,false,true,true,true,true,true,true,true,true,true,true,true,true,true,true,true,true,true,false,false,false] rfl rfl (take_ofW HT_.out HW_.out (by kernel_rfl)) (fun _ _ _ h => h) (Or.inl ⟨by rfl,?_⟩) hHeld ?_ ?_
                   rotate_left
                   ·intro w' _
                    go_simp
                    with_reducible rfl
                   rotate_left
                   ·simp only [Act.put,p1_,p2_,p3_,i64_w,i32_w]
                    rfl
                   refine pure_ (i := 11) (N := some 50) (v := ?_) (a' := ?_) #[true,true,true,true,true,true,true,true,true,true,true,true,true,true,true,true,true,true,true,true,true,true,true,true,true,true,true,true,true,false,false,false] rfl rfl (any_of HT_.out (by kernel_rfl)) (fun _ _ _ h => h) (Or.inl ⟨by rfl,?_⟩) ?_ ?_
                   rotate_left
                   ·intro w'
                    go_simp
                    with_reducible rfl
                   rotate_left
                   ·simp only [Act.put,p1_,p2_,p3_,i64_w,i32_w]
                    rfl
                   refine pure_ (i := 29) (N := some 68) (v := ?_) (a' := ?_) #[true,true,true,true,true,true,true,true,true,true,true,true,true,true,true,true,true,true,true,true,true,true,true,true,true,true,true,true,true,true,false,false] rfl rfl (any_of HT_.out (by kernel_rfl)) (fun _ _ _ h => h) (Or.inl ⟨by rfl,?_⟩) ?_ ?_
                   rotate_left
                   ·intro w'
                    go_simp
                    with_reducible rfl
                   rotate_left
                   ·simp only [Act.put,p1_,p2_,p3_,i64_w,i32_w]
                    rfl
                   refine one_ (i := 30) (N := some 6) #[true,true,true,true,true,true,true,true,true,true,true,true,true,true,true,true,true,true,true,true,true,true,true,true,true,true,true,true,true,true,true,false] rfl rfl (one_of HT_.out (by kernel_rfl)) (by decide) (fun K hK => ?_)
                   refine box_step ?hg (N := 6) ?hd (cs := #[.int .i64 0,.int .i64 0,.int .i64 0,.int .i64 0,.string ⟨#[]⟩,.string ⟨#[]⟩,.string ⟨#[]⟩]) (t := 24) ?hr ?_;(case hd => rfl);(case hg => rfl);(case hr => first | (go_simp;done) | (go_simp;rfl))
                   intro gb528 hg w36 hbox hb
                   have n0_ := am_ (blk_below (g := gb526) (o := .cells #[.int .i64 0,.int .i64 0,.int .i64 0,.int .i64 0,.string ⟨#[]⟩,.string ⟨#[]⟩,.string ⟨#[]⟩] 24 (0,0)) (by (with_reducible repeat (first | apply k1_ | apply k2_ | apply k3_));exact BK526.out) hb)
                   have n1_ := am_ (below_step (by repeat (first | (with_reducible first | exact HB.out | apply b1_ | apply b2_ | apply b3_ | refine below_set ?_ GE526.out) | exact HB.out)) hb)
                   have n2_ := am_ (hbox)
                   have n3_ := am_ ((by rw [hg];exact (below_size (by repeat (first | (with_reducible first | exact HB.out | apply b1_ | apply b2_ | apply b3_ | refine below_set ?_ GE526.out) | exact HB.out))) : w.heap.size ≤ gb528))
                   have n4_ := am_ ((by rw [hg];exact (below_size (by repeat (first | (with_reducible first | exact HB.out | apply b1_ | apply b2_ | apply b3_ | refine below_set ?_ GE526.out) | exact HB.out))) : w.heap.size ≤ gb528))
                   have n5_ := am_ ((by rw [hg];exact Nat.ne_of_lt (blk_lt (g := gb526) (o := .cells #[.int .i64 0,.int .i64 0,.int .i64 0,.int .i64 0,.string ⟨#[]⟩,.string ⟨#[]⟩,.string ⟨#[]⟩] 24 (0,0)) (by (with_reducible repeat (first | apply k1_ | apply k2_ | apply k3_));exact BK526.out)) : gb526 ≠ gb528))
                   have n6_ := am_ ((by rw [hg];exact Nat.ne_of_gt (blk_lt (g := gb526) (o := .cells #[.int .i64 0,.int .i64 0,.int .i64 0,.int .i64 0,.string ⟨#[]⟩,.string ⟨#[]⟩,.string ⟨#[]⟩] 24 (0,0)) (by (with_reducible repeat (first | apply k1_ | apply k2_ | apply k3_));exact BK526.out)) : gb528 ≠ gb526))
                   clear BK526
                   clear HB
                   have BK526 := n0_
                   have HB := n1_
                   have BK528 := n2_
                   have GW528 := n3_
                   have GE528 := n4_
                   have NB526_528 := n5_
                   have NB528_526 := n6_
                   clear n0_ n1_ n2_ n3_ n4_ n5_ n6_
                   clear hb hbox hg
                   refine hK.out _ _ trivial (fun hHeld => ?_)
                   clear hK K
                   refine norm_ (a' := ?_) ?_ ?_
                   rotate_left
                   ·show Act.put _ (some 6) _ = _
                    simp only [Act.put,p1_,p2_,p3_,i64_w,i32_w]
                    rfl
                   refine one_ (i := 31) (N := none) #[true,true,true,true,true,true,true,true,true,true,true,true,true,true,true,true,true,true,true,true,true,true,true,true,true,true,true,true,true,true,true,true] rfl rfl (one_of HT_.out (by kernel_rfl)) (by decide) (fun K hK => ?_)
                   have hs37 : w36.cell? ⟨gb528,0,none⟩ = some (.int .i64 0) := (blk_cell BK528.out 0).trans rfl
                   have hfs37 := blk_frozen BK528.out 0
                   have hns37_0 := NB526_528.out
                   have hms37_0 := NB528_526.out
                   have hs38 : w36.cell? ⟨gb528,1,none⟩ = some (.int .i64 0) := (blk_cell BK528.out 1).trans rfl
                   have hfs38 := blk_frozen BK528.out 1
                   have hns38_0 := NB526_528.out
                   have hms38_0 := NB528_526.out
                   have hs39 : w36.cell? ⟨gb528,2,none⟩ = some (.int .i64 0) := (blk_cell BK528.out 2).trans rfl
                   have hfs39 := blk_frozen BK528.out 2
                   have hns39_0 := NB526_528.out
                   have hms39_0 := NB528_526.out
                   have hs40 : w36.cell? ⟨gb528,3,none⟩ = some (.int .i64 0) := (blk_cell BK528.out 3).trans rfl
                   have hfs40 := blk_frozen BK528.out 3
                   have hns40_0 := NB526_528.out
                   have hms40_0 := NB528_526.out
                   have hs41 : w36.cell? ⟨gb528,4,none⟩ = some (.string ⟨#[]⟩) := (blk_cell BK528.out 4).trans rfl
                   have hfs41 := blk_frozen BK528.out 4
                   have hns41_0 := NB526_528.out
                   have hms41_0 := NB528_526.out
                   have hs42 : w36.cell? ⟨gb528,5,none⟩ = some (.string ⟨#[]⟩) := (blk_cell BK528.out 5).trans rfl
                   have hfs42 := blk_frozen BK528.out 5
                   have hns42_0 := NB526_528.out
                   have hms42_0 := NB528_526.out
                   have hs43 : w36.cell? ⟨gb528,6,none⟩ = some (.string ⟨#[]⟩) := (blk_cell BK528.out 6).trans rfl
                   have hfs43 := blk_frozen BK528.out 6
                   have hns43_0 := NB526_528.out
                   have hms43_0 := NB528_526.out
                   refine skip_ (w1 := ?_) (by rfl) rfl ?_ ?_
                   rotate_left
                   ·go_simp
                    rfl
                   refine hK.out _ _ trivial (fun hHeld => ?_)
                   clear hK K
                   refine done_ (done_of HT_.out (by kernel_rfl)) ?_
                   try go_wp2
                   have n0_ : Aside0 ((((((((w36.setCell ⟨gb528,0,none⟩ (.int .i64 (wrap64 (bt a0 0)))).setCell ⟨gb528,1,none⟩ (.int .i64 (wrap64 (bt a0 1)))).setCell ⟨gb528,2,none⟩ (.int .i64 (wrap64 (bt a0 2)))).setCell ⟨gb528,3,none⟩ (.int .i64 (wrap64 (bt a0 3)))).setCell ⟨gb528,4,none⟩ (.string (a0.extract 5 ((ji11) : Int).toNat))).setCell ⟨gb528,5,none⟩ (.string (a0.extract ((ji27) : Int).toNat ((ji31) : Int).toNat))).setCell ⟨gb528,6,none⟩ (.string (a0.extract ((ji31) : Int).toNat a0.size))).heap[gb526]? = some (.cells #[.int .i64 0,.int .i64 0,.int .i64 0,.int .i64 0,.string ⟨#[]⟩,.string ⟨#[]⟩,.string ⟨#[]⟩] 24 (0,0))) := ⟨by (repeat (first | (with_reducible first | apply k1_ | apply k2_ | apply k3_) | refine blk_far ?_ NB526_528.out _));exact BK526.out⟩
                   have n1_ : Aside0 ((((((((w36.setCell ⟨gb528,0,none⟩ (.int .i64 (wrap64 (bt a0 0)))).setCell ⟨gb528,1,none⟩ (.int .i64 (wrap64 (bt a0 1)))).setCell ⟨gb528,2,none⟩ (.int .i64 (wrap64 (bt a0 2)))).setCell ⟨gb528,3,none⟩ (.int .i64 (wrap64 (bt a0 3)))).setCell ⟨gb528,4,none⟩ (.string (a0.extract 5 ((ji11) : Int).toNat))).setCell ⟨gb528,5,none⟩ (.string (a0.extract ((ji27) : Int).toNat ((ji31) : Int).toNat))).setCell ⟨gb528,6,none⟩ (.string (a0.extract ((ji31) : Int).toNat a0.size))).heap[gb528]? = some (.cells #[.int .i64 (wrap64 (bt a0 0)),.int .i64 (wrap64 (bt a0 1)),.int .i64 (wrap64 (bt a0 2)),.int .i64 (wrap64 (bt a0 3)),.string (a0.extract 5 ((ji11) : Int).toNat),.string (a0.extract ((ji27) : Int).toNat ((ji31) : Int).toNat),.string (a0.extract ((ji31) : Int).toNat a0.size)] 24 (0,0))) := ⟨by (with_reducible repeat (first | apply k1_ | apply k2_ | apply k3_));refine blk_put (cs := #[.int .i64 (wrap64 (bt a0 0)),.int .i64 (wrap64 (bt a0 1)),.int .i64 (wrap64 (bt a0 2)),.int .i64 (wrap64 (bt a0 3)),.string (a0.extract 5 ((ji11) : Int).toNat),.string (a0.extract ((ji27) : Int).toNat ((ji31) : Int).toNat),.string ⟨#[]⟩]) ?_ 6 _ rfl;(with_reducible repeat (first | apply k1_ | apply k2_ | apply k3_));refine blk_put (cs := #[.int .i64 (wrap64 (bt a0 0)),.int .i64 (wrap64 (bt a0 1)),.int .i64 (wrap64 (bt a0 2)),.int .i64 (wrap64 (bt a0 3)),.string (a0.extract 5 ((ji11) : Int).toNat),.string ⟨#[]⟩,.string ⟨#[]⟩]) ?_ 5 _ rfl;(with_reducible repeat (first | apply k1_ | apply k2_ | apply k3_));refine blk_put (cs := #[.int .i64 (wrap64 (bt a0 0)),.int .i64 (wrap64 (bt a0 1)),.int .i64 (wrap64 (bt a0 2)),.int .i64 (wrap64 (bt a0 3)),.string ⟨#[]⟩,.string ⟨#[]⟩,.string ⟨#[]⟩]) ?_ 4 _ rfl;(with_reducible repeat (first | apply k1_ | apply k2_ | apply k3_));refine blk_put (cs := #[.int .i64 (wrap64 (bt a0 0)),.int .i64 (wrap64 (bt a0 1)),.int .i64 (wrap64 (bt a0 2)),.int .i64 0,.string ⟨#[]⟩,.string ⟨#[]⟩,.string ⟨#[]⟩]) ?_ 3 _ rfl;(with_reducible repeat (first | apply k1_ | apply k2_ | apply k3_));refine blk_put (cs := #[.int .i64 (wrap64 (bt a0 0)),.int .i64 (wrap64 (bt a0 1)),.int .i64 0,.int .i64 0,.string ⟨#[]⟩,.string ⟨#[]⟩,.string ⟨#[]⟩]) ?_ 2 _ rfl;(with_reducible repeat (first | apply k1_ | apply k2_ | apply k3_));refine blk_put (cs := #[.int .i64 (wrap64 (bt a0 0)),.int .i64 0,.int .i64 0,.int .i64 0,.string ⟨#[]⟩,.string ⟨#[]⟩,.string ⟨#[]⟩]) ?_ 1 _ rfl;(with_reducible repeat (first | apply k1_ | apply k2_ | apply k3_));refine blk_put (cs := #[.int .i64 0,.int .i64 0,.int .i64 0,.int .i64 0,.string ⟨#[]⟩,.string ⟨#[]⟩,.string ⟨#[]⟩]) ?_ 0 _ rfl;(with_reducible repeat (first | apply k1_ | apply k2_ | apply k3_));exact BK528.out⟩
                   have n2_ : Aside0 (Below w.heap.size w (((((((w36.setCell ⟨gb528,0,none⟩ (.int .i64 (wrap64 (bt a0 0)))).setCell ⟨gb528,1,none⟩ (.int .i64 (wrap64 (bt a0 1)))).setCell ⟨gb528,2,none⟩ (.int .i64 (wrap64 (bt a0 2)))).setCell ⟨gb528,3,none⟩ (.int .i64 (wrap64 (bt a0 3)))).setCell ⟨gb528,4,none⟩ (.string (a0.extract 5 ((ji11) : Int).toNat))).setCell ⟨gb528,5,none⟩ (.string (a0.extract ((ji27) : Int).toNat ((ji31) : Int).toNat))).setCell ⟨gb528,6,none⟩ (.string (a0.extract ((ji31) : Int).toNat a0.size)))) := ⟨by repeat (first | (with_reducible first | exact HB.out | apply b1_ | apply b2_ | apply b3_ | refine below_set ?_ GE526.out | refine below_set ?_ GE528.out) | exact HB.out)⟩
                   (try clear BK526)
                   (try clear BK528)
                   (try clear HB)
                   generalize (((((((w36.setCell ⟨gb528,0,none⟩ (.int .i64 (wrap64 (bt a0 0)))).setCell ⟨gb528,1,none⟩ (.int .i64 (wrap64 (bt a0 1)))).setCell ⟨gb528,2,none⟩ (.int .i64 (wrap64 (bt a0 2)))).setCell ⟨gb528,3,none⟩ (.int .i64 (wrap64 (bt a0 3)))).setCell ⟨gb528,4,none⟩ (.string (a0.extract 5 ((ji11) : Int).toNat))).setCell ⟨gb528,5,none⟩ (.string (a0.extract ((ji27) : Int).toNat ((ji31) : Int).toNat))).setCell ⟨gb528,6,none⟩ (.string (a0.extract ((ji31) : Int).toNat a0.size))) = w44 at n0_ n1_ n2_ ⊢
                   have BK526 := n0_
                   have BK528 := n1_
                   have HB := n2_
                   clear n0_ n1_ n2_
                   have n0_ := am_ (blk_drew BK526.out)
                   have n1_ := am_ (blk_drew BK528.out)
                   have n2_ := am_ (below_drew1 HB.out)
                   clear BK526
                   clear BK528
                   clear HB
                   have BK526 := n0_
                   have BK528 := n1_
                   have HB := n2_
                   clear n0_ n1_ n2_
                   refine start_ (n := 5) (S := fun w' => w'.cell? ⟨gb528,0,none⟩ = some (.int .i64 (wrap64 (bt a0 0))) ∧ w'.cell? ⟨gb528,1,none⟩ = some (.int .i64 (wrap64 (bt a0 1))) ∧ w'.cell? ⟨gb528,2,none⟩ = some (.int .i64 (wrap64 (bt a0 2))) ∧ w'.cell? ⟨gb528,3,none⟩ = some (.int .i64 (wrap64 (bt a0 3))) ∧ w'.cell? ⟨gb528,4,none⟩ = some (.string (a0.extract 5 ((ji11) : Int).toNat)) ∧ w'.cell? ⟨gb528,5,none⟩ = some (.string (a0.extract ((ji27) : Int).toNat ((ji31) : Int).toNat)) ∧ w'.cell? ⟨gb528,6,none⟩ = some (.string (a0.extract ((ji31) : Int).toNat a0.size))) (ds := []) #[false,false,false,false,false] (by kernel_rfl) rfl rfl ⟨(blk_cell BK528.out 0).trans rfl,(blk_cell BK528.out 1).trans rfl,(blk_cell BK528.out 2).trans rfl,(blk_cell BK528.out 3).trans rfl,(blk_cell BK528.out 4).trans rfl,(blk_cell BK528.out 5).trans rfl,(blk_cell BK528.out 6).trans rfl⟩ (fun hHeld => ?_)
                   generalize w44.drew = w45 at BK526 BK528 HB hHeld ⊢
                   refine take_ (i := 0) (N := some 69) (v := ?_) (a' := ?_) #[true,false,false,false,false] rfl rfl (by kernel_rfl) (fun _ _ _ h => h) (Or.inl ⟨by rfl,?_⟩) hHeld ?_ ?_
                   rotate_left
                   ·rintro w' ⟨s0,s1,s2,s3,s4,s5,s6⟩
                    go_simp
                    with_reducible rfl
                   rotate_left
                   ·simp only [Act.put,p1_,p2_,p3_,i64_w,i32_w]
                    rfl
                   refine take_ (i := 1) (N := some 70) (v := ?_) (a' := ?_) #[true,true,false,false,false] rfl rfl (by kernel_rfl) (fun _ _ _ h => h) (Or.inl ⟨by rfl,?_⟩) hHeld ?_ ?_
                   rotate_left
                   ·rintro w' ⟨s0,s1,s2,s3,s4,s5,s6⟩
                    go_simp
                    with_reducible rfl
                   rotate_left
                   ·simp only [Act.put,p1_,p2_,p3_,i64_w,i32_w]
                    rfl
                   refine one_ (i := 2) (N := some 71) #[true,true,true,false,false] rfl rfl (by kernel_rfl) (by decide) (fun K hK => ?_)
                   refine goes_ Try.func25 (by kernel_rfl) rfl #[.agg #[.int .i64 (wrap64 (bt a0 0)),.int .i64 (wrap64 (bt a0 1)),.int .i64 (wrap64 (bt a0 2)),.int .i64 (wrap64 (bt a0 3)),.string (a0.extract 5 ((ji11) : Int).toNat),.string (a0.extract ((ji27) : Int).toNat ((ji31) : Int).toNat),.string (a0.extract ((ji31) : Int).toNat a0.size)]] (by rfl) rfl rfl (by (try simp only [m1_,m2_,m3_]);first | done | (simp only [hji11,hji27,hji31];rfl) | rfl | (simp only [d1_,d2_];rfl)) ?_
                   with_reducible refine (spec_MessageOK.calls kj1 (wrap64 (bt a0 0)) (wrap64 (bt a0 1)) (wrap64 (bt a0 2)) (wrap64 (bt a0 3)) (a0.extract 5 ((ji11) : Int).toNat) (a0.extract ((ji27) : Int).toNat ((ji31) : Int).toNat) (a0.extract ((ji31) : Int).toNat a0.size) t529 _ A34.out).mono ?_
                   rintro e w46 ⟨rfl,hb⟩
                   refine ⟨_,rfl,?_⟩
                   have n0_ := am_ (blk_below (g := gb526) (o := .cells #[.int .i64 0,.int .i64 0,.int .i64 0,.int .i64 0,.string ⟨#[]⟩,.string ⟨#[]⟩,.string ⟨#[]⟩] 24 (0,0)) (by (with_reducible repeat (first | apply k1_ | apply k2_ | apply k3_));exact BK526.out) hb)
                   have n1_ := am_ (blk_below (g := gb528) (o := .cells #[.int .i64 (wrap64 (bt a0 0)),.int .i64 (wrap64 (bt a0 1)),.int .i64 (wrap64 (bt a0 2)),.int .i64 (wrap64 (bt a0 3)),.string (a0.extract 5 ((ji11) : Int).toNat),.string (a0.extract ((ji27) : Int).toNat ((ji31) : Int).toNat),.string (a0.extract ((ji31) : Int).toNat a0.size)] 24 (0,0)) (by (with_reducible repeat (first | apply k1_ | apply k2_ | apply k3_));exact BK528.out) hb)
                   have n2_ := am_ (below_step (by repeat (first | (with_reducible first | exact HB.out | apply b1_ | apply b2_ | apply b3_ | refine below_set ?_ GE526.out | refine below_set ?_ GE528.out) | exact HB.out)) hb)
                   clear BK526
                   clear BK528
                   clear HB
                   have BK526 := n0_
                   have BK528 := n1_
                   have HB := n2_
                   clear n0_ n1_ n2_
                   (try clear hb)
                   (try clear hb2)
                   (try clear hk)
                   (try clear hi)
                   refine hK.out _ _ ⟨(blk_cell BK528.out 0).trans rfl,(blk_cell BK528.out 1).trans rfl,(blk_cell BK528.out 2).trans rfl,(blk_cell BK528.out 3).trans rfl,(blk_cell BK528.out 4).trans rfl,(blk_cell BK528.out 5).trans rfl,(blk_cell BK528.out 6).trans rfl⟩ (fun hHeld => ?_)
                   clear hK K
                   refine norm_ (a' := ?_) ?_ ?_
                   rotate_left
                   ·show Act.put _ (some 71) _ = _
                    simp only [Act.put,p1_,p2_,p3_,i64_w,i32_w]
                    rfl
                   refine one_ (i := 3) (N := none) #[true,true,true,true,false] rfl rfl (by kernel_rfl) (by decide) (fun K hK => ?_)
                   have hs47 : w46.cell? ⟨gb526,0,none⟩ = some (.int .i64 0) := (blk_cell BK526.out 0).trans rfl
                   have hfs47 := blk_frozen BK526.out 0
                   have hns47_1 := NB528_526.out
                   have hms47_1 := NB526_528.out
                   have hs48 : w46.cell? ⟨gb526,1,none⟩ = some (.int .i64 0) := (blk_cell BK526.out 1).trans rfl
                   have hfs48 := blk_frozen BK526.out 1
                   have hns48_1 := NB528_526.out
                   have hms48_1 := NB526_528.out
                   have hs49 : w46.cell? ⟨gb526,2,none⟩ = some (.int .i64 0) := (blk_cell BK526.out 2).trans rfl
                   have hfs49 := blk_frozen BK526.out 2
                   have hns49_1 := NB528_526.out
                   have hms49_1 := NB526_528.out
                   have hs50 : w46.cell? ⟨gb526,3,none⟩ = some (.int .i64 0) := (blk_cell BK526.out 3).trans rfl
                   have hfs50 := blk_frozen BK526.out 3
                   have hns50_1 := NB528_526.out
                   have hms50_1 := NB526_528.out
                   have hs51 : w46.cell? ⟨gb526,4,none⟩ = some (.string ⟨#[]⟩) := (blk_cell BK526.out 4).trans rfl
                   have hfs51 := blk_frozen BK526.out 4
                   have hns51_1 := NB528_526.out
                   have hms51_1 := NB526_528.out
                   have hs52 : w46.cell? ⟨gb526,5,none⟩ = some (.string ⟨#[]⟩) := (blk_cell BK526.out 5).trans rfl
                   have hfs52 := blk_frozen BK526.out 5
                   have hns52_1 := NB528_526.out
                   have hms52_1 := NB526_528.out
                   have hs53 : w46.cell? ⟨gb526,6,none⟩ = some (.string ⟨#[]⟩) := (blk_cell BK526.out 6).trans rfl
                   have hfs53 := blk_frozen BK526.out 6
                   have hns53_1 := NB528_526.out
                   have hms53_1 := NB526_528.out
                   refine skip_ (w1 := ?_) (by rfl) rfl ?_ ?_
                   rotate_left
                   ·go_simp
                    rfl
                   refine hK.out _ _ ⟨((cell_far (p := ⟨gb526,_,none⟩) NB528_526.out _).trans (((cell_far (p := ⟨gb526,_,none⟩) NB528_526.out _).trans (((cell_far (p := ⟨gb526,_,none⟩) NB528_526.out _).trans (((cell_far (p := ⟨gb526,_,none⟩) NB528_526.out _).trans (((cell_far (p := ⟨gb526,_,none⟩) NB528_526.out _).trans (((cell_far (p := ⟨gb526,_,none⟩) NB528_526.out _).trans (((cell_far (p := ⟨gb526,_,none⟩) NB528_526.out _).trans (hHeld.1)))))))))))))),((cell_far (p := ⟨gb526,_,none⟩) NB528_526.out _).trans (((cell_far (p := ⟨gb526,_,none⟩) NB528_526.out _).trans (((cell_far (p := ⟨gb526,_,none⟩) NB528_526.out _).trans (((cell_far (p := ⟨gb526,_,none⟩) NB528_526.out _).trans (((cell_far (p := ⟨gb526,_,none⟩) NB528_526.out _).trans (((cell_far (p := ⟨gb526,_,none⟩) NB528_526.out _).trans (((cell_far (p := ⟨gb526,_,none⟩) NB528_526.out _).trans (hHeld.2.1)))))))))))))),((cell_far (p := ⟨gb526,_,none⟩) NB528_526.out _).trans (((cell_far (p := ⟨gb526,_,none⟩) NB528_526.out _).trans (((cell_far (p := ⟨gb526,_,none⟩) NB528_526.out _).trans (((cell_far (p := ⟨gb526,_,none⟩) NB528_526.out _).trans (((cell_far (p := ⟨gb526,_,none⟩) NB528_526.out _).trans (((cell_far (p := ⟨gb526,_,none⟩) NB528_526.out _).trans (((cell_far (p := ⟨gb526,_,none⟩) NB528_526.out _).trans (hHeld.2.2.1)))))))))))))),((cell_far (p := ⟨gb526,_,none⟩) NB528_526.out _).trans (((cell_far (p := ⟨gb526,_,none⟩) NB528_526.out _).trans (((cell_far (p := ⟨gb526,_,none⟩) NB528_526.out _).trans (((cell_far (p := ⟨gb526,_,none⟩) NB528_526.out _).trans (((cell_far (p := ⟨gb526,_,none⟩) NB528_526.out _).trans (((cell_far (p := ⟨gb526,_,none⟩) NB528_526.out _).trans (((cell_far (p := ⟨gb526,_,none⟩) NB528_526.out _).trans (hHeld.2.2.2.1)))))))))))))),((cell_far (p := ⟨gb526,_,none⟩) NB528_526.out _).trans (((cell_far (p := ⟨gb526,_,none⟩) NB528_526.out _).trans (((cell_far (p := ⟨gb526,_,none⟩) NB528_526.out _).trans (((cell_far (p := ⟨gb526,_,none⟩) NB528_526.out _).trans (((cell_far (p := ⟨gb526,_,none⟩) NB528_526.out _).trans (((cell_far (p := ⟨gb526,_,none⟩) NB528_526.out _).trans (((cell_far (p := ⟨gb526,_,none⟩) NB528_526.out _).trans (hHeld.2.2.2.2.1)))))))))))))),((cell_far (p := ⟨gb526,_,none⟩) NB528_526.out _).trans (((cell_far (p := ⟨gb526,_,none⟩) NB528_526.out _).trans (((cell_far (p := ⟨gb526,_,none⟩) NB528_526.out _).trans (((cell_far (p := ⟨gb526,_,none⟩) NB528_526.out _).trans (((cell_far (p := ⟨gb526,_,none⟩) NB528_526.out _).trans (((cell_far (p := ⟨gb526,_,none⟩) NB528_526.out _).trans (((cell_far (p := ⟨gb526,_,none⟩) NB528_526.out _).trans (hHeld.2.2.2.2.2.1)))))))))))))),((cell_far (p := ⟨gb526,_,none⟩) NB528_526.out _).trans (((cell_far (p := ⟨gb526,_,none⟩) NB528_526.out _).trans (((cell_far (p := ⟨gb526,_,none⟩) NB528_526.out _).trans (((cell_far (p := ⟨gb526,_,none⟩) NB528_526.out _).trans (((cell_far (p := ⟨gb526,_,none⟩) NB528_526.out _).trans (((cell_far (p := ⟨gb526,_,none⟩) NB528_526.out _).trans (((cell_far (p := ⟨gb526,_,none⟩) NB528_526.out _).trans (hHeld.2.2.2.2.2.2))))))))))))))⟩ (fun hHeld => ?_)
                   clear hK K
                   refine pure_ (i := 4) (N := some 3) (v := ?_) (a' := ?_) #[true,true,true,true,true] rfl rfl (by kernel_rfl) (fun _ _ _ h => h) (Or.inl ⟨by rfl,?_⟩) ?_ ?_
                   rotate_left
                   ·intro w'
                    go_simp
                    with_reducible rfl
                   rotate_left
                   ·simp only [Act.put,p1_,p2_,p3_,i64_w,i32_w]
                    rfl
                   refine done_ (by kernel_rfl) ?_
                   try go_wp2
                   refine bodyPost_ret (results_ct rfl _ _ gb526 24 #[.int .i64 (wrap64 (bt a0 0)),.int .i64 (wrap64 (bt a0 1)),.int .i64 (wrap64 (bt a0 2)),.int .i64 (wrap64 (bt a0 3)),.string (a0.extract 5 ((ji11) : Int).toNat),.string (a0.extract ((ji27) : Int).toNat ((ji31) : Int).toNat),.string (a0.extract ((ji31) : Int).toNat a0.size)] (0,0) _ rfl (by (with_reducible repeat (first | apply k1_ | apply k2_ | apply k3_));refine blk_put (cs := #[.int .i64 (wrap64 (bt a0 0)),.int .i64 (wrap64 (bt a0 1)),.int .i64 (wrap64 (bt a0 2)),.int .i64 (wrap64 (bt a0 3)),.string (a0.extract 5 ((ji11) : Int).toNat),.string (a0.extract ((ji27) : Int).toNat ((ji31) : Int).toNat),.string ⟨#[]⟩]) ?_ 6 _ rfl;(with_reducible repeat (first | apply k1_ | apply k2_ | apply k3_));refine blk_put (cs := #[.int .i64 (wrap64 (bt a0 0)),.int .i64 (wrap64 (bt a0 1)),.int .i64 (wrap64 (bt a0 2)),.int .i64 (wrap64 (bt a0 3)),.string (a0.extract 5 ((ji11) : Int).toNat),.string ⟨#[]⟩,.string ⟨#[]⟩]) ?_ 5 _ rfl;(with_reducible repeat (first | apply k1_ | apply k2_ | apply k3_));refine blk_put (cs := #[.int .i64 (wrap64 (bt a0 0)),.int .i64 (wrap64 (bt a0 1)),.int .i64 (wrap64 (bt a0 2)),.int .i64 (wrap64 (bt a0 3)),.string ⟨#[]⟩,.string ⟨#[]⟩,.string ⟨#[]⟩]) ?_ 4 _ rfl;(with_reducible repeat (first | apply k1_ | apply k2_ | apply k3_));refine blk_put (cs := #[.int .i64 (wrap64 (bt a0 0)),.int .i64 (wrap64 (bt a0 1)),.int .i64 (wrap64 (bt a0 2)),.int .i64 0,.string ⟨#[]⟩,.string ⟨#[]⟩,.string ⟨#[]⟩]) ?_ 3 _ rfl;(with_reducible repeat (first | apply k1_ | apply k2_ | apply k3_));refine blk_put (cs := #[.int .i64 (wrap64 (bt a0 0)),.int .i64 (wrap64 (bt a0 1)),.int .i64 0,.int .i64 0,.string ⟨#[]⟩,.string ⟨#[]⟩,.string ⟨#[]⟩]) ?_ 2 _ rfl;(with_reducible repeat (first | apply k1_ | apply k2_ | apply k3_));refine blk_put (cs := #[.int .i64 (wrap64 (bt a0 0)),.int .i64 0,.int .i64 0,.int .i64 0,.string ⟨#[]⟩,.string ⟨#[]⟩,.string ⟨#[]⟩]) ?_ 1 _ rfl;(with_reducible repeat (first | apply k1_ | apply k2_ | apply k3_));refine blk_put (cs := #[.int .i64 0,.int .i64 0,.int .i64 0,.int .i64 0,.string ⟨#[]⟩,.string ⟨#[]⟩,.string ⟨#[]⟩]) ?_ 0 _ rfl;(with_reducible repeat (first | apply k1_ | apply k2_ | apply k3_));exact BK526.out) Try.underlying24 rfl (by kernel_rfl)) rfl ?_
                   exact ⟨by first | rfl | (simp [e1_,e2_] <;> rfl) | (simp only [← hji11,← hji27,← hji31];first | rfl | (simp [e1_,e2_] <;> rfl)) | (simp [*,e1_,e2_] <;> rfl) | (simp [e3_,e4_];done) | (simp [*,e3_,e4_];done),by repeat (first | (with_reducible first | exact HB.out | apply b1_ | apply b2_ | apply b3_ | refine below_set ?_ GE526.out | refine below_set ?_ GE528.out) | exact HB.out)⟩
                  ·rw [if_neg c32] at H
                   exact absurd H (by simp)
                 ·rw [if_neg c30] at H
                  exact absurd H (by simp)
                ·rw [if_neg c29] at H
                 exact absurd H (by simp)
               ·rw [if_neg c28] at H
                exact absurd H (by simp)
              ·rw [if_neg c26] at H
               exact absurd H (by simp)
             ·rw [if_neg c25] at H
              exact absurd H (by simp)
            ·rw [if_neg c23] at H
             exact absurd H (by simp)
           ·rw [if_neg c21] at H
            exact absurd H (by simp)
          ·rw [if_neg c19] at H
           exact absurd H (by simp)
         ·rw [if_neg c17] at H
          exact absurd H (by simp)
        ·rw [if_neg c16] at H
         have c16b0 : ((a0.size : Int) == (wrap64 ((wrap64 ((wrap64 ((ji11) + 2)) + t527)) + 8))) = false := beq_eq_false_iff_ne.mpr c16
         have c16b1 : ((a0.size : Int) != (wrap64 ((wrap64 ((wrap64 ((ji11) + 2)) + t527)) + 8))) = true := bne_iff_ne.mpr c16
         simp only [Option.some.injEq,Prod.mk.injEq] at H
         obtain ⟨rfl,rfl,rfl,rfl,rfl,rfl,rfl,rfl⟩ := H
         have p10 : 0 ≤ (4 : Int) := (by omega)
         have q10 : 4 < a0.size := (by have : (4 : Int) < (a0.size : Int) := o1_ (by first | (with_reducible assumption) | assumption);omega)
         have hx10 : ∀ h : 4 < a0.size,((a0[4]'h).toNat : Int) = bt a0 4 := bt_at a0 4
         clear p10
         have qi10 : (4 < (a0.size : Int)) = True := eq_true (o1_ (by first | (with_reducible assumption) | assumption))
         replace q10 := eq_true q10
         go_wp2_with (first | ((with_reducible refine gate_callee (f := 54) rfl ?_);refine goesL_ (some 29) rfl rfl Try.func54 (by kernel_rfl) rfl #[.string (a0.extract ((ji11) : Int).toNat ((wrap64 ((ji11) + 2)) : Int).toNat)] rfl (by (try simp only [m1_,m2_,m3_]);first | done | (simp only [hji11];rfl) | rfl | (simp only [d1_,d2_];rfl)) ?_;(with_reducible refine (spec_l02Of.calls kj1 (a0.extract ((ji11) : Int).toNat ((wrap64 ((ji11) + 2)) : Int).toNat) t527 _ A15.out).mono ?_);rintro e w' ⟨rfl,⟨nd,rfl⟩⟩;refine ⟨_,rfl,?_⟩;(try (rw [drewN_self wc];generalize hq_ : World.drewN wc _ = wc;have n0_ : Aside0 (wc.heap[gb526]? = some (.cells #[.int .i64 0,.int .i64 0,.int .i64 0,.int .i64 0,.string ⟨#[]⟩,.string ⟨#[]⟩,.string ⟨#[]⟩] 24 (0,0))) := ⟨by rw [← hq_];exact (by (with_reducible repeat (first | apply k1_ | apply k2_ | apply k3_));exact BK526.out)⟩;have n1_ : Aside0 (Below w.heap.size w wc) := ⟨by rw [← hq_];exact (by repeat (first | (with_reducible first | exact HB.out | apply b1_ | apply b2_ | apply b3_ | refine below_set ?_ GE526.out) | exact HB.out))⟩;clear BK526 HB hq_;have BK526 := n0_;have HB := n1_;clear n0_ n1_));(try have hfu526_0 := blk_frozen BK526.out 0);(try have hcu526_0 : wc.cell? ⟨gb526,0,none⟩ = some (.int .i64 0) := (blk_cell BK526.out 0).trans rfl);(try have hfu526_1 := blk_frozen BK526.out 1);(try have hcu526_1 : wc.cell? ⟨gb526,1,none⟩ = some (.int .i64 0) := (blk_cell BK526.out 1).trans rfl);(try have hfu526_2 := blk_frozen BK526.out 2);(try have hcu526_2 : wc.cell? ⟨gb526,2,none⟩ = some (.int .i64 0) := (blk_cell BK526.out 2).trans rfl);(try have hfu526_3 := blk_frozen BK526.out 3);(try have hcu526_3 : wc.cell? ⟨gb526,3,none⟩ = some (.int .i64 0) := (blk_cell BK526.out 3).trans rfl);(try have hfu526_4 := blk_frozen BK526.out 4);(try have hcu526_4 : wc.cell? ⟨gb526,4,none⟩ = some (.string ⟨#[]⟩) := (blk_cell BK526.out 4).trans rfl);(try have hfu526_5 := blk_frozen BK526.out 5);(try have hcu526_5 : wc.cell? ⟨gb526,5,none⟩ = some (.string ⟨#[]⟩) := (blk_cell BK526.out 5).trans rfl);(try have hfu526_6 := blk_frozen BK526.out 6);(try have hcu526_6 : wc.cell? ⟨gb526,6,none⟩ = some (.string ⟨#[]⟩) := (blk_cell BK526.out 6).trans rfl);obtain ⟨hcz54_0,hcz54_1,hcz54_2,hcz54_3,hcz54_4,hcz54_5,hcz54_6,hfz54_0,hfz54_1,hfz54_2,hfz54_3,hfz54_4,hfz54_5,hfz54_6⟩ := bc7_ BK526.out))
         refine bodyPost_ret (results_ct rfl _ _ gb526 24 #[.int .i64 0,.int .i64 0,.int .i64 0,.int .i64 0,.string ⟨#[]⟩,.string ⟨#[]⟩,.string ⟨#[]⟩] (0,0) _ rfl (by (with_reducible repeat (first | apply k1_ | apply k2_ | apply k3_));refine blk_put (cs := #[.int .i64 0,.int .i64 0,.int .i64 0,.int .i64 0,.string ⟨#[]⟩,.string ⟨#[]⟩,.string ⟨#[]⟩]) ?_ 6 _ rfl;(with_reducible repeat (first | apply k1_ | apply k2_ | apply k3_));refine blk_put (cs := #[.int .i64 0,.int .i64 0,.int .i64 0,.int .i64 0,.string ⟨#[]⟩,.string ⟨#[]⟩,.string ⟨#[]⟩]) ?_ 5 _ rfl;(with_reducible repeat (first | apply k1_ | apply k2_ | apply k3_));refine blk_put (cs := #[.int .i64 0,.int .i64 0,.int .i64 0,.int .i64 0,.string ⟨#[]⟩,.string ⟨#[]⟩,.string ⟨#[]⟩]) ?_ 4 _ rfl;(with_reducible repeat (first | apply k1_ | apply k2_ | apply k3_));refine blk_put (cs := #[.int .i64 0,.int .i64 0,.int .i64 0,.int .i64 0,.string ⟨#[]⟩,.string ⟨#[]⟩,.string ⟨#[]⟩]) ?_ 3 _ rfl;(with_reducible repeat (first | apply k1_ | apply k2_ | apply k3_));refine blk_put (cs := #[.int .i64 0,.int .i64 0,.int .i64 0,.int .i64 0,.string ⟨#[]⟩,.string ⟨#[]⟩,.string ⟨#[]⟩]) ?_ 2 _ rfl;(with_reducible repeat (first | apply k1_ | apply k2_ | apply k3_));refine blk_put (cs := #[.int .i64 0,.int .i64 0,.int .i64 0,.int .i64 0,.string ⟨#[]⟩,.string ⟨#[]⟩,.string ⟨#[]⟩]) ?_ 1 _ rfl;(with_reducible repeat (first | apply k1_ | apply k2_ | apply k3_));refine blk_put (cs := #[.int .i64 0,.int .i64 0,.int .i64 0,.int .i64 0,.string ⟨#[]⟩,.string ⟨#[]⟩,.string ⟨#[]⟩]) ?_ 0 _ rfl;(with_reducible repeat (first | apply k1_ | apply k2_ | apply k3_));exact BK526.out) Try.underlying24 rfl (by kernel_rfl)) rfl ?_
         exact ⟨by first | rfl | (simp [e1_,e2_] <;> rfl) | (simp only [← hji11];first | rfl | (simp [e1_,e2_] <;> rfl)) | (simp [*,e1_,e2_] <;> rfl) | (simp [e3_,e4_];done) | (simp [*,e3_,e4_];done),by repeat (first | (with_reducible first | exact HB.out | apply b1_ | apply b2_ | apply b3_ | refine below_set ?_ GE526.out) | exact HB.out)⟩
       ·rw [if_neg c14] at H
        exact absurd H (by simp)
      ·rw [if_neg c13] at H
       exact absurd H (by simp)
     ·rw [if_neg c12] at H
      exact absurd H (by simp)
    ·rw [if_neg c9] at H
     exact absurd H (by simp)
set_option maxHeartbeats 8000000 in
set_option maxRecDepth 100000 in
theorem spec_ReadMessage.calls (k : Nat) (A0 : Option Addr) (c0 : Nat) (l0 : List Int) (r1 : Int) (r2 : Int) (r3 : Int) (r4 : Int) (r5 : ByteArray) (r6 : ByteArray) (r7 : ByteArray) (r8 : Int) (w : World) (hr0 : Kd.C (Kd.int .u8) w A0 l0.length l0) (hc0 : l0.length ≤ c0) (h : spec_ReadMessage.f k l0 = some (r1,r2,r3,r4,r5,r6,r7,r8)) :
  Calls Try.prog 10 #[.slice A0 l0.length c0] w fun e w' => e = .returned (.tuple #[.agg #[.int .i64 r1,.int .i64 r2,.int .i64 r3,.int .i64 r4,.string r5,.string r6,.string r7],.int .i64 r8]) ∧ Below w.heap.size w w' := by
 have hu24 := Try.underlying24
 have HR0 := am_ hr0
 have HC0 := am_ hc0
 clear hr0 hc0
 have HB := am_ (Below.refl w.heap.size w)
 have H : (if (l0.length : Int) > 65536 then (some (0,0,0,0,(⟨#[]⟩ : ByteArray),(⟨#[]⟩ : ByteArray),(⟨#[]⟩ : ByteArray),2)) else ((spec_l02ReadMessage.f k (strOfNums l0)).bind fun bt531 => (if bt531.2.2.2.2.2.2.2 = true then (some (bt531.1,bt531.2.1,bt531.2.2.1,bt531.2.2.2.1,bt531.2.2.2.2.1,bt531.2.2.2.2.2.1,bt531.2.2.2.2.2.2.1,0)) else (some (0,0,0,0,(⟨#[]⟩ : ByteArray),(⟨#[]⟩ : ByteArray),(⟨#[]⟩ : ByteArray),3))))) = some (r1,r2,r3,r4,r5,r6,r7,r8) := h
 clear h
 by_cases c2 : (l0.length : Int) > 65536
 ·rw [if_pos c2] at H
  have c2b0 : decide (65536 < (l0.length : Int)) = true := decide_eq_true c2
  have c2b1 : decide (65536 < l0.length) = true := decide_eq_true (by omega)
  clear c2
  simp only [Option.some.injEq,Prod.mk.injEq] at H
  obtain ⟨rfl,rfl,rfl,rfl,rfl,rfl,rfl,rfl⟩ := H
  go_enter Try.func10,Try.ntmps10
  go_wp2_with (first | ((with_reducible refine gate_dst (N := 2) rfl ?_);refine box_event ?hg (N := 2) ?hd (cs := #[.int .i64 0,.int .i64 0,.int .i64 0,.int .i64 0,.string ⟨#[]⟩,.string ⟨#[]⟩,.string ⟨#[]⟩]) (t := 24) ?hr ?_;(case hd => rfl);(case hg => rfl);(case hr => first | (go_simp;done) | (go_simp;rfl));intro gb530 hg w3 hbox hb;have n0_ := am_ (below_step (by repeat (first | (with_reducible first | exact HB.out | apply b1_ | apply b2_ | apply b3_) | exact HB.out)) hb);have n1_ := am_ (hbox);have n2_ := am_ ((by rw [hg];exact (below_size (by repeat (first | (with_reducible first | exact HB.out | apply b1_ | apply b2_ | apply b3_) | exact HB.out))) : w.heap.size ≤ gb530));have n3_ := am_ ((by rw [hg];exact (below_size (by repeat (first | (with_reducible first | exact HB.out | apply b1_ | apply b2_ | apply b3_) | exact HB.out))) : w.heap.size ≤ gb530));clear HB;have HB := n0_;have BK530 := n1_;have GW530 := n2_;have GE530 := n3_;clear n0_ n1_ n2_ n3_;clear hb hbox hg;obtain ⟨hcz4_0,hcz4_1,hcz4_2,hcz4_3,hcz4_4,hcz4_5,hcz4_6,hfz4_0,hfz4_1,hfz4_2,hfz4_3,hfz4_4,hfz4_5,hfz4_6⟩ := bc7_ BK530.out))
  refine bodyPost_ret (results_ct rfl _ _ gb530 24 #[.int .i64 0,.int .i64 0,.int .i64 0,.int .i64 0,.string ⟨#[]⟩,.string ⟨#[]⟩,.string ⟨#[]⟩] (0,0) _ rfl (by (with_reducible repeat (first | apply k1_ | apply k2_ | apply k3_));refine blk_put (cs := #[.int .i64 0,.int .i64 0,.int .i64 0,.int .i64 0,.string ⟨#[]⟩,.string ⟨#[]⟩,.string ⟨#[]⟩]) ?_ 6 _ rfl;(with_reducible repeat (first | apply k1_ | apply k2_ | apply k3_));refine blk_put (cs := #[.int .i64 0,.int .i64 0,.int .i64 0,.int .i64 0,.string ⟨#[]⟩,.string ⟨#[]⟩,.string ⟨#[]⟩]) ?_ 5 _ rfl;(with_reducible repeat (first | apply k1_ | apply k2_ | apply k3_));refine blk_put (cs := #[.int .i64 0,.int .i64 0,.int .i64 0,.int .i64 0,.string ⟨#[]⟩,.string ⟨#[]⟩,.string ⟨#[]⟩]) ?_ 4 _ rfl;(with_reducible repeat (first | apply k1_ | apply k2_ | apply k3_));refine blk_put (cs := #[.int .i64 0,.int .i64 0,.int .i64 0,.int .i64 0,.string ⟨#[]⟩,.string ⟨#[]⟩,.string ⟨#[]⟩]) ?_ 3 _ rfl;(with_reducible repeat (first | apply k1_ | apply k2_ | apply k3_));refine blk_put (cs := #[.int .i64 0,.int .i64 0,.int .i64 0,.int .i64 0,.string ⟨#[]⟩,.string ⟨#[]⟩,.string ⟨#[]⟩]) ?_ 2 _ rfl;(with_reducible repeat (first | apply k1_ | apply k2_ | apply k3_));refine blk_put (cs := #[.int .i64 0,.int .i64 0,.int .i64 0,.int .i64 0,.string ⟨#[]⟩,.string ⟨#[]⟩,.string ⟨#[]⟩]) ?_ 1 _ rfl;(with_reducible repeat (first | apply k1_ | apply k2_ | apply k3_));refine blk_put (cs := #[.int .i64 0,.int .i64 0,.int .i64 0,.int .i64 0,.string ⟨#[]⟩,.string ⟨#[]⟩,.string ⟨#[]⟩]) ?_ 0 _ rfl;(with_reducible repeat (first | apply k1_ | apply k2_ | apply k3_));exact BK530.out) Try.underlying24 rfl (by kernel_rfl)) rfl ?_
  exact ⟨by first | rfl | (simp [e1_,e2_] <;> rfl) | (simp [*,e1_,e2_] <;> rfl) | (simp [e3_,e4_];done) | (simp [*,e3_,e4_];done),by repeat (first | (with_reducible first | exact HB.out | apply b1_ | apply b2_ | apply b3_ | refine below_set ?_ GE530.out) | exact HB.out)⟩
 ·rw [if_neg c2] at H
  have c2b0 : decide (65536 < (l0.length : Int)) = false := decide_eq_false c2
  have c2b1 : decide (65536 < l0.length) = false := decide_eq_false (by omega)
  clear c2
  replace H := Option.bind_eq_some_iff.mp H
  obtain ⟨⟨t531,t532,t533,t534,t535,t536,t537,t538⟩,A50,H⟩ := H
  try dsimp only at H
  have A5 := am_ A50
  clear A50
  by_cases c6 : t538 = true
  ·subst c6
   have H1 : (some (t531,t532,t533,t534,t535,t536,t537,0)) = some (r1,r2,r3,r4,r5,r6,r7,r8) := by rw [if_pos rfl] at H;exact H
   clear H
   have H := H1
   clear H1
   simp only [Option.some.injEq,Prod.mk.injEq] at H
   obtain ⟨rfl,rfl,rfl,rfl,rfl,rfl,rfl,rfl⟩ := H
   go_enter Try.func10,Try.ntmps10
   go_wp2_with (first | ((with_reducible refine gate_dst (N := 2) rfl ?_);refine box_event ?hg (N := 2) ?hd (cs := #[.int .i64 0,.int .i64 0,.int .i64 0,.int .i64 0,.string ⟨#[]⟩,.string ⟨#[]⟩,.string ⟨#[]⟩]) (t := 24) ?hr ?_;(case hd => rfl);(case hg => rfl);(case hr => first | (go_simp;done) | (go_simp;rfl));intro gb530 hg w7 hbox hb;have n0_ := am_ (below_step (by repeat (first | (with_reducible first | exact HB.out | apply b1_ | apply b2_ | apply b3_) | exact HB.out)) hb);have n1_ := am_ (hbox);have n2_ := am_ ((by rw [hg];exact (below_size (by repeat (first | (with_reducible first | exact HB.out | apply b1_ | apply b2_ | apply b3_) | exact HB.out))) : w.heap.size ≤ gb530));have n3_ := am_ ((by rw [hg];exact (below_size (by repeat (first | (with_reducible first | exact HB.out | apply b1_ | apply b2_ | apply b3_) | exact HB.out))) : w.heap.size ≤ gb530));clear HB;have HB := n0_;have BK530 := n1_;have GW530 := n2_;have GE530 := n3_;clear n0_ n1_ n2_ n3_;clear hb hbox hg;have hcv8 := Kd.C_string (P := Try.prog) (A := A0) (c := c0) Try.underlying22 Try.underlying5 Try.underlying9 (Kd.C_below HR0.out HB.out)) | ((with_reducible refine gate_callee (f := 30) rfl ?_);refine goesL_ (some 13) rfl rfl Try.func30 (by kernel_rfl) rfl #[.string (strOfNums l0)] rfl (by (try simp only [m1_,m2_,m3_]);first | done | rfl | (simp only [d1_,d2_];rfl)) ?_;(with_reducible refine (spec_l02ReadMessage.calls k (strOfNums l0) t531 t532 t533 t534 t535 t536 t537 true _ A5.out).mono ?_);rintro e w9 ⟨rfl,hb⟩;refine ⟨_,rfl,?_⟩;have n0_ := am_ (blk_below (g := gb530) (o := .cells #[.int .i64 0,.int .i64 0,.int .i64 0,.int .i64 0,.string ⟨#[]⟩,.string ⟨#[]⟩,.string ⟨#[]⟩] 24 (0,0)) (by (with_reducible repeat (first | apply k1_ | apply k2_ | apply k3_));exact BK530.out) hb);have n1_ := am_ (below_step (by repeat (first | (with_reducible first | exact HB.out | apply b1_ | apply b2_ | apply b3_ | refine below_set ?_ GE530.out) | exact HB.out)) hb);clear BK530;clear HB;have BK530 := n0_;have HB := n1_;clear n0_ n1_;(try clear hb);(try clear hb2);(try clear hk);(try clear hi)) | ((with_reducible refine gate_dst (N := 4) rfl ?_);refine box_event ?hg (N := 4) ?hd (cs := #[.int .i64 0,.int .i64 0,.int .i64 0,.int .i64 0,.string ⟨#[]⟩,.string ⟨#[]⟩,.string ⟨#[]⟩]) (t := 24) ?hr ?_;(case hd => rfl);(case hg => rfl);(case hr => first | (go_simp;done) | (go_simp;rfl));intro gb539 hg w10 hbox hb;have n0_ := am_ (blk_below (g := gb530) (o := .cells #[.int .i64 0,.int .i64 0,.int .i64 0,.int .i64 0,.string ⟨#[]⟩,.string ⟨#[]⟩,.string ⟨#[]⟩] 24 (0,0)) (by (with_reducible repeat (first | apply k1_ | apply k2_ | apply k3_));exact BK530.out) hb);have n1_ := am_ (below_step (by repeat (first | (with_reducible first | exact HB.out | apply b1_ | apply b2_ | apply b3_ | refine below_set ?_ GE530.out) | exact HB.out)) hb);have n2_ := am_ (hbox);have n3_ := am_ ((by rw [hg];exact (below_size (by repeat (first | (with_reducible first | exact HB.out | apply b1_ | apply b2_ | apply b3_ | refine below_set ?_ GE530.out) | exact HB.out))) : w.heap.size ≤ gb539));have n4_ := am_ ((by rw [hg];exact (below_size (by repeat (first | (with_reducible first | exact HB.out | apply b1_ | apply b2_ | apply b3_ | refine below_set ?_ GE530.out) | exact HB.out))) : w.heap.size ≤ gb539));have n5_ := am_ ((by rw [hg];exact Nat.ne_of_lt (blk_lt (g := gb530) (o := .cells #[.int .i64 0,.int .i64 0,.int .i64 0,.int .i64 0,.string ⟨#[]⟩,.string ⟨#[]⟩,.string ⟨#[]⟩] 24 (0,0)) (by (with_reducible repeat (first | apply k1_ | apply k2_ | apply k3_));exact BK530.out)) : gb530 ≠ gb539));have n6_ := am_ ((by rw [hg];exact Nat.ne_of_gt (blk_lt (g := gb530) (o := .cells #[.int .i64 0,.int .i64 0,.int .i64 0,.int .i64 0,.string ⟨#[]⟩,.string ⟨#[]⟩,.string ⟨#[]⟩] 24 (0,0)) (by (with_reducible repeat (first | apply k1_ | apply k2_ | apply k3_));exact BK530.out)) : gb539 ≠ gb530));clear BK530;clear HB;have BK530 := n0_;have HB := n1_;have BK539 := n2_;have GW539 := n3_;have GE539 := n4_;have NB530_539 := n5_;have NB539_530 := n6_;clear n0_ n1_ n2_ n3_ n4_ n5_ n6_;clear hb hbox hg;have hnb11 := NB539_530.out;have hnc11 := NB530_539.out;obtain ⟨hcz12_0,hcz12_1,hcz12_2,hcz12_3,hcz12_4,hcz12_5,hcz12_6,hfz12_0,hfz12_1,hfz12_2,hfz12_3,hfz12_4,hfz12_5,hfz12_6⟩ := bc7_ BK539.out;obtain ⟨hcz13_0,hcz13_1,hcz13_2,hcz13_3,hcz13_4,hcz13_5,hcz13_6,hfz13_0,hfz13_1,hfz13_2,hfz13_3,hfz13_4,hfz13_5,hfz13_6⟩ := bc7_ BK530.out))
   refine bodyPost_ret (results_ct rfl _ _ gb530 24 #[.int .i64 t531,.int .i64 t532,.int .i64 t533,.int .i64 t534,.string t535,.string t536,.string t537] (0,0) _ rfl (by (with_reducible repeat (first | apply k1_ | apply k2_ | apply k3_));refine blk_put (cs := #[.int .i64 t531,.int .i64 t532,.int .i64 t533,.int .i64 t534,.string t535,.string t536,.string ⟨#[]⟩]) ?_ 6 _ rfl;(with_reducible repeat (first | apply k1_ | apply k2_ | apply k3_));refine blk_put (cs := #[.int .i64 t531,.int .i64 t532,.int .i64 t533,.int .i64 t534,.string t535,.string ⟨#[]⟩,.string ⟨#[]⟩]) ?_ 5 _ rfl;(with_reducible repeat (first | apply k1_ | apply k2_ | apply k3_));refine blk_put (cs := #[.int .i64 t531,.int .i64 t532,.int .i64 t533,.int .i64 t534,.string ⟨#[]⟩,.string ⟨#[]⟩,.string ⟨#[]⟩]) ?_ 4 _ rfl;(with_reducible repeat (first | apply k1_ | apply k2_ | apply k3_));refine blk_put (cs := #[.int .i64 t531,.int .i64 t532,.int .i64 t533,.int .i64 0,.string ⟨#[]⟩,.string ⟨#[]⟩,.string ⟨#[]⟩]) ?_ 3 _ rfl;(with_reducible repeat (first | apply k1_ | apply k2_ | apply k3_));refine blk_put (cs := #[.int .i64 t531,.int .i64 t532,.int .i64 0,.int .i64 0,.string ⟨#[]⟩,.string ⟨#[]⟩,.string ⟨#[]⟩]) ?_ 2 _ rfl;(with_reducible repeat (first | apply k1_ | apply k2_ | apply k3_));refine blk_put (cs := #[.int .i64 t531,.int .i64 0,.int .i64 0,.int .i64 0,.string ⟨#[]⟩,.string ⟨#[]⟩,.string ⟨#[]⟩]) ?_ 1 _ rfl;(with_reducible repeat (first | apply k1_ | apply k2_ | apply k3_));refine blk_put (cs := #[.int .i64 0,.int .i64 0,.int .i64 0,.int .i64 0,.string ⟨#[]⟩,.string ⟨#[]⟩,.string ⟨#[]⟩]) ?_ 0 _ rfl;(repeat (first | (with_reducible first | apply k1_ | apply k2_ | apply k3_) | refine blk_far ?_ NB530_539.out _));exact BK530.out) Try.underlying24 rfl (by kernel_rfl)) rfl ?_
   exact ⟨by first | rfl | (simp [e1_,e2_] <;> rfl) | (simp [*,e1_,e2_] <;> rfl) | (simp [e3_,e4_];done) | (simp [*,e3_,e4_];done),by repeat (first | (with_reducible first | exact HB.out | apply b1_ | apply b2_ | apply b3_ | refine below_set ?_ GE530.out | refine below_set ?_ GE539.out) | exact HB.out)⟩
  ·replace c6 := Bool.eq_false_iff.mpr c6
   subst c6
   have H1 : (some (0,0,0,0,(⟨#[]⟩ : ByteArray),(⟨#[]⟩ : ByteArray),(⟨#[]⟩ : ByteArray),3)) = some (r1,r2,r3,r4,r5,r6,r7,r8) := by rw [if_neg (show ¬ (false = true) by decide)] at H;exact H
   clear H
   have H := H1
   clear H1
   simp only [Option.some.injEq,Prod.mk.injEq] at H
   obtain ⟨rfl,rfl,rfl,rfl,rfl,rfl,rfl,rfl⟩ := H
   go_enter Try.func10,Try.ntmps10
   go_wp2_with (first | ((with_reducible refine gate_dst (N := 2) rfl ?_);refine box_event ?hg (N := 2) ?hd (cs := #[.int .i64 0,.int .i64 0,.int .i64 0,.int .i64 0,.string ⟨#[]⟩,.string ⟨#[]⟩,.string ⟨#[]⟩]) (t := 24) ?hr ?_;(case hd => rfl);(case hg => rfl);(case hr => first | (go_simp;done) | (go_simp;rfl));intro gb530 hg w14 hbox hb;have n0_ := am_ (below_step (by repeat (first | (with_reducible first | exact HB.out | apply b1_ | apply b2_ | apply b3_) | exact HB.out)) hb);have n1_ := am_ (hbox);have n2_ := am_ ((by rw [hg];exact (below_size (by repeat (first | (with_reducible first | exact HB.out | apply b1_ | apply b2_ | apply b3_) | exact HB.out))) : w.heap.size ≤ gb530));have n3_ := am_ ((by rw [hg];exact (below_size (by repeat (first | (with_reducible first | exact HB.out | apply b1_ | apply b2_ | apply b3_) | exact HB.out))) : w.heap.size ≤ gb530));clear HB;have HB := n0_;have BK530 := n1_;have GW530 := n2_;have GE530 := n3_;clear n0_ n1_ n2_ n3_;clear hb hbox hg;have hcv15 := Kd.C_string (P := Try.prog) (A := A0) (c := c0) Try.underlying22 Try.underlying5 Try.underlying9 (Kd.C_below HR0.out HB.out)) | ((with_reducible refine gate_callee (f := 30) rfl ?_);refine goesL_ (some 13) rfl rfl Try.func30 (by kernel_rfl) rfl #[.string (strOfNums l0)] rfl (by (try simp only [m1_,m2_,m3_]);first | done | rfl | (simp only [d1_,d2_];rfl)) ?_;(with_reducible refine (spec_l02ReadMessage.calls k (strOfNums l0) t531 t532 t533 t534 t535 t536 t537 false _ A5.out).mono ?_);rintro e w16 ⟨rfl,hb⟩;refine ⟨_,rfl,?_⟩;have n0_ := am_ (blk_below (g := gb530) (o := .cells #[.int .i64 0,.int .i64 0,.int .i64 0,.int .i64 0,.string ⟨#[]⟩,.string ⟨#[]⟩,.string ⟨#[]⟩] 24 (0,0)) (by (with_reducible repeat (first | apply k1_ | apply k2_ | apply k3_));exact BK530.out) hb);have n1_ := am_ (below_step (by repeat (first | (with_reducible first | exact HB.out | apply b1_ | apply b2_ | apply b3_ | refine below_set ?_ GE530.out) | exact HB.out)) hb);clear BK530;clear HB;have BK530 := n0_;have HB := n1_;clear n0_ n1_;(try clear hb);(try clear hb2);(try clear hk);(try clear hi)) | ((with_reducible refine gate_dst (N := 4) rfl ?_);refine box_event ?hg (N := 4) ?hd (cs := #[.int .i64 0,.int .i64 0,.int .i64 0,.int .i64 0,.string ⟨#[]⟩,.string ⟨#[]⟩,.string ⟨#[]⟩]) (t := 24) ?hr ?_;(case hd => rfl);(case hg => rfl);(case hr => first | (go_simp;done) | (go_simp;rfl));intro gb539 hg w17 hbox hb;have n0_ := am_ (blk_below (g := gb530) (o := .cells #[.int .i64 0,.int .i64 0,.int .i64 0,.int .i64 0,.string ⟨#[]⟩,.string ⟨#[]⟩,.string ⟨#[]⟩] 24 (0,0)) (by (with_reducible repeat (first | apply k1_ | apply k2_ | apply k3_));exact BK530.out) hb);have n1_ := am_ (below_step (by repeat (first | (with_reducible first | exact HB.out | apply b1_ | apply b2_ | apply b3_ | refine below_set ?_ GE530.out) | exact HB.out)) hb);have n2_ := am_ (hbox);have n3_ := am_ ((by rw [hg];exact (below_size (by repeat (first | (with_reducible first | exact HB.out | apply b1_ | apply b2_ | apply b3_ | refine below_set ?_ GE530.out) | exact HB.out))) : w.heap.size ≤ gb539));have n4_ := am_ ((by rw [hg];exact (below_size (by repeat (first | (with_reducible first | exact HB.out | apply b1_ | apply b2_ | apply b3_ | refine below_set ?_ GE530.out) | exact HB.out))) : w.heap.size ≤ gb539));have n5_ := am_ ((by rw [hg];exact Nat.ne_of_lt (blk_lt (g := gb530) (o := .cells #[.int .i64 0,.int .i64 0,.int .i64 0,.int .i64 0,.string ⟨#[]⟩,.string ⟨#[]⟩,.string ⟨#[]⟩] 24 (0,0)) (by (with_reducible repeat (first | apply k1_ | apply k2_ | apply k3_));exact BK530.out)) : gb530 ≠ gb539));have n6_ := am_ ((by rw [hg];exact Nat.ne_of_gt (blk_lt (g := gb530) (o := .cells #[.int .i64 0,.int .i64 0,.int .i64 0,.int .i64 0,.string ⟨#[]⟩,.string ⟨#[]⟩,.string ⟨#[]⟩] 24 (0,0)) (by (with_reducible repeat (first | apply k1_ | apply k2_ | apply k3_));exact BK530.out)) : gb539 ≠ gb530));clear BK530;clear HB;have BK530 := n0_;have HB := n1_;have BK539 := n2_;have GW539 := n3_;have GE539 := n4_;have NB530_539 := n5_;have NB539_530 := n6_;clear n0_ n1_ n2_ n3_ n4_ n5_ n6_;clear hb hbox hg;have hnb18 := NB539_530.out;have hnc18 := NB530_539.out;obtain ⟨hcz19_0,hcz19_1,hcz19_2,hcz19_3,hcz19_4,hcz19_5,hcz19_6,hfz19_0,hfz19_1,hfz19_2,hfz19_3,hfz19_4,hfz19_5,hfz19_6⟩ := bc7_ BK539.out;obtain ⟨hcz20_0,hcz20_1,hcz20_2,hcz20_3,hcz20_4,hcz20_5,hcz20_6,hfz20_0,hfz20_1,hfz20_2,hfz20_3,hfz20_4,hfz20_5,hfz20_6⟩ := bc7_ BK530.out))
   refine bodyPost_ret (results_ct rfl _ _ gb530 24 #[.int .i64 0,.int .i64 0,.int .i64 0,.int .i64 0,.string ⟨#[]⟩,.string ⟨#[]⟩,.string ⟨#[]⟩] (0,0) _ rfl (by (with_reducible repeat (first | apply k1_ | apply k2_ | apply k3_));refine blk_put (cs := #[.int .i64 0,.int .i64 0,.int .i64 0,.int .i64 0,.string ⟨#[]⟩,.string ⟨#[]⟩,.string ⟨#[]⟩]) ?_ 6 _ rfl;(with_reducible repeat (first | apply k1_ | apply k2_ | apply k3_));refine blk_put (cs := #[.int .i64 0,.int .i64 0,.int .i64 0,.int .i64 0,.string ⟨#[]⟩,.string ⟨#[]⟩,.string ⟨#[]⟩]) ?_ 5 _ rfl;(with_reducible repeat (first | apply k1_ | apply k2_ | apply k3_));refine blk_put (cs := #[.int .i64 0,.int .i64 0,.int .i64 0,.int .i64 0,.string ⟨#[]⟩,.string ⟨#[]⟩,.string ⟨#[]⟩]) ?_ 4 _ rfl;(with_reducible repeat (first | apply k1_ | apply k2_ | apply k3_));refine blk_put (cs := #[.int .i64 0,.int .i64 0,.int .i64 0,.int .i64 0,.string ⟨#[]⟩,.string ⟨#[]⟩,.string ⟨#[]⟩]) ?_ 3 _ rfl;(with_reducible repeat (first | apply k1_ | apply k2_ | apply k3_));refine blk_put (cs := #[.int .i64 0,.int .i64 0,.int .i64 0,.int .i64 0,.string ⟨#[]⟩,.string ⟨#[]⟩,.string ⟨#[]⟩]) ?_ 2 _ rfl;(with_reducible repeat (first | apply k1_ | apply k2_ | apply k3_));refine blk_put (cs := #[.int .i64 0,.int .i64 0,.int .i64 0,.int .i64 0,.string ⟨#[]⟩,.string ⟨#[]⟩,.string ⟨#[]⟩]) ?_ 1 _ rfl;(with_reducible repeat (first | apply k1_ | apply k2_ | apply k3_));refine blk_put (cs := #[.int .i64 0,.int .i64 0,.int .i64 0,.int .i64 0,.string ⟨#[]⟩,.string ⟨#[]⟩,.string ⟨#[]⟩]) ?_ 0 _ rfl;(repeat (first | (with_reducible first | apply k1_ | apply k2_ | apply k3_) | refine blk_far ?_ NB530_539.out _));exact BK530.out) Try.underlying24 rfl (by kernel_rfl)) rfl ?_
   exact ⟨by first | rfl | (simp [e1_,e2_] <;> rfl) | (simp [*,e1_,e2_] <;> rfl) | (simp [e3_,e4_];done) | (simp [*,e3_,e4_];done),by repeat (first | (with_reducible first | exact HB.out | apply b1_ | apply b2_ | apply b3_ | refine below_set ?_ GE530.out | refine below_set ?_ GE539.out) | exact HB.out)⟩
end Go.Proofs.Ytdpdbegglkdgnaa.A
end
