/- A part of the proof that FnMessages returns true at every input: plain functions, contracts and lemmas. No conditions. -/
import Derived.Test.YtdpdbegglkdgnaaQMessagesc
set_option linter.unusedVariables false
set_option linter.unusedSimpArgs false
set_option linter.unusedSectionVars false
section
namespace Go.Proofs.Ytdpdbegglkdgnaa.A
open Go.RowKit Go.Proofs.YtdpdbegglkdgnaaW.PrintWords Go.Proofs.YtdpdbegglkdgnaaW.PrintLast Go.Proofs.YtdpdbegglkdgnaaW.PrintMore
attribute [local go_sem] max2_int min2_int max_two min_two max_three min_three max_four min_four
set_option maxHeartbeats 8000000 in
set_option maxRecDepth 100000 in
theorem spec_l02Message.calls (k : Nat) (a0_0 : Int) (a0_1 : Int) (a0_2 : Int) (a0_3 : Int) (a0_4 : ByteArray) (a0_5 : ByteArray) (a0_6 : ByteArray) (r : List Int) (w : World) (h : spec_l02Message.f k a0_0 a0_1 a0_2 a0_3 a0_4 a0_5 a0_6 = some r) :
  Calls Try.prog 26 #[.agg #[.int .i64 a0_0,.int .i64 a0_1,.int .i64 a0_2,.int .i64 a0_3,.string a0_4,.string a0_5,.string a0_6]] w fun e w' => ∃ v0_ : Value,e = .returned (v0_) ∧ Kd.R (Kd.int .u8) 5 w' w.heap.size (fun _ => True) v0_ r ∧ Below w.heap.size w w' := by
 have hu24 := Try.underlying24
 have HB := am_ (Below.refl w.heap.size w)
 have H : ((spec_l02Plain.f k a0_0 a0_1 a0_2 a0_3 a0_4 a0_5 a0_6).bind fun t461 => (if t461.length + a0_6.size < 140737488355328 then (some (t461 ++ bytesOf a0_6)) else (none))) = some r := h
 clear h
 replace H := Option.bind_eq_some_iff.mp H
 obtain ⟨t461,A20,H⟩ := H
 try dsimp only at H
 have A2 := am_ A20
 clear A20
 by_cases c3 : t461.length + a0_6.size < 140737488355328
 ·rw [if_pos c3] at H
  have LMc3 := am_ c3
  clear c3
  obtain ⟨y464,hy464⟩ : ∃ y_ : List Int,y_ = (t461 ++ bytesOf a0_6) := ⟨_,rfl⟩
  replace H : (some y464) = some r := by first | (rw [hy464];with_reducible exact H) | (have H2_ := (Option.bind_some _ _).symm.trans H;rw [hy464];with_reducible exact H2_) | (have H2_ := (Option.bind_some _ _).symm.trans H;with_reducible exact H2_) | with_reducible exact H | (rw [hy464];exact H) | exact H
  have Ny464 := am_ hy464
  clear hy464
  obtain rfl := Option.some.inj H
  go_enter Try.func26,Try.ntmps26
  try go_wp2_with (first | ((with_reducible refine gate_dst (N := 1) rfl ?_);refine box_event ?hg (N := 1) ?hd (cs := #[.int .i64 a0_0,.int .i64 a0_1,.int .i64 a0_2,.int .i64 a0_3,.string a0_4,.string a0_5,.string a0_6]) (t := 24) ?hr ?_;(case hd => rfl);(case hg => rfl);(case hr => first | (go_simp;done) | (go_simp;rfl));intro gb460 hg w4 hbox hb;have n0_ := am_ (below_step (by repeat (first | (with_reducible first | exact HB.out | apply b1_ | apply b2_ | apply b3_) | exact HB.out)) hb);have n1_ := am_ (hbox);have n2_ := am_ ((by rw [hg];exact (below_size (by repeat (first | (with_reducible first | exact HB.out | apply b1_ | apply b2_ | apply b3_) | exact HB.out))) : w.heap.size ≤ gb460));have n3_ := am_ ((by rw [hg];exact (below_size (by repeat (first | (with_reducible first | exact HB.out | apply b1_ | apply b2_ | apply b3_) | exact HB.out))) : w.heap.size ≤ gb460));clear HB;have HB := n0_;have BK460 := n1_;have GW460 := n2_;have GE460 := n3_;clear n0_ n1_ n2_ n3_;clear hb hbox hg))
  have n0_ := am_ (blk_drew BK460.out)
  have n1_ := am_ (below_drew1 HB.out)
  clear BK460
  clear HB
  have BK460 := n0_
  have HB := n1_
  clear n0_ n1_
  refine start_ (n := 6) (S := fun w' => w'.cell? ⟨gb460,0,none⟩ = some (.int .i64 a0_0) ∧ w'.cell? ⟨gb460,1,none⟩ = some (.int .i64 a0_1) ∧ w'.cell? ⟨gb460,2,none⟩ = some (.int .i64 a0_2) ∧ w'.cell? ⟨gb460,3,none⟩ = some (.int .i64 a0_3) ∧ w'.cell? ⟨gb460,4,none⟩ = some (.string a0_4) ∧ w'.cell? ⟨gb460,5,none⟩ = some (.string a0_5) ∧ w'.cell? ⟨gb460,6,none⟩ = some (.string a0_6)) (ds := []) #[false,false,false,false,false,false] (by kernel_rfl) rfl rfl ⟨(blk_cell BK460.out 0).trans rfl,(blk_cell BK460.out 1).trans rfl,(blk_cell BK460.out 2).trans rfl,(blk_cell BK460.out 3).trans rfl,(blk_cell BK460.out 4).trans rfl,(blk_cell BK460.out 5).trans rfl,(blk_cell BK460.out 6).trans rfl⟩ (fun hHeld => ?_)
  generalize w4.drew = w5 at BK460 HB hHeld ⊢
  refine pure_ (i := 2) (N := some 5) (v := ?_) (a' := ?_) #[false,false,true,false,false,false] rfl rfl (by kernel_rfl) (fun _ _ _ h => h) (Or.inl ⟨by rfl,?_⟩) ?_ ?_
  rotate_left
  ·intro w'
   go_simp
   with_reducible rfl
  rotate_left
  ·simp only [Act.put,p1_,p2_,p3_,i64_w,i32_w]
   rfl
  refine take_ (i := 0) (N := some 3) (v := ?_) (a' := ?_) #[true,false,true,false,false,false] rfl rfl (by kernel_rfl) (fun _ _ _ h => h) (Or.inl ⟨by rfl,?_⟩) hHeld ?_ ?_
  rotate_left
  ·rintro w' ⟨s0,s1,s2,s3,s4,s5,s6⟩
   go_simp
   with_reducible rfl
  rotate_left
  ·simp only [Act.put,p1_,p2_,p3_,i64_w,i32_w]
   rfl
  refine take_ (i := 3) (N := some 6) (v := ?_) (a' := ?_) #[true,false,true,true,false,false] rfl rfl (by kernel_rfl) (fun _ _ _ h => h) (Or.inl ⟨by rfl,?_⟩) hHeld ?_ ?_
  rotate_left
  ·rintro w' ⟨s0,s1,s2,s3,s4,s5,s6⟩
   go_simp
   with_reducible rfl
  rotate_left
  ·simp only [Act.put,p1_,p2_,p3_,i64_w,i32_w]
   rfl
  refine one_ (i := 1) (N := some 4) #[true,true,true,true,false,false] rfl rfl (by kernel_rfl) (by decide) (fun K hK => ?_)
  refine goes_ Try.func50 (by kernel_rfl) rfl #[.agg #[.int .i64 a0_0,.int .i64 a0_1,.int .i64 a0_2,.int .i64 a0_3,.string a0_4,.string a0_5,.string a0_6]] (by rfl) rfl rfl (by (try simp only [m1_,m2_,m3_]);first | done | rfl | (simp only [d1_,d2_];rfl)) ?_
  with_reducible refine (spec_l02Plain.calls k a0_0 a0_1 a0_2 a0_3 a0_4 a0_5 a0_6 t461 _ A2.out).mono ?_
  rintro e w6 ⟨v462,rfl,ho0,hb⟩
  refine ⟨_,rfl,?_⟩
  have n0_ := am_ (Kd.R_lower ho0 (below_size (by repeat (first | (with_reducible first | exact HB.out | apply b1_ | apply b2_ | apply b3_ | refine below_set ?_ GE460.out) | exact HB.out))))
  have n1_ := am_ (blk_below (g := gb460) (o := .cells #[.int .i64 a0_0,.int .i64 a0_1,.int .i64 a0_2,.int .i64 a0_3,.string a0_4,.string a0_5,.string a0_6] 24 (0,0)) (by (with_reducible repeat (first | apply k1_ | apply k2_ | apply k3_));exact BK460.out) hb)
  have n2_ := am_ (below_step (by repeat (first | (with_reducible first | exact HB.out | apply b1_ | apply b2_ | apply b3_ | refine below_set ?_ GE460.out) | exact HB.out)) hb)
  clear BK460
  clear HB
  have HO463 := n0_
  have BK460 := n1_
  have HB := n2_
  clear n0_ n1_ n2_
  (try clear hb)
  (try clear hb2)
  (try clear hk)
  (try clear hi)
  (try clear ho0)
  refine hK.out _ _ ⟨(blk_cell BK460.out 0).trans rfl,(blk_cell BK460.out 1).trans rfl,(blk_cell BK460.out 2).trans rfl,(blk_cell BK460.out 3).trans rfl,(blk_cell BK460.out 4).trans rfl,(blk_cell BK460.out 5).trans rfl,(blk_cell BK460.out 6).trans rfl⟩ (fun hHeld => ?_)
  clear hK K
  refine norm_ (a' := ?_) ?_ ?_
  rotate_left
  ·show Act.put _ (some 4) _ = _
   simp only [Act.put,p1_,p2_,p3_,i64_w,i32_w]
   rfl
  refine one_ (i := 4) (N := some 7) #[true,true,true,true,true,false] rfl rfl (by kernel_rfl) (by decide) (fun K hK => ?_)
  refine Kd.R_append_str_step (Kd.int .u8) rfl (w0 := w) w.heap.size (by rfl) (.tmp 4) _ 22 9 5 rfl Try.underlying22 Try.underlying9 info5 v462 t461 a0_6 (fun _ => True) rfl rfl ?aO ?aF ?aB ?aS ?aL ?_
  (case aB => exact (by repeat (first | (with_reducible first | exact HB.out | apply b1_ | apply b2_ | apply b3_ | refine below_set ?_ GE460.out) | exact HB.out)))
  (case aF => exact (fun _ _ => trivial))
  (case aO => exact (by (with_reducible repeat (first | apply r1_ | apply r2_ | apply r3_));exact HO463.out))
  (case aS => exact (below_size (by repeat (first | (with_reducible first | exact HB.out | apply b1_ | apply b2_ | apply b3_ | refine below_set ?_ GE460.out) | exact HB.out))))
  (case aL => have := LMc3.out;omega)
  intro v465 w7 ho hb hg hat
  rw [← Ny464.out] at ho
  have n0_ := am_ (blk_grown (g := gb460) (o := .cells #[.int .i64 a0_0,.int .i64 a0_1,.int .i64 a0_2,.int .i64 a0_3,.string a0_4,.string a0_5,.string a0_6] 24 (0,0)) (by (with_reducible repeat (first | apply k1_ | apply k2_ | apply k3_));exact BK460.out) hg (Kd.R_ne HO463.out BK460.out (by decide)))
  have n1_ := am_ (hb)
  have n2_ := am_ (ho)
  clear BK460
  clear HB
  clear HO463
  have BK460 := n0_
  have HB := n1_
  have HO466 := n2_
  clear n0_ n1_ n2_
  clear ho hb hg hat
  refine hK.out _ _ ⟨(blk_cell BK460.out 0).trans rfl,(blk_cell BK460.out 1).trans rfl,(blk_cell BK460.out 2).trans rfl,(blk_cell BK460.out 3).trans rfl,(blk_cell BK460.out 4).trans rfl,(blk_cell BK460.out 5).trans rfl,(blk_cell BK460.out 6).trans rfl⟩ (fun hHeld => ?_)
  clear hK K
  refine norm_ (a' := ?_) ?_ ?_
  rotate_left
  ·show Act.put _ (some 7) _ = _
   simp only [Act.put,p1_,p2_,p3_,i64_w,i32_w]
   rfl
  refine pure_ (i := 5) (N := some 2) (v := ?_) (a' := ?_) #[true,true,true,true,true,true] rfl rfl (by kernel_rfl) (fun _ _ _ h => h) (Or.inl ⟨by rfl,?_⟩) ?_ ?_
  rotate_left
  ·intro w'
   go_simp
   with_reducible rfl
  rotate_left
  ·simp only [Act.put,p1_,p2_,p3_,i64_w,i32_w]
   rfl
  refine done_ (by kernel_rfl) ?_
  try go_wp2
  go_ret
  exact ⟨_,by first | rfl | (simp [e1_,e2_] <;> rfl) | (simp [*,e1_,e2_] <;> rfl) | (simp [e3_,e4_];done) | (simp [*,e3_,e4_];done),by (with_reducible repeat (first | apply r1_ | apply r2_ | apply r3_));exact HO466.out,by repeat (first | (with_reducible first | exact HB.out | apply b1_ | apply b2_ | apply b3_ | refine below_set ?_ GE460.out) | exact HB.out)⟩
 ·rw [if_neg c3] at H
  exact absurd H (by simp)
set_option maxHeartbeats 8000000 in
set_option maxRecDepth 100000 in
theorem spec_MessageBytes.calls (k : Nat) (a0_0 : Int) (a0_1 : Int) (a0_2 : Int) (a0_3 : Int) (a0_4 : ByteArray) (a0_5 : ByteArray) (a0_6 : ByteArray) (r1 : List Int) (r2 : Int) (w : World) (h : spec_MessageBytes.f k a0_0 a0_1 a0_2 a0_3 a0_4 a0_5 a0_6 = some (r1,r2)) :
  Calls Try.prog 7 #[.agg #[.int .i64 a0_0,.int .i64 a0_1,.int .i64 a0_2,.int .i64 a0_3,.string a0_4,.string a0_5,.string a0_6]] w fun e w' => ∃ v0_ : Value,e = .returned (.tuple #[v0_,.int .i64 r2]) ∧ Kd.R (Kd.int .u8) 5 w' w.heap.size (fun _ => True) v0_ r1 ∧ Below w.heap.size w w' := by
 have hu24 := Try.underlying24
 have HB := am_ (Below.refl w.heap.size w)
 have H : ((spec_MessageOK.f k a0_0 a0_1 a0_2 a0_3 a0_4 a0_5 a0_6).bind fun t468 => (if t468 = true then ((spec_l02Message.f k a0_0 a0_1 a0_2 a0_3 a0_4 a0_5 a0_6).bind fun t469 => (some (t469,0))) else (some ((([] : List Int)),1)))) = some (r1,r2) := h
 clear h
 replace H := Option.bind_eq_some_iff.mp H
 obtain ⟨t468,A20,H⟩ := H
 try dsimp only at H
 have A2 := am_ A20
 clear A20
 by_cases c3 : t468 = true
 ·subst c3
  have H1 : ((spec_l02Message.f k a0_0 a0_1 a0_2 a0_3 a0_4 a0_5 a0_6).bind fun t469 => (some (t469,0))) = some (r1,r2) := by rw [if_pos rfl] at H;exact H
  clear H
  have H := H1
  clear H1
  replace H := Option.bind_eq_some_iff.mp H
  obtain ⟨t469,A40,H⟩ := H
  try dsimp only at H
  have A4 := am_ A40
  clear A40
  simp only [Option.some.injEq,Prod.mk.injEq] at H
  obtain ⟨rfl,rfl⟩ := H
  go_enter Try.func7,Try.ntmps7
  go_wp2_with (first | ((with_reducible refine gate_dst (N := 1) rfl ?_);refine box_event ?hg (N := 1) ?hd (cs := #[.int .i64 a0_0,.int .i64 a0_1,.int .i64 a0_2,.int .i64 a0_3,.string a0_4,.string a0_5,.string a0_6]) (t := 24) ?hr ?_;(case hd => rfl);(case hg => rfl);(case hr => first | (go_simp;done) | (go_simp;rfl));intro gb467 hg w5 hbox hb;have n0_ := am_ (below_step (by repeat (first | (with_reducible first | exact HB.out | apply b1_ | apply b2_ | apply b3_) | exact HB.out)) hb);have n1_ := am_ (hbox);have n2_ := am_ ((by rw [hg];exact (below_size (by repeat (first | (with_reducible first | exact HB.out | apply b1_ | apply b2_ | apply b3_) | exact HB.out))) : w.heap.size ≤ gb467));have n3_ := am_ ((by rw [hg];exact (below_size (by repeat (first | (with_reducible first | exact HB.out | apply b1_ | apply b2_ | apply b3_) | exact HB.out))) : w.heap.size ≤ gb467));clear HB;have HB := n0_;have BK467 := n1_;have GW467 := n2_;have GE467 := n3_;clear n0_ n1_ n2_ n3_;clear hb hbox hg;obtain ⟨hcz6_0,hcz6_1,hcz6_2,hcz6_3,hcz6_4,hcz6_5,hcz6_6,hfz6_0,hfz6_1,hfz6_2,hfz6_3,hfz6_4,hfz6_5,hfz6_6⟩ := bc7_ BK467.out) | ((with_reducible refine gate_callee (f := 25) rfl ?_);refine goesL_ (some 5) rfl rfl Try.func25 (by kernel_rfl) rfl #[.agg #[.int .i64 a0_0,.int .i64 a0_1,.int .i64 a0_2,.int .i64 a0_3,.string a0_4,.string a0_5,.string a0_6]] rfl (by (try simp only [m1_,m2_,m3_]);first | done | rfl | (simp only [d1_,d2_];rfl)) ?_;(with_reducible refine (spec_MessageOK.calls k a0_0 a0_1 a0_2 a0_3 a0_4 a0_5 a0_6 true _ A2.out).mono ?_);rintro e w7 ⟨rfl,hb⟩;refine ⟨_,rfl,?_⟩;have n0_ := am_ (blk_below (g := gb467) (o := .cells #[.int .i64 a0_0,.int .i64 a0_1,.int .i64 a0_2,.int .i64 a0_3,.string a0_4,.string a0_5,.string a0_6] 24 (0,0)) (by (with_reducible repeat (first | apply k1_ | apply k2_ | apply k3_));exact BK467.out) hb);have n1_ := am_ (below_step (by repeat (first | (with_reducible first | exact HB.out | apply b1_ | apply b2_ | apply b3_ | refine below_set ?_ GE467.out) | exact HB.out)) hb);clear BK467;clear HB;have BK467 := n0_;have HB := n1_;clear n0_ n1_;(try clear hb);(try clear hb2);(try clear hk);(try clear hi);obtain ⟨hcz8_0,hcz8_1,hcz8_2,hcz8_3,hcz8_4,hcz8_5,hcz8_6,hfz8_0,hfz8_1,hfz8_2,hfz8_3,hfz8_4,hfz8_5,hfz8_6⟩ := bc7_ BK467.out) | ((with_reducible refine gate_callee (f := 26) rfl ?_);refine goesL_ (some 9) rfl rfl Try.func26 (by kernel_rfl) rfl #[.agg #[.int .i64 a0_0,.int .i64 a0_1,.int .i64 a0_2,.int .i64 a0_3,.string a0_4,.string a0_5,.string a0_6]] rfl (by (try simp only [m1_,m2_,m3_]);first | done | rfl | (simp only [d1_,d2_];rfl)) ?_;(with_reducible refine (spec_l02Message.calls k a0_0 a0_1 a0_2 a0_3 a0_4 a0_5 a0_6 t469 _ A4.out).mono ?_);rintro e w9 ⟨v470,rfl,ho0,hb⟩;refine ⟨_,rfl,?_⟩;have n0_ := am_ (Kd.R_lower ho0 (below_size (by repeat (first | (with_reducible first | exact HB.out | apply b1_ | apply b2_ | apply b3_ | refine below_set ?_ GE467.out) | exact HB.out))));have n1_ := am_ (blk_below (g := gb467) (o := .cells #[.int .i64 a0_0,.int .i64 a0_1,.int .i64 a0_2,.int .i64 a0_3,.string a0_4,.string a0_5,.string a0_6] 24 (0,0)) (by (with_reducible repeat (first | apply k1_ | apply k2_ | apply k3_));exact BK467.out) hb);have n2_ := am_ (below_step (by repeat (first | (with_reducible first | exact HB.out | apply b1_ | apply b2_ | apply b3_ | refine below_set ?_ GE467.out) | exact HB.out)) hb);clear BK467;clear HB;have HO471 := n0_;have BK467 := n1_;have HB := n2_;clear n0_ n1_ n2_;(try clear hb);(try clear hb2);(try clear hk);(try clear hi);(try clear ho0)))
  go_ret2
  exact ⟨_,by first | rfl | (simp [e1_,e2_] <;> rfl) | (simp [*,e1_,e2_] <;> rfl) | (simp [e3_,e4_];done) | (simp [*,e3_,e4_];done),by (with_reducible repeat (first | apply r1_ | apply r2_ | apply r3_));exact HO471.out,by repeat (first | (with_reducible first | exact HB.out | apply b1_ | apply b2_ | apply b3_ | refine below_set ?_ GE467.out) | exact HB.out)⟩
 ·replace c3 := Bool.eq_false_iff.mpr c3
  subst c3
  have H1 : (some ((([] : List Int)),1)) = some (r1,r2) := by rw [if_neg (show ¬ (false = true) by decide)] at H;exact H
  clear H
  have H := H1
  clear H1
  obtain ⟨y472,hy472⟩ : ∃ y_ : List Int,y_ = (([] : List Int)) := ⟨_,rfl⟩
  replace H : (some (y472,1)) = some (r1,r2) := by first | (rw [hy472];with_reducible exact H) | (have H2_ := (Option.bind_some _ _).symm.trans H;rw [hy472];with_reducible exact H2_) | (have H2_ := (Option.bind_some _ _).symm.trans H;with_reducible exact H2_) | with_reducible exact H | (rw [hy472];exact H) | exact H
  have Ny472 := am_ hy472
  clear hy472
  simp only [Option.some.injEq,Prod.mk.injEq] at H
  obtain ⟨rfl,rfl⟩ := H
  go_enter Try.func7,Try.ntmps7
  go_wp2_with (first | ((with_reducible refine gate_dst (N := 1) rfl ?_);refine box_event ?hg (N := 1) ?hd (cs := #[.int .i64 a0_0,.int .i64 a0_1,.int .i64 a0_2,.int .i64 a0_3,.string a0_4,.string a0_5,.string a0_6]) (t := 24) ?hr ?_;(case hd => rfl);(case hg => rfl);(case hr => first | (go_simp;done) | (go_simp;rfl));intro gb467 hg w10 hbox hb;have n0_ := am_ (below_step (by repeat (first | (with_reducible first | exact HB.out | apply b1_ | apply b2_ | apply b3_) | exact HB.out)) hb);have n1_ := am_ (hbox);have n2_ := am_ ((by rw [hg];exact (below_size (by repeat (first | (with_reducible first | exact HB.out | apply b1_ | apply b2_ | apply b3_) | exact HB.out))) : w.heap.size ≤ gb467));have n3_ := am_ ((by rw [hg];exact (below_size (by repeat (first | (with_reducible first | exact HB.out | apply b1_ | apply b2_ | apply b3_) | exact HB.out))) : w.heap.size ≤ gb467));clear HB;have HB := n0_;have BK467 := n1_;have GW467 := n2_;have GE467 := n3_;clear n0_ n1_ n2_ n3_;clear hb hbox hg;obtain ⟨hcz11_0,hcz11_1,hcz11_2,hcz11_3,hcz11_4,hcz11_5,hcz11_6,hfz11_0,hfz11_1,hfz11_2,hfz11_3,hfz11_4,hfz11_5,hfz11_6⟩ := bc7_ BK467.out) | ((with_reducible refine gate_callee (f := 25) rfl ?_);refine goesL_ (some 5) rfl rfl Try.func25 (by kernel_rfl) rfl #[.agg #[.int .i64 a0_0,.int .i64 a0_1,.int .i64 a0_2,.int .i64 a0_3,.string a0_4,.string a0_5,.string a0_6]] rfl (by (try simp only [m1_,m2_,m3_]);first | done | rfl | (simp only [d1_,d2_];rfl)) ?_;(with_reducible refine (spec_MessageOK.calls k a0_0 a0_1 a0_2 a0_3 a0_4 a0_5 a0_6 false _ A2.out).mono ?_);rintro e w12 ⟨rfl,hb⟩;refine ⟨_,rfl,?_⟩;have n0_ := am_ (blk_below (g := gb467) (o := .cells #[.int .i64 a0_0,.int .i64 a0_1,.int .i64 a0_2,.int .i64 a0_3,.string a0_4,.string a0_5,.string a0_6] 24 (0,0)) (by (with_reducible repeat (first | apply k1_ | apply k2_ | apply k3_));exact BK467.out) hb);have n1_ := am_ (below_step (by repeat (first | (with_reducible first | exact HB.out | apply b1_ | apply b2_ | apply b3_ | refine below_set ?_ GE467.out) | exact HB.out)) hb);clear BK467;clear HB;have BK467 := n0_;have HB := n1_;clear n0_ n1_;(try clear hb);(try clear hb2);(try clear hk);(try clear hi)) | ((with_reducible refine gate_dst (N := 7) rfl ?_);refine Kd.R_lit (Kd.int .u8) _ 5 ?hg (N := 7) ?hd (xs := ([] : List Int)) (inner := []) (ok := fun _ => True) (okp := fun _ => True) ?hr ?hp (fun _ hk => hk) trivial (Below.refl _ _) (Nat.le_refl _) (by simp) ?_;(case hd => rfl);(case hg => rfl);(case hr => first | (go_simp;done) | (go_simp;rfl));(case hp => exact (Reps.none _ _));intro v473 w13 ho14 hb hg_ hnew_;clear hg_ hnew_;(first | rw [← Ny472.out] at ho14 | (simp only [Int.reduceToNat] at ho14;rw [← Ny472.out] at ho14));have n0_ := am_ (Kd.R_lower ho14 (below_size (by repeat (first | (with_reducible first | exact HB.out | apply b1_ | apply b2_ | apply b3_ | refine below_set ?_ GE467.out) | exact HB.out))));have n1_ := am_ (blk_below (g := gb467) (o := .cells #[.int .i64 a0_0,.int .i64 a0_1,.int .i64 a0_2,.int .i64 a0_3,.string a0_4,.string a0_5,.string a0_6] 24 (0,0)) (by (with_reducible repeat (first | apply k1_ | apply k2_ | apply k3_));exact BK467.out) hb);have n2_ := am_ (below_step (by repeat (first | (with_reducible first | exact HB.out | apply b1_ | apply b2_ | apply b3_ | refine below_set ?_ GE467.out) | exact HB.out)) hb);clear BK467;clear HB;have HO474 := n0_;have BK467 := n1_;have HB := n2_;clear n0_ n1_ n2_;clear hb ho14))
  go_ret2
  exact ⟨_,by first | rfl | (simp [e1_,e2_] <;> rfl) | (simp [*,e1_,e2_] <;> rfl) | (simp [e3_,e4_];done) | (simp [*,e3_,e4_];done),by (with_reducible repeat (first | apply r1_ | apply r2_ | apply r3_));exact HO474.out,by repeat (first | (with_reducible first | exact HB.out | apply b1_ | apply b2_ | apply b3_ | refine below_set ?_ GE467.out) | exact HB.out)⟩
set_option maxHeartbeats 8000000 in
set_option maxRecDepth 100000 in
theorem spec_l00Source.calls (A0 : Option Addr) (c0 : Nat) (l0 : List Int) (r1 : List Int) (r2 : Int) (r3 : Int) (w0 w : World) (hB : Below w0.heap.size w0 w) (hr0 : Kd.C (Kd.int .u8) w0 A0 l0.length l0) (hc0 : l0.length ≤ c0) (h : spec_l00Source.f l0 = some (r1,r2,r3)) :
  Calls Try.prog 22 #[.slice A0 l0.length c0] w fun e w' => ∃ g_ : Nat,e = .returned (.pointer (some ⟨g_,0,none⟩)) ∧ IsS72 w0 w' g_ r1 r2 r3 ∧ Below w0.heap.size w0 w' ∧ Below w.heap.size w w' := by
 have hu72 := Try.underlying72
 have HR0 := am_ hr0
 have HC0 := am_ hc0
 clear hr0 hc0
 have HBW := am_ (Below.refl w.heap.size w)
 have HW0 := am_ hB.size
 have HB := am_ hB
 clear hB
 have H : (some (l0,0,(l0.length : Int) % 1000)) = some (r1,r2,r3) := h
 clear h
 simp only [Option.some.injEq,Prod.mk.injEq] at H
 obtain ⟨rfl,rfl,rfl⟩ := H
 go_enter Try.func22,Try.ntmps22
 go_wp2_with (first | ((with_reducible refine gate_dst (N := 8) rfl ?_);refine box_event ?hg (N := 8) ?hd (cs := #[.slice A0 l0.length c0,.int .i64 0,.int .i64 ((l0.length : Int) % 1000)]) (t := 72) ?hr ?_;(case hd => rfl);(case hg => rfl);(case hr => first | (go_simp;done) | (go_simp;rfl));intro gb101 hg w2 hbox hb;have n0_ := am_ (below_step HBW.out hb);have n1_ := am_ (below_step (by repeat (first | (with_reducible first | exact HB.out | apply b1_ | apply b2_ | apply b3_) | exact HB.out)) hb);have n2_ := am_ (hbox);have n3_ := am_ ((by rw [hg];exact (below_size (by repeat (first | (with_reducible first | exact HBW.out | apply b1_ | apply b2_ | apply b3_) | exact HBW.out))) : w.heap.size ≤ gb101));have n4_ := am_ ((Nat.le_trans HW0.out (by rw [hg];exact (below_size (by repeat (first | (with_reducible first | exact HBW.out | apply b1_ | apply b2_ | apply b3_) | exact HBW.out))) : w.heap.size ≤ gb101) : w0.heap.size ≤ gb101));clear HBW;clear HB;have HBW := n0_;have HB := n1_;have BK101 := n2_;have GW101 := n3_;have GE101 := n4_;clear n0_ n1_ n2_ n3_ n4_;clear hb hbox hg))
 go_ret
 exact ⟨_,rfl,(show IsS72 w0 _ gb101 l0 0 ((l0.length : Int) % 1000) from ⟨_,_,by (with_reducible repeat (first | apply k1_ | apply k2_ | apply k3_));exact BK101.out,GE101.out,HR0.out⟩),by repeat (first | (with_reducible first | exact HB.out | apply b1_ | apply b2_ | apply b3_ | refine below_set ?_ GE101.out) | exact HB.out),by repeat (first | (with_reducible first | exact HBW.out | apply b1_ | apply b2_ | apply b3_ | refine below_set ?_ GW101.out) | exact HBW.out)⟩
def spec_l00Src_byte.T2 : Bool × List (List Nat × List Nat) := (true,[([],[]),([0],[0]),([1],[1]),([2],[2]),([],[]),([4],[4]),([5],[5]),([6],[6]),([7],[7]),([3,8],[3,8])])
def spec_l00Src_byte.B2 : List Nat := [0,1,3,7,0,16,48,112,240,511]
theorem spec_l00Src_byte.tab2 : rtab .any (opsOf Try.f64 2) = spec_l00Src_byte.T2 := by kernel_rfl
theorem spec_l00Src_byte.bits2 : waitsOk spec_l00Src_byte.T2.2 spec_l00Src_byte.B2 = true := by kernel_rfl
def spec_l00Src_byte.T3 : Bool × List (List Nat × List Nat) := (true,[([],[]),([],[]),([1],[1]),([2],[2]),([3],[3]),([4],[4]),([],[]),([6],[6]),([7],[7]),([8],[8]),([],[]),([10],[10]),([11],[11]),([12],[12]),([13],[13]),([9,14],[9,14]),([15],[15]),([16],[16]),([5,17],[5,17]),([18],[18]),([19],[19]),([0,0,1,2,3,4,5,6,7,8,9,10,11,12,13,14,15,16,17,18,19,20],[0]),([21,0,1,2,3,4,5,6,7,8,9,10,11,12,13,14,15,16,17,18,19,20],[21]),([22,20,0,1,2,3,4,5,6,7,8,9,10,11,12,13,14,15,16,17,18,19,20],[20,22])])
def spec_l00Src_byte.B3 : List Nat := [0,0,2,6,14,30,0,64,192,448,0,1024,3072,7168,15360,32704,65472,131008,262142,524286,1048574,2097151,4194303,8388607]
theorem spec_l00Src_byte.tab3 : rtab .any (opsOf Try.f64 3) = spec_l00Src_byte.T3 := by kernel_rfl
theorem spec_l00Src_byte.bits3 : waitsOk spec_l00Src_byte.T3.2 spec_l00Src_byte.B3 = true := by kernel_rfl
def spec_l00Src_byte.T4 : Bool × List (List Nat × List Nat) := (true,[([],[]),([0],[0]),([1],[1]),([2],[2]),([],[]),([4],[4]),([5],[5]),([6],[6]),([7],[7]),([3,8],[3,8]),([9],[9]),([10],[10]),([11,0,1,2,3,4,5,6,7,8,9,10,11],[11])])
def spec_l00Src_byte.B4 : List Nat := [0,1,3,7,0,16,48,112,240,511,1023,2047,4095]
theorem spec_l00Src_byte.tab4 : rtab .any (opsOf Try.f64 4) = spec_l00Src_byte.T4 := by kernel_rfl
theorem spec_l00Src_byte.bits4 : waitsOk spec_l00Src_byte.T4.2 spec_l00Src_byte.B4 = true := by kernel_rfl
set_option maxHeartbeats 8000000 in
set_option maxRecDepth 100000 in
theorem spec_l00Src_byte.calls (g : Nat) (s0_0 : List Int) (s0_1 : Int) (s0_2 : Int) (r1 : Int) (r2 : Int) (r3 : Int) (w0 w : World) (hI : IsS72 w0 w g s0_0 s0_1 s0_2) (hB : Below w0.heap.size w0 w) (h : spec_l00Src_byte.f s0_0 s0_1 s0_2 = some (r1,r2,r3)) :
  Calls Try.prog 64 #[.pointer (some ⟨g,0,none⟩)] w fun e w' => e = .returned (.int .i64 r1) ∧ IsS72 w0 w' g s0_0 r2 r3 ∧ Below w0.heap.size w0 w' ∧ KeepBut w w' g none := by
 have HI0 := am_ hI
 have HK := am_ (KeepBut.refl w g none)
 have HL := am_ hB.size
 clear hI
 have HW0 := am_ hB.size
 have HB := am_ hB
 clear hB
 have H : (if (wrap64 (s0_1 + 1)) ≤ (s0_0.length : Int) then (if 0 ≤ (wrap64 ((wrap64 (s0_1 + 1)) - 1)) then (if (wrap64 ((wrap64 (s0_1 + 1)) - 1)) < (s0_0.length : Int) then (some (wrap64 (rd s0_0 (wrap64 ((wrap64 (s0_1 + 1)) - 1))),wrap64 (s0_1 + 1),Int.tmod (wrap64 ((wrap64 ((wrap64 (s0_2 * 31)) + (wrap64 (rd s0_0 (wrap64 ((wrap64 (s0_1 + 1)) - 1)))))) + 7)) 2147483648)) else (none)) else (none)) else (if (wrap64 (s0_1 + 1)) > 3000 then (some (0,wrap64 (s0_1 + 1),s0_2)) else (some (Int.tmod (wrap64 (Int.tdiv (Int.tmod (wrap64 ((wrap64 (s0_2 * 1103515245)) + 12345)) 2147483648) 65536)) 256,wrap64 (s0_1 + 1),Int.tmod (wrap64 ((wrap64 (s0_2 * 1103515245)) + 12345)) 2147483648)))) = some (r1,r2,r3) := h
 clear h
 by_cases c2 : (wrap64 (s0_1 + 1)) ≤ (s0_0.length : Int)
 ·rw [if_pos c2] at H
  have c2b0 : decide ((wrap64 (s0_1 + 1)) ≤ (s0_0.length : Int)) = true := decide_eq_true c2
  clear c2
  obtain ⟨ji3,hji3⟩ : ∃ j_ : Int,(wrap64 ((wrap64 (s0_1 + 1)) - 1)) = j_ := ⟨_,rfl⟩
  replace H : (if 0 ≤ (ji3) then (if (ji3) < (s0_0.length : Int) then (some (wrap64 (rd s0_0 (ji3)),wrap64 (s0_1 + 1),Int.tmod (wrap64 ((wrap64 ((wrap64 (s0_2 * 31)) + (wrap64 (rd s0_0 (ji3))))) + 7)) 2147483648)) else (none)) else (none)) = some (r1,r2,r3) := by first | (rw [hji3] at H;exact H) | (simp only [hji3] at H ⊢;exact H)
  have hji3w : (IntKind.i64.wrap ((wrap64 (s0_1 + 1)) - 1)) = ji3 := (i64_w _).trans hji3
  by_cases c4 : 0 ≤ (ji3)
  ·rw [if_pos c4] at H
   have c4b0 : decide (0 ≤ (ji3)) = true := decide_eq_true c4
   clear c4
   by_cases c5 : (ji3) < (s0_0.length : Int)
   ·rw [if_pos c5] at H
    have c5b0 : decide ((ji3) < (s0_0.length : Int)) = true := decide_eq_true c5
    clear c5
    simp only [Option.some.injEq,Prod.mk.injEq] at H
    obtain ⟨rfl,rfl,rfl⟩ := H
    obtain ⟨ASz6_0,cSz6_0,HGz6,hgz6,HSz6_0⟩ := HI0.out
    have hcz6_0 := cellS72_0 HGz6
    have hcz6_1 := cellS72_1 HGz6
    have hcz6_2 := cellS72_2 HGz6
    have hfz6_1 := blk_frozen HGz6 1
    have hfz6_2 := blk_frozen HGz6 2
    clear HGz6 hgz6
    go_enter Try.func64,Try.ntmps64
    try go_wp2
    have n0_ : Aside0 (IsS72 w0 (w.setCell ⟨g,1,none⟩ (.int .i64 (wrap64 (s0_1 + 1)))) g s0_0 (wrap64 (s0_1 + 1)) s0_2) := ⟨by repeat (first | (with_reducible first | exact HI0.out | apply IsS72.alloc | apply IsS72.drewN | apply IsS72.drew | apply IsS72.set_1 | apply IsS72.set_2) | exact HI0.out)⟩
    have n1_ : Aside0 (KeepBut w (w.setCell ⟨g,1,none⟩ (.int .i64 (wrap64 (s0_1 + 1)))) g none) := ⟨by repeat (first | (with_reducible first | exact HK.out | apply KeepBut.set_ | apply keep_drewN | apply keep_drew | apply keep_alloc) | exact HK.out)⟩
    have n2_ : Aside0 (Below w0.heap.size w0 (w.setCell ⟨g,1,none⟩ (.int .i64 (wrap64 (s0_1 + 1))))) := ⟨by repeat (first | (with_reducible first | exact HB.out | apply b1_ | apply b2_ | apply b3_ | refine below_set ?_ (IsS72.ge HI0.out)) | exact HB.out)⟩
    (try clear HI0)
    (try clear HK)
    (try clear HB)
    generalize (w.setCell ⟨g,1,none⟩ (.int .i64 (wrap64 (s0_1 + 1)))) = w7 at n0_ n1_ n2_ ⊢
    have HI0 := n0_
    have HK := n1_
    have HB := n2_
    clear n0_ n1_ n2_
    have n0_ := am_ (IsS72.drew HI0.out)
    have n1_ := am_ (keep_drew HK.out)
    have n2_ := am_ (below_drew1 HB.out)
    clear HI0
    clear HK
    clear HB
    have HI0 := n0_
    have HK := n1_
    have HB := n2_
    clear n0_ n1_ n2_
    obtain ⟨ASz9_0,cSz9_0,HGz9,hgz9,HSz9_0⟩ := HI0.out
    have hcz9_0 := cellS72_0 HGz9
    have hcz9_1 := cellS72_1 HGz9
    have hcz9_2 := cellS72_2 HGz9
    have hfz9_1 := blk_frozen HGz9 1
    have hfz9_2 := blk_frozen HGz9 2
    clear HGz9 hgz9
    refine start_ (n := 10) (S := fun w' => w'.cell? ⟨g,0,none⟩ = some (.slice ASz9_0 s0_0.length cSz9_0) ∧ w'.cell? ⟨g,1,none⟩ = some (.int .i64 (wrap64 (s0_1 + 1))) ∧ w'.cell? ⟨g,2,none⟩ = some (.int .i64 s0_2)) (ds := []) #[false,false,false,false,false,false,false,false,false,false] (by kernel_rfl) rfl rfl ⟨hcz9_0,hcz9_1,hcz9_2⟩ (fun hHeld => ?_);refine with_tabW spec_l00Src_byte.tab2 spec_l00Src_byte.bits2 (fun HT_ HW_ => ?_)
    generalize w7.drew = w8 at HI0 HK HB hHeld ⊢
    refine pure_ (i := 0) (N := some 10) (v := ?_) (a' := ?_) #[true,false,false,false,false,false,false,false,false,false] rfl rfl (any_of HT_.out (by kernel_rfl)) (fun _ _ _ h => h) (Or.inl ⟨by rfl,?_⟩) ?_ ?_
    rotate_left
    ·intro w'
     go_simp
     with_reducible rfl
    rotate_left
    ·simp only [Act.put,p1_,p2_,p3_,i64_w,i32_w]
     rfl
    refine pure_ (i := 1) (N := some 11) (v := ?_) (a' := ?_) #[true,true,false,false,false,false,false,false,false,false] rfl rfl (any_of HT_.out (by kernel_rfl)) (fun _ _ _ h => h) (Or.inl ⟨by rfl,?_⟩) ?_ ?_
    rotate_left
    ·intro w'
     go_simp
     with_reducible rfl
    rotate_left
    ·simp only [Act.put,p1_,p2_,p3_,i64_w,i32_w]
     rfl
    refine pure_ (i := 2) (N := some 12) (v := ?_) (a' := ?_) #[true,true,true,false,false,false,false,false,false,false] rfl rfl (any_of HT_.out (by kernel_rfl)) (fun _ _ _ h => h) (Or.inl ⟨by rfl,?_⟩) ?_ ?_
    rotate_left
    ·intro w'
     go_simp
     with_reducible rfl
    rotate_left
    ·simp only [Act.put,p1_,p2_,p3_,i64_w,i32_w]
     rfl
    refine pure_ (i := 4) (N := some 14) (v := ?_) (a' := ?_) #[true,true,true,false,true,false,false,false,false,false] rfl rfl (any_of HT_.out (by kernel_rfl)) (fun _ _ _ h => h) (Or.inl ⟨by rfl,?_⟩) ?_ ?_
    rotate_left
    ·intro w'
     go_simp
     with_reducible rfl
    rotate_left
    ·simp only [Act.put,p1_,p2_,p3_,i64_w,i32_w]
     rfl
    refine pure_ (i := 5) (N := some 15) (v := ?_) (a' := ?_) #[true,true,true,false,true,true,false,false,false,false] rfl rfl (any_of HT_.out (by kernel_rfl)) (fun _ _ _ h => h) (Or.inl ⟨by rfl,?_⟩) ?_ ?_
    rotate_left
    ·intro w'
     go_simp
     with_reducible rfl
    rotate_left
    ·simp only [Act.put,p1_,p2_,p3_,i64_w,i32_w]
     rfl
    refine pure_ (i := 6) (N := some 16) (v := ?_) (a' := ?_) #[true,true,true,false,true,true,true,false,false,false] rfl rfl (any_of HT_.out (by kernel_rfl)) (fun _ _ _ h => h) (Or.inl ⟨by rfl,?_⟩) ?_ ?_
    rotate_left
    ·intro w'
     go_simp
     with_reducible rfl
    rotate_left
    ·simp only [Act.put,p1_,p2_,p3_,i64_w,i32_w]
     rfl
    refine take_ (i := 3) (N := some 13) (v := ?_) (a' := ?_) #[true,true,true,true,true,true,true,false,false,false] rfl rfl (take_ofW HT_.out HW_.out (by kernel_rfl)) (fun _ _ _ h => h) (Or.inl ⟨by rfl,?_⟩) hHeld ?_ ?_
    rotate_left
    ·rintro w' ⟨s0,s1,s2⟩
     go_simp
     with_reducible rfl
    rotate_left
    ·simp only [Act.put,p1_,p2_,p3_,i64_w,i32_w]
     rfl
    refine take_ (i := 7) (N := some 17) (v := ?_) (a' := ?_) #[true,true,true,true,true,true,true,true,false,false] rfl rfl (take_ofW HT_.out HW_.out (by kernel_rfl)) (fun _ _ _ h => h) (Or.inl ⟨by rfl,?_⟩) hHeld ?_ ?_
    rotate_left
    ·rintro w' ⟨s0,s1,s2⟩
     go_simp
     with_reducible rfl
    rotate_left
    ·simp only [Act.put,p1_,p2_,p3_,i64_w,i32_w]
     rfl
    refine pure_ (i := 8) (N := some 18) (v := ?_) (a' := ?_) #[true,true,true,true,true,true,true,true,true,false] rfl rfl (any_of HT_.out (by kernel_rfl)) (fun _ _ _ h => h) (Or.inl ⟨by rfl,?_⟩) ?_ ?_
    rotate_left
    ·intro w'
     go_simp
     with_reducible rfl
    rotate_left
    ·simp only [Act.put,p1_,p2_,p3_,i64_w,i32_w]
     rfl
    refine pure_ (i := 9) (N := some 19) (v := ?_) (a' := ?_) #[true,true,true,true,true,true,true,true,true,true] rfl rfl (any_of HT_.out (by kernel_rfl)) (fun _ _ _ h => h) (Or.inl ⟨by rfl,?_⟩) ?_ ?_
    rotate_left
    ·intro w'
     go_simp
     with_reducible rfl
    rotate_left
    ·simp only [Act.put,p1_,p2_,p3_,i64_w,i32_w]
     rfl
    refine done_ (done_of HT_.out (by kernel_rfl)) ?_
    try go_wp2
    have n0_ := am_ (IsS72.drew HI0.out)
    have n1_ := am_ (keep_drew HK.out)
    have n2_ := am_ (below_drew1 HB.out)
    clear HI0
    clear HK
    clear HB
    have HI0 := n0_
    have HK := n1_
    have HB := n2_
    clear n0_ n1_ n2_
    obtain ⟨ASz11_0,cSz11_0,HGz11,hgz11,HSz11_0⟩ := HI0.out
    have hcz11_0 := cellS72_0 HGz11
    have hcz11_1 := cellS72_1 HGz11
    have hcz11_2 := cellS72_2 HGz11
    have hfz11_1 := blk_frozen HGz11 1
    have hfz11_2 := blk_frozen HGz11 2
    clear HGz11 hgz11
    have p102 : 0 ≤ ((ji3) : Int) := o1_ (by first | (with_reducible assumption) | assumption)
    have q102 : (ji3) < (s0_0.length : Int) := o1_ (by first | (with_reducible assumption) | assumption)
    obtain ⟨ad102,e102,hx102_0⟩ := Kd.at_int HSz11_0 (ji3) p102 q102
    have hw102_0 := hx102_0
    cases e102
    replace hx102_0 := pw_cell_below HB.out hx102_0
    replace p102 := eq_true p102
    replace q102 := eq_true q102
    refine start_ (n := 24) (S := fun w' => w'.cell? ⟨g,0,none⟩ = some (.slice (some ad102) s0_0.length cSz11_0) ∧ w'.cell? ⟨g,1,none⟩ = some (.int .i64 (wrap64 (s0_1 + 1))) ∧ w'.cell? ⟨g,2,none⟩ = some (.int .i64 s0_2) ∧ w'.cell? (ad102.add ((ji3)).toNat) = some (.int .u8 (rd s0_0 (ji3)))) (ds := [23]) #[false,false,false,false,false,false,false,false,false,false,false,false,false,false,false,false,false,false,false,false,false,false,false,false] (by kernel_rfl) rfl rfl ⟨hcz11_0,hcz11_1,hcz11_2,((HB.out.cell (World.block_lt_of_cell? w0 _ hw102_0)).trans hw102_0)⟩ (fun hHeld => ?_);refine with_tabW spec_l00Src_byte.tab3 spec_l00Src_byte.bits3 (fun HT_ HW_ => ?_)
    generalize w8.drew = w10 at HI0 HK HB hx102_0 hHeld ⊢
    refine pure_ (i := 0) (N := some 20) (v := ?_) (a' := ?_) #[true,false,false,false,false,false,false,false,false,false,false,false,false,false,false,false,false,false,false,false,false,false,false,false] rfl rfl (any_of HT_.out (by kernel_rfl)) (fun _ _ _ h => h) (Or.inl ⟨by rfl,?_⟩) ?_ ?_
    rotate_left
    ·intro w'
     go_simp
     with_reducible rfl
    rotate_left
    ·simp only [Act.put,p1_,p2_,p3_,i64_w,i32_w]
     rfl
    refine pure_ (i := 1) (N := some 21) (v := ?_) (a' := ?_) #[true,true,false,false,false,false,false,false,false,false,false,false,false,false,false,false,false,false,false,false,false,false,false,false] rfl rfl (any_of HT_.out (by kernel_rfl)) (fun _ _ _ h => h) (Or.inl ⟨by rfl,?_⟩) ?_ ?_
    rotate_left
    ·intro w'
     go_simp
     with_reducible rfl
    rotate_left
    ·simp only [Act.put,p1_,p2_,p3_,i64_w,i32_w]
     rfl
    refine pure_ (i := 2) (N := some 22) (v := ?_) (a' := ?_) #[true,true,true,false,false,false,false,false,false,false,false,false,false,false,false,false,false,false,false,false,false,false,false,false] rfl rfl (any_of HT_.out (by kernel_rfl)) (fun _ _ _ h => h) (Or.inl ⟨by rfl,?_⟩) ?_ ?_
    rotate_left
    ·intro w'
     go_simp
     with_reducible rfl
    rotate_left
    ·simp only [Act.put,p1_,p2_,p3_,i64_w,i32_w]
     rfl
    refine pure_ (i := 3) (N := some 23) (v := ?_) (a' := ?_) #[true,true,true,true,false,false,false,false,false,false,false,false,false,false,false,false,false,false,false,false,false,false,false,false] rfl rfl (any_of HT_.out (by kernel_rfl)) (fun _ _ _ h => h) (Or.inl ⟨by rfl,?_⟩) ?_ ?_
    rotate_left
    ·intro w'
     go_simp
     with_reducible rfl
    rotate_left
    ·simp only [Act.put,p1_,p2_,p3_,i64_w,i32_w]
     rfl
    refine pure_ (i := 6) (N := some 26) (v := ?_) (a' := ?_) #[true,true,true,true,false,false,true,false,false,false,false,false,false,false,false,false,false,false,false,false,false,false,false,false] rfl rfl (any_of HT_.out (by kernel_rfl)) (fun _ _ _ h => h) (Or.inl ⟨by rfl,?_⟩) ?_ ?_
    rotate_left
    ·intro w'
     go_simp
     with_reducible rfl
    rotate_left
    ·simp only [Act.put,p1_,p2_,p3_,i64_w,i32_w]
     rfl
    refine pure_ (i := 7) (N := some 27) (v := ?_) (a' := ?_) #[true,true,true,true,false,false,true,true,false,false,false,false,false,false,false,false,false,false,false,false,false,false,false,false] rfl rfl (any_of HT_.out (by kernel_rfl)) (fun _ _ _ h => h) (Or.inl ⟨by rfl,?_⟩) ?_ ?_
    rotate_left
    ·intro w'
     go_simp
     with_reducible rfl
    rotate_left
    ·simp only [Act.put,p1_,p2_,p3_,i64_w,i32_w]
     rfl
    refine pure_ (i := 8) (N := some 28) (v := ?_) (a' := ?_) #[true,true,true,true,false,false,true,true,true,false,false,false,false,false,false,false,false,false,false,false,false,false,false,false] rfl rfl (any_of HT_.out (by kernel_rfl)) (fun _ _ _ h => h) (Or.inl ⟨by rfl,?_⟩) ?_ ?_
    rotate_left
    ·intro w'
     go_simp
     with_reducible rfl
    rotate_left
    ·simp only [Act.put,p1_,p2_,p3_,i64_w,i32_w]
     rfl
    refine pure_ (i := 10) (N := some 30) (v := ?_) (a' := ?_) #[true,true,true,true,false,false,true,true,true,false,true,false,false,false,false,false,false,false,false,false,false,false,false,false] rfl rfl (any_of HT_.out (by kernel_rfl)) (fun _ _ _ h => h) (Or.inl ⟨by rfl,?_⟩) ?_ ?_
    rotate_left
    ·intro w'
     go_simp
     with_reducible rfl
    rotate_left
    ·simp only [Act.put,p1_,p2_,p3_,i64_w,i32_w]
     rfl
    refine pure_ (i := 11) (N := some 31) (v := ?_) (a' := ?_) #[true,true,true,true,false,false,true,true,true,false,true,true,false,false,false,false,false,false,false,false,false,false,false,false] rfl rfl (any_of HT_.out (by kernel_rfl)) (fun _ _ _ h => h) (Or.inl ⟨by rfl,?_⟩) ?_ ?_
    rotate_left
    ·intro w'
     go_simp
     with_reducible rfl
    rotate_left
    ·simp only [Act.put,p1_,p2_,p3_,i64_w,i32_w]
     rfl
    refine pure_ (i := 12) (N := some 32) (v := ?_) (a' := ?_) #[true,true,true,true,false,false,true,true,true,false,true,true,true,false,false,false,false,false,false,false,false,false,false,false] rfl rfl (any_of HT_.out (by kernel_rfl)) (fun _ _ _ h => h) (Or.inl ⟨by rfl,?_⟩) ?_ ?_
    rotate_left
    ·intro w'
     go_simp
     with_reducible rfl
    rotate_left
    ·simp only [Act.put,p1_,p2_,p3_,i64_w,i32_w]
     rfl
    refine take_ (i := 4) (N := some 24) (v := ?_) (a' := ?_) #[true,true,true,true,true,false,true,true,true,false,true,true,true,false,false,false,false,false,false,false,false,false,false,false] rfl rfl (take_ofW HT_.out HW_.out (by kernel_rfl)) (fun _ _ _ h => h) (Or.inl ⟨by rfl,?_⟩) hHeld ?_ ?_
    rotate_left
    ·rintro w' ⟨s0,s1,s2,s3⟩
     go_simp
     with_reducible rfl
    rotate_left
    ·simp only [Act.put,p1_,p2_,p3_,i64_w,i32_w]
     rfl
    refine pure_ (i := 5) (N := some 25) (v := ?_) (a' := ?_) #[true,true,true,true,true,true,true,true,true,false,true,true,true,false,false,false,false,false,false,false,false,false,false,false] rfl rfl (any_of HT_.out (by kernel_rfl)) (fun _ _ _ h => h) (Or.inl ⟨by rfl,?_⟩) ?_ ?_
    rotate_left
    ·intro w'
     go_simp
     with_reducible rfl
    rotate_left
    ·simp only [Act.put,p1_,p2_,p3_,i64_w,i32_w]
     rfl
    refine take_ (i := 9) (N := some 29) (v := ?_) (a' := ?_) #[true,true,true,true,true,true,true,true,true,true,true,true,true,false,false,false,false,false,false,false,false,false,false,false] rfl rfl (take_ofW HT_.out HW_.out (by kernel_rfl)) (fun _ _ _ h => h) (Or.inl ⟨by rfl,?_⟩) hHeld ?_ ?_
    rotate_left
    ·rintro w' ⟨s0,s1,s2,s3⟩
     go_simp
     with_reducible rfl
    rotate_left
    ·simp only [Act.put,p1_,p2_,p3_,i64_w,i32_w]
     rfl
    refine take_ (i := 13) (N := some 33) (v := ?_) (a' := ?_) #[true,true,true,true,true,true,true,true,true,true,true,true,true,true,false,false,false,false,false,false,false,false,false,false] rfl rfl (take_ofW HT_.out HW_.out (by kernel_rfl)) (fun _ _ _ h => h) (Or.inl ⟨by rfl,?_⟩) hHeld ?_ ?_
    rotate_left
    ·rintro w' ⟨s0,s1,s2,s3⟩
     go_simp
     with_reducible rfl
    rotate_left
    ·simp only [Act.put,p1_,p2_,p3_,i64_w,i32_w]
     rfl
    refine pure_ (i := 14) (N := some 34) (v := ?_) (a' := ?_) #[true,true,true,true,true,true,true,true,true,true,true,true,true,true,true,false,false,false,false,false,false,false,false,false] rfl rfl (any_of HT_.out (by kernel_rfl)) (fun _ _ _ h => h) (Or.inl ⟨by rfl,?_⟩) ?_ ?_
    rotate_left
    ·intro w'
     go_simp
     with_reducible rfl
    rotate_left
    ·simp only [Act.put,p1_,p2_,p3_,i64_w,i32_w]
     rfl
    refine pure_ (i := 15) (N := some 35) (v := ?_) (a' := ?_) #[true,true,true,true,true,true,true,true,true,true,true,true,true,true,true,true,false,false,false,false,false,false,false,false] rfl rfl (any_of HT_.out (by kernel_rfl)) (fun _ _ _ h => h) (Or.inl ⟨by rfl,?_⟩) ?_ ?_
    rotate_left
    ·intro w'
     go_simp
     with_reducible rfl
    rotate_left
    ·simp only [Act.put,p1_,p2_,p3_,i64_w,i32_w]
     rfl
    refine take_ (i := 16) (N := some 36) (v := ?_) (a' := ?_) #[true,true,true,true,true,true,true,true,true,true,true,true,true,true,true,true,true,false,false,false,false,false,false,false] rfl rfl (take_ofW HT_.out HW_.out (by kernel_rfl)) (fun _ _ _ h => h) (Or.inl ⟨by rfl,?_⟩) hHeld ?_ ?_
    rotate_left
    ·rintro w' ⟨s0,s1,s2,s3⟩
     go_simp
     with_reducible rfl
    rotate_left
    ·simp only [Act.put,p1_,p2_,p3_,i64_w,i32_w]
     rfl
    refine pure_ (i := 17) (N := some 37) (v := ?_) (a' := ?_) #[true,true,true,true,true,true,true,true,true,true,true,true,true,true,true,true,true,true,false,false,false,false,false,false] rfl rfl (any_of HT_.out (by kernel_rfl)) (fun _ _ _ h => h) (Or.inl ⟨by rfl,?_⟩) ?_ ?_
    rotate_left
    ·intro w'
     go_simp
     with_reducible rfl
    rotate_left
    ·simp only [Act.put,p1_,p2_,p3_,i64_w,i32_w]
     rfl
    refine pure_ (i := 18) (N := some 38) (v := ?_) (a' := ?_) #[true,true,true,true,true,true,true,true,true,true,true,true,true,true,true,true,true,true,true,false,false,false,false,false] rfl rfl (any_of HT_.out (by kernel_rfl)) (fun _ _ _ h => h) (Or.inl ⟨by rfl,?_⟩) ?_ ?_
    rotate_left
    ·intro w'
     go_simp
     with_reducible rfl
    rotate_left
    ·simp only [Act.put,p1_,p2_,p3_,i64_w,i32_w]
     rfl
    refine pure_ (i := 19) (N := some 39) (v := ?_) (a' := ?_) #[true,true,true,true,true,true,true,true,true,true,true,true,true,true,true,true,true,true,true,true,false,false,false,false] rfl rfl (any_of HT_.out (by kernel_rfl)) (fun _ _ _ h => h) (Or.inl ⟨by rfl,?_⟩) ?_ ?_
    rotate_left
    ·intro w'
     go_simp
     with_reducible rfl
    rotate_left
    ·simp only [Act.put,p1_,p2_,p3_,i64_w,i32_w]
     rfl
    refine pure_ (i := 20) (N := some 40) (v := ?_) (a' := ?_) #[true,true,true,true,true,true,true,true,true,true,true,true,true,true,true,true,true,true,true,true,true,false,false,false] rfl rfl (any_of HT_.out (by kernel_rfl)) (fun _ _ _ h => h) (Or.inl ⟨by rfl,?_⟩) ?_ ?_
    rotate_left
    ·intro w'
     go_simp
     with_reducible rfl
    rotate_left
    ·simp only [Act.put,p1_,p2_,p3_,i64_w,i32_w]
     rfl
    refine pure_ (i := 21) (N := some 41) (v := ?_) (a' := ?_) #[true,true,true,true,true,true,true,true,true,true,true,true,true,true,true,true,true,true,true,true,true,true,false,false] rfl rfl (any_of HT_.out (by kernel_rfl)) (fun _ _ _ h => h) (Or.inl ⟨by rfl,?_⟩) ?_ ?_
    rotate_left
    ·intro w'
     go_simp
     with_reducible rfl
    rotate_left
    ·simp only [Act.put,p1_,p2_,p3_,i64_w,i32_w]
     rfl
    refine pure_ (i := 22) (N := some 42) (v := ?_) (a' := ?_) #[true,true,true,true,true,true,true,true,true,true,true,true,true,true,true,true,true,true,true,true,true,true,true,false] rfl rfl (any_of HT_.out (by kernel_rfl)) (fun _ _ _ h => h) (Or.inl ⟨by rfl,?_⟩) ?_ ?_
    rotate_left
    ·intro w'
     go_simp
     with_reducible rfl
    rotate_left
    ·simp only [Act.put,p1_,p2_,p3_,i64_w,i32_w]
     rfl
    refine last_ (i := 23) (N := none) #[true,true,true,true,true,true,true,true,true,true,true,true,true,true,true,true,true,true,true,true,true,true,true,true] rfl rfl (one_of HT_.out (by kernel_rfl)) (by decide) (fun K hK => ?_)
    obtain ⟨Ars12_0,crs12_0,HGrs12,hgrs12,HSrs12_0⟩ := HI0.out
    have hfrs12 := blk_frozen HGrs12 2
    refine skip_ (w1 := ?_) (by rfl) rfl ?_ ?_
    rotate_left
    ·go_simp
     rfl
    refine hK.out _ _ ?_
    clear hK K
    refine done_ (done_of HT_.out (by kernel_rfl)) ?_
    try go_wp2
    have n0_ : Aside0 (IsS72 w0 (w10.setCell ⟨g,2,none⟩ (.int .i64 (Int.tmod (wrap64 ((wrap64 ((wrap64 (s0_2 * 31)) + (wrap64 (rd s0_0 (ji3))))) + 7)) 2147483648))) g s0_0 (wrap64 (s0_1 + 1)) (Int.tmod (wrap64 ((wrap64 ((wrap64 (s0_2 * 31)) + (wrap64 (rd s0_0 (ji3))))) + 7)) 2147483648)) := ⟨by repeat (first | (with_reducible first | exact HI0.out | apply IsS72.alloc | apply IsS72.drewN | apply IsS72.drew | apply IsS72.set_1 | apply IsS72.set_2) | exact HI0.out)⟩
    have n1_ : Aside0 (KeepBut w (w10.setCell ⟨g,2,none⟩ (.int .i64 (Int.tmod (wrap64 ((wrap64 ((wrap64 (s0_2 * 31)) + (wrap64 (rd s0_0 (ji3))))) + 7)) 2147483648))) g none) := ⟨by repeat (first | (with_reducible first | exact HK.out | apply KeepBut.set_ | apply keep_drewN | apply keep_drew | apply keep_alloc) | exact HK.out)⟩
    have n2_ : Aside0 (Below w0.heap.size w0 (w10.setCell ⟨g,2,none⟩ (.int .i64 (Int.tmod (wrap64 ((wrap64 ((wrap64 (s0_2 * 31)) + (wrap64 (rd s0_0 (ji3))))) + 7)) 2147483648)))) := ⟨by repeat (first | (with_reducible first | exact HB.out | apply b1_ | apply b2_ | apply b3_ | refine below_set ?_ (IsS72.ge HI0.out)) | exact HB.out)⟩
    (try clear HI0)
    (try clear HK)
    (try clear HB)
    generalize (w10.setCell ⟨g,2,none⟩ (.int .i64 (Int.tmod (wrap64 ((wrap64 ((wrap64 (s0_2 * 31)) + (wrap64 (rd s0_0 (ji3))))) + 7)) 2147483648))) = w13 at n0_ n1_ n2_ ⊢
    have HI0 := n0_
    have HK := n1_
    have HB := n2_
    clear n0_ n1_ n2_
    have n0_ := am_ (IsS72.drew HI0.out)
    have n1_ := am_ (keep_drew HK.out)
    have n2_ := am_ (below_drew1 HB.out)
    clear HI0
    clear HK
    clear HB
    have HI0 := n0_
    have HK := n1_
    have HB := n2_
    clear n0_ n1_ n2_
    obtain ⟨ASz15_0,cSz15_0,HGz15,hgz15,HSz15_0⟩ := HI0.out
    have hcz15_0 := cellS72_0 HGz15
    have hcz15_1 := cellS72_1 HGz15
    have hcz15_2 := cellS72_2 HGz15
    have hfz15_1 := blk_frozen HGz15 1
    have hfz15_2 := blk_frozen HGz15 2
    clear HGz15 hgz15
    have p103 : 0 ≤ ((ji3) : Int) := o1_ (by first | (with_reducible assumption) | assumption)
    have q103 : (ji3) < (s0_0.length : Int) := o1_ (by first | (with_reducible assumption) | assumption)
    obtain ⟨ad103,e103,hx103_0⟩ := Kd.at_int HSz15_0 (ji3) p103 q103
    have hw103_0 := hx103_0
    cases e103
    replace hx103_0 := pw_cell_below HB.out hx103_0
    replace p103 := eq_true p103
    replace q103 := eq_true q103
    refine start_ (n := 13) (S := fun w' => w'.cell? ⟨g,0,none⟩ = some (.slice (some ad103) s0_0.length cSz15_0) ∧ w'.cell? ⟨g,1,none⟩ = some (.int .i64 (wrap64 (s0_1 + 1))) ∧ w'.cell? ⟨g,2,none⟩ = some (.int .i64 (Int.tmod (wrap64 ((wrap64 ((wrap64 (s0_2 * 31)) + (wrap64 (rd s0_0 (ji3))))) + 7)) 2147483648)) ∧ w'.cell? (ad103.add ((ji3)).toNat) = some (.int .u8 (rd s0_0 (ji3)))) (ds := []) #[false,false,false,false,false,false,false,false,false,false,false,false,false] (by kernel_rfl) rfl rfl ⟨hcz15_0,hcz15_1,hcz15_2,((HB.out.cell (World.block_lt_of_cell? w0 _ hw103_0)).trans hw103_0)⟩ (fun hHeld => ?_);refine with_tabW spec_l00Src_byte.tab4 spec_l00Src_byte.bits4 (fun HT_ HW_ => ?_)
    generalize w13.drew = w14 at HI0 HK HB hx103_0 hHeld ⊢
    refine pure_ (i := 0) (N := some 43) (v := ?_) (a' := ?_) #[true,false,false,false,false,false,false,false,false,false,false,false,false] rfl rfl (any_of HT_.out (by kernel_rfl)) (fun _ _ _ h => h) (Or.inl ⟨by rfl,?_⟩) ?_ ?_
    rotate_left
    ·intro w'
     go_simp
     with_reducible rfl
    rotate_left
    ·simp only [Act.put,p1_,p2_,p3_,i64_w,i32_w]
     rfl
    refine pure_ (i := 1) (N := some 44) (v := ?_) (a' := ?_) #[true,true,false,false,false,false,false,false,false,false,false,false,false] rfl rfl (any_of HT_.out (by kernel_rfl)) (fun _ _ _ h => h) (Or.inl ⟨by rfl,?_⟩) ?_ ?_
    rotate_left
    ·intro w'
     go_simp
     with_reducible rfl
    rotate_left
    ·simp only [Act.put,p1_,p2_,p3_,i64_w,i32_w]
     rfl
    refine pure_ (i := 2) (N := some 45) (v := ?_) (a' := ?_) #[true,true,true,false,false,false,false,false,false,false,false,false,false] rfl rfl (any_of HT_.out (by kernel_rfl)) (fun _ _ _ h => h) (Or.inl ⟨by rfl,?_⟩) ?_ ?_
    rotate_left
    ·intro w'
     go_simp
     with_reducible rfl
    rotate_left
    ·simp only [Act.put,p1_,p2_,p3_,i64_w,i32_w]
     rfl
    refine pure_ (i := 4) (N := some 47) (v := ?_) (a' := ?_) #[true,true,true,false,true,false,false,false,false,false,false,false,false] rfl rfl (any_of HT_.out (by kernel_rfl)) (fun _ _ _ h => h) (Or.inl ⟨by rfl,?_⟩) ?_ ?_
    rotate_left
    ·intro w'
     go_simp
     with_reducible rfl
    rotate_left
    ·simp only [Act.put,p1_,p2_,p3_,i64_w,i32_w]
     rfl
    refine pure_ (i := 5) (N := some 48) (v := ?_) (a' := ?_) #[true,true,true,false,true,true,false,false,false,false,false,false,false] rfl rfl (any_of HT_.out (by kernel_rfl)) (fun _ _ _ h => h) (Or.inl ⟨by rfl,?_⟩) ?_ ?_
    rotate_left
    ·intro w'
     go_simp
     with_reducible rfl
    rotate_left
    ·simp only [Act.put,p1_,p2_,p3_,i64_w,i32_w]
     rfl
    refine pure_ (i := 6) (N := some 49) (v := ?_) (a' := ?_) #[true,true,true,false,true,true,true,false,false,false,false,false,false] rfl rfl (any_of HT_.out (by kernel_rfl)) (fun _ _ _ h => h) (Or.inl ⟨by rfl,?_⟩) ?_ ?_
    rotate_left
    ·intro w'
     go_simp
     with_reducible rfl
    rotate_left
    ·simp only [Act.put,p1_,p2_,p3_,i64_w,i32_w]
     rfl
    refine take_ (i := 3) (N := some 46) (v := ?_) (a' := ?_) #[true,true,true,true,true,true,true,false,false,false,false,false,false] rfl rfl (take_ofW HT_.out HW_.out (by kernel_rfl)) (fun _ _ _ h => h) (Or.inl ⟨by rfl,?_⟩) hHeld ?_ ?_
    rotate_left
    ·rintro w' ⟨s0,s1,s2,s3⟩
     go_simp
     with_reducible rfl
    rotate_left
    ·simp only [Act.put,p1_,p2_,p3_,i64_w,i32_w]
     rfl
    refine take_ (i := 7) (N := some 50) (v := ?_) (a' := ?_) #[true,true,true,true,true,true,true,true,false,false,false,false,false] rfl rfl (take_ofW HT_.out HW_.out (by kernel_rfl)) (fun _ _ _ h => h) (Or.inl ⟨by rfl,?_⟩) hHeld ?_ ?_
    rotate_left
    ·rintro w' ⟨s0,s1,s2,s3⟩
     go_simp
     with_reducible rfl
    rotate_left
    ·simp only [Act.put,p1_,p2_,p3_,i64_w,i32_w]
     rfl
    refine pure_ (i := 8) (N := some 51) (v := ?_) (a' := ?_) #[true,true,true,true,true,true,true,true,true,false,false,false,false] rfl rfl (any_of HT_.out (by kernel_rfl)) (fun _ _ _ h => h) (Or.inl ⟨by rfl,?_⟩) ?_ ?_
    rotate_left
    ·intro w'
     go_simp
     with_reducible rfl
    rotate_left
    ·simp only [Act.put,p1_,p2_,p3_,i64_w,i32_w]
     rfl
    refine pure_ (i := 9) (N := some 52) (v := ?_) (a' := ?_) #[true,true,true,true,true,true,true,true,true,true,false,false,false] rfl rfl (any_of HT_.out (by kernel_rfl)) (fun _ _ _ h => h) (Or.inl ⟨by rfl,?_⟩) ?_ ?_
    rotate_left
    ·intro w'
     go_simp
     with_reducible rfl
    rotate_left
    ·simp only [Act.put,p1_,p2_,p3_,i64_w,i32_w]
     rfl
    refine take_ (i := 10) (N := some 53) (v := ?_) (a' := ?_) #[true,true,true,true,true,true,true,true,true,true,true,false,false] rfl rfl (take_ofW HT_.out HW_.out (by kernel_rfl)) (fun _ _ _ h => h) (Or.inl ⟨by rfl,?_⟩) hHeld ?_ ?_
    rotate_left
    ·rintro w' ⟨s0,s1,s2,s3⟩
     go_simp
     with_reducible rfl
    rotate_left
    ·simp only [Act.put,p1_,p2_,p3_,i64_w,i32_w]
     rfl
    refine pure_ (i := 11) (N := some 54) (v := ?_) (a' := ?_) #[true,true,true,true,true,true,true,true,true,true,true,true,false] rfl rfl (any_of HT_.out (by kernel_rfl)) (fun _ _ _ h => h) (Or.inl ⟨by rfl,?_⟩) ?_ ?_
    rotate_left
    ·intro w'
     go_simp
     with_reducible rfl
    rotate_left
    ·simp only [Act.put,p1_,p2_,p3_,i64_w,i32_w]
     rfl
    refine pure_ (i := 12) (N := some 2) (v := ?_) (a' := ?_) #[true,true,true,true,true,true,true,true,true,true,true,true,true] rfl rfl (any_of HT_.out (by kernel_rfl)) (fun _ _ _ h => h) (Or.inl ⟨by rfl,?_⟩) ?_ ?_
    rotate_left
    ·intro w'
     go_simp
     with_reducible rfl
    rotate_left
    ·simp only [Act.put,p1_,p2_,p3_,i64_w,i32_w]
     rfl
    refine done_ (done_of HT_.out (by kernel_rfl)) ?_
    try go_wp2
    go_ret
    exact ⟨by first | rfl | (simp [e1_,e2_] <;> rfl) | (simp only [← hji3];first | rfl | (simp [e1_,e2_] <;> rfl)) | (simp [*,e1_,e2_] <;> rfl) | (simp [e3_,e4_];done) | (simp [*,e3_,e4_];done),by repeat (first | (with_reducible first | exact HI0.out | apply IsS72.alloc | apply IsS72.drewN | apply IsS72.drew | apply IsS72.set_1 | apply IsS72.set_2) | exact HI0.out),by repeat (first | (with_reducible first | exact HB.out | apply b1_ | apply b2_ | apply b3_ | refine below_set ?_ (IsS72.ge HI0.out)) | exact HB.out),by repeat (first | (with_reducible first | exact HK.out | apply KeepBut.set_ | apply keep_drewN | apply keep_drew | apply keep_alloc) | exact HK.out)⟩
   ·rw [if_neg c5] at H
    exact absurd H (by simp)
  ·rw [if_neg c4] at H
   exact absurd H (by simp)
 ·rw [if_neg c2] at H
  have c2b0 : decide ((wrap64 (s0_1 + 1)) ≤ (s0_0.length : Int)) = false := decide_eq_false c2
  clear c2
  by_cases c16 : (wrap64 (s0_1 + 1)) > 3000
  ·rw [if_pos c16] at H
   have c16b0 : decide (3000 < (wrap64 (s0_1 + 1))) = true := decide_eq_true c16
   clear c16
   simp only [Option.some.injEq,Prod.mk.injEq] at H
   obtain ⟨rfl,rfl,rfl⟩ := H
   obtain ⟨ASz17_0,cSz17_0,HGz17,hgz17,HSz17_0⟩ := HI0.out
   have hcz17_0 := cellS72_0 HGz17
   have hcz17_1 := cellS72_1 HGz17
   have hcz17_2 := cellS72_2 HGz17
   have hfz17_1 := blk_frozen HGz17 1
   have hfz17_2 := blk_frozen HGz17 2
   clear HGz17 hgz17
   go_enter Try.func64,Try.ntmps64
   try go_wp2
   have n0_ : Aside0 (IsS72 w0 (w.setCell ⟨g,1,none⟩ (.int .i64 (wrap64 (s0_1 + 1)))) g s0_0 (wrap64 (s0_1 + 1)) s0_2) := ⟨by repeat (first | (with_reducible first | exact HI0.out | apply IsS72.alloc | apply IsS72.drewN | apply IsS72.drew | apply IsS72.set_1 | apply IsS72.set_2) | exact HI0.out)⟩
   have n1_ : Aside0 (KeepBut w (w.setCell ⟨g,1,none⟩ (.int .i64 (wrap64 (s0_1 + 1)))) g none) := ⟨by repeat (first | (with_reducible first | exact HK.out | apply KeepBut.set_ | apply keep_drewN | apply keep_drew | apply keep_alloc) | exact HK.out)⟩
   have n2_ : Aside0 (Below w0.heap.size w0 (w.setCell ⟨g,1,none⟩ (.int .i64 (wrap64 (s0_1 + 1))))) := ⟨by repeat (first | (with_reducible first | exact HB.out | apply b1_ | apply b2_ | apply b3_ | refine below_set ?_ (IsS72.ge HI0.out)) | exact HB.out)⟩
   (try clear HI0)
   (try clear HK)
   (try clear HB)
   generalize (w.setCell ⟨g,1,none⟩ (.int .i64 (wrap64 (s0_1 + 1)))) = w18 at n0_ n1_ n2_ ⊢
   have HI0 := n0_
   have HK := n1_
   have HB := n2_
   clear n0_ n1_ n2_
   have n0_ := am_ (IsS72.drew HI0.out)
   have n1_ := am_ (keep_drew HK.out)
   have n2_ := am_ (below_drew1 HB.out)
   clear HI0
   clear HK
   clear HB
   have HI0 := n0_
   have HK := n1_
   have HB := n2_
   clear n0_ n1_ n2_
   obtain ⟨ASz20_0,cSz20_0,HGz20,hgz20,HSz20_0⟩ := HI0.out
   have hcz20_0 := cellS72_0 HGz20
   have hcz20_1 := cellS72_1 HGz20
   have hcz20_2 := cellS72_2 HGz20
   have hfz20_1 := blk_frozen HGz20 1
   have hfz20_2 := blk_frozen HGz20 2
   clear HGz20 hgz20
   refine start_ (n := 10) (S := fun w' => w'.cell? ⟨g,0,none⟩ = some (.slice ASz20_0 s0_0.length cSz20_0) ∧ w'.cell? ⟨g,1,none⟩ = some (.int .i64 (wrap64 (s0_1 + 1))) ∧ w'.cell? ⟨g,2,none⟩ = some (.int .i64 s0_2)) (ds := []) #[false,false,false,false,false,false,false,false,false,false] (by kernel_rfl) rfl rfl ⟨hcz20_0,hcz20_1,hcz20_2⟩ (fun hHeld => ?_);refine with_tabW spec_l00Src_byte.tab2 spec_l00Src_byte.bits2 (fun HT_ HW_ => ?_)
   generalize w18.drew = w19 at HI0 HK HB hHeld ⊢
   refine pure_ (i := 0) (N := some 10) (v := ?_) (a' := ?_) #[true,false,false,false,false,false,false,false,false,false] rfl rfl (any_of HT_.out (by kernel_rfl)) (fun _ _ _ h => h) (Or.inl ⟨by rfl,?_⟩) ?_ ?_
   rotate_left
   ·intro w'
    go_simp
    with_reducible rfl
   rotate_left
   ·simp only [Act.put,p1_,p2_,p3_,i64_w,i32_w]
    rfl
   refine pure_ (i := 1) (N := some 11) (v := ?_) (a' := ?_) #[true,true,false,false,false,false,false,false,false,false] rfl rfl (any_of HT_.out (by kernel_rfl)) (fun _ _ _ h => h) (Or.inl ⟨by rfl,?_⟩) ?_ ?_
   rotate_left
   ·intro w'
    go_simp
    with_reducible rfl
   rotate_left
   ·simp only [Act.put,p1_,p2_,p3_,i64_w,i32_w]
    rfl
   refine pure_ (i := 2) (N := some 12) (v := ?_) (a' := ?_) #[true,true,true,false,false,false,false,false,false,false] rfl rfl (any_of HT_.out (by kernel_rfl)) (fun _ _ _ h => h) (Or.inl ⟨by rfl,?_⟩) ?_ ?_
   rotate_left
   ·intro w'
    go_simp
    with_reducible rfl
   rotate_left
   ·simp only [Act.put,p1_,p2_,p3_,i64_w,i32_w]
    rfl
   refine pure_ (i := 4) (N := some 14) (v := ?_) (a' := ?_) #[true,true,true,false,true,false,false,false,false,false] rfl rfl (any_of HT_.out (by kernel_rfl)) (fun _ _ _ h => h) (Or.inl ⟨by rfl,?_⟩) ?_ ?_
   rotate_left
   ·intro w'
    go_simp
    with_reducible rfl
   rotate_left
   ·simp only [Act.put,p1_,p2_,p3_,i64_w,i32_w]
    rfl
   refine pure_ (i := 5) (N := some 15) (v := ?_) (a' := ?_) #[true,true,true,false,true,true,false,false,false,false] rfl rfl (any_of HT_.out (by kernel_rfl)) (fun _ _ _ h => h) (Or.inl ⟨by rfl,?_⟩) ?_ ?_
   rotate_left
   ·intro w'
    go_simp
    with_reducible rfl
   rotate_left
   ·simp only [Act.put,p1_,p2_,p3_,i64_w,i32_w]
    rfl
   refine pure_ (i := 6) (N := some 16) (v := ?_) (a' := ?_) #[true,true,true,false,true,true,true,false,false,false] rfl rfl (any_of HT_.out (by kernel_rfl)) (fun _ _ _ h => h) (Or.inl ⟨by rfl,?_⟩) ?_ ?_
   rotate_left
   ·intro w'
    go_simp
    with_reducible rfl
   rotate_left
   ·simp only [Act.put,p1_,p2_,p3_,i64_w,i32_w]
    rfl
   refine take_ (i := 3) (N := some 13) (v := ?_) (a' := ?_) #[true,true,true,true,true,true,true,false,false,false] rfl rfl (take_ofW HT_.out HW_.out (by kernel_rfl)) (fun _ _ _ h => h) (Or.inl ⟨by rfl,?_⟩) hHeld ?_ ?_
   rotate_left
   ·rintro w' ⟨s0,s1,s2⟩
    go_simp
    with_reducible rfl
   rotate_left
   ·simp only [Act.put,p1_,p2_,p3_,i64_w,i32_w]
    rfl
   refine take_ (i := 7) (N := some 17) (v := ?_) (a' := ?_) #[true,true,true,true,true,true,true,true,false,false] rfl rfl (take_ofW HT_.out HW_.out (by kernel_rfl)) (fun _ _ _ h => h) (Or.inl ⟨by rfl,?_⟩) hHeld ?_ ?_
   rotate_left
   ·rintro w' ⟨s0,s1,s2⟩
    go_simp
    with_reducible rfl
   rotate_left
   ·simp only [Act.put,p1_,p2_,p3_,i64_w,i32_w]
    rfl
   refine pure_ (i := 8) (N := some 18) (v := ?_) (a' := ?_) #[true,true,true,true,true,true,true,true,true,false] rfl rfl (any_of HT_.out (by kernel_rfl)) (fun _ _ _ h => h) (Or.inl ⟨by rfl,?_⟩) ?_ ?_
   rotate_left
   ·intro w'
    go_simp
    with_reducible rfl
   rotate_left
   ·simp only [Act.put,p1_,p2_,p3_,i64_w,i32_w]
    rfl
   refine pure_ (i := 9) (N := some 19) (v := ?_) (a' := ?_) #[true,true,true,true,true,true,true,true,true,true] rfl rfl (any_of HT_.out (by kernel_rfl)) (fun _ _ _ h => h) (Or.inl ⟨by rfl,?_⟩) ?_ ?_
   rotate_left
   ·intro w'
    go_simp
    with_reducible rfl
   rotate_left
   ·simp only [Act.put,p1_,p2_,p3_,i64_w,i32_w]
    rfl
   refine done_ (done_of HT_.out (by kernel_rfl)) ?_
   obtain ⟨ASz21_0,cSz21_0,HGz21,hgz21,HSz21_0⟩ := HI0.out
   have hcz21_0 := cellS72_0 HGz21
   have hcz21_1 := cellS72_1 HGz21
   have hcz21_2 := cellS72_2 HGz21
   have hfz21_1 := blk_frozen HGz21 1
   have hfz21_2 := blk_frozen HGz21 2
   clear HGz21 hgz21
   try go_wp2
   go_ret
   exact ⟨by first | rfl | (simp [e1_,e2_] <;> rfl) | (simp [*,e1_,e2_] <;> rfl) | (simp [e3_,e4_];done) | (simp [*,e3_,e4_];done),by repeat (first | (with_reducible first | exact HI0.out | apply IsS72.alloc | apply IsS72.drewN | apply IsS72.drew | apply IsS72.set_1 | apply IsS72.set_2) | exact HI0.out),by repeat (first | (with_reducible first | exact HB.out | apply b1_ | apply b2_ | apply b3_ | refine below_set ?_ (IsS72.ge HI0.out)) | exact HB.out),by repeat (first | (with_reducible first | exact HK.out | apply KeepBut.set_ | apply keep_drewN | apply keep_drew | apply keep_alloc) | exact HK.out)⟩
  ·rw [if_neg c16] at H
   have c16b0 : decide (3000 < (wrap64 (s0_1 + 1))) = false := decide_eq_false c16
   clear c16
   simp only [Option.some.injEq,Prod.mk.injEq] at H
   obtain ⟨rfl,rfl,rfl⟩ := H
   obtain ⟨ASz22_0,cSz22_0,HGz22,hgz22,HSz22_0⟩ := HI0.out
   have hcz22_0 := cellS72_0 HGz22
   have hcz22_1 := cellS72_1 HGz22
   have hcz22_2 := cellS72_2 HGz22
   have hfz22_1 := blk_frozen HGz22 1
   have hfz22_2 := blk_frozen HGz22 2
   clear HGz22 hgz22
   go_enter Try.func64,Try.ntmps64
   try go_wp2
   have n0_ : Aside0 (IsS72 w0 (w.setCell ⟨g,1,none⟩ (.int .i64 (wrap64 (s0_1 + 1)))) g s0_0 (wrap64 (s0_1 + 1)) s0_2) := ⟨by repeat (first | (with_reducible first | exact HI0.out | apply IsS72.alloc | apply IsS72.drewN | apply IsS72.drew | apply IsS72.set_1 | apply IsS72.set_2) | exact HI0.out)⟩
   have n1_ : Aside0 (KeepBut w (w.setCell ⟨g,1,none⟩ (.int .i64 (wrap64 (s0_1 + 1)))) g none) := ⟨by repeat (first | (with_reducible first | exact HK.out | apply KeepBut.set_ | apply keep_drewN | apply keep_drew | apply keep_alloc) | exact HK.out)⟩
   have n2_ : Aside0 (Below w0.heap.size w0 (w.setCell ⟨g,1,none⟩ (.int .i64 (wrap64 (s0_1 + 1))))) := ⟨by repeat (first | (with_reducible first | exact HB.out | apply b1_ | apply b2_ | apply b3_ | refine below_set ?_ (IsS72.ge HI0.out)) | exact HB.out)⟩
   (try clear HI0)
   (try clear HK)
   (try clear HB)
   generalize (w.setCell ⟨g,1,none⟩ (.int .i64 (wrap64 (s0_1 + 1)))) = w23 at n0_ n1_ n2_ ⊢
   have HI0 := n0_
   have HK := n1_
   have HB := n2_
   clear n0_ n1_ n2_
   have n0_ := am_ (IsS72.drew HI0.out)
   have n1_ := am_ (keep_drew HK.out)
   have n2_ := am_ (below_drew1 HB.out)
   clear HI0
   clear HK
   clear HB
   have HI0 := n0_
   have HK := n1_
   have HB := n2_
   clear n0_ n1_ n2_
   obtain ⟨ASz25_0,cSz25_0,HGz25,hgz25,HSz25_0⟩ := HI0.out
   have hcz25_0 := cellS72_0 HGz25
   have hcz25_1 := cellS72_1 HGz25
   have hcz25_2 := cellS72_2 HGz25
   have hfz25_1 := blk_frozen HGz25 1
   have hfz25_2 := blk_frozen HGz25 2
   clear HGz25 hgz25
   refine start_ (n := 10) (S := fun w' => w'.cell? ⟨g,0,none⟩ = some (.slice ASz25_0 s0_0.length cSz25_0) ∧ w'.cell? ⟨g,1,none⟩ = some (.int .i64 (wrap64 (s0_1 + 1))) ∧ w'.cell? ⟨g,2,none⟩ = some (.int .i64 s0_2)) (ds := []) #[false,false,false,false,false,false,false,false,false,false] (by kernel_rfl) rfl rfl ⟨hcz25_0,hcz25_1,hcz25_2⟩ (fun hHeld => ?_);refine with_tabW spec_l00Src_byte.tab2 spec_l00Src_byte.bits2 (fun HT_ HW_ => ?_)
   generalize w23.drew = w24 at HI0 HK HB hHeld ⊢
   refine pure_ (i := 0) (N := some 10) (v := ?_) (a' := ?_) #[true,false,false,false,false,false,false,false,false,false] rfl rfl (any_of HT_.out (by kernel_rfl)) (fun _ _ _ h => h) (Or.inl ⟨by rfl,?_⟩) ?_ ?_
   rotate_left
   ·intro w'
    go_simp
    with_reducible rfl
   rotate_left
   ·simp only [Act.put,p1_,p2_,p3_,i64_w,i32_w]
    rfl
   refine pure_ (i := 1) (N := some 11) (v := ?_) (a' := ?_) #[true,true,false,false,false,false,false,false,false,false] rfl rfl (any_of HT_.out (by kernel_rfl)) (fun _ _ _ h => h) (Or.inl ⟨by rfl,?_⟩) ?_ ?_
   rotate_left
   ·intro w'
    go_simp
    with_reducible rfl
   rotate_left
   ·simp only [Act.put,p1_,p2_,p3_,i64_w,i32_w]
    rfl
   refine pure_ (i := 2) (N := some 12) (v := ?_) (a' := ?_) #[true,true,true,false,false,false,false,false,false,false] rfl rfl (any_of HT_.out (by kernel_rfl)) (fun _ _ _ h => h) (Or.inl ⟨by rfl,?_⟩) ?_ ?_
   rotate_left
   ·intro w'
    go_simp
    with_reducible rfl
   rotate_left
   ·simp only [Act.put,p1_,p2_,p3_,i64_w,i32_w]
    rfl
   refine pure_ (i := 4) (N := some 14) (v := ?_) (a' := ?_) #[true,true,true,false,true,false,false,false,false,false] rfl rfl (any_of HT_.out (by kernel_rfl)) (fun _ _ _ h => h) (Or.inl ⟨by rfl,?_⟩) ?_ ?_
   rotate_left
   ·intro w'
    go_simp
    with_reducible rfl
   rotate_left
   ·simp only [Act.put,p1_,p2_,p3_,i64_w,i32_w]
    rfl
   refine pure_ (i := 5) (N := some 15) (v := ?_) (a' := ?_) #[true,true,true,false,true,true,false,false,false,false] rfl rfl (any_of HT_.out (by kernel_rfl)) (fun _ _ _ h => h) (Or.inl ⟨by rfl,?_⟩) ?_ ?_
   rotate_left
   ·intro w'
    go_simp
    with_reducible rfl
   rotate_left
   ·simp only [Act.put,p1_,p2_,p3_,i64_w,i32_w]
    rfl
   refine pure_ (i := 6) (N := some 16) (v := ?_) (a' := ?_) #[true,true,true,false,true,true,true,false,false,false] rfl rfl (any_of HT_.out (by kernel_rfl)) (fun _ _ _ h => h) (Or.inl ⟨by rfl,?_⟩) ?_ ?_
   rotate_left
   ·intro w'
    go_simp
    with_reducible rfl
   rotate_left
   ·simp only [Act.put,p1_,p2_,p3_,i64_w,i32_w]
    rfl
   refine take_ (i := 3) (N := some 13) (v := ?_) (a' := ?_) #[true,true,true,true,true,true,true,false,false,false] rfl rfl (take_ofW HT_.out HW_.out (by kernel_rfl)) (fun _ _ _ h => h) (Or.inl ⟨by rfl,?_⟩) hHeld ?_ ?_
   rotate_left
   ·rintro w' ⟨s0,s1,s2⟩
    go_simp
    with_reducible rfl
   rotate_left
   ·simp only [Act.put,p1_,p2_,p3_,i64_w,i32_w]
    rfl
   refine take_ (i := 7) (N := some 17) (v := ?_) (a' := ?_) #[true,true,true,true,true,true,true,true,false,false] rfl rfl (take_ofW HT_.out HW_.out (by kernel_rfl)) (fun _ _ _ h => h) (Or.inl ⟨by rfl,?_⟩) hHeld ?_ ?_
   rotate_left
   ·rintro w' ⟨s0,s1,s2⟩
    go_simp
    with_reducible rfl
   rotate_left
   ·simp only [Act.put,p1_,p2_,p3_,i64_w,i32_w]
    rfl
   refine pure_ (i := 8) (N := some 18) (v := ?_) (a' := ?_) #[true,true,true,true,true,true,true,true,true,false] rfl rfl (any_of HT_.out (by kernel_rfl)) (fun _ _ _ h => h) (Or.inl ⟨by rfl,?_⟩) ?_ ?_
   rotate_left
   ·intro w'
    go_simp
    with_reducible rfl
   rotate_left
   ·simp only [Act.put,p1_,p2_,p3_,i64_w,i32_w]
    rfl
   refine pure_ (i := 9) (N := some 19) (v := ?_) (a' := ?_) #[true,true,true,true,true,true,true,true,true,true] rfl rfl (any_of HT_.out (by kernel_rfl)) (fun _ _ _ h => h) (Or.inl ⟨by rfl,?_⟩) ?_ ?_
   rotate_left
   ·intro w'
    go_simp
    with_reducible rfl
   rotate_left
   ·simp only [Act.put,p1_,p2_,p3_,i64_w,i32_w]
    rfl
   refine done_ (done_of HT_.out (by kernel_rfl)) ?_
   obtain ⟨ASz26_0,cSz26_0,HGz26,hgz26,HSz26_0⟩ := HI0.out
   have hcz26_0 := cellS72_0 HGz26
   have hcz26_1 := cellS72_1 HGz26
   have hcz26_2 := cellS72_2 HGz26
   have hfz26_1 := blk_frozen HGz26 1
   have hfz26_2 := blk_frozen HGz26 2
   clear HGz26 hgz26
   try go_wp2
   go_ret
   exact ⟨by first | rfl | (simp [e1_,e2_] <;> rfl) | (simp [*,e1_,e2_] <;> rfl) | (simp [e3_,e4_];done) | (simp [*,e3_,e4_];done),by repeat (first | (with_reducible first | exact HI0.out | apply IsS72.alloc | apply IsS72.drewN | apply IsS72.drew | apply IsS72.set_1 | apply IsS72.set_2) | exact HI0.out),by repeat (first | (with_reducible first | exact HB.out | apply b1_ | apply b2_ | apply b3_ | refine below_set ?_ (IsS72.ge HI0.out)) | exact HB.out),by repeat (first | (with_reducible first | exact HK.out | apply KeepBut.set_ | apply keep_drewN | apply keep_drew | apply keep_alloc) | exact HK.out)⟩
set_option maxHeartbeats 8000000 in
set_option maxRecDepth 100000 in
theorem spec_l00Src_next.calls (g : Nat) (s0_0 : List Int) (s0_1 : Int) (s0_2 : Int) (a1 : Int) (r1 : Int) (r2 : Int) (r3 : Int) (w0 w : World) (hI : IsS72 w0 w g s0_0 s0_1 s0_2) (hB : Below w0.heap.size w0 w) (h : spec_l00Src_next.f s0_0 s0_1 s0_2 a1 = some (r1,r2,r3)) :
  Calls Try.prog 45 #[.pointer (some ⟨g,0,none⟩),.int .i64 a1] w fun e w' => e = .returned (.int .i64 r1) ∧ IsS72 w0 w' g s0_0 r2 r3 ∧ Below w0.heap.size w0 w' ∧ KeepBut w w' g none := by
 have HI0 := am_ hI
 have HK := am_ (KeepBut.refl w g none)
 have HL := am_ hB.size
 clear hI
 have HW0 := am_ hB.size
 have HB := am_ hB
 clear hB
 have H : (if a1 ≤ 1 then (some (0,s0_1,s0_2)) else (if a1 ≤ 256 then ((spec_l00Src_byte.f s0_0 s0_1 s0_2).bind fun bt104 => (if a1 = 0 then (none) else (some (Int.tmod bt104.1 a1,bt104.2.1,bt104.2.2)))) else ((spec_l00Src_byte.f s0_0 s0_1 s0_2).bind fun bt107 => ((spec_l00Src_byte.f s0_0 bt107.2.1 bt107.2.2).bind fun bt110 => ((spec_l00Src_byte.f s0_0 bt110.2.1 bt110.2.2).bind fun bt113 => (if a1 = 0 then (none) else (some (Int.tmod (wrap64 ((wrap64 ((wrap64 (bt107.1 * 65536)) + (wrap64 (bt110.1 * 256)))) + bt113.1)) a1,bt113.2.1,bt113.2.2)))))))) = some (r1,r2,r3) := h
 clear h
 by_cases c3 : a1 ≤ 1
 ·rw [if_pos c3] at H
  have c3b0 : decide (a1 ≤ 1) = true := decide_eq_true c3
  clear c3
  simp only [Option.some.injEq,Prod.mk.injEq] at H
  obtain ⟨rfl,rfl,rfl⟩ := H
  go_enter Try.func45,Try.ntmps45
  go_wp2
  go_ret
  exact ⟨by first | rfl | (simp [e1_,e2_] <;> rfl) | (simp [*,e1_,e2_] <;> rfl) | (simp [e3_,e4_];done) | (simp [*,e3_,e4_];done),by repeat (first | (with_reducible first | exact HI0.out | apply IsS72.alloc | apply IsS72.drewN | apply IsS72.drew | apply IsS72.set_1 | apply IsS72.set_2) | exact HI0.out),by repeat (first | (with_reducible first | exact HB.out | apply b1_ | apply b2_ | apply b3_ | refine below_set ?_ (IsS72.ge HI0.out)) | exact HB.out),by repeat (first | (with_reducible first | exact HK.out | apply KeepBut.set_ | apply keep_drewN | apply keep_drew | apply keep_alloc) | exact HK.out)⟩
 ·rw [if_neg c3] at H
  have c3b0 : decide (a1 ≤ 1) = false := decide_eq_false c3
  clear c3
  by_cases c4 : a1 ≤ 256
  ·rw [if_pos c4] at H
   have c4b0 : decide (a1 ≤ 256) = true := decide_eq_true c4
   clear c4
   replace H := Option.bind_eq_some_iff.mp H
   obtain ⟨⟨t104,t105,t106⟩,A50,H⟩ := H
   try dsimp only at H
   have A5 := am_ A50
   clear A50
   by_cases c6 : a1 = 0
   ·rw [if_pos c6] at H
    exact absurd H (by simp)
   ·rw [if_neg c6] at H
    have c6b0 : (a1 == 0) = false := beq_eq_false_iff_ne.mpr c6
    have c6b1 : (a1 != 0) = true := bne_iff_ne.mpr c6
    simp only [Option.some.injEq,Prod.mk.injEq] at H
    obtain ⟨rfl,rfl,rfl⟩ := H
    go_enter Try.func45,Try.ntmps45
    go_wp2_with (first | ((with_reducible refine gate_callee (f := 64) rfl ?_);refine goesL_ (some 13) rfl rfl Try.func64 (by kernel_rfl) rfl #[.pointer (some ⟨g,0,none⟩)] rfl (by (try simp only [m1_,m2_,m3_]);first | done | rfl | (simp only [d1_,d2_];rfl)) ?_;(with_reducible refine (spec_l00Src_byte.calls g s0_0 s0_1 s0_2 t104 t105 t106 w0 _ ?side1 ?side2 A5.out).mono ?_);(case side1 => repeat (first | (with_reducible first | exact HI0.out | apply IsS72.alloc | apply IsS72.drewN | apply IsS72.drew | apply IsS72.set_1 | apply IsS72.set_2) | exact HI0.out));(case side2 => repeat (first | (with_reducible first | exact HB.out | apply b1_ | apply b2_ | apply b3_ | refine below_set ?_ (IsS72.ge HI0.out)) | exact HB.out));rintro e w7 ⟨rfl,hi,hb,hk⟩;refine ⟨_,rfl,?_⟩;have n0_ := am_ (KeepBut.trans (by repeat (first | (with_reducible first | exact HK.out | apply KeepBut.set_ | apply keep_drewN | apply keep_drew | apply keep_alloc) | exact HK.out)) hk (.inl rfl));have n1_ := am_ (hb);have n2_ := am_ (hi);clear HK;clear HB;clear HI0;have HK := n0_;have HB := n1_;have HI0 := n2_;clear n0_ n1_ n2_;(try clear hb);(try clear hb2);(try clear hk);(try clear hi)))
    go_ret
    exact ⟨by first | rfl | (simp [e1_,e2_] <;> rfl) | (simp [*,e1_,e2_] <;> rfl) | (simp [e3_,e4_];done) | (simp [*,e3_,e4_];done),by repeat (first | (with_reducible first | exact HI0.out | apply IsS72.alloc | apply IsS72.drewN | apply IsS72.drew | apply IsS72.set_1 | apply IsS72.set_2) | exact HI0.out),by repeat (first | (with_reducible first | exact HB.out | apply b1_ | apply b2_ | apply b3_ | refine below_set ?_ (IsS72.ge HI0.out)) | exact HB.out),by repeat (first | (with_reducible first | exact HK.out | apply KeepBut.set_ | apply keep_drewN | apply keep_drew | apply keep_alloc) | exact HK.out)⟩
  ·rw [if_neg c4] at H
   have c4b0 : decide (a1 ≤ 256) = false := decide_eq_false c4
   clear c4
   replace H := Option.bind_eq_some_iff.mp H
   obtain ⟨⟨t107,t108,t109⟩,A80,H⟩ := H
   try dsimp only at H
   have A8 := am_ A80
   clear A80
   replace H := Option.bind_eq_some_iff.mp H
   obtain ⟨⟨t110,t111,t112⟩,A90,H⟩ := H
   try dsimp only at H
   have A9 := am_ A90
   clear A90
   replace H := Option.bind_eq_some_iff.mp H
   obtain ⟨⟨t113,t114,t115⟩,A100,H⟩ := H
   try dsimp only at H
   have A10 := am_ A100
   clear A100
   by_cases c11 : a1 = 0
   ·rw [if_pos c11] at H
    exact absurd H (by simp)
   ·rw [if_neg c11] at H
    have c11b0 : (a1 == 0) = false := beq_eq_false_iff_ne.mpr c11
    have c11b1 : (a1 != 0) = true := bne_iff_ne.mpr c11
    simp only [Option.some.injEq,Prod.mk.injEq] at H
    obtain ⟨rfl,rfl,rfl⟩ := H
    go_enter Try.func45,Try.ntmps45
    go_wp2_with (first | ((with_reducible refine gate_callee (f := 64) rfl ?_);refine goesL_ (some 17) rfl rfl Try.func64 (by kernel_rfl) rfl #[.pointer (some ⟨g,0,none⟩)] rfl (by (try simp only [m1_,m2_,m3_]);first | done | rfl | (simp only [d1_,d2_];rfl)) ?_;(with_reducible refine (spec_l00Src_byte.calls g s0_0 s0_1 s0_2 t107 t108 t109 w0 _ ?side1 ?side2 A8.out).mono ?_);(case side1 => repeat (first | (with_reducible first | exact HI0.out | apply IsS72.alloc | apply IsS72.drewN | apply IsS72.drew | apply IsS72.set_1 | apply IsS72.set_2) | exact HI0.out));(case side2 => repeat (first | (with_reducible first | exact HB.out | apply b1_ | apply b2_ | apply b3_ | refine below_set ?_ (IsS72.ge HI0.out)) | exact HB.out));rintro e w12 ⟨rfl,hi,hb,hk⟩;refine ⟨_,rfl,?_⟩;have n0_ := am_ (KeepBut.trans (by repeat (first | (with_reducible first | exact HK.out | apply KeepBut.set_ | apply keep_drewN | apply keep_drew | apply keep_alloc) | exact HK.out)) hk (.inl rfl));have n1_ := am_ (hb);have n2_ := am_ (hi);clear HK;clear HB;clear HI0;have HK := n0_;have HB := n1_;have HI0 := n2_;clear n0_ n1_ n2_;(try clear hb);(try clear hb2);(try clear hk);(try clear hi)) | ((with_reducible refine gate_callee (f := 64) rfl ?_);refine goesL_ (some 19) rfl rfl Try.func64 (by kernel_rfl) rfl #[.pointer (some ⟨g,0,none⟩)] rfl (by (try simp only [m1_,m2_,m3_]);first | done | rfl | (simp only [d1_,d2_];rfl)) ?_;(with_reducible refine (spec_l00Src_byte.calls g s0_0 t108 t109 t110 t111 t112 w0 _ ?side1 ?side2 A9.out).mono ?_);(case side1 => repeat (first | (with_reducible first | exact HI0.out | apply IsS72.alloc | apply IsS72.drewN | apply IsS72.drew | apply IsS72.set_1 | apply IsS72.set_2) | exact HI0.out));(case side2 => repeat (first | (with_reducible first | exact HB.out | apply b1_ | apply b2_ | apply b3_ | refine below_set ?_ (IsS72.ge HI0.out)) | exact HB.out));rintro e w13 ⟨rfl,hi,hb,hk⟩;refine ⟨_,rfl,?_⟩;have n0_ := am_ (KeepBut.trans (by repeat (first | (with_reducible first | exact HK.out | apply KeepBut.set_ | apply keep_drewN | apply keep_drew | apply keep_alloc) | exact HK.out)) hk (.inl rfl));have n1_ := am_ (hb);have n2_ := am_ (hi);clear HK;clear HB;clear HI0;have HK := n0_;have HB := n1_;have HI0 := n2_;clear n0_ n1_ n2_;(try clear hb);(try clear hb2);(try clear hk);(try clear hi)) | ((with_reducible refine gate_callee (f := 64) rfl ?_);refine goesL_ (some 21) rfl rfl Try.func64 (by kernel_rfl) rfl #[.pointer (some ⟨g,0,none⟩)] rfl (by (try simp only [m1_,m2_,m3_]);first | done | rfl | (simp only [d1_,d2_];rfl)) ?_;(with_reducible refine (spec_l00Src_byte.calls g s0_0 t111 t112 t113 t114 t115 w0 _ ?side1 ?side2 A10.out).mono ?_);(case side1 => repeat (first | (with_reducible first | exact HI0.out | apply IsS72.alloc | apply IsS72.drewN | apply IsS72.drew | apply IsS72.set_1 | apply IsS72.set_2) | exact HI0.out));(case side2 => repeat (first | (with_reducible first | exact HB.out | apply b1_ | apply b2_ | apply b3_ | refine below_set ?_ (IsS72.ge HI0.out)) | exact HB.out));rintro e w14 ⟨rfl,hi,hb,hk⟩;refine ⟨_,rfl,?_⟩;have n0_ := am_ (KeepBut.trans (by repeat (first | (with_reducible first | exact HK.out | apply KeepBut.set_ | apply keep_drewN | apply keep_drew | apply keep_alloc) | exact HK.out)) hk (.inl rfl));have n1_ := am_ (hb);have n2_ := am_ (hi);clear HK;clear HB;clear HI0;have HK := n0_;have HB := n1_;have HI0 := n2_;clear n0_ n1_ n2_;(try clear hb);(try clear hb2);(try clear hk);(try clear hi)))
    go_ret
    exact ⟨by first | rfl | (simp [e1_,e2_] <;> rfl) | (simp [*,e1_,e2_] <;> rfl) | (simp [e3_,e4_];done) | (simp [*,e3_,e4_];done),by repeat (first | (with_reducible first | exact HI0.out | apply IsS72.alloc | apply IsS72.drewN | apply IsS72.drew | apply IsS72.set_1 | apply IsS72.set_2) | exact HI0.out),by repeat (first | (with_reducible first | exact HB.out | apply b1_ | apply b2_ | apply b3_ | refine below_set ?_ (IsS72.ge HI0.out)) | exact HB.out),by repeat (first | (with_reducible first | exact HK.out | apply KeepBut.set_ | apply keep_drewN | apply keep_drew | apply keep_alloc) | exact HK.out)⟩
set_option maxHeartbeats 8000000 in
set_option maxRecDepth 100000 in
theorem spec_l00Src_chance.calls (g : Nat) (s0_0 : List Int) (s0_1 : Int) (s0_2 : Int) (a1 : Int) (r1 : Bool) (r2 : Int) (r3 : Int) (w0 w : World) (hI : IsS72 w0 w g s0_0 s0_1 s0_2) (hB : Below w0.heap.size w0 w) (h : spec_l00Src_chance.f s0_0 s0_1 s0_2 a1 = some (r1,r2,r3)) :
  Calls Try.prog 60 #[.pointer (some ⟨g,0,none⟩),.int .i64 a1] w fun e w' => e = .returned (.bool r1) ∧ IsS72 w0 w' g s0_0 r2 r3 ∧ Below w0.heap.size w0 w' ∧ KeepBut w w' g none := by
 have HI0 := am_ hI
 have HK := am_ (KeepBut.refl w g none)
 have HL := am_ hB.size
 clear hI
 have HW0 := am_ hB.size
 have HB := am_ hB
 clear hB
 have H : ((spec_l00Src_next.f s0_0 s0_1 s0_2 a1).bind fun bt238 => (some ((bt238.1 == (wrap64 (a1 - 1))),bt238.2.1,bt238.2.2))) = some (r1,r2,r3) := h
 clear h
 replace H := Option.bind_eq_some_iff.mp H
 obtain ⟨⟨t238,t239,t240⟩,A30,H⟩ := H
 try dsimp only at H
 have A3 := am_ A30
 clear A30
 simp only [Option.some.injEq,Prod.mk.injEq] at H
 obtain ⟨rfl,rfl,rfl⟩ := H
 go_enter Try.func60,Try.ntmps60
 go_wp2_with (first | ((with_reducible refine gate_callee (f := 45) rfl ?_);refine goesL_ (some 7) rfl rfl Try.func45 (by kernel_rfl) rfl #[.pointer (some ⟨g,0,none⟩),.int .i64 a1] rfl (by (try simp only [m1_,m2_,m3_]);first | done | rfl | (simp only [d1_,d2_];rfl)) ?_;(with_reducible refine (spec_l00Src_next.calls g s0_0 s0_1 s0_2 a1 t238 t239 t240 w0 _ ?side1 ?side2 A3.out).mono ?_);(case side1 => repeat (first | (with_reducible first | exact HI0.out | apply IsS72.alloc | apply IsS72.drewN | apply IsS72.drew | apply IsS72.set_1 | apply IsS72.set_2) | exact HI0.out));(case side2 => repeat (first | (with_reducible first | exact HB.out | apply b1_ | apply b2_ | apply b3_ | refine below_set ?_ (IsS72.ge HI0.out)) | exact HB.out));rintro e w4 ⟨rfl,hi,hb,hk⟩;refine ⟨_,rfl,?_⟩;have n0_ := am_ (KeepBut.trans (by repeat (first | (with_reducible first | exact HK.out | apply KeepBut.set_ | apply keep_drewN | apply keep_drew | apply keep_alloc) | exact HK.out)) hk (.inl rfl));have n1_ := am_ (hb);have n2_ := am_ (hi);clear HK;clear HB;clear HI0;have HK := n0_;have HB := n1_;have HI0 := n2_;clear n0_ n1_ n2_;(try clear hb);(try clear hb2);(try clear hk);(try clear hi)))
 go_ret
 exact ⟨by first | rfl | (simp [e1_,e2_] <;> rfl) | (simp [*,e1_,e2_] <;> rfl) | (simp [e3_,e4_];done) | (simp [*,e3_,e4_];done),by repeat (first | (with_reducible first | exact HI0.out | apply IsS72.alloc | apply IsS72.drewN | apply IsS72.drew | apply IsS72.set_1 | apply IsS72.set_2) | exact HI0.out),by repeat (first | (with_reducible first | exact HB.out | apply b1_ | apply b2_ | apply b3_ | refine below_set ?_ (IsS72.ge HI0.out)) | exact HB.out),by repeat (first | (with_reducible first | exact HK.out | apply KeepBut.set_ | apply keep_drewN | apply keep_drew | apply keep_alloc) | exact HK.out)⟩
set_option maxHeartbeats 8000000 in
set_option maxRecDepth 100000 in
theorem spec_l00Src_pick.calls (g : Nat) (s0_0 : List Int) (s0_1 : Int) (s0_2 : Int) (A1 : Option Addr) (c1 : Nat) (l1 : List ByteArray) (r1 : ByteArray) (r2 : Int) (r3 : Int) (w0 w : World) (hI : IsS72 w0 w g s0_0 s0_1 s0_2) (hB : Below w0.heap.size w0 w) (hr1 : Kd.C Kd.string w A1 l1.length l1) (hc1 : l1.length ≤ c1) (hf1 : ∀ ad,A1 = some ad → 0 < l1.length → ad.block ≠ g) (h : spec_l00Src_pick.f s0_0 s0_1 s0_2 l1 = some (r1,r2,r3)) :
  Calls Try.prog 55 #[.pointer (some ⟨g,0,none⟩),.slice A1 l1.length c1] w fun e w' => e = .returned (.string r1) ∧ IsS72 w0 w' g s0_0 r2 r3 ∧ Below w0.heap.size w0 w' ∧ KeepBut w w' g none := by
 have HR1 := am_ hr1
 have HC1 := am_ hc1
 clear hr1 hc1
 have HI0 := am_ hI
 have HK := am_ (KeepBut.refl w g none)
 have HL := am_ hB.size
 clear hI
 have HW0 := am_ hB.size
 have HB := am_ hB
 clear hB
 have H : (if (l1.length : Int) = 0 then (some ((⟨#[]⟩ : ByteArray),s0_1,s0_2)) else ((spec_l00Src_next.f s0_0 s0_1 s0_2 (l1.length : Int)).bind fun bt116 => (if 0 ≤ bt116.1 then (if bt116.1 < (l1.length : Int) then (some (rdOf ByteArray.empty l1 bt116.1,bt116.2.1,bt116.2.2)) else (none)) else (none)))) = some (r1,r2,r3) := h
 clear h
 by_cases c3 : (l1.length : Int) = 0
 ·rw [if_pos c3] at H
  have c3b0 : ((l1.length : Int) == 0) = true := beq_iff_eq.mpr c3
  have c3b1 : ((l1.length : Int) != 0) = false := bne_eq_false_iff_eq.mpr c3
  clear c3
  simp only [Option.some.injEq,Prod.mk.injEq] at H
  obtain ⟨rfl,rfl,rfl⟩ := H
  go_enter Try.func55,Try.ntmps55
  go_wp2
  go_ret
  exact ⟨by first | rfl | (simp [e1_,e2_] <;> rfl) | (simp [*,e1_,e2_] <;> rfl) | (simp [e3_,e4_];done) | (simp [*,e3_,e4_];done),by repeat (first | (with_reducible first | exact HI0.out | apply IsS72.alloc | apply IsS72.drewN | apply IsS72.drew | apply IsS72.set_1 | apply IsS72.set_2) | exact HI0.out),by repeat (first | (with_reducible first | exact HB.out | apply b1_ | apply b2_ | apply b3_ | refine below_set ?_ (IsS72.ge HI0.out)) | exact HB.out),by repeat (first | (with_reducible first | exact HK.out | apply KeepBut.set_ | apply keep_drewN | apply keep_drew | apply keep_alloc) | exact HK.out)⟩
 ·rw [if_neg c3] at H
  have c3b0 : ((l1.length : Int) == 0) = false := beq_eq_false_iff_ne.mpr c3
  have c3b1 : ((l1.length : Int) != 0) = true := bne_iff_ne.mpr c3
  have c3b2 : ¬ (l1 = []) := fun h_ => c3 (by rw [h_];rfl)
  replace H := Option.bind_eq_some_iff.mp H
  obtain ⟨⟨t116,t117,t118⟩,A40,H⟩ := H
  try dsimp only at H
  have A4 := am_ A40
  clear A40
  by_cases c5 : 0 ≤ t116
  ·rw [if_pos c5] at H
   have c5b0 : decide (0 ≤ t116) = true := decide_eq_true c5
   clear c5
   by_cases c6 : t116 < (l1.length : Int)
   ·rw [if_pos c6] at H
    have c6b0 : decide (t116 < (l1.length : Int)) = true := decide_eq_true c6
    clear c6
    simp only [Option.some.injEq,Prod.mk.injEq] at H
    obtain ⟨rfl,rfl,rfl⟩ := H
    go_enter Try.func55,Try.ntmps55
    go_wp2_with (first | ((with_reducible refine gate_callee (f := 45) rfl ?_);refine goesL_ (some 12) rfl rfl Try.func45 (by kernel_rfl) rfl #[.pointer (some ⟨g,0,none⟩),.int .i64 (l1.length : Int)] rfl (by (try simp only [m1_,m2_,m3_]);first | done | rfl | (simp only [d1_,d2_];rfl)) ?_;(with_reducible refine (spec_l00Src_next.calls g s0_0 s0_1 s0_2 (l1.length : Int) t116 t117 t118 w0 _ ?side1 ?side2 A4.out).mono ?_);(case side1 => repeat (first | (with_reducible first | exact HI0.out | apply IsS72.alloc | apply IsS72.drewN | apply IsS72.drew | apply IsS72.set_1 | apply IsS72.set_2) | exact HI0.out));(case side2 => repeat (first | (with_reducible first | exact HB.out | apply b1_ | apply b2_ | apply b3_ | refine below_set ?_ (IsS72.ge HI0.out)) | exact HB.out));rintro e w7 ⟨rfl,hi,hb,hk⟩;refine ⟨_,rfl,?_⟩;have n0_ := am_ (KeepBut.trans (by repeat (first | (with_reducible first | exact HK.out | apply KeepBut.set_ | apply keep_drewN | apply keep_drew | apply keep_alloc) | exact HK.out)) hk (.inl rfl));have n1_ := am_ (hb);have n2_ := am_ (hi);clear HK;clear HB;clear HI0;have HK := n0_;have HB := n1_;have HI0 := n2_;clear n0_ n1_ n2_;(try clear hb);(try clear hb2);(try clear hk);(try clear hi);have p119 : 0 ≤ (t116 : Int) := o1_ (by first | (with_reducible assumption) | assumption);have q119 : t116 < (l1.length : Int) := o1_ (by first | (with_reducible assumption) | assumption);obtain ⟨ad119,e119,hx119_0⟩ := Kd.at_string HR1.out t116 p119 q119;cases e119;replace hx119_0 := keep_cell HK.out hx119_0 (by first | (rw [add_block];exact hf1 _ rfl (by omega)) | exact hf1 _ rfl (by omega) | exact hf1 ad119 rfl (by omega));replace p119 := eq_true p119;replace q119 := eq_true q119))
    go_ret
    exact ⟨by first | rfl | (simp [e1_,e2_] <;> rfl) | (simp [*,e1_,e2_] <;> rfl) | (simp [e3_,e4_];done) | (simp [*,e3_,e4_];done),by repeat (first | (with_reducible first | exact HI0.out | apply IsS72.alloc | apply IsS72.drewN | apply IsS72.drew | apply IsS72.set_1 | apply IsS72.set_2) | exact HI0.out),by repeat (first | (with_reducible first | exact HB.out | apply b1_ | apply b2_ | apply b3_ | refine below_set ?_ (IsS72.ge HI0.out)) | exact HB.out),by repeat (first | (with_reducible first | exact HK.out | apply KeepBut.set_ | apply keep_drewN | apply keep_drew | apply keep_alloc) | exact HK.out)⟩
   ·rw [if_neg c6] at H
    exact absurd H (by simp)
  ·rw [if_neg c5] at H
   exact absurd H (by simp)
set_option maxHeartbeats 8000000 in
set_option maxRecDepth 100000 in
theorem spec_l00Src_request.calls (g : Nat) (s0_0 : List Int) (s0_1 : Int) (s0_2 : Int) (r1 : Int) (r2 : Int) (r3 : Int) (r4 : Int) (r5 : ByteArray) (r6 : Int) (r7 : Int) (w0 w : World) (hI : IsS72 w0 w g s0_0 s0_1 s0_2) (hB : Below w0.heap.size w0 w) (h : spec_l00Src_request.f s0_0 s0_1 s0_2 = some (r1,r2,r3,r4,r5,r6,r7)) :
  Calls Try.prog 31 #[.pointer (some ⟨g,0,none⟩)] w fun e w' => e = .returned (.agg #[.int .i64 r1,.int .i64 r2,.int .i64 r3,.int .i64 r4,.string r5]) ∧ IsS72 w0 w' g s0_0 r6 r7 ∧ Below w0.heap.size w0 w' ∧ KeepBut w w' g none := by
 have hu33 := Try.underlying33
 have HI0 := am_ hI
 have HK := am_ (KeepBut.refl w g none)
 have HL := am_ hB.size
 clear hI
 have HW0 := am_ hB.size
 have HB := am_ hB
 clear hB
 have H : ((spec_l00Src_next.f s0_0 s0_1 s0_2 3).bind fun bt121 => ((spec_l00Src_next.f s0_0 bt121.2.1 bt121.2.2 5).bind fun bt124 => ((spec_l00Src_next.f s0_0 bt124.2.1 bt124.2.2 4).bind fun bt127 => ((spec_l00Src_pick.f s0_0 bt127.2.1 bt127.2.2 (([(⟨#[97]⟩ : ByteArray),(⟨#[98]⟩ : ByteArray),(⟨#[108,111,99,107]⟩ : ByteArray)] : List ByteArray))).bind fun bt133 => (if (wrap64 (1 + bt127.1)) = 1 then ((spec_l00Src_next.f s0_0 bt133.2.1 bt133.2.2 30).bind fun bt137 => (some (bt121.1,wrap64 (1 + bt124.1),wrap64 (1 + bt127.1),wrap64 (1 + bt137.1),bt133.1,bt137.2.1,bt137.2.2))) else (if (wrap64 (1 + bt127.1)) = 3 then ((spec_l00Src_next.f s0_0 bt133.2.1 bt133.2.2 30).bind fun bt140 => (some (bt121.1,wrap64 (1 + bt124.1),wrap64 (1 + bt127.1),wrap64 (1 + bt140.1),bt133.1,bt140.2.1,bt140.2.2))) else (some (bt121.1,wrap64 (1 + bt124.1),wrap64 (1 + bt127.1),0,bt133.1,bt133.2.1,bt133.2.2)))))))) = some (r1,r2,r3,r4,r5,r6,r7) := h
 clear h
 replace H := Option.bind_eq_some_iff.mp H
 obtain ⟨⟨t121,t122,t123⟩,A20,H⟩ := H
 try dsimp only at H
 have A2 := am_ A20
 clear A20
 replace H := Option.bind_eq_some_iff.mp H
 obtain ⟨⟨t124,t125,t126⟩,A30,H⟩ := H
 try dsimp only at H
 have A3 := am_ A30
 clear A30
 replace H := Option.bind_eq_some_iff.mp H
 obtain ⟨⟨t127,t128,t129⟩,A40,H⟩ := H
 try dsimp only at H
 have A4 := am_ A40
 clear A40
 obtain ⟨y130,hy130⟩ : ∃ y_ : List ByteArray,y_ = (([(⟨#[97]⟩ : ByteArray),(⟨#[98]⟩ : ByteArray),(⟨#[108,111,99,107]⟩ : ByteArray)] : List ByteArray)) := ⟨_,rfl⟩
 replace H : ((spec_l00Src_pick.f s0_0 t128 t129 y130).bind fun bt133 => (if (wrap64 (1 + t127)) = 1 then ((spec_l00Src_next.f s0_0 bt133.2.1 bt133.2.2 30).bind fun bt137 => (some (t121,wrap64 (1 + t124),wrap64 (1 + t127),wrap64 (1 + bt137.1),bt133.1,bt137.2.1,bt137.2.2))) else (if (wrap64 (1 + t127)) = 3 then ((spec_l00Src_next.f s0_0 bt133.2.1 bt133.2.2 30).bind fun bt140 => (some (t121,wrap64 (1 + t124),wrap64 (1 + t127),wrap64 (1 + bt140.1),bt133.1,bt140.2.1,bt140.2.2))) else (some (t121,wrap64 (1 + t124),wrap64 (1 + t127),0,bt133.1,bt133.2.1,bt133.2.2))))) = some (r1,r2,r3,r4,r5,r6,r7) := by first | (rw [hy130];with_reducible exact H) | (have H2_ := (Option.bind_some _ _).symm.trans H;rw [hy130];with_reducible exact H2_) | (have H2_ := (Option.bind_some _ _).symm.trans H;with_reducible exact H2_) | with_reducible exact H | (rw [hy130];exact H) | exact H
 have Ny130 := am_ hy130
 clear hy130
 replace H := Option.bind_eq_some_iff.mp H
 obtain ⟨⟨t133,t134,t135⟩,A50,H⟩ := H
 try dsimp only at H
 have A5 := am_ A50
 clear A50
 by_cases c6 : (wrap64 (1 + t127)) = 1
 ·rw [if_pos c6] at H
  have c6b0 : ((wrap64 (1 + t127)) == 1) = true := beq_iff_eq.mpr c6
  have c6b1 : ((wrap64 (1 + t127)) != 1) = false := bne_eq_false_iff_eq.mpr c6
  clear c6
  replace H := Option.bind_eq_some_iff.mp H
  obtain ⟨⟨t137,t138,t139⟩,A70,H⟩ := H
  try dsimp only at H
  have A7 := am_ A70
  clear A70
  simp only [Option.some.injEq,Prod.mk.injEq] at H
  obtain ⟨rfl,rfl,rfl,rfl,rfl,rfl,rfl⟩ := H
  go_enter Try.func31,Try.ntmps31
  go_wp2_with (first | ((with_reducible refine gate_dst (N := 2) rfl ?_);refine box_event ?hg (N := 2) ?hd (cs := #[.int .i64 0,.int .i64 0,.int .i64 0,.int .i64 0,.string ⟨#[]⟩]) (t := 33) ?hr ?_;(case hd => rfl);(case hg => rfl);(case hr => first | (go_simp;done) | (go_simp;rfl));intro gb120 hg w8 hbox hb;have n0_ := am_ (IsS72.below (by repeat (first | (with_reducible first | exact HI0.out | apply IsS72.alloc | apply IsS72.drewN | apply IsS72.drew | apply IsS72.set_1 | apply IsS72.set_2) | exact HI0.out)) hb);have n1_ := am_ (KeepBut.trans (by repeat (first | (with_reducible first | exact HK.out | apply KeepBut.set_ | apply keep_drewN | apply keep_drew | apply keep_alloc) | exact HK.out)) (KeepBut.of_below hb g none) (.inl rfl));have n2_ := am_ (below_step (by repeat (first | (with_reducible first | exact HB.out | apply b1_ | apply b2_ | apply b3_ | refine below_set ?_ (IsS72.ge HI0.out)) | exact HB.out)) hb);have n3_ := am_ (hbox);have n4_ := am_ ((by rw [hg];exact (keep_size (w := w) (g := g) (row := none) (by repeat (first | (with_reducible first | exact HK.out | apply KeepBut.set_ | apply keep_drewN | apply keep_drew | apply keep_alloc) | exact HK.out))) : w.heap.size ≤ gb120));have n5_ := am_ ((Nat.le_trans HW0.out (by rw [hg];exact (keep_size (w := w) (g := g) (row := none) (by repeat (first | (with_reducible first | exact HK.out | apply KeepBut.set_ | apply keep_drewN | apply keep_drew | apply keep_alloc) | exact HK.out))) : w.heap.size ≤ gb120) : w0.heap.size ≤ gb120));have n6_ := am_ ((by rw [hg];exact Nat.ne_of_lt (IsS72.lt (show IsS72 w0 _ g s0_0 s0_1 s0_2 from by repeat (first | (with_reducible first | exact HI0.out | apply IsS72.alloc | apply IsS72.drewN | apply IsS72.drew | apply IsS72.set_1 | apply IsS72.set_2) | exact HI0.out))) : g ≠ gb120));have n7_ := am_ ((by rw [hg];exact Nat.ne_of_gt (IsS72.lt (show IsS72 w0 _ g s0_0 s0_1 s0_2 from by repeat (first | (with_reducible first | exact HI0.out | apply IsS72.alloc | apply IsS72.drewN | apply IsS72.drew | apply IsS72.set_1 | apply IsS72.set_2) | exact HI0.out))) : gb120 ≠ g));clear HI0;clear HK;clear HB;have HI0 := n0_;have HK := n1_;have HB := n2_;have BK120 := n3_;have GW120 := n4_;have GE120 := n5_;have NB0_120 := n6_;have NB120_0 := n7_;clear n0_ n1_ n2_ n3_ n4_ n5_ n6_ n7_;clear hb hbox hg) | ((with_reducible refine gate_callee (f := 45) rfl ?_);refine goesL_ (some 5) rfl rfl Try.func45 (by kernel_rfl) rfl #[.pointer (some ⟨g,0,none⟩),.int .i64 3] rfl (by (try simp only [m1_,m2_,m3_]);first | done | rfl | (simp only [d1_,d2_];rfl)) ?_;(with_reducible refine (spec_l00Src_next.calls g s0_0 s0_1 s0_2 3 t121 t122 t123 w0 _ ?side1 ?side2 A2.out).mono ?_);(case side1 => repeat (first | (with_reducible first | exact HI0.out | apply IsS72.alloc | apply IsS72.drewN | apply IsS72.drew | apply IsS72.set_1 | apply IsS72.set_2 | refine IsS72.far ?_ NB0_120.out _) | exact HI0.out));(case side2 => repeat (first | (with_reducible first | exact HB.out | apply b1_ | apply b2_ | apply b3_ | refine below_set ?_ (IsS72.ge HI0.out) | refine below_set ?_ GE120.out) | exact HB.out));rintro e w9 ⟨rfl,hi,hb,hk⟩;refine ⟨_,rfl,?_⟩;have n0_ := am_ (KeepBut.blk hk (g' := gb120) (o := .cells #[.int .i64 0,.int .i64 0,.int .i64 0,.int .i64 0,.string ⟨#[]⟩] 33 (0,0)) (by (with_reducible repeat (first | apply k1_ | apply k2_ | apply k3_));exact BK120.out) NB120_0.out (by simp));have n1_ := am_ (KeepBut.trans (by repeat (first | (with_reducible first | exact HK.out | apply KeepBut.set_ | apply keep_drewN | apply keep_drew | apply keep_alloc | refine keep_far ?_ GW120.out _) | exact HK.out)) hk (.inl rfl));have n2_ := am_ (hb);have n3_ := am_ (hi);clear BK120;clear HK;clear HB;clear HI0;have BK120 := n0_;have HK := n1_;have HB := n2_;have HI0 := n3_;clear n0_ n1_ n2_ n3_;(try clear hb);(try clear hb2);(try clear hk);(try clear hi)) | ((with_reducible refine gate_callee (f := 45) rfl ?_);refine goesL_ (some 7) rfl rfl Try.func45 (by kernel_rfl) rfl #[.pointer (some ⟨g,0,none⟩),.int .i64 5] rfl (by (try simp only [m1_,m2_,m3_]);first | done | rfl | (simp only [d1_,d2_];rfl)) ?_;(with_reducible refine (spec_l00Src_next.calls g s0_0 t122 t123 5 t124 t125 t126 w0 _ ?side1 ?side2 A3.out).mono ?_);(case side1 => repeat (first | (with_reducible first | exact HI0.out | apply IsS72.alloc | apply IsS72.drewN | apply IsS72.drew | apply IsS72.set_1 | apply IsS72.set_2 | refine IsS72.far ?_ NB0_120.out _) | exact HI0.out));(case side2 => repeat (first | (with_reducible first | exact HB.out | apply b1_ | apply b2_ | apply b3_ | refine below_set ?_ (IsS72.ge HI0.out) | refine below_set ?_ GE120.out) | exact HB.out));rintro e w10 ⟨rfl,hi,hb,hk⟩;refine ⟨_,rfl,?_⟩;have n0_ := am_ (KeepBut.blk hk (g' := gb120) (o := .cells #[.int .i64 0,.int .i64 0,.int .i64 0,.int .i64 0,.string ⟨#[]⟩] 33 (0,0)) (by (with_reducible repeat (first | apply k1_ | apply k2_ | apply k3_));exact BK120.out) NB120_0.out (by simp));have n1_ := am_ (KeepBut.trans (by repeat (first | (with_reducible first | exact HK.out | apply KeepBut.set_ | apply keep_drewN | apply keep_drew | apply keep_alloc | refine keep_far ?_ GW120.out _) | exact HK.out)) hk (.inl rfl));have n2_ := am_ (hb);have n3_ := am_ (hi);clear BK120;clear HK;clear HB;clear HI0;have BK120 := n0_;have HK := n1_;have HB := n2_;have HI0 := n3_;clear n0_ n1_ n2_ n3_;(try clear hb);(try clear hb2);(try clear hk);(try clear hi)) | ((with_reducible refine gate_callee (f := 45) rfl ?_);refine goesL_ (some 10) rfl rfl Try.func45 (by kernel_rfl) rfl #[.pointer (some ⟨g,0,none⟩),.int .i64 4] rfl (by (try simp only [m1_,m2_,m3_]);first | done | rfl | (simp only [d1_,d2_];rfl)) ?_;(with_reducible refine (spec_l00Src_next.calls g s0_0 t125 t126 4 t127 t128 t129 w0 _ ?side1 ?side2 A4.out).mono ?_);(case side1 => repeat (first | (with_reducible first | exact HI0.out | apply IsS72.alloc | apply IsS72.drewN | apply IsS72.drew | apply IsS72.set_1 | apply IsS72.set_2 | refine IsS72.far ?_ NB0_120.out _) | exact HI0.out));(case side2 => repeat (first | (with_reducible first | exact HB.out | apply b1_ | apply b2_ | apply b3_ | refine below_set ?_ (IsS72.ge HI0.out) | refine below_set ?_ GE120.out) | exact HB.out));rintro e w11 ⟨rfl,hi,hb,hk⟩;refine ⟨_,rfl,?_⟩;have n0_ := am_ (KeepBut.blk hk (g' := gb120) (o := .cells #[.int .i64 0,.int .i64 0,.int .i64 0,.int .i64 0,.string ⟨#[]⟩] 33 (0,0)) (by (with_reducible repeat (first | apply k1_ | apply k2_ | apply k3_));exact BK120.out) NB120_0.out (by simp));have n1_ := am_ (KeepBut.trans (by repeat (first | (with_reducible first | exact HK.out | apply KeepBut.set_ | apply keep_drewN | apply keep_drew | apply keep_alloc | refine keep_far ?_ GW120.out _) | exact HK.out)) hk (.inl rfl));have n2_ := am_ (hb);have n3_ := am_ (hi);clear BK120;clear HK;clear HB;clear HI0;have BK120 := n0_;have HK := n1_;have HB := n2_;have HI0 := n3_;clear n0_ n1_ n2_ n3_;(try clear hb);(try clear hb2);(try clear hk);(try clear hi)) | ((with_reducible refine gate_dst (N := 13) rfl ?_);refine Kd.R_lit Kd.string _ 9 ?hg (N := 13) ?hd (xs := ([(⟨#[97]⟩ : ByteArray),(⟨#[98]⟩ : ByteArray),(⟨#[108,111,99,107]⟩ : ByteArray)] : List ByteArray)) (inner := [.string ⟨#[97]⟩,.string ⟨#[98]⟩,.string ⟨#[108,111,99,107]⟩]) (ok := fun _ => True) (okp := fun _ => True) ?hr ?hp (fun _ hk => hk) trivial (Below.refl _ _) (Nat.le_refl _) (by simp) ?_;(case hd => rfl);(case hg => rfl);(case hr => first | (go_simp;done) | (go_simp;rfl));(case hp => exact (Reps.one (show Kd.M Kd.string _ _ _ (⟨#[97]⟩ : ByteArray) [.string ⟨#[97]⟩] from rfl) (Reps.one (show Kd.M Kd.string _ _ _ (⟨#[98]⟩ : ByteArray) [.string ⟨#[98]⟩] from rfl) (Reps.one (show Kd.M Kd.string _ _ _ (⟨#[108,111,99,107]⟩ : ByteArray) [.string ⟨#[108,111,99,107]⟩] from rfl) (Reps.none _ _)))));intro v131 w12 ho13 hb hg_ hnew_;clear hg_ hnew_;(first | rw [← Ny130.out] at ho13 | (simp only [Int.reduceToNat] at ho13;rw [← Ny130.out] at ho13));have n0_ := am_ (Kd.R_lower ho13 (keep_size (w := w) (g := g) (row := none) (by repeat (first | (with_reducible first | exact HK.out | apply KeepBut.set_ | apply keep_drewN | apply keep_drew | apply keep_alloc | refine keep_far ?_ GW120.out _) | exact HK.out))));have n1_ := am_ (IsS72.below (by repeat (first | (with_reducible first | exact HI0.out | apply IsS72.alloc | apply IsS72.drewN | apply IsS72.drew | apply IsS72.set_1 | apply IsS72.set_2 | refine IsS72.far ?_ NB0_120.out _) | exact HI0.out)) hb);have n2_ := am_ (blk_below (g := gb120) (o := .cells #[.int .i64 0,.int .i64 0,.int .i64 0,.int .i64 0,.string ⟨#[]⟩] 33 (0,0)) (by (with_reducible repeat (first | apply k1_ | apply k2_ | apply k3_));exact BK120.out) hb);have n3_ := am_ (KeepBut.trans (by repeat (first | (with_reducible first | exact HK.out | apply KeepBut.set_ | apply keep_drewN | apply keep_drew | apply keep_alloc | refine keep_far ?_ GW120.out _) | exact HK.out)) (KeepBut.of_below hb g none) (.inl rfl));have n4_ := am_ (below_step (by repeat (first | (with_reducible first | exact HB.out | apply b1_ | apply b2_ | apply b3_ | refine below_set ?_ (IsS72.ge HI0.out) | refine below_set ?_ GE120.out) | exact HB.out)) hb);clear HI0;clear BK120;clear HK;clear HB;have HO132 := n0_;have HI0 := n1_;have BK120 := n2_;have HK := n3_;have HB := n4_;clear n0_ n1_ n2_ n3_ n4_;clear hb ho13;obtain ⟨Ao14,co14,eo14⟩ := Kd.R_slice HO132.out;subst eo14) | ((with_reducible refine gate_callee (f := 55) rfl ?_);refine goesL_ (some 14) rfl rfl Try.func55 (by kernel_rfl) rfl #[.pointer (some ⟨g,0,none⟩),.slice Ao14 y130.length co14] rfl (by (try simp only [m1_,m2_,m3_]);first | done | rfl | (simp only [d1_,d2_];rfl)) ?_;(with_reducible refine (spec_l00Src_pick.calls g s0_0 t128 t129 _ _ y130 t133 t134 t135 w0 _ ?side1 ?side2 ?side3 ?side4 ?side5 A5.out).mono ?_);(case side1 => repeat (first | (with_reducible first | exact HI0.out | apply IsS72.alloc | apply IsS72.drewN | apply IsS72.drew | apply IsS72.set_1 | apply IsS72.set_2 | refine IsS72.far ?_ NB0_120.out _) | exact HI0.out));(case side2 => repeat (first | (with_reducible first | exact HB.out | apply b1_ | apply b2_ | apply b3_ | refine below_set ?_ (IsS72.ge HI0.out) | refine below_set ?_ GE120.out) | exact HB.out));(case side3 => repeat (first | exact (Kd.R_reads' HO132.out).2.2 | (with_reducible refine Kd.C_alloc ?_ _) | (with_reducible refine Kd.C_drewN ?_ _) | (with_reducible refine Kd.C_drew ?_)));(case side4 => exact (Kd.R_reads' HO132.out).2.1);(case side5 => exact far_slice (IsS72.own_ne HI0.out HO132.out (by decide)));rintro e w15 ⟨rfl,hi,hb,hk⟩;refine ⟨_,rfl,?_⟩;have n0_ := am_ (KeepBut.blk hk (g' := gb120) (o := .cells #[.int .i64 0,.int .i64 0,.int .i64 0,.int .i64 0,.string ⟨#[]⟩] 33 (0,0)) (by (with_reducible repeat (first | apply k1_ | apply k2_ | apply k3_));exact BK120.out) NB120_0.out (by simp));have n1_ := am_ (Kd.R_mono (Kd.R_keep (IsS72.apart (show IsS72 w0 _ g s0_0 t128 t129 from by repeat (first | (with_reducible first | exact HI0.out | apply IsS72.alloc | apply IsS72.drewN | apply IsS72.drew | apply IsS72.set_1 | apply IsS72.set_2 | refine IsS72.far ?_ NB0_120.out _) | exact HI0.out)) (by (with_reducible repeat (first | apply r1_ | apply r2_ | apply r3_));exact HO132.out) (by decide)) hk (fun _ h => h.2)) (fun _ h => h.1));have n2_ := am_ (KeepBut.trans (by repeat (first | (with_reducible first | exact HK.out | apply KeepBut.set_ | apply keep_drewN | apply keep_drew | apply keep_alloc | refine keep_far ?_ GW120.out _) | exact HK.out)) hk (.inl rfl));have n3_ := am_ (hb);have n4_ := am_ (hi);clear BK120;clear HO132;clear HK;clear HB;clear HI0;have BK120 := n0_;have HO132 := n1_;have HK := n2_;have HB := n3_;have HI0 := n4_;clear n0_ n1_ n2_ n3_ n4_;(try clear hb);(try clear hb2);(try clear hk);(try clear hi)) | ((with_reducible refine gate_dst (N := 3) rfl ?_);refine box_event ?hg (N := 3) ?hd (cs := #[.int .i64 0,.int .i64 0,.int .i64 0,.int .i64 0,.string ⟨#[]⟩]) (t := 33) ?hr ?_;(case hd => rfl);(case hg => rfl);(case hr => first | (go_simp;done) | (go_simp;rfl));intro gb136 hg w16 hbox hb;have n0_ := am_ (Kd.R_below (by (with_reducible repeat (first | apply r1_ | apply r2_ | apply r3_));exact HO132.out) hb);have n1_ := am_ (IsS72.below (by repeat (first | (with_reducible first | exact HI0.out | apply IsS72.alloc | apply IsS72.drewN | apply IsS72.drew | apply IsS72.set_1 | apply IsS72.set_2 | refine IsS72.far ?_ NB0_120.out _) | exact HI0.out)) hb);have n2_ := am_ (blk_below (g := gb120) (o := .cells #[.int .i64 0,.int .i64 0,.int .i64 0,.int .i64 0,.string ⟨#[]⟩] 33 (0,0)) (by (with_reducible repeat (first | apply k1_ | apply k2_ | apply k3_));exact BK120.out) hb);have n3_ := am_ (KeepBut.trans (by repeat (first | (with_reducible first | exact HK.out | apply KeepBut.set_ | apply keep_drewN | apply keep_drew | apply keep_alloc | refine keep_far ?_ GW120.out _) | exact HK.out)) (KeepBut.of_below hb g none) (.inl rfl));have n4_ := am_ (below_step (by repeat (first | (with_reducible first | exact HB.out | apply b1_ | apply b2_ | apply b3_ | refine below_set ?_ (IsS72.ge HI0.out) | refine below_set ?_ GE120.out) | exact HB.out)) hb);have n5_ := am_ (hbox);have n6_ := am_ ((by rw [hg];exact (keep_size (w := w) (g := g) (row := none) (by repeat (first | (with_reducible first | exact HK.out | apply KeepBut.set_ | apply keep_drewN | apply keep_drew | apply keep_alloc | refine keep_far ?_ GW120.out _) | exact HK.out))) : w.heap.size ≤ gb136));have n7_ := am_ ((Nat.le_trans HW0.out (by rw [hg];exact (keep_size (w := w) (g := g) (row := none) (by repeat (first | (with_reducible first | exact HK.out | apply KeepBut.set_ | apply keep_drewN | apply keep_drew | apply keep_alloc | refine keep_far ?_ GW120.out _) | exact HK.out))) : w.heap.size ≤ gb136) : w0.heap.size ≤ gb136));have n8_ := am_ ((by rw [hg];exact Nat.ne_of_lt (blk_lt (g := gb120) (o := .cells #[.int .i64 0,.int .i64 0,.int .i64 0,.int .i64 0,.string ⟨#[]⟩] 33 (0,0)) (by (with_reducible repeat (first | apply k1_ | apply k2_ | apply k3_));exact BK120.out)) : gb120 ≠ gb136));have n9_ := am_ ((by rw [hg];exact Nat.ne_of_gt (blk_lt (g := gb120) (o := .cells #[.int .i64 0,.int .i64 0,.int .i64 0,.int .i64 0,.string ⟨#[]⟩] 33 (0,0)) (by (with_reducible repeat (first | apply k1_ | apply k2_ | apply k3_));exact BK120.out)) : gb136 ≠ gb120));have n10_ := am_ ((by rw [hg];exact Nat.ne_of_lt (IsS72.lt (show IsS72 w0 _ g s0_0 t134 t135 from by repeat (first | (with_reducible first | exact HI0.out | apply IsS72.alloc | apply IsS72.drewN | apply IsS72.drew | apply IsS72.set_1 | apply IsS72.set_2 | refine IsS72.far ?_ NB0_120.out _) | exact HI0.out))) : g ≠ gb136));have n11_ := am_ ((by rw [hg];exact Nat.ne_of_gt (IsS72.lt (show IsS72 w0 _ g s0_0 t134 t135 from by repeat (first | (with_reducible first | exact HI0.out | apply IsS72.alloc | apply IsS72.drewN | apply IsS72.drew | apply IsS72.set_1 | apply IsS72.set_2 | refine IsS72.far ?_ NB0_120.out _) | exact HI0.out))) : gb136 ≠ g));clear HO132;clear HI0;clear BK120;clear HK;clear HB;have HO132 := n0_;have HI0 := n1_;have BK120 := n2_;have HK := n3_;have HB := n4_;have BK136 := n5_;have GW136 := n6_;have GE136 := n7_;have NB120_136 := n8_;have NB136_120 := n9_;have NB0_136 := n10_;have NB136_0 := n11_;clear n0_ n1_ n2_ n3_ n4_ n5_ n6_ n7_ n8_ n9_ n10_ n11_;clear hb hbox hg;have hnb17 := NB136_120.out;have hnc17 := NB120_136.out;have hnb18 := NB136_0.out;have hnc18 := NB0_136.out;obtain ⟨hcz19_0,hcz19_1,hcz19_2,hcz19_3,hcz19_4,hfz19_0,hfz19_1,hfz19_2,hfz19_3,hfz19_4⟩ := bc5_ BK136.out) | ((with_reducible refine gate_callee (f := 45) rfl ?_);refine goesL_ (some 25) rfl rfl Try.func45 (by kernel_rfl) rfl #[.pointer (some ⟨g,0,none⟩),.int .i64 30] rfl (by (try simp only [m1_,m2_,m3_]);first | done | rfl | (simp only [d1_,d2_];rfl)) ?_;(with_reducible refine (spec_l00Src_next.calls g s0_0 t134 t135 30 t137 t138 t139 w0 _ ?side1 ?side2 A7.out).mono ?_);(case side1 => repeat (first | (with_reducible first | exact HI0.out | apply IsS72.alloc | apply IsS72.drewN | apply IsS72.drew | apply IsS72.set_1 | apply IsS72.set_2 | refine IsS72.far ?_ NB0_120.out _ | refine IsS72.far ?_ NB0_136.out _) | exact HI0.out));(case side2 => repeat (first | (with_reducible first | exact HB.out | apply b1_ | apply b2_ | apply b3_ | refine below_set ?_ (IsS72.ge HI0.out) | refine below_set ?_ GE120.out | refine below_set ?_ GE136.out) | exact HB.out));rintro e w20 ⟨rfl,hi,hb,hk⟩;refine ⟨_,rfl,?_⟩;have n0_ := am_ (KeepBut.blk hk (g' := gb120) (o := .cells #[.int .i64 0,.int .i64 0,.int .i64 0,.int .i64 0,.string ⟨#[]⟩] 33 (0,0)) (by (repeat (first | (with_reducible first | apply k1_ | apply k2_ | apply k3_) | refine blk_far ?_ NB120_136.out _));exact BK120.out) NB120_0.out (by simp));have n1_ := am_ (Kd.R_mono (Kd.R_keep (IsS72.apart (show IsS72 w0 _ g s0_0 t134 t135 from by repeat (first | (with_reducible first | exact HI0.out | apply IsS72.alloc | apply IsS72.drewN | apply IsS72.drew | apply IsS72.set_1 | apply IsS72.set_2 | refine IsS72.far ?_ NB0_120.out _ | refine IsS72.far ?_ NB0_136.out _) | exact HI0.out)) (by (with_reducible repeat (first | apply r1_ | apply r2_ | apply r3_));exact (Kd.R_mono (Kd.Rf (Kd.Rf (Kd.Rf (Kd.Rf (Kd.Rf (Kd.R_types HO132.out BK136.out (by decide))))))) (fun _ h_ => h_.1))) (by decide)) hk (fun _ h => h.2)) (fun _ h => h.1));have n2_ := am_ (KeepBut.blk hk (g' := gb136) (o := .cells #[.int .i64 t121,.int .i64 (wrap64 (1 + t124)),.int .i64 (wrap64 (1 + t127)),.int .i64 0,.string t133] 33 (0,0)) (by (with_reducible repeat (first | apply k1_ | apply k2_ | apply k3_));refine blk_put (cs := #[.int .i64 t121,.int .i64 (wrap64 (1 + t124)),.int .i64 (wrap64 (1 + t127)),.int .i64 0,.string ⟨#[]⟩]) ?_ 4 _ rfl;(with_reducible repeat (first | apply k1_ | apply k2_ | apply k3_));refine blk_put (cs := #[.int .i64 t121,.int .i64 (wrap64 (1 + t124)),.int .i64 (wrap64 (1 + t127)),.int .i64 0,.string ⟨#[]⟩]) ?_ 3 _ rfl;(with_reducible repeat (first | apply k1_ | apply k2_ | apply k3_));refine blk_put (cs := #[.int .i64 t121,.int .i64 (wrap64 (1 + t124)),.int .i64 0,.int .i64 0,.string ⟨#[]⟩]) ?_ 2 _ rfl;(with_reducible repeat (first | apply k1_ | apply k2_ | apply k3_));refine blk_put (cs := #[.int .i64 t121,.int .i64 0,.int .i64 0,.int .i64 0,.string ⟨#[]⟩]) ?_ 1 _ rfl;(with_reducible repeat (first | apply k1_ | apply k2_ | apply k3_));refine blk_put (cs := #[.int .i64 0,.int .i64 0,.int .i64 0,.int .i64 0,.string ⟨#[]⟩]) ?_ 0 _ rfl;(with_reducible repeat (first | apply k1_ | apply k2_ | apply k3_));exact BK136.out) NB136_0.out (by simp));have n3_ := am_ (KeepBut.trans (by repeat (first | (with_reducible first | exact HK.out | apply KeepBut.set_ | apply keep_drewN | apply keep_drew | apply keep_alloc | refine keep_far ?_ GW120.out _ | refine keep_far ?_ GW136.out _) | exact HK.out)) hk (.inl rfl));have n4_ := am_ (hb);have n5_ := am_ (hi);clear BK120;clear HO132;clear BK136;clear HK;clear HB;clear HI0;have BK120 := n0_;have HO132 := n1_;have BK136 := n2_;have HK := n3_;have HB := n4_;have HI0 := n5_;clear n0_ n1_ n2_ n3_ n4_ n5_;(try clear hb);(try clear hb2);(try clear hk);(try clear hi);obtain ⟨hcz21_0,hcz21_1,hcz21_2,hcz21_3,hcz21_4,hfz21_0,hfz21_1,hfz21_2,hfz21_3,hfz21_4⟩ := bc5_ BK136.out;have hnb22 := NB120_0.out;have hnc22 := NB0_120.out;obtain ⟨hcz23_0,hcz23_1,hcz23_2,hcz23_3,hcz23_4,hfz23_0,hfz23_1,hfz23_2,hfz23_3,hfz23_4⟩ := bc5_ BK120.out))
  refine bodyPost_ret (results_cell_row rfl _ _ gb120 33 #[.int .i64 t121,.int .i64 (wrap64 (1 + t124)),.int .i64 (wrap64 (1 + t127)),.int .i64 (wrap64 (1 + t137)),.string t133] (0,0) _ rfl (by (with_reducible repeat (first | apply k1_ | apply k2_ | apply k3_));refine blk_put (cs := #[.int .i64 t121,.int .i64 (wrap64 (1 + t124)),.int .i64 (wrap64 (1 + t127)),.int .i64 (wrap64 (1 + t137)),.string ⟨#[]⟩]) ?_ 4 _ rfl;(with_reducible repeat (first | apply k1_ | apply k2_ | apply k3_));refine blk_put (cs := #[.int .i64 t121,.int .i64 (wrap64 (1 + t124)),.int .i64 (wrap64 (1 + t127)),.int .i64 0,.string ⟨#[]⟩]) ?_ 3 _ rfl;(with_reducible repeat (first | apply k1_ | apply k2_ | apply k3_));refine blk_put (cs := #[.int .i64 t121,.int .i64 (wrap64 (1 + t124)),.int .i64 0,.int .i64 0,.string ⟨#[]⟩]) ?_ 2 _ rfl;(with_reducible repeat (first | apply k1_ | apply k2_ | apply k3_));refine blk_put (cs := #[.int .i64 t121,.int .i64 0,.int .i64 0,.int .i64 0,.string ⟨#[]⟩]) ?_ 1 _ rfl;(with_reducible repeat (first | apply k1_ | apply k2_ | apply k3_));refine blk_put (cs := #[.int .i64 0,.int .i64 0,.int .i64 0,.int .i64 0,.string ⟨#[]⟩]) ?_ 0 _ rfl;(repeat (first | (with_reducible first | apply k1_ | apply k2_ | apply k3_) | refine blk_far ?_ NB120_136.out _));exact BK120.out) Try.underlying33 rfl (by kernel_rfl)) rfl ?_
  exact ⟨by first | rfl | (simp [e1_,e2_] <;> rfl) | (simp [*,e1_,e2_] <;> rfl) | (simp [e3_,e4_];done) | (simp [*,e3_,e4_];done),by repeat (first | (with_reducible first | exact HI0.out | apply IsS72.alloc | apply IsS72.drewN | apply IsS72.drew | apply IsS72.set_1 | apply IsS72.set_2 | refine IsS72.far ?_ NB0_120.out _ | refine IsS72.far ?_ NB0_136.out _) | exact HI0.out),by repeat (first | (with_reducible first | exact HB.out | apply b1_ | apply b2_ | apply b3_ | refine below_set ?_ (IsS72.ge HI0.out) | refine below_set ?_ GE120.out | refine below_set ?_ GE136.out) | exact HB.out),by repeat (first | (with_reducible first | exact HK.out | apply KeepBut.set_ | apply keep_drewN | apply keep_drew | apply keep_alloc | refine keep_far ?_ GW120.out _ | refine keep_far ?_ GW136.out _) | exact HK.out)⟩
 ·rw [if_neg c6] at H
  have c6b0 : ((wrap64 (1 + t127)) == 1) = false := beq_eq_false_iff_ne.mpr c6
  have c6b1 : ((wrap64 (1 + t127)) != 1) = true := bne_iff_ne.mpr c6
  by_cases c24 : (wrap64 (1 + t127)) = 3
  ·rw [if_pos c24] at H
   have c24b0 : ((wrap64 (1 + t127)) == 3) = true := beq_iff_eq.mpr c24
   have c24b1 : ((wrap64 (1 + t127)) != 3) = false := bne_eq_false_iff_eq.mpr c24
   clear c24
   replace H := Option.bind_eq_some_iff.mp H
   obtain ⟨⟨t140,t141,t142⟩,A250,H⟩ := H
   try dsimp only at H
   have A25 := am_ A250
   clear A250
   simp only [Option.some.injEq,Prod.mk.injEq] at H
   obtain ⟨rfl,rfl,rfl,rfl,rfl,rfl,rfl⟩ := H
   go_enter Try.func31,Try.ntmps31
   go_wp2_with (first | ((with_reducible refine gate_dst (N := 2) rfl ?_);refine box_event ?hg (N := 2) ?hd (cs := #[.int .i64 0,.int .i64 0,.int .i64 0,.int .i64 0,.string ⟨#[]⟩]) (t := 33) ?hr ?_;(case hd => rfl);(case hg => rfl);(case hr => first | (go_simp;done) | (go_simp;rfl));intro gb120 hg w26 hbox hb;have n0_ := am_ (IsS72.below (by repeat (first | (with_reducible first | exact HI0.out | apply IsS72.alloc | apply IsS72.drewN | apply IsS72.drew | apply IsS72.set_1 | apply IsS72.set_2) | exact HI0.out)) hb);have n1_ := am_ (KeepBut.trans (by repeat (first | (with_reducible first | exact HK.out | apply KeepBut.set_ | apply keep_drewN | apply keep_drew | apply keep_alloc) | exact HK.out)) (KeepBut.of_below hb g none) (.inl rfl));have n2_ := am_ (below_step (by repeat (first | (with_reducible first | exact HB.out | apply b1_ | apply b2_ | apply b3_ | refine below_set ?_ (IsS72.ge HI0.out)) | exact HB.out)) hb);have n3_ := am_ (hbox);have n4_ := am_ ((by rw [hg];exact (keep_size (w := w) (g := g) (row := none) (by repeat (first | (with_reducible first | exact HK.out | apply KeepBut.set_ | apply keep_drewN | apply keep_drew | apply keep_alloc) | exact HK.out))) : w.heap.size ≤ gb120));have n5_ := am_ ((Nat.le_trans HW0.out (by rw [hg];exact (keep_size (w := w) (g := g) (row := none) (by repeat (first | (with_reducible first | exact HK.out | apply KeepBut.set_ | apply keep_drewN | apply keep_drew | apply keep_alloc) | exact HK.out))) : w.heap.size ≤ gb120) : w0.heap.size ≤ gb120));have n6_ := am_ ((by rw [hg];exact Nat.ne_of_lt (IsS72.lt (show IsS72 w0 _ g s0_0 s0_1 s0_2 from by repeat (first | (with_reducible first | exact HI0.out | apply IsS72.alloc | apply IsS72.drewN | apply IsS72.drew | apply IsS72.set_1 | apply IsS72.set_2) | exact HI0.out))) : g ≠ gb120));have n7_ := am_ ((by rw [hg];exact Nat.ne_of_gt (IsS72.lt (show IsS72 w0 _ g s0_0 s0_1 s0_2 from by repeat (first | (with_reducible first | exact HI0.out | apply IsS72.alloc | apply IsS72.drewN | apply IsS72.drew | apply IsS72.set_1 | apply IsS72.set_2) | exact HI0.out))) : gb120 ≠ g));clear HI0;clear HK;clear HB;have HI0 := n0_;have HK := n1_;have HB := n2_;have BK120 := n3_;have GW120 := n4_;have GE120 := n5_;have NB0_120 := n6_;have NB120_0 := n7_;clear n0_ n1_ n2_ n3_ n4_ n5_ n6_ n7_;clear hb hbox hg) | ((with_reducible refine gate_callee (f := 45) rfl ?_);refine goesL_ (some 5) rfl rfl Try.func45 (by kernel_rfl) rfl #[.pointer (some ⟨g,0,none⟩),.int .i64 3] rfl (by (try simp only [m1_,m2_,m3_]);first | done | rfl | (simp only [d1_,d2_];rfl)) ?_;(with_reducible refine (spec_l00Src_next.calls g s0_0 s0_1 s0_2 3 t121 t122 t123 w0 _ ?side1 ?side2 A2.out).mono ?_);(case side1 => repeat (first | (with_reducible first | exact HI0.out | apply IsS72.alloc | apply IsS72.drewN | apply IsS72.drew | apply IsS72.set_1 | apply IsS72.set_2 | refine IsS72.far ?_ NB0_120.out _) | exact HI0.out));(case side2 => repeat (first | (with_reducible first | exact HB.out | apply b1_ | apply b2_ | apply b3_ | refine below_set ?_ (IsS72.ge HI0.out) | refine below_set ?_ GE120.out) | exact HB.out));rintro e w27 ⟨rfl,hi,hb,hk⟩;refine ⟨_,rfl,?_⟩;have n0_ := am_ (KeepBut.blk hk (g' := gb120) (o := .cells #[.int .i64 0,.int .i64 0,.int .i64 0,.int .i64 0,.string ⟨#[]⟩] 33 (0,0)) (by (with_reducible repeat (first | apply k1_ | apply k2_ | apply k3_));exact BK120.out) NB120_0.out (by simp));have n1_ := am_ (KeepBut.trans (by repeat (first | (with_reducible first | exact HK.out | apply KeepBut.set_ | apply keep_drewN | apply keep_drew | apply keep_alloc | refine keep_far ?_ GW120.out _) | exact HK.out)) hk (.inl rfl));have n2_ := am_ (hb);have n3_ := am_ (hi);clear BK120;clear HK;clear HB;clear HI0;have BK120 := n0_;have HK := n1_;have HB := n2_;have HI0 := n3_;clear n0_ n1_ n2_ n3_;(try clear hb);(try clear hb2);(try clear hk);(try clear hi)) | ((with_reducible refine gate_callee (f := 45) rfl ?_);refine goesL_ (some 7) rfl rfl Try.func45 (by kernel_rfl) rfl #[.pointer (some ⟨g,0,none⟩),.int .i64 5] rfl (by (try simp only [m1_,m2_,m3_]);first | done | rfl | (simp only [d1_,d2_];rfl)) ?_;(with_reducible refine (spec_l00Src_next.calls g s0_0 t122 t123 5 t124 t125 t126 w0 _ ?side1 ?side2 A3.out).mono ?_);(case side1 => repeat (first | (with_reducible first | exact HI0.out | apply IsS72.alloc | apply IsS72.drewN | apply IsS72.drew | apply IsS72.set_1 | apply IsS72.set_2 | refine IsS72.far ?_ NB0_120.out _) | exact HI0.out));(case side2 => repeat (first | (with_reducible first | exact HB.out | apply b1_ | apply b2_ | apply b3_ | refine below_set ?_ (IsS72.ge HI0.out) | refine below_set ?_ GE120.out) | exact HB.out));rintro e w28 ⟨rfl,hi,hb,hk⟩;refine ⟨_,rfl,?_⟩;have n0_ := am_ (KeepBut.blk hk (g' := gb120) (o := .cells #[.int .i64 0,.int .i64 0,.int .i64 0,.int .i64 0,.string ⟨#[]⟩] 33 (0,0)) (by (with_reducible repeat (first | apply k1_ | apply k2_ | apply k3_));exact BK120.out) NB120_0.out (by simp));have n1_ := am_ (KeepBut.trans (by repeat (first | (with_reducible first | exact HK.out | apply KeepBut.set_ | apply keep_drewN | apply keep_drew | apply keep_alloc | refine keep_far ?_ GW120.out _) | exact HK.out)) hk (.inl rfl));have n2_ := am_ (hb);have n3_ := am_ (hi);clear BK120;clear HK;clear HB;clear HI0;have BK120 := n0_;have HK := n1_;have HB := n2_;have HI0 := n3_;clear n0_ n1_ n2_ n3_;(try clear hb);(try clear hb2);(try clear hk);(try clear hi)) | ((with_reducible refine gate_callee (f := 45) rfl ?_);refine goesL_ (some 10) rfl rfl Try.func45 (by kernel_rfl) rfl #[.pointer (some ⟨g,0,none⟩),.int .i64 4] rfl (by (try simp only [m1_,m2_,m3_]);first | done | rfl | (simp only [d1_,d2_];rfl)) ?_;(with_reducible refine (spec_l00Src_next.calls g s0_0 t125 t126 4 t127 t128 t129 w0 _ ?side1 ?side2 A4.out).mono ?_);(case side1 => repeat (first | (with_reducible first | exact HI0.out | apply IsS72.alloc | apply IsS72.drewN | apply IsS72.drew | apply IsS72.set_1 | apply IsS72.set_2 | refine IsS72.far ?_ NB0_120.out _) | exact HI0.out));(case side2 => repeat (first | (with_reducible first | exact HB.out | apply b1_ | apply b2_ | apply b3_ | refine below_set ?_ (IsS72.ge HI0.out) | refine below_set ?_ GE120.out) | exact HB.out));rintro e w29 ⟨rfl,hi,hb,hk⟩;refine ⟨_,rfl,?_⟩;have n0_ := am_ (KeepBut.blk hk (g' := gb120) (o := .cells #[.int .i64 0,.int .i64 0,.int .i64 0,.int .i64 0,.string ⟨#[]⟩] 33 (0,0)) (by (with_reducible repeat (first | apply k1_ | apply k2_ | apply k3_));exact BK120.out) NB120_0.out (by simp));have n1_ := am_ (KeepBut.trans (by repeat (first | (with_reducible first | exact HK.out | apply KeepBut.set_ | apply keep_drewN | apply keep_drew | apply keep_alloc | refine keep_far ?_ GW120.out _) | exact HK.out)) hk (.inl rfl));have n2_ := am_ (hb);have n3_ := am_ (hi);clear BK120;clear HK;clear HB;clear HI0;have BK120 := n0_;have HK := n1_;have HB := n2_;have HI0 := n3_;clear n0_ n1_ n2_ n3_;(try clear hb);(try clear hb2);(try clear hk);(try clear hi)) | ((with_reducible refine gate_dst (N := 13) rfl ?_);refine Kd.R_lit Kd.string _ 9 ?hg (N := 13) ?hd (xs := ([(⟨#[97]⟩ : ByteArray),(⟨#[98]⟩ : ByteArray),(⟨#[108,111,99,107]⟩ : ByteArray)] : List ByteArray)) (inner := [.string ⟨#[97]⟩,.string ⟨#[98]⟩,.string ⟨#[108,111,99,107]⟩]) (ok := fun _ => True) (okp := fun _ => True) ?hr ?hp (fun _ hk => hk) trivial (Below.refl _ _) (Nat.le_refl _) (by simp) ?_;(case hd => rfl);(case hg => rfl);(case hr => first | (go_simp;done) | (go_simp;rfl));(case hp => exact (Reps.one (show Kd.M Kd.string _ _ _ (⟨#[97]⟩ : ByteArray) [.string ⟨#[97]⟩] from rfl) (Reps.one (show Kd.M Kd.string _ _ _ (⟨#[98]⟩ : ByteArray) [.string ⟨#[98]⟩] from rfl) (Reps.one (show Kd.M Kd.string _ _ _ (⟨#[108,111,99,107]⟩ : ByteArray) [.string ⟨#[108,111,99,107]⟩] from rfl) (Reps.none _ _)))));intro v131 w30 ho31 hb hg_ hnew_;clear hg_ hnew_;(first | rw [← Ny130.out] at ho31 | (simp only [Int.reduceToNat] at ho31;rw [← Ny130.out] at ho31));have n0_ := am_ (Kd.R_lower ho31 (keep_size (w := w) (g := g) (row := none) (by repeat (first | (with_reducible first | exact HK.out | apply KeepBut.set_ | apply keep_drewN | apply keep_drew | apply keep_alloc | refine keep_far ?_ GW120.out _) | exact HK.out))));have n1_ := am_ (IsS72.below (by repeat (first | (with_reducible first | exact HI0.out | apply IsS72.alloc | apply IsS72.drewN | apply IsS72.drew | apply IsS72.set_1 | apply IsS72.set_2 | refine IsS72.far ?_ NB0_120.out _) | exact HI0.out)) hb);have n2_ := am_ (blk_below (g := gb120) (o := .cells #[.int .i64 0,.int .i64 0,.int .i64 0,.int .i64 0,.string ⟨#[]⟩] 33 (0,0)) (by (with_reducible repeat (first | apply k1_ | apply k2_ | apply k3_));exact BK120.out) hb);have n3_ := am_ (KeepBut.trans (by repeat (first | (with_reducible first | exact HK.out | apply KeepBut.set_ | apply keep_drewN | apply keep_drew | apply keep_alloc | refine keep_far ?_ GW120.out _) | exact HK.out)) (KeepBut.of_below hb g none) (.inl rfl));have n4_ := am_ (below_step (by repeat (first | (with_reducible first | exact HB.out | apply b1_ | apply b2_ | apply b3_ | refine below_set ?_ (IsS72.ge HI0.out) | refine below_set ?_ GE120.out) | exact HB.out)) hb);clear HI0;clear BK120;clear HK;clear HB;have HO132 := n0_;have HI0 := n1_;have BK120 := n2_;have HK := n3_;have HB := n4_;clear n0_ n1_ n2_ n3_ n4_;clear hb ho31;obtain ⟨Ao32,co32,eo32⟩ := Kd.R_slice HO132.out;subst eo32) | ((with_reducible refine gate_callee (f := 55) rfl ?_);refine goesL_ (some 14) rfl rfl Try.func55 (by kernel_rfl) rfl #[.pointer (some ⟨g,0,none⟩),.slice Ao32 y130.length co32] rfl (by (try simp only [m1_,m2_,m3_]);first | done | rfl | (simp only [d1_,d2_];rfl)) ?_;(with_reducible refine (spec_l00Src_pick.calls g s0_0 t128 t129 _ _ y130 t133 t134 t135 w0 _ ?side1 ?side2 ?side3 ?side4 ?side5 A5.out).mono ?_);(case side1 => repeat (first | (with_reducible first | exact HI0.out | apply IsS72.alloc | apply IsS72.drewN | apply IsS72.drew | apply IsS72.set_1 | apply IsS72.set_2 | refine IsS72.far ?_ NB0_120.out _) | exact HI0.out));(case side2 => repeat (first | (with_reducible first | exact HB.out | apply b1_ | apply b2_ | apply b3_ | refine below_set ?_ (IsS72.ge HI0.out) | refine below_set ?_ GE120.out) | exact HB.out));(case side3 => repeat (first | exact (Kd.R_reads' HO132.out).2.2 | (with_reducible refine Kd.C_alloc ?_ _) | (with_reducible refine Kd.C_drewN ?_ _) | (with_reducible refine Kd.C_drew ?_)));(case side4 => exact (Kd.R_reads' HO132.out).2.1);(case side5 => exact far_slice (IsS72.own_ne HI0.out HO132.out (by decide)));rintro e w33 ⟨rfl,hi,hb,hk⟩;refine ⟨_,rfl,?_⟩;have n0_ := am_ (KeepBut.blk hk (g' := gb120) (o := .cells #[.int .i64 0,.int .i64 0,.int .i64 0,.int .i64 0,.string ⟨#[]⟩] 33 (0,0)) (by (with_reducible repeat (first | apply k1_ | apply k2_ | apply k3_));exact BK120.out) NB120_0.out (by simp));have n1_ := am_ (Kd.R_mono (Kd.R_keep (IsS72.apart (show IsS72 w0 _ g s0_0 t128 t129 from by repeat (first | (with_reducible first | exact HI0.out | apply IsS72.alloc | apply IsS72.drewN | apply IsS72.drew | apply IsS72.set_1 | apply IsS72.set_2 | refine IsS72.far ?_ NB0_120.out _) | exact HI0.out)) (by (with_reducible repeat (first | apply r1_ | apply r2_ | apply r3_));exact HO132.out) (by decide)) hk (fun _ h => h.2)) (fun _ h => h.1));have n2_ := am_ (KeepBut.trans (by repeat (first | (with_reducible first | exact HK.out | apply KeepBut.set_ | apply keep_drewN | apply keep_drew | apply keep_alloc | refine keep_far ?_ GW120.out _) | exact HK.out)) hk (.inl rfl));have n3_ := am_ (hb);have n4_ := am_ (hi);clear BK120;clear HO132;clear HK;clear HB;clear HI0;have BK120 := n0_;have HO132 := n1_;have HK := n2_;have HB := n3_;have HI0 := n4_;clear n0_ n1_ n2_ n3_ n4_;(try clear hb);(try clear hb2);(try clear hk);(try clear hi)) | ((with_reducible refine gate_dst (N := 3) rfl ?_);refine box_event ?hg (N := 3) ?hd (cs := #[.int .i64 0,.int .i64 0,.int .i64 0,.int .i64 0,.string ⟨#[]⟩]) (t := 33) ?hr ?_;(case hd => rfl);(case hg => rfl);(case hr => first | (go_simp;done) | (go_simp;rfl));intro gb136 hg w34 hbox hb;have n0_ := am_ (Kd.R_below (by (with_reducible repeat (first | apply r1_ | apply r2_ | apply r3_));exact HO132.out) hb);have n1_ := am_ (IsS72.below (by repeat (first | (with_reducible first | exact HI0.out | apply IsS72.alloc | apply IsS72.drewN | apply IsS72.drew | apply IsS72.set_1 | apply IsS72.set_2 | refine IsS72.far ?_ NB0_120.out _) | exact HI0.out)) hb);have n2_ := am_ (blk_below (g := gb120) (o := .cells #[.int .i64 0,.int .i64 0,.int .i64 0,.int .i64 0,.string ⟨#[]⟩] 33 (0,0)) (by (with_reducible repeat (first | apply k1_ | apply k2_ | apply k3_));exact BK120.out) hb);have n3_ := am_ (KeepBut.trans (by repeat (first | (with_reducible first | exact HK.out | apply KeepBut.set_ | apply keep_drewN | apply keep_drew | apply keep_alloc | refine keep_far ?_ GW120.out _) | exact HK.out)) (KeepBut.of_below hb g none) (.inl rfl));have n4_ := am_ (below_step (by repeat (first | (with_reducible first | exact HB.out | apply b1_ | apply b2_ | apply b3_ | refine below_set ?_ (IsS72.ge HI0.out) | refine below_set ?_ GE120.out) | exact HB.out)) hb);have n5_ := am_ (hbox);have n6_ := am_ ((by rw [hg];exact (keep_size (w := w) (g := g) (row := none) (by repeat (first | (with_reducible first | exact HK.out | apply KeepBut.set_ | apply keep_drewN | apply keep_drew | apply keep_alloc | refine keep_far ?_ GW120.out _) | exact HK.out))) : w.heap.size ≤ gb136));have n7_ := am_ ((Nat.le_trans HW0.out (by rw [hg];exact (keep_size (w := w) (g := g) (row := none) (by repeat (first | (with_reducible first | exact HK.out | apply KeepBut.set_ | apply keep_drewN | apply keep_drew | apply keep_alloc | refine keep_far ?_ GW120.out _) | exact HK.out))) : w.heap.size ≤ gb136) : w0.heap.size ≤ gb136));have n8_ := am_ ((by rw [hg];exact Nat.ne_of_lt (blk_lt (g := gb120) (o := .cells #[.int .i64 0,.int .i64 0,.int .i64 0,.int .i64 0,.string ⟨#[]⟩] 33 (0,0)) (by (with_reducible repeat (first | apply k1_ | apply k2_ | apply k3_));exact BK120.out)) : gb120 ≠ gb136));have n9_ := am_ ((by rw [hg];exact Nat.ne_of_gt (blk_lt (g := gb120) (o := .cells #[.int .i64 0,.int .i64 0,.int .i64 0,.int .i64 0,.string ⟨#[]⟩] 33 (0,0)) (by (with_reducible repeat (first | apply k1_ | apply k2_ | apply k3_));exact BK120.out)) : gb136 ≠ gb120));have n10_ := am_ ((by rw [hg];exact Nat.ne_of_lt (IsS72.lt (show IsS72 w0 _ g s0_0 t134 t135 from by repeat (first | (with_reducible first | exact HI0.out | apply IsS72.alloc | apply IsS72.drewN | apply IsS72.drew | apply IsS72.set_1 | apply IsS72.set_2 | refine IsS72.far ?_ NB0_120.out _) | exact HI0.out))) : g ≠ gb136));have n11_ := am_ ((by rw [hg];exact Nat.ne_of_gt (IsS72.lt (show IsS72 w0 _ g s0_0 t134 t135 from by repeat (first | (with_reducible first | exact HI0.out | apply IsS72.alloc | apply IsS72.drewN | apply IsS72.drew | apply IsS72.set_1 | apply IsS72.set_2 | refine IsS72.far ?_ NB0_120.out _) | exact HI0.out))) : gb136 ≠ g));clear HO132;clear HI0;clear BK120;clear HK;clear HB;have HO132 := n0_;have HI0 := n1_;have BK120 := n2_;have HK := n3_;have HB := n4_;have BK136 := n5_;have GW136 := n6_;have GE136 := n7_;have NB120_136 := n8_;have NB136_120 := n9_;have NB0_136 := n10_;have NB136_0 := n11_;clear n0_ n1_ n2_ n3_ n4_ n5_ n6_ n7_ n8_ n9_ n10_ n11_;clear hb hbox hg;have hnb35 := NB136_120.out;have hnc35 := NB120_136.out;have hnb36 := NB136_0.out;have hnc36 := NB0_136.out;obtain ⟨hcz37_0,hcz37_1,hcz37_2,hcz37_3,hcz37_4,hfz37_0,hfz37_1,hfz37_2,hfz37_3,hfz37_4⟩ := bc5_ BK136.out) | ((with_reducible refine gate_callee (f := 45) rfl ?_);refine goesL_ (some 25) rfl rfl Try.func45 (by kernel_rfl) rfl #[.pointer (some ⟨g,0,none⟩),.int .i64 30] rfl (by (try simp only [m1_,m2_,m3_]);first | done | rfl | (simp only [d1_,d2_];rfl)) ?_;(with_reducible refine (spec_l00Src_next.calls g s0_0 t134 t135 30 t140 t141 t142 w0 _ ?side1 ?side2 A25.out).mono ?_);(case side1 => repeat (first | (with_reducible first | exact HI0.out | apply IsS72.alloc | apply IsS72.drewN | apply IsS72.drew | apply IsS72.set_1 | apply IsS72.set_2 | refine IsS72.far ?_ NB0_120.out _ | refine IsS72.far ?_ NB0_136.out _) | exact HI0.out));(case side2 => repeat (first | (with_reducible first | exact HB.out | apply b1_ | apply b2_ | apply b3_ | refine below_set ?_ (IsS72.ge HI0.out) | refine below_set ?_ GE120.out | refine below_set ?_ GE136.out) | exact HB.out));rintro e w38 ⟨rfl,hi,hb,hk⟩;refine ⟨_,rfl,?_⟩;have n0_ := am_ (KeepBut.blk hk (g' := gb120) (o := .cells #[.int .i64 0,.int .i64 0,.int .i64 0,.int .i64 0,.string ⟨#[]⟩] 33 (0,0)) (by (repeat (first | (with_reducible first | apply k1_ | apply k2_ | apply k3_) | refine blk_far ?_ NB120_136.out _));exact BK120.out) NB120_0.out (by simp));have n1_ := am_ (Kd.R_mono (Kd.R_keep (IsS72.apart (show IsS72 w0 _ g s0_0 t134 t135 from by repeat (first | (with_reducible first | exact HI0.out | apply IsS72.alloc | apply IsS72.drewN | apply IsS72.drew | apply IsS72.set_1 | apply IsS72.set_2 | refine IsS72.far ?_ NB0_120.out _ | refine IsS72.far ?_ NB0_136.out _) | exact HI0.out)) (by (with_reducible repeat (first | apply r1_ | apply r2_ | apply r3_));exact (Kd.R_mono (Kd.Rf (Kd.Rf (Kd.Rf (Kd.Rf (Kd.Rf (Kd.R_types HO132.out BK136.out (by decide))))))) (fun _ h_ => h_.1))) (by decide)) hk (fun _ h => h.2)) (fun _ h => h.1));have n2_ := am_ (KeepBut.blk hk (g' := gb136) (o := .cells #[.int .i64 t121,.int .i64 (wrap64 (1 + t124)),.int .i64 (wrap64 (1 + t127)),.int .i64 0,.string t133] 33 (0,0)) (by (with_reducible repeat (first | apply k1_ | apply k2_ | apply k3_));refine blk_put (cs := #[.int .i64 t121,.int .i64 (wrap64 (1 + t124)),.int .i64 (wrap64 (1 + t127)),.int .i64 0,.string ⟨#[]⟩]) ?_ 4 _ rfl;(with_reducible repeat (first | apply k1_ | apply k2_ | apply k3_));refine blk_put (cs := #[.int .i64 t121,.int .i64 (wrap64 (1 + t124)),.int .i64 (wrap64 (1 + t127)),.int .i64 0,.string ⟨#[]⟩]) ?_ 3 _ rfl;(with_reducible repeat (first | apply k1_ | apply k2_ | apply k3_));refine blk_put (cs := #[.int .i64 t121,.int .i64 (wrap64 (1 + t124)),.int .i64 0,.int .i64 0,.string ⟨#[]⟩]) ?_ 2 _ rfl;(with_reducible repeat (first | apply k1_ | apply k2_ | apply k3_));refine blk_put (cs := #[.int .i64 t121,.int .i64 0,.int .i64 0,.int .i64 0,.string ⟨#[]⟩]) ?_ 1 _ rfl;(with_reducible repeat (first | apply k1_ | apply k2_ | apply k3_));refine blk_put (cs := #[.int .i64 0,.int .i64 0,.int .i64 0,.int .i64 0,.string ⟨#[]⟩]) ?_ 0 _ rfl;(with_reducible repeat (first | apply k1_ | apply k2_ | apply k3_));exact BK136.out) NB136_0.out (by simp));have n3_ := am_ (KeepBut.trans (by repeat (first | (with_reducible first | exact HK.out | apply KeepBut.set_ | apply keep_drewN | apply keep_drew | apply keep_alloc | refine keep_far ?_ GW120.out _ | refine keep_far ?_ GW136.out _) | exact HK.out)) hk (.inl rfl));have n4_ := am_ (hb);have n5_ := am_ (hi);clear BK120;clear HO132;clear BK136;clear HK;clear HB;clear HI0;have BK120 := n0_;have HO132 := n1_;have BK136 := n2_;have HK := n3_;have HB := n4_;have HI0 := n5_;clear n0_ n1_ n2_ n3_ n4_ n5_;(try clear hb);(try clear hb2);(try clear hk);(try clear hi);obtain ⟨hcz39_0,hcz39_1,hcz39_2,hcz39_3,hcz39_4,hfz39_0,hfz39_1,hfz39_2,hfz39_3,hfz39_4⟩ := bc5_ BK136.out;have hnb40 := NB120_0.out;have hnc40 := NB0_120.out;obtain ⟨hcz41_0,hcz41_1,hcz41_2,hcz41_3,hcz41_4,hfz41_0,hfz41_1,hfz41_2,hfz41_3,hfz41_4⟩ := bc5_ BK120.out))
   refine bodyPost_ret (results_cell_row rfl _ _ gb120 33 #[.int .i64 t121,.int .i64 (wrap64 (1 + t124)),.int .i64 (wrap64 (1 + t127)),.int .i64 (wrap64 (1 + t140)),.string t133] (0,0) _ rfl (by (with_reducible repeat (first | apply k1_ | apply k2_ | apply k3_));refine blk_put (cs := #[.int .i64 t121,.int .i64 (wrap64 (1 + t124)),.int .i64 (wrap64 (1 + t127)),.int .i64 (wrap64 (1 + t140)),.string ⟨#[]⟩]) ?_ 4 _ rfl;(with_reducible repeat (first | apply k1_ | apply k2_ | apply k3_));refine blk_put (cs := #[.int .i64 t121,.int .i64 (wrap64 (1 + t124)),.int .i64 (wrap64 (1 + t127)),.int .i64 0,.string ⟨#[]⟩]) ?_ 3 _ rfl;(with_reducible repeat (first | apply k1_ | apply k2_ | apply k3_));refine blk_put (cs := #[.int .i64 t121,.int .i64 (wrap64 (1 + t124)),.int .i64 0,.int .i64 0,.string ⟨#[]⟩]) ?_ 2 _ rfl;(with_reducible repeat (first | apply k1_ | apply k2_ | apply k3_));refine blk_put (cs := #[.int .i64 t121,.int .i64 0,.int .i64 0,.int .i64 0,.string ⟨#[]⟩]) ?_ 1 _ rfl;(with_reducible repeat (first | apply k1_ | apply k2_ | apply k3_));refine blk_put (cs := #[.int .i64 0,.int .i64 0,.int .i64 0,.int .i64 0,.string ⟨#[]⟩]) ?_ 0 _ rfl;(repeat (first | (with_reducible first | apply k1_ | apply k2_ | apply k3_) | refine blk_far ?_ NB120_136.out _));exact BK120.out) Try.underlying33 rfl (by kernel_rfl)) rfl ?_
   exact ⟨by first | rfl | (simp [e1_,e2_] <;> rfl) | (simp [*,e1_,e2_] <;> rfl) | (simp [e3_,e4_];done) | (simp [*,e3_,e4_];done),by repeat (first | (with_reducible first | exact HI0.out | apply IsS72.alloc | apply IsS72.drewN | apply IsS72.drew | apply IsS72.set_1 | apply IsS72.set_2 | refine IsS72.far ?_ NB0_120.out _ | refine IsS72.far ?_ NB0_136.out _) | exact HI0.out),by repeat (first | (with_reducible first | exact HB.out | apply b1_ | apply b2_ | apply b3_ | refine below_set ?_ (IsS72.ge HI0.out) | refine below_set ?_ GE120.out | refine below_set ?_ GE136.out) | exact HB.out),by repeat (first | (with_reducible first | exact HK.out | apply KeepBut.set_ | apply keep_drewN | apply keep_drew | apply keep_alloc | refine keep_far ?_ GW120.out _ | refine keep_far ?_ GW136.out _) | exact HK.out)⟩
  ·rw [if_neg c24] at H
   have c24b0 : ((wrap64 (1 + t127)) == 3) = false := beq_eq_false_iff_ne.mpr c24
   have c24b1 : ((wrap64 (1 + t127)) != 3) = true := bne_iff_ne.mpr c24
   simp only [Option.some.injEq,Prod.mk.injEq] at H
   obtain ⟨rfl,rfl,rfl,rfl,rfl,rfl,rfl⟩ := H
   go_enter Try.func31,Try.ntmps31
   go_wp2_with (first | ((with_reducible refine gate_dst (N := 2) rfl ?_);refine box_event ?hg (N := 2) ?hd (cs := #[.int .i64 0,.int .i64 0,.int .i64 0,.int .i64 0,.string ⟨#[]⟩]) (t := 33) ?hr ?_;(case hd => rfl);(case hg => rfl);(case hr => first | (go_simp;done) | (go_simp;rfl));intro gb120 hg w42 hbox hb;have n0_ := am_ (IsS72.below (by repeat (first | (with_reducible first | exact HI0.out | apply IsS72.alloc | apply IsS72.drewN | apply IsS72.drew | apply IsS72.set_1 | apply IsS72.set_2) | exact HI0.out)) hb);have n1_ := am_ (KeepBut.trans (by repeat (first | (with_reducible first | exact HK.out | apply KeepBut.set_ | apply keep_drewN | apply keep_drew | apply keep_alloc) | exact HK.out)) (KeepBut.of_below hb g none) (.inl rfl));have n2_ := am_ (below_step (by repeat (first | (with_reducible first | exact HB.out | apply b1_ | apply b2_ | apply b3_ | refine below_set ?_ (IsS72.ge HI0.out)) | exact HB.out)) hb);have n3_ := am_ (hbox);have n4_ := am_ ((by rw [hg];exact (keep_size (w := w) (g := g) (row := none) (by repeat (first | (with_reducible first | exact HK.out | apply KeepBut.set_ | apply keep_drewN | apply keep_drew | apply keep_alloc) | exact HK.out))) : w.heap.size ≤ gb120));have n5_ := am_ ((Nat.le_trans HW0.out (by rw [hg];exact (keep_size (w := w) (g := g) (row := none) (by repeat (first | (with_reducible first | exact HK.out | apply KeepBut.set_ | apply keep_drewN | apply keep_drew | apply keep_alloc) | exact HK.out))) : w.heap.size ≤ gb120) : w0.heap.size ≤ gb120));have n6_ := am_ ((by rw [hg];exact Nat.ne_of_lt (IsS72.lt (show IsS72 w0 _ g s0_0 s0_1 s0_2 from by repeat (first | (with_reducible first | exact HI0.out | apply IsS72.alloc | apply IsS72.drewN | apply IsS72.drew | apply IsS72.set_1 | apply IsS72.set_2) | exact HI0.out))) : g ≠ gb120));have n7_ := am_ ((by rw [hg];exact Nat.ne_of_gt (IsS72.lt (show IsS72 w0 _ g s0_0 s0_1 s0_2 from by repeat (first | (with_reducible first | exact HI0.out | apply IsS72.alloc | apply IsS72.drewN | apply IsS72.drew | apply IsS72.set_1 | apply IsS72.set_2) | exact HI0.out))) : gb120 ≠ g));clear HI0;clear HK;clear HB;have HI0 := n0_;have HK := n1_;have HB := n2_;have BK120 := n3_;have GW120 := n4_;have GE120 := n5_;have NB0_120 := n6_;have NB120_0 := n7_;clear n0_ n1_ n2_ n3_ n4_ n5_ n6_ n7_;clear hb hbox hg) | ((with_reducible refine gate_callee (f := 45) rfl ?_);refine goesL_ (some 5) rfl rfl Try.func45 (by kernel_rfl) rfl #[.pointer (some ⟨g,0,none⟩),.int .i64 3] rfl (by (try simp only [m1_,m2_,m3_]);first | done | rfl | (simp only [d1_,d2_];rfl)) ?_;(with_reducible refine (spec_l00Src_next.calls g s0_0 s0_1 s0_2 3 t121 t122 t123 w0 _ ?side1 ?side2 A2.out).mono ?_);(case side1 => repeat (first | (with_reducible first | exact HI0.out | apply IsS72.alloc | apply IsS72.drewN | apply IsS72.drew | apply IsS72.set_1 | apply IsS72.set_2 | refine IsS72.far ?_ NB0_120.out _) | exact HI0.out));(case side2 => repeat (first | (with_reducible first | exact HB.out | apply b1_ | apply b2_ | apply b3_ | refine below_set ?_ (IsS72.ge HI0.out) | refine below_set ?_ GE120.out) | exact HB.out));rintro e w43 ⟨rfl,hi,hb,hk⟩;refine ⟨_,rfl,?_⟩;have n0_ := am_ (KeepBut.blk hk (g' := gb120) (o := .cells #[.int .i64 0,.int .i64 0,.int .i64 0,.int .i64 0,.string ⟨#[]⟩] 33 (0,0)) (by (with_reducible repeat (first | apply k1_ | apply k2_ | apply k3_));exact BK120.out) NB120_0.out (by simp));have n1_ := am_ (KeepBut.trans (by repeat (first | (with_reducible first | exact HK.out | apply KeepBut.set_ | apply keep_drewN | apply keep_drew | apply keep_alloc | refine keep_far ?_ GW120.out _) | exact HK.out)) hk (.inl rfl));have n2_ := am_ (hb);have n3_ := am_ (hi);clear BK120;clear HK;clear HB;clear HI0;have BK120 := n0_;have HK := n1_;have HB := n2_;have HI0 := n3_;clear n0_ n1_ n2_ n3_;(try clear hb);(try clear hb2);(try clear hk);(try clear hi)) | ((with_reducible refine gate_callee (f := 45) rfl ?_);refine goesL_ (some 7) rfl rfl Try.func45 (by kernel_rfl) rfl #[.pointer (some ⟨g,0,none⟩),.int .i64 5] rfl (by (try simp only [m1_,m2_,m3_]);first | done | rfl | (simp only [d1_,d2_];rfl)) ?_;(with_reducible refine (spec_l00Src_next.calls g s0_0 t122 t123 5 t124 t125 t126 w0 _ ?side1 ?side2 A3.out).mono ?_);(case side1 => repeat (first | (with_reducible first | exact HI0.out | apply IsS72.alloc | apply IsS72.drewN | apply IsS72.drew | apply IsS72.set_1 | apply IsS72.set_2 | refine IsS72.far ?_ NB0_120.out _) | exact HI0.out));(case side2 => repeat (first | (with_reducible first | exact HB.out | apply b1_ | apply b2_ | apply b3_ | refine below_set ?_ (IsS72.ge HI0.out) | refine below_set ?_ GE120.out) | exact HB.out));rintro e w44 ⟨rfl,hi,hb,hk⟩;refine ⟨_,rfl,?_⟩;have n0_ := am_ (KeepBut.blk hk (g' := gb120) (o := .cells #[.int .i64 0,.int .i64 0,.int .i64 0,.int .i64 0,.string ⟨#[]⟩] 33 (0,0)) (by (with_reducible repeat (first | apply k1_ | apply k2_ | apply k3_));exact BK120.out) NB120_0.out (by simp));have n1_ := am_ (KeepBut.trans (by repeat (first | (with_reducible first | exact HK.out | apply KeepBut.set_ | apply keep_drewN | apply keep_drew | apply keep_alloc | refine keep_far ?_ GW120.out _) | exact HK.out)) hk (.inl rfl));have n2_ := am_ (hb);have n3_ := am_ (hi);clear BK120;clear HK;clear HB;clear HI0;have BK120 := n0_;have HK := n1_;have HB := n2_;have HI0 := n3_;clear n0_ n1_ n2_ n3_;(try clear hb);(try clear hb2);(try clear hk);(try clear hi)) | ((with_reducible refine gate_callee (f := 45) rfl ?_);refine goesL_ (some 10) rfl rfl Try.func45 (by kernel_rfl) rfl #[.pointer (some ⟨g,0,none⟩),.int .i64 4] rfl (by (try simp only [m1_,m2_,m3_]);first | done | rfl | (simp only [d1_,d2_];rfl)) ?_;(with_reducible refine (spec_l00Src_next.calls g s0_0 t125 t126 4 t127 t128 t129 w0 _ ?side1 ?side2 A4.out).mono ?_);(case side1 => repeat (first | (with_reducible first | exact HI0.out | apply IsS72.alloc | apply IsS72.drewN | apply IsS72.drew | apply IsS72.set_1 | apply IsS72.set_2 | refine IsS72.far ?_ NB0_120.out _) | exact HI0.out));(case side2 => repeat (first | (with_reducible first | exact HB.out | apply b1_ | apply b2_ | apply b3_ | refine below_set ?_ (IsS72.ge HI0.out) | refine below_set ?_ GE120.out) | exact HB.out));rintro e w45 ⟨rfl,hi,hb,hk⟩;refine ⟨_,rfl,?_⟩;have n0_ := am_ (KeepBut.blk hk (g' := gb120) (o := .cells #[.int .i64 0,.int .i64 0,.int .i64 0,.int .i64 0,.string ⟨#[]⟩] 33 (0,0)) (by (with_reducible repeat (first | apply k1_ | apply k2_ | apply k3_));exact BK120.out) NB120_0.out (by simp));have n1_ := am_ (KeepBut.trans (by repeat (first | (with_reducible first | exact HK.out | apply KeepBut.set_ | apply keep_drewN | apply keep_drew | apply keep_alloc | refine keep_far ?_ GW120.out _) | exact HK.out)) hk (.inl rfl));have n2_ := am_ (hb);have n3_ := am_ (hi);clear BK120;clear HK;clear HB;clear HI0;have BK120 := n0_;have HK := n1_;have HB := n2_;have HI0 := n3_;clear n0_ n1_ n2_ n3_;(try clear hb);(try clear hb2);(try clear hk);(try clear hi)) | ((with_reducible refine gate_dst (N := 13) rfl ?_);refine Kd.R_lit Kd.string _ 9 ?hg (N := 13) ?hd (xs := ([(⟨#[97]⟩ : ByteArray),(⟨#[98]⟩ : ByteArray),(⟨#[108,111,99,107]⟩ : ByteArray)] : List ByteArray)) (inner := [.string ⟨#[97]⟩,.string ⟨#[98]⟩,.string ⟨#[108,111,99,107]⟩]) (ok := fun _ => True) (okp := fun _ => True) ?hr ?hp (fun _ hk => hk) trivial (Below.refl _ _) (Nat.le_refl _) (by simp) ?_;(case hd => rfl);(case hg => rfl);(case hr => first | (go_simp;done) | (go_simp;rfl));(case hp => exact (Reps.one (show Kd.M Kd.string _ _ _ (⟨#[97]⟩ : ByteArray) [.string ⟨#[97]⟩] from rfl) (Reps.one (show Kd.M Kd.string _ _ _ (⟨#[98]⟩ : ByteArray) [.string ⟨#[98]⟩] from rfl) (Reps.one (show Kd.M Kd.string _ _ _ (⟨#[108,111,99,107]⟩ : ByteArray) [.string ⟨#[108,111,99,107]⟩] from rfl) (Reps.none _ _)))));intro v131 w46 ho47 hb hg_ hnew_;clear hg_ hnew_;(first | rw [← Ny130.out] at ho47 | (simp only [Int.reduceToNat] at ho47;rw [← Ny130.out] at ho47));have n0_ := am_ (Kd.R_lower ho47 (keep_size (w := w) (g := g) (row := none) (by repeat (first | (with_reducible first | exact HK.out | apply KeepBut.set_ | apply keep_drewN | apply keep_drew | apply keep_alloc | refine keep_far ?_ GW120.out _) | exact HK.out))));have n1_ := am_ (IsS72.below (by repeat (first | (with_reducible first | exact HI0.out | apply IsS72.alloc | apply IsS72.drewN | apply IsS72.drew | apply IsS72.set_1 | apply IsS72.set_2 | refine IsS72.far ?_ NB0_120.out _) | exact HI0.out)) hb);have n2_ := am_ (blk_below (g := gb120) (o := .cells #[.int .i64 0,.int .i64 0,.int .i64 0,.int .i64 0,.string ⟨#[]⟩] 33 (0,0)) (by (with_reducible repeat (first | apply k1_ | apply k2_ | apply k3_));exact BK120.out) hb);have n3_ := am_ (KeepBut.trans (by repeat (first | (with_reducible first | exact HK.out | apply KeepBut.set_ | apply keep_drewN | apply keep_drew | apply keep_alloc | refine keep_far ?_ GW120.out _) | exact HK.out)) (KeepBut.of_below hb g none) (.inl rfl));have n4_ := am_ (below_step (by repeat (first | (with_reducible first | exact HB.out | apply b1_ | apply b2_ | apply b3_ | refine below_set ?_ (IsS72.ge HI0.out) | refine below_set ?_ GE120.out) | exact HB.out)) hb);clear HI0;clear BK120;clear HK;clear HB;have HO132 := n0_;have HI0 := n1_;have BK120 := n2_;have HK := n3_;have HB := n4_;clear n0_ n1_ n2_ n3_ n4_;clear hb ho47;obtain ⟨Ao48,co48,eo48⟩ := Kd.R_slice HO132.out;subst eo48) | ((with_reducible refine gate_callee (f := 55) rfl ?_);refine goesL_ (some 14) rfl rfl Try.func55 (by kernel_rfl) rfl #[.pointer (some ⟨g,0,none⟩),.slice Ao48 y130.length co48] rfl (by (try simp only [m1_,m2_,m3_]);first | done | rfl | (simp only [d1_,d2_];rfl)) ?_;(with_reducible refine (spec_l00Src_pick.calls g s0_0 t128 t129 _ _ y130 t133 t134 t135 w0 _ ?side1 ?side2 ?side3 ?side4 ?side5 A5.out).mono ?_);(case side1 => repeat (first | (with_reducible first | exact HI0.out | apply IsS72.alloc | apply IsS72.drewN | apply IsS72.drew | apply IsS72.set_1 | apply IsS72.set_2 | refine IsS72.far ?_ NB0_120.out _) | exact HI0.out));(case side2 => repeat (first | (with_reducible first | exact HB.out | apply b1_ | apply b2_ | apply b3_ | refine below_set ?_ (IsS72.ge HI0.out) | refine below_set ?_ GE120.out) | exact HB.out));(case side3 => repeat (first | exact (Kd.R_reads' HO132.out).2.2 | (with_reducible refine Kd.C_alloc ?_ _) | (with_reducible refine Kd.C_drewN ?_ _) | (with_reducible refine Kd.C_drew ?_)));(case side4 => exact (Kd.R_reads' HO132.out).2.1);(case side5 => exact far_slice (IsS72.own_ne HI0.out HO132.out (by decide)));rintro e w49 ⟨rfl,hi,hb,hk⟩;refine ⟨_,rfl,?_⟩;have n0_ := am_ (KeepBut.blk hk (g' := gb120) (o := .cells #[.int .i64 0,.int .i64 0,.int .i64 0,.int .i64 0,.string ⟨#[]⟩] 33 (0,0)) (by (with_reducible repeat (first | apply k1_ | apply k2_ | apply k3_));exact BK120.out) NB120_0.out (by simp));have n1_ := am_ (Kd.R_mono (Kd.R_keep (IsS72.apart (show IsS72 w0 _ g s0_0 t128 t129 from by repeat (first | (with_reducible first | exact HI0.out | apply IsS72.alloc | apply IsS72.drewN | apply IsS72.drew | apply IsS72.set_1 | apply IsS72.set_2 | refine IsS72.far ?_ NB0_120.out _) | exact HI0.out)) (by (with_reducible repeat (first | apply r1_ | apply r2_ | apply r3_));exact HO132.out) (by decide)) hk (fun _ h => h.2)) (fun _ h => h.1));have n2_ := am_ (KeepBut.trans (by repeat (first | (with_reducible first | exact HK.out | apply KeepBut.set_ | apply keep_drewN | apply keep_drew | apply keep_alloc | refine keep_far ?_ GW120.out _) | exact HK.out)) hk (.inl rfl));have n3_ := am_ (hb);have n4_ := am_ (hi);clear BK120;clear HO132;clear HK;clear HB;clear HI0;have BK120 := n0_;have HO132 := n1_;have HK := n2_;have HB := n3_;have HI0 := n4_;clear n0_ n1_ n2_ n3_ n4_;(try clear hb);(try clear hb2);(try clear hk);(try clear hi)) | ((with_reducible refine gate_dst (N := 3) rfl ?_);refine box_event ?hg (N := 3) ?hd (cs := #[.int .i64 0,.int .i64 0,.int .i64 0,.int .i64 0,.string ⟨#[]⟩]) (t := 33) ?hr ?_;(case hd => rfl);(case hg => rfl);(case hr => first | (go_simp;done) | (go_simp;rfl));intro gb136 hg w50 hbox hb;have n0_ := am_ (Kd.R_below (by (with_reducible repeat (first | apply r1_ | apply r2_ | apply r3_));exact HO132.out) hb);have n1_ := am_ (IsS72.below (by repeat (first | (with_reducible first | exact HI0.out | apply IsS72.alloc | apply IsS72.drewN | apply IsS72.drew | apply IsS72.set_1 | apply IsS72.set_2 | refine IsS72.far ?_ NB0_120.out _) | exact HI0.out)) hb);have n2_ := am_ (blk_below (g := gb120) (o := .cells #[.int .i64 0,.int .i64 0,.int .i64 0,.int .i64 0,.string ⟨#[]⟩] 33 (0,0)) (by (with_reducible repeat (first | apply k1_ | apply k2_ | apply k3_));exact BK120.out) hb);have n3_ := am_ (KeepBut.trans (by repeat (first | (with_reducible first | exact HK.out | apply KeepBut.set_ | apply keep_drewN | apply keep_drew | apply keep_alloc | refine keep_far ?_ GW120.out _) | exact HK.out)) (KeepBut.of_below hb g none) (.inl rfl));have n4_ := am_ (below_step (by repeat (first | (with_reducible first | exact HB.out | apply b1_ | apply b2_ | apply b3_ | refine below_set ?_ (IsS72.ge HI0.out) | refine below_set ?_ GE120.out) | exact HB.out)) hb);have n5_ := am_ (hbox);have n6_ := am_ ((by rw [hg];exact (keep_size (w := w) (g := g) (row := none) (by repeat (first | (with_reducible first | exact HK.out | apply KeepBut.set_ | apply keep_drewN | apply keep_drew | apply keep_alloc | refine keep_far ?_ GW120.out _) | exact HK.out))) : w.heap.size ≤ gb136));have n7_ := am_ ((Nat.le_trans HW0.out (by rw [hg];exact (keep_size (w := w) (g := g) (row := none) (by repeat (first | (with_reducible first | exact HK.out | apply KeepBut.set_ | apply keep_drewN | apply keep_drew | apply keep_alloc | refine keep_far ?_ GW120.out _) | exact HK.out))) : w.heap.size ≤ gb136) : w0.heap.size ≤ gb136));have n8_ := am_ ((by rw [hg];exact Nat.ne_of_lt (blk_lt (g := gb120) (o := .cells #[.int .i64 0,.int .i64 0,.int .i64 0,.int .i64 0,.string ⟨#[]⟩] 33 (0,0)) (by (with_reducible repeat (first | apply k1_ | apply k2_ | apply k3_));exact BK120.out)) : gb120 ≠ gb136));have n9_ := am_ ((by rw [hg];exact Nat.ne_of_gt (blk_lt (g := gb120) (o := .cells #[.int .i64 0,.int .i64 0,.int .i64 0,.int .i64 0,.string ⟨#[]⟩] 33 (0,0)) (by (with_reducible repeat (first | apply k1_ | apply k2_ | apply k3_));exact BK120.out)) : gb136 ≠ gb120));have n10_ := am_ ((by rw [hg];exact Nat.ne_of_lt (IsS72.lt (show IsS72 w0 _ g s0_0 t134 t135 from by repeat (first | (with_reducible first | exact HI0.out | apply IsS72.alloc | apply IsS72.drewN | apply IsS72.drew | apply IsS72.set_1 | apply IsS72.set_2 | refine IsS72.far ?_ NB0_120.out _) | exact HI0.out))) : g ≠ gb136));have n11_ := am_ ((by rw [hg];exact Nat.ne_of_gt (IsS72.lt (show IsS72 w0 _ g s0_0 t134 t135 from by repeat (first | (with_reducible first | exact HI0.out | apply IsS72.alloc | apply IsS72.drewN | apply IsS72.drew | apply IsS72.set_1 | apply IsS72.set_2 | refine IsS72.far ?_ NB0_120.out _) | exact HI0.out))) : gb136 ≠ g));clear HO132;clear HI0;clear BK120;clear HK;clear HB;have HO132 := n0_;have HI0 := n1_;have BK120 := n2_;have HK := n3_;have HB := n4_;have BK136 := n5_;have GW136 := n6_;have GE136 := n7_;have NB120_136 := n8_;have NB136_120 := n9_;have NB0_136 := n10_;have NB136_0 := n11_;clear n0_ n1_ n2_ n3_ n4_ n5_ n6_ n7_ n8_ n9_ n10_ n11_;clear hb hbox hg;have hnb51 := NB136_120.out;have hnc51 := NB120_136.out;have hnb52 := NB136_0.out;have hnc52 := NB0_136.out;obtain ⟨hcz53_0,hcz53_1,hcz53_2,hcz53_3,hcz53_4,hfz53_0,hfz53_1,hfz53_2,hfz53_3,hfz53_4⟩ := bc5_ BK136.out;have hnb54 := NB120_0.out;have hnc54 := NB0_120.out;obtain ⟨hcz55_0,hcz55_1,hcz55_2,hcz55_3,hcz55_4,hfz55_0,hfz55_1,hfz55_2,hfz55_3,hfz55_4⟩ := bc5_ BK120.out))
   refine bodyPost_ret (results_cell_row rfl _ _ gb120 33 #[.int .i64 t121,.int .i64 (wrap64 (1 + t124)),.int .i64 (wrap64 (1 + t127)),.int .i64 0,.string t133] (0,0) _ rfl (by (with_reducible repeat (first | apply k1_ | apply k2_ | apply k3_));refine blk_put (cs := #[.int .i64 t121,.int .i64 (wrap64 (1 + t124)),.int .i64 (wrap64 (1 + t127)),.int .i64 0,.string ⟨#[]⟩]) ?_ 4 _ rfl;(with_reducible repeat (first | apply k1_ | apply k2_ | apply k3_));refine blk_put (cs := #[.int .i64 t121,.int .i64 (wrap64 (1 + t124)),.int .i64 (wrap64 (1 + t127)),.int .i64 0,.string ⟨#[]⟩]) ?_ 3 _ rfl;(with_reducible repeat (first | apply k1_ | apply k2_ | apply k3_));refine blk_put (cs := #[.int .i64 t121,.int .i64 (wrap64 (1 + t124)),.int .i64 0,.int .i64 0,.string ⟨#[]⟩]) ?_ 2 _ rfl;(with_reducible repeat (first | apply k1_ | apply k2_ | apply k3_));refine blk_put (cs := #[.int .i64 t121,.int .i64 0,.int .i64 0,.int .i64 0,.string ⟨#[]⟩]) ?_ 1 _ rfl;(with_reducible repeat (first | apply k1_ | apply k2_ | apply k3_));refine blk_put (cs := #[.int .i64 0,.int .i64 0,.int .i64 0,.int .i64 0,.string ⟨#[]⟩]) ?_ 0 _ rfl;(repeat (first | (with_reducible first | apply k1_ | apply k2_ | apply k3_) | refine blk_far ?_ NB120_136.out _));exact BK120.out) Try.underlying33 rfl (by kernel_rfl)) rfl ?_
   exact ⟨by first | rfl | (simp [e1_,e2_] <;> rfl) | (simp [*,e1_,e2_] <;> rfl) | (simp [e3_,e4_];done) | (simp [*,e3_,e4_];done),by repeat (first | (with_reducible first | exact HI0.out | apply IsS72.alloc | apply IsS72.drewN | apply IsS72.drew | apply IsS72.set_1 | apply IsS72.set_2 | refine IsS72.far ?_ NB0_120.out _ | refine IsS72.far ?_ NB0_136.out _) | exact HI0.out),by repeat (first | (with_reducible first | exact HB.out | apply b1_ | apply b2_ | apply b3_ | refine below_set ?_ (IsS72.ge HI0.out) | refine below_set ?_ GE120.out | refine below_set ?_ GE136.out) | exact HB.out),by repeat (first | (with_reducible first | exact HK.out | apply KeepBut.set_ | apply keep_drewN | apply keep_drew | apply keep_alloc | refine keep_far ?_ GW120.out _ | refine keep_far ?_ GW136.out _) | exact HK.out)⟩
end Go.Proofs.Ytdpdbegglkdgnaa.A
end

section
namespace Go.Proofs.Ytdpdbegglkdgnaa.A
open Go.RowKit Go.Proofs.YtdpdbegglkdgnaaW.PrintWords Go.Proofs.YtdpdbegglkdgnaaW.PrintLast Go.Proofs.YtdpdbegglkdgnaaW.PrintMore
/-- Block g holds the words l; they may be written. -/
structure Au (W : World) (g : Nat) (l : List Int) : Prop where
  cell : ∀ j, j < l.length → W.cell? ⟨g, j, none⟩ = some (.int .u32 (l.getD j 0))
  free : ∀ j, j < l.length → W.frozen? ⟨g, j, none⟩ = false
theorem Au.at {W W' : World} {g : Nat} {l : List Int} (h : Au W g l) (e : W'.heap[g]? = W.heap[g]?) : Au W' g l :=
  ⟨fun j hj => (World.cell?_of_block (a := ⟨g, j, none⟩) e).trans (h.cell j hj), fun j hj => (World.frozen?_of_block (a := ⟨g, j, none⟩) e).trans (h.free j hj)⟩
theorem Au.of_row {W : World} {g : Nat} (l : List Int) {e : Nat} (h : W.heap[g]? = some (.cells (l.map (Value.int .u32)).toArray e (0, 0))) : Au W g l := by
  refine ⟨fun j hj => ?_, fun j hj => ?_⟩
  · unfold World.cell?
    rw [h]
    simp [List.getD, List.getElem?_eq_getElem hj]
  · unfold World.frozen?
    rw [h]
    simp
theorem Au.set {W : World} {g : Nat} {l : List Int} (h : Au W g l) (j : Nat) (hj : j < l.length) (x : Int) : Au (W.setCell ⟨g, j, none⟩ (.int .u32 x)) g (l.set j x) := by
  refine ⟨fun i hi => ?_, fun i hi => ?_⟩
  · rw [List.length_set] at hi
    by_cases c : i = j
    · subst c
      rw [World.cell?_setCell_same _ _ _ (h.cell i hi)]
      simp [List.getD, hi]
    · rw [World.cell?_setCell_other _ _ _ _ (by simp <;> omega), h.cell i hi]
      simp [List.getD, List.getElem?_set, Ne.symm c]
  · rw [List.length_set] at hi
    rw [World.frozen?_setCell]
    exact h.free i hi
theorem setCell_old (W : World) (a : Addr) (v : Value) (k : Nat) (hk : k ≠ a.block) : (W.setCell a v).heap[k]? = W.heap[k]? := by
  simp [World.setCell, Array.getElem?_modify, Ne.symm hk]
theorem Au.far {W : World} {g g' : Nat} {l : List Int} (h : Au W g l) (hg : g ≠ g') (j : Nat) (v : Value) : Au (W.setCell ⟨g', j, none⟩ v) g l :=
  h.at (setCell_old W _ v g hg)
theorem Au.drew {W : World} {g : Nat} {l : List Int} (h : Au W g l) : Au W.drew g l := h.at rfl
theorem Au.drewN {W : World} {g : Nat} {l : List Int} (h : Au W g l) (n : Nat) : Au (W.drewN n) g l := h.at rfl
theorem Au.setCells {W : World} {g : Nat} {l : List Int} (h : Au W g l) (l' : List Int) (hl : l'.length = l.length) : Au (W.setCells g 0 (l'.map (Value.int .u32))) g l' := by
  refine ⟨fun j hj => ?_, fun j hj => ?_⟩
  · have := World.cell?_setCells_in g (l'.map (Value.int .u32)) 0 W (fun i hi => by rw [Nat.zero_add, h.cell i (by simpa [hl] using hi)]; rfl) j (by simpa using hj)
    rw [Nat.zero_add] at this
    rw [this]
    simp [List.getD, hj]
  · rw [World.frozen?_setCells]
    exact h.free j (by omega)
/-- What the block's walk keeps: its three arrays behind block n, and what was there. -/
structure Bk (w W : World) (n : Nat) (lh lr lw : List Int) : Prop where
  hh : Au W n lh
  hr : Au W (n + 1) lr
  hw : Au W (n + 2) lw
  below : Below n w W
  size : W.heap.size = n + 3
theorem w64id (x : Int) (h1 : -9223372036854775808 ≤ x) (h2 : x ≤ 9223372036854775807) : IntKind.i64.wrap x = x := by rw [IntKind.wrap_i64]; omega
theorem alloc_at (W : World) (o : Obj) (k : Nat) : (W.alloc o).heap[k]? = if k = W.heap.size then some o else W.heap[k]? := by
  simp [World.alloc, -World.alloc_eq, Array.getElem?_push]
theorem alloc_sz (W : World) (o : Obj) : (W.alloc o).heap.size = W.heap.size + 1 := by simp [World.alloc, -World.alloc_eq]
theorem below_drew_h {w W : World} {n : Nat} (h : Below n w W) : Below n w W.drew := ⟨h.os, h.tape, h.output, h.size, h.block⟩
theorem below_set_h {w W : World} {n g j : Nat} {v : Value} (h : Below n w W) (hg : n ≤ g) : Below n w (W.setCell ⟨g, j, none⟩ v) :=
  ⟨h.os, h.tape, h.output, by simpa [World.setCell] using h.size, fun k hk => (setCell_old W _ v k (by dsimp only; omega)).trans (h.block k hk)⟩
/-- A store into the words. -/
theorem Bk.word {w W : World} {n : Nat} {lh lr lw : List Int} (h : Bk w W n lh lr lw) (j : Nat) (hj : j < lw.length) (x : Int) : Bk w (W.setCell ⟨n + 2, j, none⟩ (.int .u32 x)) n lh lr (lw.set j x) :=
  ⟨h.hh.far (by omega) j _, h.hr.far (by omega) j _, h.hw.set j hj x, below_set_h h.below (by omega), by simpa [World.setCell] using h.size⟩
theorem Bk.drew {w W : World} {n : Nat} {lh lr lw : List Int} (h : Bk w W n lh lr lw) : Bk w W.drew n lh lr lw :=
  ⟨h.hh.drew, h.hr.drew, h.hw.drew, below_drew_h h.below, h.size⟩
theorem Bk.old {w W : World} {n : Nat} {lh lr lw : List Int} (h : Bk w W n lh lr lw) {g j : Nat} {v : Value} (hg : g < n) (hc : w.cell? ⟨g, j, none⟩ = some v) : W.cell? ⟨g, j, none⟩ = some v :=
  (World.cell?_of_block (a := ⟨g, j, none⟩) (h.below.block g hg)).trans hc
theorem Bk.drewN {w W : World} {n : Nat} {lh lr lw : List Int} (h : Bk w W n lh lr lw) (m : Nat) : Bk w (W.drewN m) n lh lr lw :=
  ⟨h.hh.drewN m, h.hr.drewN m, h.hw.drewN m, ⟨h.below.os, h.below.tape, h.below.output, h.below.size, h.below.block⟩, h.size⟩
/-- .. with the eight letters behind them. -/
structure Bk2 (w W : World) (n : Nat) (lh lr lw la : List Int) : Prop where
  hh : Au W n lh
  hr : Au W (n + 1) lr
  hw : Au W (n + 2) lw
  ha : Au W (n + 3) la
  below : Below n w W
theorem Bk2.drewN {w W : World} {n : Nat} {lh lr lw la : List Int} (h : Bk2 w W n lh lr lw la) (m : Nat) : Bk2 w (W.drewN m) n lh lr lw la :=
  ⟨h.hh.drewN m, h.hr.drewN m, h.hw.drewN m, h.ha.drewN m, ⟨h.below.os, h.below.tape, h.below.output, h.below.size, h.below.block⟩⟩
theorem Bk2.drew {w W : World} {n : Nat} {lh lr lw la : List Int} (h : Bk2 w W n lh lr lw la) : Bk2 w W.drew n lh lr lw la :=
  ⟨h.hh.drew, h.hr.drew, h.hw.drew, h.ha.drew, below_drew_h h.below⟩
theorem Bk2.set {w W : World} {n : Nat} {lh lr lw la : List Int} (h : Bk2 w W n lh lr lw la) (j : Nat) (hj : j < la.length) (x : Int) : Bk2 w (W.setCell ⟨n + 3, j, none⟩ (.int .u32 x)) n lh lr lw (la.set j x) :=
  ⟨h.hh.far (by omega) j _, h.hr.far (by omega) j _, h.hw.far (by omega) j _, h.ha.set j hj x, below_set_h h.below (by omega)⟩
theorem Bk2.out {w W : World} {n : Nat} {lh lr lw la : List Int} (h : Bk2 w W n lh lr lw la) (j : Nat) (hj : j < lr.length) (x : Int) : Bk2 w (W.setCell ⟨n + 1, j, none⟩ (.int .u32 x)) n lh (lr.set j x) lw la :=
  ⟨h.hh.far (by omega) j _, h.hr.set j hj x, h.hw.far (by omega) j _, h.ha.far (by omega) j _, below_set_h h.below (by omega)⟩
theorem Bk2.old {w W : World} {n : Nat} {lh lr lw la : List Int} (h : Bk2 w W n lh lr lw la) {g j : Nat} {v : Value} (hg : g < n) (hc : w.cell? ⟨g, j, none⟩ = some v) : W.cell? ⟨g, j, none⟩ = some v :=
  (World.cell?_of_block (a := ⟨g, j, none⟩) (h.below.block g hg)).trans hc
/-- Eight words, cell for cell. -/
theorem Au.eight {W : World} {g : Nat} {a0 a1 a2 a3 a4 a5 a6 a7 : Int} (h : Au W g [a0, a1, a2, a3, a4, a5, a6, a7]) :
    (W.cell? ⟨g, 0, none⟩ = some (.int .u32 a0) ∧ W.cell? ⟨g, 1, none⟩ = some (.int .u32 a1) ∧ W.cell? ⟨g, 2, none⟩ = some (.int .u32 a2) ∧ W.cell? ⟨g, 3, none⟩ = some (.int .u32 a3) ∧ W.cell? ⟨g, 4, none⟩ = some (.int .u32 a4) ∧ W.cell? ⟨g, 5, none⟩ = some (.int .u32 a5) ∧ W.cell? ⟨g, 6, none⟩ = some (.int .u32 a6) ∧ W.cell? ⟨g, 7, none⟩ = some (.int .u32 a7)) ∧
    (W.frozen? ⟨g, 0, none⟩ = false ∧ W.frozen? ⟨g, 1, none⟩ = false ∧ W.frozen? ⟨g, 2, none⟩ = false ∧ W.frozen? ⟨g, 3, none⟩ = false ∧ W.frozen? ⟨g, 4, none⟩ = false ∧ W.frozen? ⟨g, 5, none⟩ = false ∧ W.frozen? ⟨g, 6, none⟩ = false ∧ W.frozen? ⟨g, 7, none⟩ = false) :=
  ⟨⟨h.cell 0 (by simp), h.cell 1 (by simp), h.cell 2 (by simp), h.cell 3 (by simp), h.cell 4 (by simp), h.cell 5 (by simp), h.cell 6 (by simp), h.cell 7 (by simp)⟩,
   ⟨h.free 0 (by simp), h.free 1 (by simp), h.free 2 (by simp), h.free 3 (by simp), h.free 4 (by simp), h.free 5 (by simp), h.free 6 (by simp), h.free 7 (by simp)⟩⟩
theorem eight {l : List Int} (h : l.length = 8) : ∃ a0 a1 a2 a3 a4 a5 a6 a7, l = [a0, a1, a2, a3, a4, a5, a6, a7] := by
  match l, h with
  | [a0, a1, a2, a3, a4, a5, a6, a7], _ => exact ⟨a0, a1, a2, a3, a4, a5, a6, a7, rfl⟩
theorem u32w_h (x : Int) : IntKind.u32.wrap x = x % 4294967296 := by unfold IntKind.wrap; simp [IntKind.bits, IntKind.signed]
/-- What a turn answers. -/
def turnH (x n : Int) : Int := Go.bits .or .u32 (shr .u32 x n) (shl .u32 x (32 - n))
theorem sturn2 (x : Int) : spec_l01Turn.f x 2 = some (turnH x 2) := by
  unfold spec_l01Turn.f
  rw [if_pos (by decide), show IntKind.u64.wrap (32 - 2) = 30 from by kernel_rfl, if_pos (by decide)]
  rfl
theorem sturn6 (x : Int) : spec_l01Turn.f x 6 = some (turnH x 6) := by
  unfold spec_l01Turn.f
  rw [if_pos (by decide), show IntKind.u64.wrap (32 - 6) = 26 from by kernel_rfl, if_pos (by decide)]
  rfl
theorem sturn7 (x : Int) : spec_l01Turn.f x 7 = some (turnH x 7) := by
  unfold spec_l01Turn.f
  rw [if_pos (by decide), show IntKind.u64.wrap (32 - 7) = 25 from by kernel_rfl, if_pos (by decide)]
  rfl
theorem sturn11 (x : Int) : spec_l01Turn.f x 11 = some (turnH x 11) := by
  unfold spec_l01Turn.f
  rw [if_pos (by decide), show IntKind.u64.wrap (32 - 11) = 21 from by kernel_rfl, if_pos (by decide)]
  rfl
theorem sturn13 (x : Int) : spec_l01Turn.f x 13 = some (turnH x 13) := by
  unfold spec_l01Turn.f
  rw [if_pos (by decide), show IntKind.u64.wrap (32 - 13) = 19 from by kernel_rfl, if_pos (by decide)]
  rfl
theorem sturn17 (x : Int) : spec_l01Turn.f x 17 = some (turnH x 17) := by
  unfold spec_l01Turn.f
  rw [if_pos (by decide), show IntKind.u64.wrap (32 - 17) = 15 from by kernel_rfl, if_pos (by decide)]
  rfl
theorem sturn18 (x : Int) : spec_l01Turn.f x 18 = some (turnH x 18) := by
  unfold spec_l01Turn.f
  rw [if_pos (by decide), show IntKind.u64.wrap (32 - 18) = 14 from by kernel_rfl, if_pos (by decide)]
  rfl
theorem sturn19 (x : Int) : spec_l01Turn.f x 19 = some (turnH x 19) := by
  unfold spec_l01Turn.f
  rw [if_pos (by decide), show IntKind.u64.wrap (32 - 19) = 13 from by kernel_rfl, if_pos (by decide)]
  rfl
theorem sturn22 (x : Int) : spec_l01Turn.f x 22 = some (turnH x 22) := by
  unfold spec_l01Turn.f
  rw [if_pos (by decide), show IntKind.u64.wrap (32 - 22) = 10 from by kernel_rfl, if_pos (by decide)]
  rfl
theorem sturn25 (x : Int) : spec_l01Turn.f x 25 = some (turnH x 25) := by
  unfold spec_l01Turn.f
  rw [if_pos (by decide), show IntKind.u64.wrap (32 - 25) = 7 from by kernel_rfl, if_pos (by decide)]
  rfl
set_option maxHeartbeats 8000000 in
set_option maxRecDepth 100000 in
theorem sturn_same (a0 : Int) (a1 : Int) (r : Int) (w : World) (h : spec_l01Turn.f a0 a1 = some r) :
    Calls Try.prog 69 #[.int .u32 a0, .int .u64 a1] w fun e w' => e = .returned (.int .u32 r) ∧ w' = w := by
  have H : (if 0 ≤ a1 then (if 0 ≤ (IntKind.u64.wrap (32 - a1)) then (some (Go.bits .or .u32 (shr .u32 a0 a1) (shl .u32 a0 (IntKind.u64.wrap (32 - a1))))) else (none)) else (none)) = some r := h
  clear h
  by_cases c3 : 0 ≤ a1
  · rw [if_pos c3] at H
    have c3b0 := eq_true c3
    have c3b1 : decide (0 ≤ a1) = true := decide_eq_true c3
    clear c3
    obtain ⟨ji4, hji4⟩ : ∃ j_ : Int, (shr .u32 a0 a1) = j_ := ⟨_, rfl⟩
    replace H : (if 0 ≤ (IntKind.u64.wrap (32 - a1)) then (some (Go.bits .or .u32 (ji4) (shl .u32 a0 (IntKind.u64.wrap (32 - a1))))) else (none)) = some r := by first | (rw [hji4] at H; exact H) | (simp only [hji4] at H ⊢; exact H)
    have hji4_ : (a0 / 2 ^ min a1.toNat 32) = ji4 := hji4
    have hji4z : a1 ≤ 32 → (a0 / 2 ^ a1.toNat) = ji4 := shr_small hji4
    obtain ⟨ji5, hji5⟩ : ∃ j_ : Int, (IntKind.u64.wrap (32 - a1)) = j_ := ⟨_, rfl⟩
    replace H : (if 0 ≤ (ji5) then (some (Go.bits .or .u32 (ji4) (shl .u32 a0 (ji5)))) else (none)) = some r := by first | (rw [hji5] at H; exact H) | (simp only [hji5] at H ⊢; exact H)
    by_cases c6 : 0 ≤ (ji5)
    · rw [if_pos c6] at H
      have c6b0 := eq_true c6
      have c6b1 : decide (0 ≤ (ji5)) = true := decide_eq_true c6
      clear c6
      obtain ⟨ji7, hji7⟩ : ∃ j_ : Int, (shl .u32 a0 (ji5)) = j_ := ⟨_, rfl⟩
      replace H : (some (Go.bits .or .u32 (ji4) (ji7))) = some r := by first | (rw [hji7] at H; exact H) | (simp only [hji7] at H ⊢; exact H)
      have hji7_ : (IntKind.u32.wrap (a0 * 2 ^ min (ji5).toNat 32)) = ji7 := hji7
      have hji7z : (ji5) ≤ 32 → (IntKind.u32.wrap (a0 * 2 ^ (ji5).toNat)) = ji7 := shl_small hji7
      obtain rfl := Option.some.inj H
      go_enter Try.func69, Try.ntmps69
      go_wp2
      go_ret
      exact ⟨by first | rfl | (simp; done) | (simp only [← hji4, ← hji5, ← hji7] <;> (first | rfl | simp)) | (simp [*]; done), rfl⟩
    · rw [if_neg c6] at H
      exact absurd H (by simp)
  · rw [if_neg c3] at H
    exact absurd H (by simp)
theorem stn2 (x : Int) (w : World) : Calls Try.prog 69 #[.int .u32 x, .int .u64 2] w fun e w' => e = .returned (.int .u32 (turnH x 2)) ∧ w' = w := sturn_same x 2 _ w (sturn2 x)
theorem stn6 (x : Int) (w : World) : Calls Try.prog 69 #[.int .u32 x, .int .u64 6] w fun e w' => e = .returned (.int .u32 (turnH x 6)) ∧ w' = w := sturn_same x 6 _ w (sturn6 x)
theorem stn7 (x : Int) (w : World) : Calls Try.prog 69 #[.int .u32 x, .int .u64 7] w fun e w' => e = .returned (.int .u32 (turnH x 7)) ∧ w' = w := sturn_same x 7 _ w (sturn7 x)
theorem stn11 (x : Int) (w : World) : Calls Try.prog 69 #[.int .u32 x, .int .u64 11] w fun e w' => e = .returned (.int .u32 (turnH x 11)) ∧ w' = w := sturn_same x 11 _ w (sturn11 x)
theorem stn13 (x : Int) (w : World) : Calls Try.prog 69 #[.int .u32 x, .int .u64 13] w fun e w' => e = .returned (.int .u32 (turnH x 13)) ∧ w' = w := sturn_same x 13 _ w (sturn13 x)
theorem stn17 (x : Int) (w : World) : Calls Try.prog 69 #[.int .u32 x, .int .u64 17] w fun e w' => e = .returned (.int .u32 (turnH x 17)) ∧ w' = w := sturn_same x 17 _ w (sturn17 x)
theorem stn18 (x : Int) (w : World) : Calls Try.prog 69 #[.int .u32 x, .int .u64 18] w fun e w' => e = .returned (.int .u32 (turnH x 18)) ∧ w' = w := sturn_same x 18 _ w (sturn18 x)
theorem stn19 (x : Int) (w : World) : Calls Try.prog 69 #[.int .u32 x, .int .u64 19] w fun e w' => e = .returned (.int .u32 (turnH x 19)) ∧ w' = w := sturn_same x 19 _ w (sturn19 x)
theorem stn22 (x : Int) (w : World) : Calls Try.prog 69 #[.int .u32 x, .int .u64 22] w fun e w' => e = .returned (.int .u32 (turnH x 22)) ∧ w' = w := sturn_same x 22 _ w (sturn22 x)
theorem stn25 (x : Int) (w : World) : Calls Try.prog 69 #[.int .u32 x, .int .u64 25] w fun e w' => e = .returned (.int .u32 (turnH x 25)) ∧ w' = w := sturn_same x 25 _ w (sturn25 x)
theorem w64n (x : Int) (h1 : -9223372036854775808 ≤ x) (h2 : x ≤ 9223372036854775807) : wrap64 x = x := (i64_w x).symm.trans (w64id x h1 h2)
def word4 (x0 x1 x2 x3 : Int) : Int := Go.bits .or .u32 (Go.bits .or .u32 (Go.bits .or .u32 (IntKind.u32.wrap (IntKind.u32.wrap x0 * 16777216)) (IntKind.u32.wrap (IntKind.u32.wrap x1 * 65536))) (IntKind.u32.wrap (IntKind.u32.wrap x2 * 256))) (IntKind.u32.wrap x3)
theorem step0 (h bs ks ws : List Int) (i : Nat) (r : List Int) (hb : bs.length = 64) (hw : ws.length = 64) (hi : i < 16) (H : spec_l01Block.lv0 h bs ks ws i = some r) :
    spec_l01Block.lv0 h bs ks (ws.set i (word4 (bs.getD (4 * i) 0) (bs.getD (4 * i + 1) 0) (bs.getD (4 * i + 2) 0) (bs.getD (4 * i + 3) 0))) ((i + 1 : Nat) : Int) = some r := by
  have c1 : (i : Int) < 16 := by omega
  have c2 : (0 : Int) ≤ 4 * (i : Int) := by omega
  have c3 : 4 * (i : Int) < (bs.length : Int) := by omega
  have c4 : (0 : Int) ≤ 4 * (i : Int) + 1 := by omega
  have c5 : 4 * (i : Int) + 1 < (bs.length : Int) := by omega
  have c6 : (0 : Int) ≤ 4 * (i : Int) + 2 := by omega
  have c7 : 4 * (i : Int) + 2 < (bs.length : Int) := by omega
  have c8 : (0 : Int) ≤ 4 * (i : Int) + 3 := by omega
  have c9 : 4 * (i : Int) + 3 < (bs.length : Int) := by omega
  have d1 : (0 : Int) ≤ (i : Int) := by omega
  have d2 : (i : Int) < (ws.length : Int) := by omega
  have e0 : (4 * (i : Int)).toNat = 4 * i := by omega
  have e1 : (4 * (i : Int) + 1).toNat = 4 * i + 1 := by omega
  have e2 : (4 * (i : Int) + 2).toNat = 4 * i + 2 := by omega
  have e3 : (4 * (i : Int) + 3).toNat = 4 * i + 3 := by omega
  have w : wrap64 ((i : Int) + 1) = ((i + 1 : Nat) : Int) := by rw [w64n _ (by omega) (by omega)]; omega
  have w0 : wrap64 (4 * (i : Int)) = 4 * (i : Int) := w64n _ (by omega) (by omega)
  have w1 : wrap64 (4 * (i : Int) + 1) = 4 * (i : Int) + 1 := w64n _ (by omega) (by omega)
  have w2 : wrap64 (4 * (i : Int) + 2) = 4 * (i : Int) + 2 := w64n _ (by omega) (by omega)
  have w3 : wrap64 (4 * (i : Int) + 3) = 4 * (i : Int) + 3 := w64n _ (by omega) (by omega)
  rw [spec_l01Block.lv0_eq] at H
  simp only [w, w0, w1, w2, w3, if_pos c1, if_pos c2, if_pos c3, if_pos c4, if_pos c5, if_pos c6, if_pos c7, if_pos c8, if_pos c9, if_pos d1, if_pos d2, rd, e0, e1, e2, e3, Int.toNat_natCast] at H
  simpa only [word4, u32w_h] using H
theorem exit0 (h bs ks ws : List Int) (r : List Int) (i : Int) (hi : ¬ i < 16) (H : spec_l01Block.lv0 h bs ks ws i = some r) : spec_l01Block.lv1 h ks ws ((16 : Nat) : Int) = some r := by
  rw [spec_l01Block.lv0_eq, if_neg hi] at H
  rw [show ((16 : Nat) : Int) = 16 from rfl]
  exact H
def wordX (a b c d : Int) : Int := (a + b + c + d) % 4294967296
def sig (x p q s : Int) : Int := Go.bits .xor .u32 (Go.bits .xor .u32 (turnH x p) (turnH x q)) s
theorem sub_nat (i k : Nat) (h : k ≤ i) : ((i : Int) - (k : Int)).toNat = i - k := by omega
theorem wsub (i k : Nat) (hk : k ≤ i) (hi : i ≤ 64) : wrap64 ((i : Int) - (k : Int)) = (i : Int) - (k : Int) := w64n _ (by omega) (by omega)
theorem wadd (i : Nat) (hi : i ≤ 64) : wrap64 ((i : Int) + 1) = ((i + 1 : Nat) : Int) := by rw [w64n _ (by omega) (by omega)]; omega
theorem step1 (h ks ws : List Int) (i : Nat) (r : List Int) (hw : ws.length = 64) (h16 : 16 ≤ i) (hi : i < 64) (H : spec_l01Block.lv1 h ks ws i = some r) :
    spec_l01Block.lv1 h ks (ws.set i (wordX (ws.getD (i - 16) 0) (sig (ws.getD (i - 15) 0) 7 18 (ws.getD (i - 15) 0 / 8)) (ws.getD (i - 7) 0) (sig (ws.getD (i - 2) 0) 17 19 (ws.getD (i - 2) 0 / 1024)))) ((i + 1 : Nat) : Int) = some r := by
  have g1 : 15 ≤ i := by omega
  have g2 : 2 ≤ i := by omega
  have g3 : 7 ≤ i := by omega
  have g4 : i ≤ 64 := by omega
  have c1 : (i : Int) < 64 := by omega
  have c2 : (0 : Int) ≤ (i : Int) - 15 := by omega
  have c3 : (i : Int) - 15 < (ws.length : Int) := by omega
  have c4 : (0 : Int) ≤ (i : Int) - 2 := by omega
  have c5 : (i : Int) - 2 < (ws.length : Int) := by omega
  have c6 : (0 : Int) ≤ (i : Int) - 16 := by omega
  have c7 : (i : Int) - 16 < (ws.length : Int) := by omega
  have c8 : (0 : Int) ≤ (i : Int) - 7 := by omega
  have c9 : (i : Int) - 7 < (ws.length : Int) := by omega
  have d1 : (0 : Int) ≤ (i : Int) := by omega
  have d2 : (i : Int) < (ws.length : Int) := by omega
  have e0 : ((i : Int) - 15).toNat = i - 15 := sub_nat i 15 g1
  have e1 : ((i : Int) - 2).toNat = i - 2 := sub_nat i 2 g2
  have e2 : ((i : Int) - 16).toNat = i - 16 := sub_nat i 16 h16
  have e3 : ((i : Int) - 7).toNat = i - 7 := sub_nat i 7 g3
  have w : wrap64 ((i : Int) + 1) = ((i + 1 : Nat) : Int) := wadd i g4
  have w1 : wrap64 ((i : Int) - 15) = (i : Int) - 15 := wsub i 15 g1 g4
  have w2 : wrap64 ((i : Int) - 2) = (i : Int) - 2 := wsub i 2 g2 g4
  have w3 : wrap64 ((i : Int) - 16) = (i : Int) - 16 := wsub i 16 h16 g4
  have w4 : wrap64 ((i : Int) - 7) = (i : Int) - 7 := wsub i 7 g3 g4
  rw [spec_l01Block.lv1_eq] at H
  simp only [w, w1, w2, w3, w4, if_pos c1, if_pos c2, if_pos c3, if_pos c4, if_pos c5, if_pos c6, if_pos c7, if_pos c8, if_pos c9, if_pos d1, if_pos d2, spec_l01Turn.v, sturn7, sturn18, sturn17, sturn19, Option.bind_some, rd, e0, e1, e2, e3, Int.toNat_natCast] at H
  simpa only [wordX, sig, u32w_h, Int.emod_add_emod] using H
theorem exit1 (h ks ws : List Int) (r : List Int) (hh : h.length = 8) (i : Int) (hi : ¬ i < 64) (H : spec_l01Block.lv1 h ks ws i = some r) : spec_l01Block.lv2 h ks ws h ((0 : Nat) : Int) = some r := by
  rw [spec_l01Block.lv1_eq, if_neg hi, Option.bind_some, if_pos (by simp; omega), List.nil_append] at H
  rw [show ((0 : Nat) : Int) = 0 from rfl]
  exact H
theorem ch_bv (n : Nat) (o e f g : BitVec n) (ho : o = BitVec.allOnes n) : (e &&& f) ^^^ ((o ^^^ e) &&& g) = (e &&& f) ||| ((o ^^^ e) &&& g) := by
  subst ho
  apply BitVec.eq_of_getLsbD_eq
  intro j hj
  simp only [BitVec.getLsbD_xor, BitVec.getLsbD_and, BitVec.getLsbD_or, BitVec.getLsbD_allOnes, hj, decide_true]
  cases e.getLsbD j <;> cases f.getLsbD j <;> cases g.getLsbD j <;> rfl
theorem bits_of (b : BitVec IntKind.u32.bits) : BitVec.ofInt IntKind.u32.bits (IntKind.u32.wrap (b.toNat : Int)) = b := by
  have := b.isLt
  rw [show (2 ^ IntKind.u32.bits : Nat) = 4294967296 from rfl] at this
  rw [u32w_h, Int.emod_eq_of_lt (by omega) (by omega)]
  simp
theorem and_back (x y : Int) : BitVec.ofInt IntKind.u32.bits (Go.bits .and .u32 x y) = BitVec.ofInt IntKind.u32.bits x &&& BitVec.ofInt IntKind.u32.bits y := bits_of _
theorem xor_back (x y : Int) : BitVec.ofInt IntKind.u32.bits (Go.bits .xor .u32 x y) = BitVec.ofInt IntKind.u32.bits x ^^^ BitVec.ofInt IntKind.u32.bits y := bits_of _
theorem ch_eq (e f g : Int) : Go.bits .xor .u32 (Go.bits .and .u32 e f) (Go.bits .and .u32 (Go.bits .xor .u32 4294967295 e) g) = Go.bits .or .u32 (Go.bits .and .u32 e f) (Go.bits .and .u32 (Go.bits .xor .u32 4294967295 e) g) := by
  have h : ∀ x y : Int, BitVec.ofInt IntKind.u32.bits x ^^^ BitVec.ofInt IntKind.u32.bits y = BitVec.ofInt IntKind.u32.bits x ||| BitVec.ofInt IntKind.u32.bits y → Go.bits .xor .u32 x y = Go.bits .or .u32 x y := by
    intro x y h
    show IntKind.u32.wrap ((BitVec.ofInt IntKind.u32.bits x ^^^ BitVec.ofInt IntKind.u32.bits y).toNat : Int) = IntKind.u32.wrap ((BitVec.ofInt IntKind.u32.bits x ||| BitVec.ofInt IntKind.u32.bits y).toNat : Int)
    rw [h]
  apply h
  rw [and_back, and_back, xor_back]
  exact ch_bv _ _ _ _ _ (by decide)
def pF (a7 e f g k x : Int) : Int := (a7 + sig e 6 11 (turnH e 25) + Go.bits .or .u32 (Go.bits .and .u32 e f) (Go.bits .and .u32 (Go.bits .xor .u32 4294967295 e) g) + k + x)
def qF (a b c : Int) : Int := (sig a 2 13 (turnH a 22) + Go.bits .xor .u32 (Go.bits .xor .u32 (Go.bits .and .u32 a b) (Go.bits .and .u32 a c)) (Go.bits .and .u32 b c))
theorem step2 (h ks ws : List Int) (a0 a1 a2 a3 a4 a5 a6 a7 : Int) (i : Nat) (r : List Int) (hw : ws.length = 64) (hk : ks.length = 64) (hi : i < 64) (H : spec_l01Block.lv2 h ks ws [a0, a1, a2, a3, a4, a5, a6, a7] i = some r) :
    spec_l01Block.lv2 h ks ws [(pF a7 a4 a5 a6 (ks.getD i 0) (ws.getD i 0) + qF a0 a1 a2) % 4294967296, a0, a1, a2, (a3 + pF a7 a4 a5 a6 (ks.getD i 0) (ws.getD i 0)) % 4294967296, a4, a5, a6] ((i + 1 : Nat) : Int) = some r := by
  have c1 : (i : Int) < 64 := by omega
  have c7 : (0 : Int) ≤ (i : Int) := by omega
  have c8 : (i : Int) < (ks.length : Int) := by omega
  have c9 : (i : Int) < (ws.length : Int) := by omega
  have w : wrap64 ((i : Int) + 1) = ((i + 1 : Nat) : Int) := wadd i (by omega)
  have l : ([a0, a1, a2, a3, a4, a5, a6, a7] : List Int).length = 8 := rfl
  rw [spec_l01Block.lv2_eq] at H
  have k0 : (4 : Int) < ((8 : Nat) : Int) := by decide
  have k1 : (0 : Int) < ((8 : Nat) : Int) := by decide
  have k2 : (7 : Int) < ((8 : Nat) : Int) := by decide
  have k3 : (5 : Int) < ((8 : Nat) : Int) := by decide
  have k4 : (6 : Int) < ((8 : Nat) : Int) := by decide
  have k5 : (1 : Int) < ((8 : Nat) : Int) := by decide
  have k6 : (2 : Int) < ((8 : Nat) : Int) := by decide
  have k7 : (3 : Int) < ((8 : Nat) : Int) := by decide
  have r0 : rd [a0, a1, a2, a3, a4, a5, a6, a7] 0 = a0 := rfl
  have r1 : rd [a0, a1, a2, a3, a4, a5, a6, a7] 1 = a1 := rfl
  have r2 : rd [a0, a1, a2, a3, a4, a5, a6, a7] 2 = a2 := rfl
  have r3 : rd [a0, a1, a2, a3, a4, a5, a6, a7] 3 = a3 := rfl
  have r4 : rd [a0, a1, a2, a3, a4, a5, a6, a7] 4 = a4 := rfl
  have r5 : rd [a0, a1, a2, a3, a4, a5, a6, a7] 5 = a5 := rfl
  have r6 : rd [a0, a1, a2, a3, a4, a5, a6, a7] 6 = a6 := rfl
  have r7 : rd [a0, a1, a2, a3, a4, a5, a6, a7] 7 = a7 := rfl
  have rk : rd ks (i : Int) = ks.getD i 0 := by simp [rd]
  have rw_ : rd ws (i : Int) = ws.getD i 0 := by simp [rd]
  simp only [l, w, r0, r1, r2, r3, r4, r5, r6, r7, rk, rw_, if_pos c1, if_pos c7, if_pos c8, if_pos c9, if_pos k0, if_pos k1, if_pos k2, if_pos k3, if_pos k4, if_pos k5, if_pos k6, if_pos k7, spec_l01Turn.v, sturn6, sturn11, sturn25, sturn2, sturn13, sturn22, Option.bind_some, ch_eq] at H
  simpa only [pF, qF, sig, u32w_h, Int.emod_add_emod, Int.add_emod_emod] using H
theorem u32max_h : IntKind.u32.max = 4294967295 := by decide
def pW (a7 e f g k x : Int) : Int := IntKind.u32.wrap (IntKind.u32.wrap (IntKind.u32.wrap (IntKind.u32.wrap (a7 + sig e 6 11 (turnH e 25)) + Go.bits .or .u32 (Go.bits .and .u32 e f) (Go.bits .and .u32 (Go.bits .xor .u32 IntKind.u32.max e) g)) + k) + x)
def qW (a b c : Int) : Int := IntKind.u32.wrap (sig a 2 13 (turnH a 22) + Go.bits .xor .u32 (Go.bits .xor .u32 (Go.bits .and .u32 a b) (Go.bits .and .u32 a c)) (Go.bits .and .u32 b c))
theorem step2w (h ks ws : List Int) (a0 a1 a2 a3 a4 a5 a6 a7 : Int) (i : Nat) (r : List Int) (hw : ws.length = 64) (hk : ks.length = 64) (hi : i < 64) (xk xw xp xq : Int) (hxk : ks.getD i 0 = xk) (hxw : ws.getD i 0 = xw) (hp : pW a7 a4 a5 a6 xk xw = xp) (hq : qW a0 a1 a2 = xq) (H : spec_l01Block.lv2 h ks ws [a0, a1, a2, a3, a4, a5, a6, a7] i = some r) :
    spec_l01Block.lv2 h ks ws [(xp + xq) % 4294967296, a0, a1, a2, (a3 + xp) % 4294967296, a4, a5, a6] ((i + 1 : Nat) : Int) = some r := by
  have := step2 h ks ws a0 a1 a2 a3 a4 a5 a6 a7 i r hw hk hi H
  rw [hxk, hxw] at this
  rw [← this, ← hp, ← hq]
  simp only [pW, qW, pF, qF, u32w_h, u32max_h, Int.emod_add_emod, Int.add_emod_emod]
def pX (a7 e f g k x : Int) : Int := IntKind.u32.wrap (IntKind.u32.wrap (IntKind.u32.wrap (IntKind.u32.wrap (a7 + sig e 6 11 (turnH e 25)) + Go.bits .xor .u32 (Go.bits .and .u32 e f) (Go.bits .and .u32 (Go.bits .xor .u32 IntKind.u32.max e) g)) + k) + x)
theorem pX_eq (a7 e f g k x : Int) : pX a7 e f g k x = pW a7 e f g k x := by
  unfold pX pW
  rw [u32max_h, ch_eq]
theorem exit2 (h ks ws v : List Int) (r : List Int) (i : Int) (hi : ¬ i < 64) (H : spec_l01Block.lv2 h ks ws v i = some r) : spec_l01Block.lv3 h v ((0 : Nat) : Int) = some r := by
  rw [spec_l01Block.lv2_eq, if_neg hi] at H
  rw [show ((0 : Nat) : Int) = 0 from rfl]
  exact H
theorem step3 (h v : List Int) (i : Nat) (r : List Int) (hh : h.length = 8) (hv : v.length = 8) (hi : i < 8) (H : spec_l01Block.lv3 h v i = some r) :
    spec_l01Block.lv3 (h.set i (IntKind.u32.wrap (h.getD i 0 + v.getD i 0))) v ((i + 1 : Nat) : Int) = some r := by
  have g0 : (i : Int) < 8 := by omega
  have g1 : (0 : Int) ≤ i := by omega
  have g2 : (i : Int) < (h.length : Int) := by omega
  have g3 : (i : Int) < (v.length : Int) := by omega
  have w : wrap64 ((i : Int) + 1) = ((i + 1 : Nat) : Int) := wadd i (by omega)
  have r0 : rd h (i : Int) = h.getD i 0 := by simp [rd]
  have r1 : rd v (i : Int) = v.getD i 0 := by simp [rd]
  rw [spec_l01Block.lv3_eq, w, if_pos g0, if_pos g1, if_pos g2, if_pos g3, r0, r1] at H
  simpa only [u32w_h, Int.toNat_natCast] using H
theorem exit3 (h v : List Int) (r : List Int) (i : Int) (hi : ¬ i < 8) (H : spec_l01Block.lv3 h v i = some r) : h = r := by
  rw [spec_l01Block.lv3_eq, if_neg hi] at H
  exact Option.some.inj H
theorem start0 (h bs ks : List Int) (r : List Int) (H : spec_l01Block.v h bs ks = some r) : spec_l01Block.lv0 h bs ks (List.replicate 64 0) ((0 : Nat) : Int) = some r := by
  rw [spec_l01Block.v_eq] at H
  split at H
  · rw [if_pos (by omega)] at H
    rw [show ((0 : Nat) : Int) = 0 from rfl]
    exact H
  · cases H
theorem Au.of_R {W : World} {base g n cap e : Nat} {ok : Nat → Prop} {xs : List Int} (h : Kd.R (Kd.int .u32) e W base ok (.slice (some ⟨g, 0, none⟩) n cap) xs) : Au W g xs := by
  have hn := (Kd.R_reads' h).1
  refine ⟨fun j hj => ?_, fun j hj => ?_⟩
  · have := (Kd.R_celln 0 h (j : Int) (by omega) (by omega)).1
    simpa [rdOf] using this
  · have := (Kd.R_celln 0 h (j : Int) (by omega) (by omega)).2
    simpa using this
theorem C_cells {k : IntKind} {W : World} {A : Option Addr} {n : Nat} {xs : List Int} (h : Kd.C (Kd.int k) W A n xs) (hn : 0 < n) : ∃ ad, A = some ad ∧ ∀ j, j < n → W.cell? (ad.add j) = some (.int k (xs.getD j 0)) := by
  obtain ⟨ad, e, c⟩ := Kd.at_int h 0 (by decide) (by omega)
  refine ⟨ad, e, fun j hj => ?_⟩
  obtain ⟨ad2, e2, c2⟩ := Kd.at_int h (j : Int) (by omega) (by omega)
  obtain rfl : ad = ad2 := Option.some.inj (e.symm.trans e2)
  simpa [rd] using c2
structure Sk (w W : World) (n gw : Nat) (lw : List Int) : Prop where
  hw : Au W gw lw
  mine : n ≤ gw
  lt : gw < W.heap.size
  below : Below n w W
theorem Sk.drew {w W : World} {n gw : Nat} {lw : List Int} (h : Sk w W n gw lw) : Sk w W.drew n gw lw := ⟨h.hw.drew, h.mine, h.lt, below_drew_h h.below⟩
theorem Sk.word {w W : World} {n gw : Nat} {lw : List Int} (h : Sk w W n gw lw) (j : Nat) (hj : j < lw.length) (x : Int) : Sk w (W.setCell ⟨gw, j, none⟩ (.int .u32 x)) n gw (lw.set j x) :=
  ⟨h.hw.set j hj x, h.mine, by simpa [World.setCell] using h.lt, below_set_h h.below h.mine⟩
structure Sv (w W : World) (n gw gv : Nat) (lw la : List Int) : Prop where
  hw : Au W gw lw
  ha : Au W gv la
  mw : n ≤ gw
  mv : n ≤ gv
  tw : gw < W.heap.size
  tv : gv < W.heap.size
  below : Below n w W
theorem Sv.drew {w W : World} {n gw gv : Nat} {lw la : List Int} (h : Sv w W n gw gv lw la) : Sv w W.drew n gw gv lw la := ⟨h.hw.drew, h.ha.drew, h.mw, h.mv, h.tw, h.tv, below_drew_h h.below⟩
theorem Sv.lit {w W : World} {n gw gv : Nat} {lw la : List Int} (h : Sv w W n gw gv lw la) (l : List Int) (t : Nat) : Sv w (W.alloc (.cells (l.map (Value.int .u32)).toArray t)) n gw W.heap.size lw l := by
  have h1 := h.tw
  have h2 := h.mw
  have hs := alloc_sz W (.cells (l.map (Value.int .u32)).toArray t)
  have e : ∀ k, k < W.heap.size → (W.alloc (.cells (l.map (Value.int .u32)).toArray t)).heap[k]? = W.heap[k]? := fun k hk => by rw [alloc_at, if_neg (by omega)]
  refine ⟨h.hw.at (e _ h.tw), Au.of_row (e := t) _ ?_, h.mw, by omega, by omega, by omega, ⟨h.below.os, h.below.tape, h.below.output, by have := h.below.size; omega, fun k hk => (e k (by omega)).trans (h.below.block k hk)⟩⟩
  rw [alloc_at, if_pos rfl]
/-- The copy of the eight words. -/
theorem append8 {P : Program} {ops : Array Oper} {rest : List Oper} {o : Oper} {a : Act} {Q : Exit → Act → World → Prop} {w W : World} {n gw g g0 c0 : Nat} {lw l0 : List Int} (t e : TypeId) (hgd : o.guard = none) (s x : Operand)
    (ho : o.op = .call { callee := .builtin .append, args := #[s, x], argTypes := #[t, t] }) (ht : P.underlying t = some (.slice e)) (hinfo : (P.info? e).map (fun i => (i.zero, i.size, i.bytes)) = some (some (.int .u32 0), 1, 4))
    (hs : a.eval s = .slice (some ⟨g, 0, none⟩) 0 0) (hx : a.eval x = .slice (some ⟨g0, 0, none⟩) 8 c0) (hl0 : l0.length = 8) (hc : Au W g0 l0) (F : Sk w W n gw lw)
    (h : ∀ gv cv w1, Sv w w1 n gw gv lw l0 → wpList P ops Q rest (a.put o.dst (.slice (some ⟨gv, 0, none⟩) 8 cv)) w1) : wpList P ops Q (o :: rest) a W := by
  obtain ⟨i, hi, hzz⟩ := Option.map_eq_some_iff.1 hinfo
  simp only [Prod.mk.injEq] at hzz
  obtain ⟨hz, hs1, hb1⟩ := hzz
  have hnl : (l0.map (Value.int .u32)).length = 8 := by simp [hl0]
  have h48' : ¬ (281474976710656 < Builtin.nextslicecap 8 0 * i.bytes) := by rw [hb1]; decide
  have hf0 := run_firstCells_some (P := P) W.drew 1 0 ⟨g, 0, none⟩ 0 0 [] rfl (fun j v hj => by simp at hj)
  have hf8 := run_firstCells_some (P := P) W.drew 1 8 ⟨g0, 0, none⟩ 8 c0 (l0.map (Value.int .u32)) (by simp [hl0]) (fun j v hj => by
    rw [add_plain]
    have hjl : j < l0.length := by
      have := (List.getElem?_eq_some_iff.1 hj).1
      omega
    have := hc.cell j hjl
    simp only [List.getElem?_map, List.getElem?_eq_getElem hjl, Option.map_some, Option.some.injEq] at hj
    subst hj
    simpa [List.getD, hjl] using this)
  have hzc : (Value.int .u32 0).cells = #[.int .u32 0] := rfl
  have hr : (Builtin.append_ #[t, t] o.type #[.slice (some ⟨g, 0, none⟩) 0 0, .slice (some ⟨g0, 0, none⟩) 8 c0]).run P W = .ok (.slice (some ⟨W.heap.size, 0, none⟩) 8 (grownCap W 8 0 e))
      (W.drew.alloc (.cells ((l0.map (Value.int .u32)).toArray ++ Builtin.zeroCells #[.int .u32 0] (grownCap W 8 0 e - 8)) e)) := by
    rw [← hs1] at hf0 hf8
    simp [Builtin.append_, run_underlying ht, sizeOf, typeInfo, zeroValue, hi, hz, Builtin.lenOf, h48', Question.forced, hf0, hf8, newRow, grownCap, hzc]
  refine wpList_plain hgd fun K hK => ?_
  unfold Oper.wp execOp
  simp only [ho, resolve, invoke, builtin, Sem.run_bind, Sem.run_pure, Result.andThen_ok, List.map_toArray, List.map_cons, List.map_nil, hs, hx, hr]
  refine hK _ _ (h _ _ _ ?_)
  have h1 := F.lt
  have h2 := F.mine
  have hsz : (W.drew.alloc (.cells ((l0.map (Value.int .u32)).toArray ++ Builtin.zeroCells #[.int .u32 0] (grownCap W 8 0 e - 8)) e)).heap.size = W.heap.size + 1 := alloc_sz _ _
  have e2 : ∀ k, k < W.heap.size → (W.drew.alloc (.cells ((l0.map (Value.int .u32)).toArray ++ Builtin.zeroCells #[.int .u32 0] (grownCap W 8 0 e - 8)) e)).heap[k]? = W.heap[k]? := fun k hk => by
    rw [alloc_at, if_neg (by show ¬ k = W.heap.size; omega)]
    rfl
  have e3 : (W.drew.alloc (.cells ((l0.map (Value.int .u32)).toArray ++ Builtin.zeroCells #[.int .u32 0] (grownCap W 8 0 e - 8)) e)).heap[W.heap.size]? = some (.cells ((l0.map (Value.int .u32)).toArray ++ Builtin.zeroCells #[.int .u32 0] (grownCap W 8 0 e - 8)) e) := by
    rw [alloc_at, if_pos (by rfl)]
  refine ⟨F.hw.at (e2 _ F.lt), ⟨fun j hj => ?_, fun j hj => ?_⟩, F.mine, by omega, by omega, by omega, ⟨F.below.os, F.below.tape, F.below.output, by rw [hsz]; have := F.below.size; omega, fun k hk => (e2 k (by omega)).trans (F.below.block k hk)⟩⟩
  · unfold World.cell?
    rw [e3]
    have hj2 : j < (l0.map (Value.int .u32)).toArray.size := by simpa using hj
    simp only [Option.isSome_none, Bool.false_eq_true, if_false]
    rw [Array.getElem?_append_left hj2]
    simp [List.getD, hj]
  · unfold World.frozen?
    rw [e3]
    simp
/-- The last loop: the state that came in is written. -/
structure St (w0 w W : World) (S : Nat → Prop) (g0 c0 gv : Nat) (lh la : List Int) : Prop where
  hr : Kd.R (Kd.int .u32) 88 W w0.heap.size S (.slice (some ⟨g0, 0, none⟩) 8 c0) lh
  ha : Au W gv la
  ne : gv ≠ g0
  below : Below w0.heap.size w0 W
  kept : Kept w W S
theorem St.drew {w0 w W : World} {S : Nat → Prop} {g0 c0 gv : Nat} {lh la : List Int} (h : St w0 w W S g0 c0 gv lh la) : St w0 w W.drew S g0 c0 gv lh la :=
  ⟨Kd.R_drew h.hr, h.ha.drew, h.ne, below_drew_h h.below, h.kept.drew⟩
theorem St.set {w0 w W : World} {S : Nat → Prop} {g0 c0 gv : Nat} {lh la : List Int} (h : St w0 w W S g0 c0 gv lh la) (j : Nat) (x : Int) : St w0 w (W.setCell ⟨g0, j, none⟩ (.int .u32 x)) S g0 c0 gv (lh.set j x) la := by
  have hp := Kd.R_putn h.hr (j : Int) x
  rw [Int.toNat_natCast] at hp
  exact ⟨hp, h.ha.far h.ne j _, h.ne, below_set_h h.below (Kd.R_base h.hr _ rfl), h.kept.setCell (p := ⟨g0, j, none⟩) (.inl (h.hr.1 _ rfl)) _⟩
set_option maxHeartbeats 4000000 in
set_option maxRecDepth 100000 in
theorem sblock_walk (S : Nat → Prop) (g0 c0 : Nat) (l0 l1 l2 r : List Int) (ad1 ad2 : Addr) (c1 c2 : Nat) (w0 w : World) (hB : Below w0.heap.size w0 w) (ho0 : Kd.R (Kd.int .u32) 88 w w0.heap.size S (.slice (some ⟨g0, 0, none⟩) 8 c0) l0)
    (hr1 : ∀ W, Kept w W S → ∀ j, j < 64 → W.cell? (ad1.add j) = some (.int .u8 (l1.getD j 0))) (hr2 : ∀ W, Kept w W S → ∀ j, j < 64 → W.cell? (ad2.add j) = some (.int .u32 (l2.getD j 0)))
    (h0 : l0.length = 8) (h1 : l1.length = 64) (h2 : l2.length = 64) (hc1 : 64 ≤ c1) (hc2 : 64 ≤ c2) (H : spec_l01Block.v l0 l1 l2 = some r) :
    Calls Try.prog 66 #[.slice (some ⟨g0, 0, none⟩) 8 c0, .slice (some ad1) 64 c1, .slice (some ad2) 64 c2] w fun e w' => e = .returned (.tuple #[]) ∧ Kd.R (Kd.int .u32) 88 w' w0.heap.size S (.slice (some ⟨g0, 0, none⟩) 8 c0) r ∧ Below w0.heap.size w0 w' ∧ Kept w w' S := by
  have H0 := Aside0.mk (start0 _ _ _ _ H)
  have HR1 := Aside0.mk hr1
  have HR2 := Aside0.mk hr2
  have HO := Aside0.mk ho0
  have HB := Aside0.mk hB
  have HL := Aside0.mk (And.intro h0 (And.intro h1 h2))
  clear H hr1 hr2 ho0 hB h0 h1 h2
  go_enter Try.func66, Try.ntmps66
  go_wp2_with (first | ((with_reducible refine gate_dst (N := 18) rfl ?_); refine Kd.R_make (Kd.int .u32) _ 88 rfl (N := 18) rfl 89 _ _ rfl 64 rfl rfl Try.underlying89 (.int .u32 0) 4 info88 rfl (by decide) (by omega) 0 (ok := fun _ => True) (okp := fun _ => True) rfl (fun _ hk => hk) trivial (by omega) (by omega) (Below.refl _ _) (Nat.le_refl _) ?_; intro v1 w1 ho hb hg_ hnew_; clear hg_ hnew_; simp only [Int.reduceToNat] at ho; obtain ⟨gw, cw, rfl, hbase, hlt, -⟩ := Kd.R_form ho (by simp); rw [List.length_replicate] at ho ⊢; have hcw := (Kd.R_reads' ho).2.1; have F := Aside0.mk (Sk.mk (Au.of_R ho) hbase hlt hb); clear ho hb hbase hlt))
  obtain ⟨hl0, hl1, hl2⟩ := HL.out
  go_loopg [7] 16 (fun gg v7 wr => ∃ (i : Nat) (ws : List Int), i ≤ 16 ∧ gg + i = 16 ∧ v7 = .int .i64 (i : Int) ∧ ws.length = 64 ∧ Aside0 (spec_l01Block.lv0 l0 l1 l2 ws (i : Int) = some r) ∧ Aside0 (Sk w wr w.heap.size gw ws))
  case atStart => exact ⟨0, _, by omega, rfl, rfl, List.length_replicate, H0, F⟩
  case round =>
    clear F H0
    obtain ⟨i, ws, hi, hg, rfl, hws, H0, F⟩ := hrel
    by_cases hlt : i < 16
    · have c1 : ((i : Int) < 16) := by omega
      have hk := Kept.of_below F.out.below S
      obtain ⟨q0, hq0⟩ : ∃ q, q = 4 * i := ⟨_, rfl⟩
      obtain ⟨q1, hq1⟩ : ∃ q, q = 4 * i + 1 := ⟨_, rfl⟩
      obtain ⟨q2, hq2⟩ : ∃ q, q = 4 * i + 2 := ⟨_, rfl⟩
      obtain ⟨q3, hq3⟩ : ∃ q, q = 4 * i + 3 := ⟨_, rfl⟩
      have w0 : IntKind.i64.wrap (4 * (i : Int)) = (q0 : Int) := (w64id _ (by omega) (by omega)).trans (by omega)
      have w1 : IntKind.i64.wrap ((q0 : Int) + 1) = (q1 : Int) := by clear w0; exact (w64id _ (by omega) (by omega)).trans (by omega)
      have w2 : IntKind.i64.wrap ((q0 : Int) + 2) = (q2 : Int) := by clear w0 w1; exact (w64id _ (by omega) (by omega)).trans (by omega)
      have w3 : IntKind.i64.wrap ((q0 : Int) + 3) = (q3 : Int) := by clear w0 w1 w2; exact (w64id _ (by omega) (by omega)).trans (by omega)
      have b0 := HR1.out wr hk q0 (by clear w0 w1 w2 w3; omega)
      have b1 := HR1.out wr hk q1 (by clear w0 w1 w2 w3; omega)
      have b2 := HR1.out wr hk q2 (by clear w0 w1 w2 w3; omega)
      have b3 := HR1.out wr hk q3 (by clear w0 w1 w2 w3; omega)
      have e0 : (q0 : Int) < 64 := by clear w0 w1 w2 w3; omega
      have e1 : (q1 : Int) < 64 := by clear w0 w1 w2 w3; omega
      have e2 : (q2 : Int) < 64 := by clear w0 w1 w2 w3; omega
      have e3 : (q3 : Int) < 64 := by clear w0 w1 w2 w3; omega
      have ei : (i : Int) < 64 := by clear w0 w1 w2 w3; omega
      have g4 : i < ws.length := by clear w0 w1 w2 w3; omega
      have z0 := F.out.hw.cell i g4
      have z1 := F.out.hw.free i g4
      have H1 := Aside0.mk (step0 _ _ _ _ _ _ hl1 hws hlt H0.out)
      rw [← hq1, ← hq2, ← hq3, ← hq0] at H1
      generalize hx0 : l1.getD q0 0 = x0 at b0 H1
      generalize hx1 : l1.getD q1 0 = x1 at b1 H1
      generalize hx2 : l1.getD q2 0 = x2 at b2 H1
      generalize hx3 : l1.getD q3 0 = x3 at b3 H1
      generalize ws.getD i 0 = xi at z0
      clear hq0 hq1 hq2 hq3 hx0 hx1 hx2 hx3 hk H0
      go_wp2
      go_still_tail 36, (by kernel_rfl)
      change wpList _ _ _ _ _ wr.drew
      have z2 : wr.drew.cell? ⟨gw, i, none⟩ = some (.int .u32 xi) := z0
      have z3 : wr.drew.frozen? ⟨gw, i, none⟩ = false := z1
      have F2 := Aside0.mk (F.out.drew.word i g4 (word4 x0 x1 x2 x3))
      generalize wr.drew = w4 at z2 z3 F2 ⊢
      clear z0 z1 b0 b1 b2 b3 F
      go_wp2
      go_roundg (16 - (i + 1))
      case measure => omega
      case rel => exact ⟨i + 1, _, by omega, by omega, by go_num, by rw [List.length_set]; exact hws, H1, F2⟩
    · have hlt2 : ¬ ((i : Int) < 16) := by omega
      have H1 := Aside0.mk (exit0 _ _ _ _ _ _ hlt2 H0.out)
      clear H0
      go_wp2
      go_loopg [8] 48 (fun gg v8 wr => ∃ (i : Nat) (ws : List Int), i ≤ 64 ∧ 16 ≤ i ∧ gg + i = 64 ∧ v8 = .int .i64 (i : Int) ∧ ws.length = 64 ∧ Aside0 (spec_l01Block.lv1 l0 l2 ws (i : Int) = some r) ∧ Aside0 (Sk w wr w.heap.size gw ws))
      case atStart => exact ⟨16, ws, by omega, by omega, rfl, rfl, hws, H1, F⟩
      case round =>
        clear F H1 hlt2 hlt hi hws
        obtain ⟨i, ws, hi, h16, hg, rfl, hws, H0, F⟩ := hrel
        by_cases hlt : i < 64
        · have c1 : ((i : Int) < 64) := by omega
          obtain ⟨q0, hq0⟩ : ∃ q, q = i - 16 := ⟨_, rfl⟩
          obtain ⟨q1, hq1⟩ : ∃ q, q = i - 15 := ⟨_, rfl⟩
          obtain ⟨q2, hq2⟩ : ∃ q, q = i - 7 := ⟨_, rfl⟩
          obtain ⟨q3, hq3⟩ : ∃ q, q = i - 2 := ⟨_, rfl⟩
          have w0 : IntKind.i64.wrap ((i : Int) - 16) = (q0 : Int) := (w64id _ (by omega) (by omega)).trans (by omega)
          have w1 : IntKind.i64.wrap ((i : Int) - 15) = (q1 : Int) := by clear w0; exact (w64id _ (by omega) (by omega)).trans (by omega)
          have w2 : IntKind.i64.wrap ((i : Int) - 7) = (q2 : Int) := by clear w0 w1; exact (w64id _ (by omega) (by omega)).trans (by omega)
          have w3 : IntKind.i64.wrap ((i : Int) - 2) = (q3 : Int) := by clear w0 w1 w2; exact (w64id _ (by omega) (by omega)).trans (by omega)
          have g0 : q0 < ws.length := by clear w0 w1 w2 w3; omega
          have g1 : q1 < ws.length := by clear w0 w1 w2 w3; omega
          have g2 : q2 < ws.length := by clear w0 w1 w2 w3; omega
          have g3 : q3 < ws.length := by clear w0 w1 w2 w3; omega
          have g4 : i < ws.length := by clear w0 w1 w2 w3; omega
          have b0 := F.out.hw.cell q0 g0
          have b1 := F.out.hw.cell q1 g1
          have b2 := F.out.hw.cell q2 g2
          have b3 := F.out.hw.cell q3 g3
          have e0 : (q0 : Int) < 64 := by clear w0 w1 w2 w3; omega
          have e1 : (q1 : Int) < 64 := by clear w0 w1 w2 w3; omega
          have e2 : (q2 : Int) < 64 := by clear w0 w1 w2 w3; omega
          have e3 : (q3 : Int) < 64 := by clear w0 w1 w2 w3; omega
          have z0 := F.out.hw.cell i g4
          have z1 := F.out.hw.free i g4
          have H1 := Aside0.mk (step1 _ _ _ _ _ hws h16 hlt H0.out)
          rw [← hq0, ← hq1, ← hq2, ← hq3] at H1
          generalize hx0 : ws.getD q0 0 = x0 at b0 H1
          generalize hx1 : ws.getD q1 0 = x1 at b1 H1
          generalize hx2 : ws.getD q2 0 = x2 at b2 H1
          generalize hx3 : ws.getD q3 0 = x3 at b3 H1
          generalize ws.getD i 0 = xi at z0
          clear hq0 hq1 hq2 hq3 hx0 hx1 hx2 hx3 g0 g1 g2 g3 H0
          go_wp2
          refine wp_region_still_tail 32 (by kernel_rfl) (by kernel_rfl) ?_
          simp only [List.take_succ_cons, List.take_zero, List.drop_succ_cons, List.drop_zero]
          repeat still_step
          still_call (stn7 _ _)
          repeat still_step
          still_call (stn18 _ _)
          repeat still_step
          still_call (stn17 _ _)
          repeat still_step
          still_call (stn19 _ _)
          repeat still_step
          refine wpStill_nil ?_
          change wpList _ _ _ _ _ wr.drew
          have z2 : wr.drew.cell? ⟨gw, i, none⟩ = some (.int .u32 xi) := z0
          have z3 : wr.drew.frozen? ⟨gw, i, none⟩ = false := z1
          have F2 := Aside0.mk (F.out.drew.word i g4 (wordX x0 (sig x1 7 18 (x1 / 8)) x2 (sig x3 17 19 (x3 / 1024))))
          generalize wr.drew = w4 at z2 z3 F2 ⊢
          clear z0 z1 b0 b1 b2 b3 F w0 w1 w2 w3
          go_wp2
          go_roundg (64 - (i + 1))
          case measure => omega
          case rel => exact ⟨i + 1, _, by omega, by omega, by omega, by go_num, by rw [List.length_set]; exact hws, H1, F2⟩
        · have hlt2 : ¬ ((i : Int) < 64) := by omega
          have H1 := Aside0.mk (exit1 _ _ _ _ hl0 _ hlt2 H0.out)
          clear H0
          have hA0 : Aside0 (Au w g0 l0) := Aside0.mk (Au.of_R HO.out)
          have hg0 := Kd.R_lt HO.out g0 rfl
          have HG := Aside0.mk hg0
          clear hg0
          go_wp2_with (first | ((with_reducible refine gate_builtin (b := .append) (xs := #[.tmp 105, .tmp 106]) rfl ?_); at_builtin; refine append8 (l0 := l0) 89 88 rfl (.tmp 105) (.tmp 106) rfl Try.underlying89 info88 (by rfl) (by rfl) hl0 ((hA0.out.at (F.out.below.block g0 HG.out)).at (by first | rfl | (rw [alloc_at, if_neg (by have := HG.out; have := F.out.below.size; omega)]))) (w := w) (n := w.heap.size) (gw := gw) (lw := ws) (by first | exact F.out | exact ⟨F.out.hw.at (by rw [alloc_at, if_neg (by have := F.out.lt; omega)]), F.out.mine, by rw [alloc_sz]; have := F.out.lt; omega, ⟨F.out.below.os, F.out.below.tape, F.out.below.output, by rw [alloc_sz]; have := F.out.below.size; omega, fun k hk => by rw [alloc_at, if_neg (by have := F.out.below.size; omega)]; exact F.out.below.block k hk⟩⟩) ?_; clear F; intro gv cv w6 F0; have F := Aside0.mk F0; clear F0))
          obtain ⟨h0, h1, h2, h3, h4, h5, h6, h7, rfl⟩ := eight hl0
          go_loopg [11, 12] 64 (fun gg v11 v12 wr => ∃ (i gv cv : Nat) (a0 a1 a2 a3 a4 a5 a6 a7 : Int), i ≤ 64 ∧ gg + i = 64 ∧ v11 = .slice (some ⟨gv, 0, none⟩) 8 cv ∧ v12 = .int .i64 (i : Int) ∧ Aside0 (spec_l01Block.lv2 [h0, h1, h2, h3, h4, h5, h6, h7] l2 ws [a0, a1, a2, a3, a4, a5, a6, a7] (i : Int) = some r) ∧ Aside0 (Sv w wr w.heap.size gw gv ws [a0, a1, a2, a3, a4, a5, a6, a7]))
          case atStart => exact ⟨0, gv, cv, h0, h1, h2, h3, h4, h5, h6, h7, by omega, rfl, rfl, rfl, H1, F⟩
          case round =>
            clear F H1 hlt2 hlt hi h16
            obtain ⟨i, gv, cv, a0, a1, a2, a3, a4, a5, a6, a7, hi, hg, rfl, rfl, H0, F⟩ := hrel
            by_cases hlt : i < 64
            · have c1 : ((i : Int) < 64) := by omega
              have hk := Kept.of_below F.out.below S
              obtain ⟨⟨c0_, d1, d2, d3, d4, d5, d6, d7⟩, -⟩ := F.out.ha.eight
              have bk := HR2.out wr hk i hlt
              have bw := F.out.hw.cell i (by omega)
              clear hk
              obtain ⟨xk, hxk⟩ : ∃ x, l2.getD i 0 = x := ⟨_, rfl⟩
              obtain ⟨xw, hxw⟩ : ∃ x, ws.getD i 0 = x := ⟨_, rfl⟩
              rw [hxk] at bk
              rw [hxw] at bw
              have HX := Aside0.mk (And.intro hxk hxw)
              clear hxk hxw
              go_wp2
              refine wp_region_still_lit (by kernel_rfl) (by kernel_rfl) ?_
              repeat still_step
              still_call (stn6 _ _)
              repeat still_step
              still_call (stn11 _ _)
              repeat still_step
              still_call (stn25 _ _)
              repeat still_step
              refine wpStill_nil ?_
              have F3 := Aside0.mk F.out.drew
              have c0d : wr.drew.cell? _ = _ := c0_
              have d1_ : wr.drew.cell? _ = _ := d1
              have d2_ : wr.drew.cell? _ = _ := d2
              have d3_ : wr.drew.cell? _ = _ := d3
              have d4_ : wr.drew.cell? _ = _ := d4
              have d5_ : wr.drew.cell? _ = _ := d5
              have d6_ : wr.drew.cell? _ = _ := d6
              have d7_ : wr.drew.cell? _ = _ := d7
              clear c0_ d1 d2 d3 d4 d5 d6 d7 bk bw F
              generalize hxp : IntKind.u32.wrap (IntKind.u32.wrap (_ + xk) + xw) = xp
              have hp : pX a7 a4 a5 a6 xk xw = xp := hxp
              have HP := Aside0.mk ((pX_eq _ _ _ _ _ _).symm.trans hp)
              clear hxp hp
              rw [show ({ heap := wr.heap, tape := wr.tape, drawn := wr.drawn + 1, os := wr.os, output := wr.output } : World) = wr.drew from rfl]
              generalize wr.drew = w6 at c0d d1_ d2_ d3_ d4_ d5_ d6_ d7_ F3 ⊢
              go_wp2
              refine wp_region_still_lit (by kernel_rfl) (by kernel_rfl) ?_
              repeat still_step
              still_call (stn2 _ _)
              repeat still_step
              still_call (stn13 _ _)
              repeat still_step
              still_call (stn22 _ _)
              repeat still_step
              refine wpStill_nil ?_
              obtain ⟨⟨c0_, d1, d2, d3, d4, d5, d6, d7⟩, -⟩ := F3.out.drew.ha.eight
              have F4 := Aside0.mk F3.out.drew
              clear c0d d1_ d2_ d3_ d4_ d5_ d6_ d7_ F3
              generalize hxq : IntKind.u32.wrap (_ + Go.bits .xor .u32 _ (Go.bits .and .u32 a1 a2)) = xq
              have hq : qW a0 a1 a2 = xq := hxq
              have HQ := Aside0.mk hq
              clear hxq hq
              rw [show ({ heap := w6.heap, tape := w6.tape, drawn := w6.drawn + 1, os := w6.os, output := w6.output } : World) = w6.drew from rfl]
              generalize w6.drew = w7 at c0_ d1 d2 d3 d4 d5 d6 d7 F4 ⊢
              have H1 := Aside0.mk (step2w _ _ _ _ _ _ _ _ _ _ _ _ _ hws hl2 hlt xk xw xp xq HX.out.1 HX.out.2 HP.out HQ.out H0.out)
              clear H0
              go_wp2
              refine wp_region_still_tail 26 (by kernel_rfl) (by kernel_rfl) ?_
              simp only [List.take_succ_cons, List.take_zero, List.drop_succ_cons, List.drop_zero]
              repeat still_step
              refine wpStill_nil ?_
              change wpList _ _ _ _ _ w7.drew
              have F5 := Aside0.mk F4.out.drew
              clear c0_ d1 d2 d3 d4 d5 d6 d7 F4
              generalize w7.drew = w8 at F5 ⊢
              go_wp2
              go_roundg (64 - (i + 1))
              case measure => omega
              case rel => exact ⟨i + 1, w8.heap.size, 8, (xp + xq) % 4294967296, a0, a1, a2, (a3 + xp) % 4294967296, a4, a5, a6, by omega, by omega, rfl, by go_num, H1, ⟨F5.out.lit [(xp + xq) % 4294967296, a0, a1, a2, (a3 + xp) % 4294967296, a4, a5, a6] 88⟩⟩
            · have hlt2 : ¬ ((i : Int) < 64) := by omega
              have H1 := Aside0.mk (exit2 _ _ _ _ _ _ hlt2 H0.out)
              clear H0
              have F2 : Aside0 (St w0 w wr S g0 c0 gv [h0, h1, h2, h3, h4, h5, h6, h7] [a0, a1, a2, a3, a4, a5, a6, a7]) := Aside0.mk ⟨Kd.R_below HO.out F.out.below, F.out.ha, by have := F.out.mv; have := HG.out; omega, HB.out.trans (F.out.below.mono HB.out.size), Kept.of_below F.out.below S⟩
              clear F
              go_wp2
              go_loopg [17] 8 (fun gg v17 wr => ∃ (i : Nat) (lh : List Int), i ≤ 8 ∧ gg + i = 8 ∧ v17 = .int .i64 (i : Int) ∧ lh.length = 8 ∧ Aside0 (spec_l01Block.lv3 lh [a0, a1, a2, a3, a4, a5, a6, a7] (i : Int) = some r) ∧ Aside0 (St w0 w wr S g0 c0 gv lh [a0, a1, a2, a3, a4, a5, a6, a7]))
              case atStart => exact ⟨0, _, by omega, rfl, rfl, rfl, H1, F2⟩
              case round =>
                clear F2 H1 hlt2 hlt hi
                obtain ⟨i, lh, hi, hg, rfl, hlh, H0, F⟩ := hrel
                by_cases hlt : i < 8
                · have c1 : ((i : Int) < 8) := by omega
                  have H1 := Aside0.mk (step3 _ _ _ _ hlh rfl hlt H0.out)
                  obtain ⟨b0, z1⟩ := Kd.R_celln 0 F.out.hr (i : Int) (by omega) (by omega)
                  have b1 := F.out.ha.cell i (by simpa using hlt)
                  rw [Int.toNat_natCast] at b0 z1
                  have b0' : wr.cell? ⟨g0, i, none⟩ = some (.int .u32 (lh.getD i 0)) := by simpa [rdOf] using b0
                  clear H0 b0
                  obtain ⟨x0, hx0⟩ : ∃ x, lh.getD i 0 = x := ⟨_, rfl⟩
                  obtain ⟨x1, hx1⟩ : ∃ x, ([a0, a1, a2, a3, a4, a5, a6, a7] : List Int).getD i 0 = x := ⟨_, rfl⟩
                  rw [hx0] at b0' H1
                  rw [hx1] at b1 H1
                  rw [u32w_h] at H1
                  clear hx0 hx1
                  go_wp2
                  refine wp_region_still_tail 10 (by kernel_rfl) (by kernel_rfl) ?_
                  simp only [List.take_succ_cons, List.take_zero, List.drop_succ_cons, List.drop_zero]
                  repeat still_step
                  refine wpStill_nil ?_
                  change wpList _ _ _ _ _ wr.drew
                  have z2 : wr.drew.cell? ⟨g0, i, none⟩ = some (.int .u32 x0) := b0'
                  have z3 : wr.drew.frozen? ⟨g0, i, none⟩ = false := z1
                  have F2 := Aside0.mk (F.out.drew.set i ((x0 + x1) % 4294967296))
                  generalize wr.drew = w4 at z2 z3 F2 ⊢
                  clear z1 b0' b1 F
                  go_wp2
                  go_roundg (8 - (i + 1))
                  case measure => omega
                  case rel => exact ⟨i + 1, _, by omega, by omega, by go_num, by rw [List.length_set]; exact hlh, H1, F2⟩
                · have hlt2 : ¬ ((i : Int) < 8) := by omega
                  have e := exit3 _ _ _ _ hlt2 H0.out
                  subst e
                  clear H0
                  go_wp2
                  first | go_end0 | ((try simp only [Exit.inBlock, Exit.then]); refine bodyPost_ret (results_none rfl _ _ _) rfl ?_)
                  exact ⟨rfl, F.out.hr, F.out.below, F.out.kept⟩
end Go.Proofs.Ytdpdbegglkdgnaa.A
end

section
namespace Go.Proofs.Ytdpdbegglkdgnaa.A
open Go.RowKit Go.Proofs.YtdpdbegglkdgnaaW.PrintWords Go.Proofs.YtdpdbegglkdgnaaW.PrintLast Go.Proofs.YtdpdbegglkdgnaaW.PrintMore
attribute [local go_sem] max2_int min2_int max_two min_two max_three min_three max_four min_four
theorem spec_l01Block.calls (k : Nat) (P0_ : Nat → Prop) (u9000_ : Value) (l0 : List Int) (A1 : Option Addr) (c1 : Nat) (l1 : List Int) (A2 : Option Addr) (c2 : Nat) (l2 : List Int) (r : List Int) (w0 w : World) (hB : Below w0.heap.size w0 w) (ho0 : Kd.R (Kd.int .u32) 88 w w0.heap.size P0_ u9000_ l0) (hr1 : ∀ W_,Kept w W_ (fun k_ => P0_ k_) → Kd.C (Kd.int .u8) W_ A1 l1.length l1) (hc1 : l1.length ≤ c1) (hr2 : ∀ W_,Kept w W_ (fun k_ => P0_ k_) → Kd.C (Kd.int .u32) W_ A2 l2.length l2) (hc2 : l2.length ≤ c2) (h : spec_l01Block.f k l0 l1 l2 = some r) :
  Calls Try.prog 66 #[u9000_,.slice A1 l1.length c1,.slice A2 l2.length c2] w fun e w' => e = .returned (.tuple #[]) ∧ Kd.R (Kd.int .u32) 88 w' w0.heap.size (fun k_ => (P0_ k_ ∨ w.heap.size ≤ k_)) u9000_ r ∧ Below w0.heap.size w0 w' ∧ Kept w w' (fun k_ => P0_ k_) := by
 unfold spec_l01Block.f at h
 by_cases c : l0.length = 8 ∧ l1.length = 64 ∧ l2.length = 64
 ·have hv : spec_l01Block.v l0 l1 l2 = some r := (spec_l01Block.v_lim l0 l1 l2).up k r h
  obtain ⟨h0,h1,h2⟩ := c
  obtain ⟨g0,c0,rfl,-,-,-⟩ := Kd.R_form ho0 (by omega)
  obtain ⟨ad1,rfl,-⟩ := C_cells (hr1 w (Kept.refl w _)) (by omega)
  obtain ⟨ad2,rfl,-⟩ := C_cells (hr2 w (Kept.refl w _)) (by omega)
  have k1 : ∀ W,Kept w W P0_ → ∀ j,j < 64 → W.cell? (ad1.add j) = some (.int .u8 (l1.getD j 0)) := fun W hk j hj => by
   obtain ⟨ad,e,hc⟩ := C_cells (hr1 W hk) (by omega)
   injection e with e
   subst e
   exact hc j (by omega)
  have k2 : ∀ W,Kept w W P0_ → ∀ j,j < 64 → W.cell? (ad2.add j) = some (.int .u32 (l2.getD j 0)) := fun W hk j hj => by
   obtain ⟨ad,e,hc⟩ := C_cells (hr2 W hk) (by omega)
   injection e with e
   subst e
   exact hc j (by omega)
  rw [h0] at ho0 ⊢
  rw [h1] at hc1 ⊢
  rw [h2] at hc2 ⊢
  exact (sblock_walk P0_ g0 c0 l0 l1 l2 r ad1 ad2 c1 c2 w0 w hB ho0 k1 k2 h0 h1 h2 hc1 hc2 hv).mono fun e w' ⟨he,hr,hb,hk⟩ => ⟨he,Kd.R_mono hr (fun k_ hk_ => .inl hk_),hb,hk⟩
 ·rw [if_neg c] at h
  cases h
set_option maxHeartbeats 8000000 in
set_option maxRecDepth 100000 in
theorem spec_l01Consts.calls  (r : List Int) (w : World) (h : spec_l01Consts.f  = some r) :
  Calls Try.prog 65 #[] w fun e w' => ∃ v0_ : Value,e = .returned (v0_) ∧ Kd.R (Kd.int .u32) 88 w' w.heap.size (fun _ => True) v0_ r ∧ Below w.heap.size w w' := by
 have HB := am_ (Below.refl w.heap.size w)
 have H : (some (([1116352408,1899447441,3049323471,3921009573,961987163,1508970993,2453635748,2870763221,3624381080,310598401,607225278,1426881987,1925078388,2162078206,2614888103,3248222580,3835390401,4022224774,264347078,604807628,770255983,1249150122,1555081692,1996064986,2554220882,2821834349,2952996808,3210313671,3336571891,3584528711,113926993,338241895,666307205,773529912,1294757372,1396182291,1695183700,1986661051,2177026350,2456956037,2730485921,2820302411,3259730800,3345764771,3516065817,3600352804,4094571909,275423344,430227734,506948616,659060556,883997877,958139571,1322822218,1537002063,1747873779,1955562222,2024104815,2227730452,2361852424,2428436474,2756734187,3204031479,3329325298] : List Int))) = some r := h
 clear h
 obtain ⟨y143,hy143⟩ : ∃ y_ : List Int,y_ = (([1116352408,1899447441,3049323471,3921009573,961987163,1508970993,2453635748,2870763221,3624381080,310598401,607225278,1426881987,1925078388,2162078206,2614888103,3248222580,3835390401,4022224774,264347078,604807628,770255983,1249150122,1555081692,1996064986,2554220882,2821834349,2952996808,3210313671,3336571891,3584528711,113926993,338241895,666307205,773529912,1294757372,1396182291,1695183700,1986661051,2177026350,2456956037,2730485921,2820302411,3259730800,3345764771,3516065817,3600352804,4094571909,275423344,430227734,506948616,659060556,883997877,958139571,1322822218,1537002063,1747873779,1955562222,2024104815,2227730452,2361852424,2428436474,2756734187,3204031479,3329325298] : List Int)) := ⟨_,rfl⟩
 replace H : (some y143) = some r := by first | (rw [hy143];with_reducible exact H) | (have H2_ := (Option.bind_some _ _).symm.trans H;rw [hy143];with_reducible exact H2_) | (have H2_ := (Option.bind_some _ _).symm.trans H;with_reducible exact H2_) | with_reducible exact H | (rw [hy143];exact H) | exact H
 have Ny143 := am_ hy143
 clear hy143
 obtain rfl := Option.some.inj H
 go_enter Try.func65,Try.ntmps65
 go_wp2_with (first | ((with_reducible refine gate_dst (N := 1) rfl ?_);refine Kd.R_lit (Kd.int .u32) _ 88 ?hg (N := 1) ?hd (xs := ([1116352408,1899447441,3049323471,3921009573,961987163,1508970993,2453635748,2870763221,3624381080,310598401,607225278,1426881987,1925078388,2162078206,2614888103,3248222580,3835390401,4022224774,264347078,604807628,770255983,1249150122,1555081692,1996064986,2554220882,2821834349,2952996808,3210313671,3336571891,3584528711,113926993,338241895,666307205,773529912,1294757372,1396182291,1695183700,1986661051,2177026350,2456956037,2730485921,2820302411,3259730800,3345764771,3516065817,3600352804,4094571909,275423344,430227734,506948616,659060556,883997877,958139571,1322822218,1537002063,1747873779,1955562222,2024104815,2227730452,2361852424,2428436474,2756734187,3204031479,3329325298] : List Int)) (inner := [.int .u32 1116352408,.int .u32 1899447441,.int .u32 3049323471,.int .u32 3921009573,.int .u32 961987163,.int .u32 1508970993,.int .u32 2453635748,.int .u32 2870763221,.int .u32 3624381080,.int .u32 310598401,.int .u32 607225278,.int .u32 1426881987,.int .u32 1925078388,.int .u32 2162078206,.int .u32 2614888103,.int .u32 3248222580,.int .u32 3835390401,.int .u32 4022224774,.int .u32 264347078,.int .u32 604807628,.int .u32 770255983,.int .u32 1249150122,.int .u32 1555081692,.int .u32 1996064986,.int .u32 2554220882,.int .u32 2821834349,.int .u32 2952996808,.int .u32 3210313671,.int .u32 3336571891,.int .u32 3584528711,.int .u32 113926993,.int .u32 338241895,.int .u32 666307205,.int .u32 773529912,.int .u32 1294757372,.int .u32 1396182291,.int .u32 1695183700,.int .u32 1986661051,.int .u32 2177026350,.int .u32 2456956037,.int .u32 2730485921,.int .u32 2820302411,.int .u32 3259730800,.int .u32 3345764771,.int .u32 3516065817,.int .u32 3600352804,.int .u32 4094571909,.int .u32 275423344,.int .u32 430227734,.int .u32 506948616,.int .u32 659060556,.int .u32 883997877,.int .u32 958139571,.int .u32 1322822218,.int .u32 1537002063,.int .u32 1747873779,.int .u32 1955562222,.int .u32 2024104815,.int .u32 2227730452,.int .u32 2361852424,.int .u32 2428436474,.int .u32 2756734187,.int .u32 3204031479,.int .u32 3329325298]) (ok := fun _ => True) (okp := fun _ => True) ?hr ?hp (fun _ hk => hk) trivial (Below.refl _ _) (Nat.le_refl _) (by simp) ?_;(case hd => rfl);(case hg => rfl);(case hr => first | (go_simp;done) | (go_simp;rfl));(case hp => exact (Reps.one (show Kd.M (Kd.int .u32) _ _ _ 1116352408 [.int .u32 1116352408] from rfl) (Reps.one (show Kd.M (Kd.int .u32) _ _ _ 1899447441 [.int .u32 1899447441] from rfl) (Reps.one (show Kd.M (Kd.int .u32) _ _ _ 3049323471 [.int .u32 3049323471] from rfl) (Reps.one (show Kd.M (Kd.int .u32) _ _ _ 3921009573 [.int .u32 3921009573] from rfl) (Reps.one (show Kd.M (Kd.int .u32) _ _ _ 961987163 [.int .u32 961987163] from rfl) (Reps.one (show Kd.M (Kd.int .u32) _ _ _ 1508970993 [.int .u32 1508970993] from rfl) (Reps.one (show Kd.M (Kd.int .u32) _ _ _ 2453635748 [.int .u32 2453635748] from rfl) (Reps.one (show Kd.M (Kd.int .u32) _ _ _ 2870763221 [.int .u32 2870763221] from rfl) (Reps.one (show Kd.M (Kd.int .u32) _ _ _ 3624381080 [.int .u32 3624381080] from rfl) (Reps.one (show Kd.M (Kd.int .u32) _ _ _ 310598401 [.int .u32 310598401] from rfl) (Reps.one (show Kd.M (Kd.int .u32) _ _ _ 607225278 [.int .u32 607225278] from rfl) (Reps.one (show Kd.M (Kd.int .u32) _ _ _ 1426881987 [.int .u32 1426881987] from rfl) (Reps.one (show Kd.M (Kd.int .u32) _ _ _ 1925078388 [.int .u32 1925078388] from rfl) (Reps.one (show Kd.M (Kd.int .u32) _ _ _ 2162078206 [.int .u32 2162078206] from rfl) (Reps.one (show Kd.M (Kd.int .u32) _ _ _ 2614888103 [.int .u32 2614888103] from rfl) (Reps.one (show Kd.M (Kd.int .u32) _ _ _ 3248222580 [.int .u32 3248222580] from rfl) (Reps.one (show Kd.M (Kd.int .u32) _ _ _ 3835390401 [.int .u32 3835390401] from rfl) (Reps.one (show Kd.M (Kd.int .u32) _ _ _ 4022224774 [.int .u32 4022224774] from rfl) (Reps.one (show Kd.M (Kd.int .u32) _ _ _ 264347078 [.int .u32 264347078] from rfl) (Reps.one (show Kd.M (Kd.int .u32) _ _ _ 604807628 [.int .u32 604807628] from rfl) (Reps.one (show Kd.M (Kd.int .u32) _ _ _ 770255983 [.int .u32 770255983] from rfl) (Reps.one (show Kd.M (Kd.int .u32) _ _ _ 1249150122 [.int .u32 1249150122] from rfl) (Reps.one (show Kd.M (Kd.int .u32) _ _ _ 1555081692 [.int .u32 1555081692] from rfl) (Reps.one (show Kd.M (Kd.int .u32) _ _ _ 1996064986 [.int .u32 1996064986] from rfl) (Reps.one (show Kd.M (Kd.int .u32) _ _ _ 2554220882 [.int .u32 2554220882] from rfl) (Reps.one (show Kd.M (Kd.int .u32) _ _ _ 2821834349 [.int .u32 2821834349] from rfl) (Reps.one (show Kd.M (Kd.int .u32) _ _ _ 2952996808 [.int .u32 2952996808] from rfl) (Reps.one (show Kd.M (Kd.int .u32) _ _ _ 3210313671 [.int .u32 3210313671] from rfl) (Reps.one (show Kd.M (Kd.int .u32) _ _ _ 3336571891 [.int .u32 3336571891] from rfl) (Reps.one (show Kd.M (Kd.int .u32) _ _ _ 3584528711 [.int .u32 3584528711] from rfl) (Reps.one (show Kd.M (Kd.int .u32) _ _ _ 113926993 [.int .u32 113926993] from rfl) (Reps.one (show Kd.M (Kd.int .u32) _ _ _ 338241895 [.int .u32 338241895] from rfl) (Reps.one (show Kd.M (Kd.int .u32) _ _ _ 666307205 [.int .u32 666307205] from rfl) (Reps.one (show Kd.M (Kd.int .u32) _ _ _ 773529912 [.int .u32 773529912] from rfl) (Reps.one (show Kd.M (Kd.int .u32) _ _ _ 1294757372 [.int .u32 1294757372] from rfl) (Reps.one (show Kd.M (Kd.int .u32) _ _ _ 1396182291 [.int .u32 1396182291] from rfl) (Reps.one (show Kd.M (Kd.int .u32) _ _ _ 1695183700 [.int .u32 1695183700] from rfl) (Reps.one (show Kd.M (Kd.int .u32) _ _ _ 1986661051 [.int .u32 1986661051] from rfl) (Reps.one (show Kd.M (Kd.int .u32) _ _ _ 2177026350 [.int .u32 2177026350] from rfl) (Reps.one (show Kd.M (Kd.int .u32) _ _ _ 2456956037 [.int .u32 2456956037] from rfl) (Reps.one (show Kd.M (Kd.int .u32) _ _ _ 2730485921 [.int .u32 2730485921] from rfl) (Reps.one (show Kd.M (Kd.int .u32) _ _ _ 2820302411 [.int .u32 2820302411] from rfl) (Reps.one (show Kd.M (Kd.int .u32) _ _ _ 3259730800 [.int .u32 3259730800] from rfl) (Reps.one (show Kd.M (Kd.int .u32) _ _ _ 3345764771 [.int .u32 3345764771] from rfl) (Reps.one (show Kd.M (Kd.int .u32) _ _ _ 3516065817 [.int .u32 3516065817] from rfl) (Reps.one (show Kd.M (Kd.int .u32) _ _ _ 3600352804 [.int .u32 3600352804] from rfl) (Reps.one (show Kd.M (Kd.int .u32) _ _ _ 4094571909 [.int .u32 4094571909] from rfl) (Reps.one (show Kd.M (Kd.int .u32) _ _ _ 275423344 [.int .u32 275423344] from rfl) (Reps.one (show Kd.M (Kd.int .u32) _ _ _ 430227734 [.int .u32 430227734] from rfl) (Reps.one (show Kd.M (Kd.int .u32) _ _ _ 506948616 [.int .u32 506948616] from rfl) (Reps.one (show Kd.M (Kd.int .u32) _ _ _ 659060556 [.int .u32 659060556] from rfl) (Reps.one (show Kd.M (Kd.int .u32) _ _ _ 883997877 [.int .u32 883997877] from rfl) (Reps.one (show Kd.M (Kd.int .u32) _ _ _ 958139571 [.int .u32 958139571] from rfl) (Reps.one (show Kd.M (Kd.int .u32) _ _ _ 1322822218 [.int .u32 1322822218] from rfl) (Reps.one (show Kd.M (Kd.int .u32) _ _ _ 1537002063 [.int .u32 1537002063] from rfl) (Reps.one (show Kd.M (Kd.int .u32) _ _ _ 1747873779 [.int .u32 1747873779] from rfl) (Reps.one (show Kd.M (Kd.int .u32) _ _ _ 1955562222 [.int .u32 1955562222] from rfl) (Reps.one (show Kd.M (Kd.int .u32) _ _ _ 2024104815 [.int .u32 2024104815] from rfl) (Reps.one (show Kd.M (Kd.int .u32) _ _ _ 2227730452 [.int .u32 2227730452] from rfl) (Reps.one (show Kd.M (Kd.int .u32) _ _ _ 2361852424 [.int .u32 2361852424] from rfl) (Reps.one (show Kd.M (Kd.int .u32) _ _ _ 2428436474 [.int .u32 2428436474] from rfl) (Reps.one (show Kd.M (Kd.int .u32) _ _ _ 2756734187 [.int .u32 2756734187] from rfl) (Reps.one (show Kd.M (Kd.int .u32) _ _ _ 3204031479 [.int .u32 3204031479] from rfl) (Reps.one (show Kd.M (Kd.int .u32) _ _ _ 3329325298 [.int .u32 3329325298] from rfl) (Reps.none _ _))))))))))))))))))))))))))))))))))))))))))))))))))))))))))))))))));intro v144 w1 ho2 hb hg_ hnew_;clear hg_ hnew_;(first | rw [← Ny143.out] at ho2 | (simp only [Int.reduceToNat] at ho2;rw [← Ny143.out] at ho2));have n0_ := am_ (Kd.R_lower ho2 (below_size (by repeat (first | (with_reducible first | exact HB.out | apply b1_ | apply b2_ | apply b3_) | exact HB.out))));have n1_ := am_ (below_step (by repeat (first | (with_reducible first | exact HB.out | apply b1_ | apply b2_ | apply b3_) | exact HB.out)) hb);clear HB;have HO145 := n0_;have HB := n1_;clear n0_ n1_;clear hb ho2))
 go_ret
 exact ⟨_,by first | rfl | (simp [e1_,e2_] <;> rfl) | (simp [*,e1_,e2_] <;> rfl) | (simp [e3_,e4_];done) | (simp [*,e3_,e4_];done),by (with_reducible repeat (first | apply r1_ | apply r2_ | apply r3_));exact HO145.out,by repeat (first | (with_reducible first | exact HB.out | apply b1_ | apply b2_ | apply b3_) | exact HB.out)⟩
end Go.Proofs.Ytdpdbegglkdgnaa.A
end
