/- A part of the proof that FnExactCertBytes returns true at every input: plain functions, contracts and lemmas. No conditions. -/
import Derived.Test.YtadablpppkjdbaaQCertBytesc
set_option linter.unusedVariables false
set_option linter.unusedSimpArgs false
set_option linter.unusedSectionVars false
section
namespace Go.Proofs.Ytadablpppkjdbaa.A
open Go.RowKit Go.Proofs.YtadablpppkjdbaaW.PrintWords Go.Proofs.YtadablpppkjdbaaW.PrintLast Go.Proofs.YtadablpppkjdbaaW.PrintMore
attribute [local go_sem] max2_int min2_int max_two min_two max_three min_three max_four min_four
def spec_l02List.T5 : Bool × List (List Nat × List Nat) := (true,[([],[]),([],[]),([],[]),([1,2],[1,2]),([3],[3]),([4],[4]),([5],[5]),([0,6,6],[0,6]),([],[]),([],[]),([8,9],[8,9]),([10],[10]),([7,11,7],[7,11]),([12,12,0,1,2,3,4,5,6,7,8,9,10,11,12],[0,12])])
def spec_l02List.B5 : List Nat := [0,0,0,6,14,30,62,127,0,0,768,1792,4095,8191]
theorem spec_l02List.tab5 : rtab .any (opsOf Try.f66 5) = spec_l02List.T5 := by kernel_rfl
theorem spec_l02List.bits5 : waitsOk spec_l02List.T5.2 spec_l02List.B5 = true := by kernel_rfl
set_option maxHeartbeats 8000000 in
set_option maxRecDepth 100000 in
theorem spec_l02List.calls (k : Nat) (A0 : Option Addr) (c0 : Nat) (l0 : List ByteArray) (r : List Int) (w : World) (hr0 : Kd.C Kd.string w A0 l0.length l0) (hc0 : l0.length ≤ c0) (h : spec_l02List.f k l0 = some r) :
  Calls Try.prog 66 #[.slice A0 l0.length c0] w fun e w' => ∃ v0_ : Value,e = .returned (v0_) ∧ Kd.R (Kd.int .u8) 5 w' w.heap.size (fun _ => True) v0_ r ∧ Below w.heap.size w w' := by
 have HR0 := am_ hr0
 have HC0 := am_ hc0
 clear hr0 hc0
 have HB := am_ (Below.refl w.heap.size w)
 have H : (spec_l02List.l0 k l0 (([((l0.length : Int)) % 256] : List Int)) 0) = some r := h
 clear h
 obtain ⟨y230,hy230⟩ : ∃ y_ : List Int,y_ = (([((l0.length : Int)) % 256] : List Int)) := ⟨_,rfl⟩
 replace H : (spec_l02List.l0 k l0 y230 0) = some r := by first | (rw [hy230];with_reducible exact H) | (have H2_ := (Option.bind_some _ _).symm.trans H;rw [hy230];with_reducible exact H2_) | (have H2_ := (Option.bind_some _ _).symm.trans H;with_reducible exact H2_) | with_reducible exact H | (rw [hy230];exact H) | exact H
 have Ny230 := am_ hy230
 clear hy230
 have H' := am_ H
 clear H
 go_enter Try.func66,Try.ntmps66
 go_wp2_with (first | ((with_reducible refine gate_dst (N := 8) rfl ?_);refine Kd.R_lit (Kd.int .u8) _ 5 ?hg (N := 8) ?hd (xs := ([((l0.length : Int)) % 256] : List Int)) (inner := [.int .u8 (((l0.length : Int)) % 256)]) (ok := fun _ => True) (okp := fun _ => True) ?hr ?hp (fun _ hk => hk) trivial (Below.refl _ _) (Nat.le_refl _) (by simp) ?_;(case hd => rfl);(case hg => rfl);(case hr => first | (go_simp;done) | (go_simp;rfl));(case hp => exact (Reps.one (show Kd.M (Kd.int .u8) _ _ _ (((l0.length : Int)) % 256) [.int .u8 (((l0.length : Int)) % 256)] from rfl) (Reps.none _ _)));intro v231 w2 ho3 hb hg_ hnew_;clear hg_ hnew_;(first | rw [← Ny230.out] at ho3 | (simp only [Int.reduceToNat] at ho3;rw [← Ny230.out] at ho3));have HO232 := am_ (Kd.R_lower ho3 (below_size (zl_ HB)));replace HB := zs_ HB hb;clear hb ho3))
 go_loopg [3,4] k (fun kq v3 v4 w' => ∃ (x3_1 : List Int) (x4_1 : Int),v4 = .int .i64 x4_1 ∧ Aside0 (spec_l02List.l0 kq l0 x3_1 x4_1 = some r) ∧ Aside0 (kq ≤ k) ∧ Aside0 (Kd.R (Kd.int .u8) 5 w' w.heap.size (fun _ => True) v3 x3_1) ∧ Aside0 (Below w.heap.size w w'))
 case atStart => exact ⟨(y230),(0),(by first | rfl | (simp;done) | (simp [*];done)),H',⟨Nat.le_refl _⟩,⟨zr HO232⟩,⟨zl_ HB⟩⟩
 case round =>
  clear H'
  try clear p2
  obtain ⟨x3_1,x4_1,rfl,HA,HK1,HO_3,HB⟩ := hrel
  cases gk with
  | zero => exact absurd HA.out (by simp [spec_l02List.l0])
  | succ k1 =>
   have H := HA.out
   clear HA
   simp only [spec_l02List.l0] at H
   by_cases c4 : x4_1 < (l0.length : Int)
   ·rw [if_pos c4] at H
    have c4b0 : decide (x4_1 < (l0.length : Int)) = true := decide_eq_true c4
    clear c4
    by_cases c5 : 0 ≤ x4_1
    ·rw [if_pos c5] at H
     have c5b0 : decide (0 ≤ x4_1) = true := decide_eq_true c5
     clear c5
     replace H := Option.bind_eq_some_iff.mp H
     obtain ⟨t234,A60,H⟩ := H
     try dsimp only at H
     have A6 := am_ A60
     clear A60
     by_cases c7 : x3_1.length + t234.length < 140737488355328
     ·rw [if_pos c7] at H
      have LMc7 := am_ c7
      clear c7
      obtain ⟨y237,hy237⟩ : ∃ y_ : List Int,y_ = (x3_1 ++ t234) := ⟨_,rfl⟩
      replace H : (if y237.length + (rdOf ByteArray.empty l0 x4_1).size < 140737488355328 then (spec_l02List.l0 k1 l0 (y237 ++ bytesOf (rdOf ByteArray.empty l0 x4_1)) (wrap64 (x4_1 + 1))) else (none)) = some r := by first | (rw [hy237];with_reducible exact H) | (have H2_ := (Option.bind_some _ _).symm.trans H;rw [hy237];with_reducible exact H2_) | (have H2_ := (Option.bind_some _ _).symm.trans H;with_reducible exact H2_) | with_reducible exact H | (rw [hy237];exact H) | exact H
      have Ny237 := am_ hy237
      clear hy237
      by_cases c8 : y237.length + (rdOf ByteArray.empty l0 x4_1).size < 140737488355328
      ·rw [if_pos c8] at H
       have LMc8 := am_ c8
       clear c8
       obtain ⟨y241,hy241⟩ : ∃ y_ : List Int,y_ = (y237 ++ bytesOf (rdOf ByteArray.empty l0 x4_1)) := ⟨_,rfl⟩
       replace H : (spec_l02List.l0 k1 l0 y241 (wrap64 (x4_1 + 1))) = some r := by first | (rw [hy241];with_reducible exact H) | (have H2_ := (Option.bind_some _ _).symm.trans H;rw [hy241];with_reducible exact H2_) | (have H2_ := (Option.bind_some _ _).symm.trans H;with_reducible exact H2_) | with_reducible exact H | (rw [hy241];exact H) | exact H
       have Ny241 := am_ hy241
       clear hy241
       have H' := am_ H
       clear H
       try go_wp2
       replace HO_3 := am_ (Kd.R_drew HO_3.out)
       replace HB := am_ (below_drew1 HB.out)
       have p233 : 0 ≤ (x4_1 : Int) := zo_
       have q233 : x4_1 < (l0.length : Int) := zo_
       obtain ⟨ad233,e233,hx233_0⟩ := Kd.at_string HR0.out x4_1 p233 q233
       have hw233_0 := hx233_0
       cases e233
       replace hx233_0 := zx_ HB hx233_0
       replace p233 := eq_true p233
       replace q233 := eq_true q233
       have p240 : 0 ≤ (x4_1 : Int) := zo_
       have q240 : x4_1 < (l0.length : Int) := zo_
       obtain ⟨ad240,e240,hx240_0⟩ := Kd.at_string HR0.out x4_1 p240 q240
       have hw240_0 := hx240_0
       obtain rfl : ad233 = ad240 := (by injection e240)
       replace hx240_0 := zx_ HB hx240_0
       replace p240 := eq_true p240
       replace q240 := eq_true q240
       refine start_ (n := 14) (S := fun w' => w'.cell? (ad233.add (x4_1).toNat) = some (.string (rdOf ByteArray.empty l0 x4_1)) ∧ w'.cell? (ad233.add (x4_1).toNat) = some (.string (rdOf ByteArray.empty l0 x4_1))) (ds := []) #[false,false,false,false,false,false,false,false,false,false,false,false,false,false] (by kernel_rfl) rfl rfl ⟨(zx_ HB hw233_0),(zx_ HB hw240_0)⟩ (fun hHeld => ?_);refine with_tabW spec_l02List.tab5 spec_l02List.bits5 (fun HT_ HW_ => ?_)
       generalize wr.drew = w9 at HO_3 HB hx233_0 hx240_0 hHeld ⊢
       refine zpu 0 (N := some 15) HT_ ?_
       refine zpu 1 (N := some 16) HT_ ?_
       refine zpu 2 (N := some 17) HT_ ?_
       refine zpu 3 (N := some 18) HT_ ?_
       refine zpu 8 (N := some 23) HT_ ?_
       refine zpu 9 (N := some 24) HT_ ?_
       refine zpu 10 (N := some 25) HT_ ?_
       refine ztk 4 (N := some 19) HT_ HW_ hHeld ?_
       refine zpu 5 (N := some 20) HT_ ?_
       refine ztk 11 (N := some 26) HT_ HW_ hHeld ?_
       refine zon 6 (N := some 21) HT_ (fun K hK => ?_)
       refine zgo Try.func82 #[.int .i64 ((rdOf ByteArray.empty l0 x4_1).size : Int),.int .i64 2] ?_
       with_reducible refine (spec_l02Number.calls k1 ((rdOf ByteArray.empty l0 x4_1).size : Int) 2 t234 _ A6.out).mono ?_
       rintro e w10 ⟨v235,rfl,ho0,hb⟩
       refine ⟨_,rfl,?_⟩
       have HO236 := am_ (Kd.R_lower (Kd.R_new' ho0 (Kd.R_lt (zr HO_3))) (below_size (zl_ HB)))
       replace HO_3 := am_ (Kd.R_elder' (zr HO_3) (Kd.R_base ho0) hb)
       replace HB := zs_ HB hb
       (try clear hb)
       (try clear hb2)
       (try clear hk)
       (try clear hi)
       (try clear ho0)
       obtain ⟨Ao12,co12,eo12⟩ := Kd.R_slice HO236.out
       (first | subst eo12 | (injection eo12 with f1_ f2_ f3_;have f4_ := f1_.symm;have f5_ := f3_.symm;clear f1_ f2_ f3_;subst f4_;subst f5_))
       refine hK.out _ _ ⟨(zx_ HB hw233_0),(zx_ HB hw240_0)⟩ (fun hHeld => ?_)
       clear hK K
       refine norm_ (a' := ?_) ?_ ?_
       rotate_left
       ·show Act.put _ (some 21) _ = _
        simp only [Act.put,p1_,p2_,p3_,i64_w,i32_w]
        rfl
       refine zon 7 (N := some 22) HT_ (fun K hK => ?_)
       refine Kd.R_append_rows_step (Kd.int .u8) (w0 := w) w.heap.size (by rfl) (.tmp 15) (.tmp 21) 24 5 (.int .u8 0) 1 rfl Try.underlying24 info5 rfl (by decide) (by omega) u3 x3_1 t234 _ _ _ (fun k_ => some k_ ≠ (.slice Ao12 t234.length co12 : Value).ownBlock) (fun _ => False) rfl rfl ?aO ?aR (fun _ _ h => h) (fun _ h => h.elim) ?aF ?aB ?aS ?aL ?_
       (case aR => repeat (first | exact (Kd.R_reads' HO236.out).2.2 | (with_reducible refine Kd.C_alloc ?_ _) | (with_reducible refine Kd.C_drewN ?_ _) | (with_reducible refine Kd.C_drew ?_)))
       (case aB => exact (zl_ HB))
       (case aF => exact (fun k_ hk => Kd.fresh' (Kd.R_lt (zr HO236)) k_ hk))
       (case aO => exact (by (with_reducible repeat (first | apply r1_ | apply r2_ | apply r3_));exact Kd.R_mono HO_3.out (fun _ hk => hk.2)))
       (case aS => exact (below_size (zl_ HB)))
       (case aL => have := LMc7.out;omega)
       intro v238 w11 ho hb hg hat
       rw [← Ny237.out] at ho
       replace HO236 := am_ (Kd.R_after (ok := (fun _ => True)) (zr HO236) hg hat)
       replace HB := am_ (hb)
       have HO239 := am_ (ho)
       clear HO_3
       clear ho hb hg hat
       refine hK.out _ _ ⟨(zx_ HB hw233_0),(zx_ HB hw240_0)⟩ (fun hHeld => ?_)
       clear hK K
       refine norm_ (a' := ?_) ?_ ?_
       rotate_left
       ·show Act.put _ (some 22) _ = _
        simp only [Act.put,p1_,p2_,p3_,i64_w,i32_w]
        rfl
       refine zon 12 (N := some 27) HT_ (fun K hK => ?_)
       refine Kd.R_append_str_step (Kd.int .u8) rfl (w0 := w) w.heap.size (by rfl) (.tmp 22) _ 24 9 5 rfl Try.underlying24 Try.underlying9 info5 v238 y237 (rdOf ByteArray.empty l0 x4_1) (fun k_ => some k_ ≠ (.slice Ao12 t234.length co12 : Value).ownBlock) rfl rfl ?aO ?aF ?aB ?aS ?aL ?_
       (case aB => exact (zl_ HB))
       (case aF => exact (fun k_ hk => Kd.fresh' (Kd.R_lt (zr HO236)) k_ hk))
       (case aO => exact (zr HO239))
       (case aS => exact (below_size (zl_ HB)))
       (case aL => have := LMc8.out;omega)
       intro v242 w13 ho hb hg hat
       rw [← Ny241.out] at ho
       replace HB := am_ (hb)
       have HO243 := am_ (ho)
       clear HO239
       clear ho hb hg hat
       refine hK.out _ _ ⟨(zx_ HB hw233_0),(zx_ HB hw240_0)⟩ (fun hHeld => ?_)
       clear hK K
       refine norm_ (a' := ?_) ?_ ?_
       rotate_left
       ·show Act.put _ (some 27) _ = _
        simp only [Act.put,p1_,p2_,p3_,i64_w,i32_w]
        rfl
       refine zpu 13 (N := some 3) HT_ ?_
       refine done_ (done_of HT_.out (by kernel_rfl)) ?_
       try go_wp2
       go_roundg k1
       case measure => have := HK1.out;omega
       case rel => exact ⟨(y241),(wrap64 (x4_1 + 1)),(by first | rfl | (simp;done) | (simp [*];done)),H',⟨by have := HK1.out;omega⟩,⟨by (with_reducible repeat (first | apply r1_ | apply r2_ | apply r3_));exact Kd.R_mono HO243.out (fun _ hk => trivial)⟩,⟨zl_ HB⟩⟩
      ·rw [if_neg c8] at H
       exact absurd H (by simp)
     ·rw [if_neg c7] at H
      exact absurd H (by simp)
    ·rw [if_neg c5] at H
     exact absurd H (by simp)
   ·rw [if_neg c4] at H
    have c4b0 : decide (x4_1 < (l0.length : Int)) = false := decide_eq_false c4
    clear c4
    obtain rfl := Option.some.inj H
    go_wp2
    go_ret
    exact ⟨_,zt_,zr HO_3,zl_ HB⟩
def spec_l02Plain.T2 : Bool × List (List Nat × List Nat) := (true,[([],[]),([],[]),([1],[1]),([0,2],[0,2]),([],[]),([4],[4]),([5],[5]),([6,3],[6]),([3,7,7],[3,7]),([8,8,0,1,2,3,4,5,6,7,8],[0,8])])
def spec_l02Plain.B2 : List Nat := [0,0,2,7,0,16,48,127,255,511]
theorem spec_l02Plain.tab2 : rtab .any (opsOf Try.f81 2) = spec_l02Plain.T2 := by kernel_rfl
theorem spec_l02Plain.bits2 : waitsOk spec_l02Plain.T2.2 spec_l02Plain.B2 = true := by kernel_rfl
set_option maxHeartbeats 8000000 in
set_option maxRecDepth 100000 in
theorem spec_l02Plain.calls (k : Nat) (a0_0 : Int) (a0_1 : Int) (a0_2 : Int) (a0_3 : Int) (a0_4 : ByteArray) (a0_5 : ByteArray) (a0_6 : ByteArray) (r : List Int) (w : World) (h : spec_l02Plain.f k a0_0 a0_1 a0_2 a0_3 a0_4 a0_5 a0_6 = some r) :
  Calls Try.prog 81 #[.agg #[.int .i64 a0_0,.int .i64 a0_1,.int .i64 a0_2,.int .i64 a0_3,.string a0_4,.string a0_5,.string a0_6]] w fun e w' => ∃ v0_ : Value,e = .returned (v0_) ∧ Kd.R (Kd.int .u8) 5 w' w.heap.size (fun _ => True) v0_ r ∧ Below w.heap.size w w' := by
 have hu63 := Try.underlying63
 have HB := am_ (Below.refl w.heap.size w)
 have H : ((some (([(a0_0) % 256,(a0_1) % 256,(a0_2) % 256,(a0_3) % 256,((a0_4.size : Int)) % 256] : List Int) : List Int)).bind fun y208 => (if y208.length + a0_4.size < 140737488355328 then ((some (y208 ++ bytesOf a0_4 : List Int)).bind fun y211 => ((spec_l02Number.f k (a0_5.size : Int) 2).bind fun t214 => (if y211.length + t214.length < 140737488355328 then ((some (y211 ++ t214 : List Int)).bind fun y217 => (if y217.length + a0_5.size < 140737488355328 then (some (y217 ++ bytesOf a0_5)) else (none))) else (none)))) else (none))) = some r := h
 clear h
 obtain ⟨y208,hy208⟩ : ∃ y_ : List Int,y_ = (([(a0_0) % 256,(a0_1) % 256,(a0_2) % 256,(a0_3) % 256,((a0_4.size : Int)) % 256] : List Int)) := ⟨_,rfl⟩
 replace H : (if y208.length + a0_4.size < 140737488355328 then ((some (y208 ++ bytesOf a0_4 : List Int)).bind fun y211 => ((spec_l02Number.f k (a0_5.size : Int) 2).bind fun t214 => (if y211.length + t214.length < 140737488355328 then ((some (y211 ++ t214 : List Int)).bind fun y217 => (if y217.length + a0_5.size < 140737488355328 then (some (y217 ++ bytesOf a0_5)) else (none))) else (none)))) else (none)) = some r := by first | (rw [hy208];with_reducible exact H) | (have H2_ := (Option.bind_some _ _).symm.trans H;rw [hy208];with_reducible exact H2_) | (have H2_ := (Option.bind_some _ _).symm.trans H;with_reducible exact H2_) | with_reducible exact H | (rw [hy208];exact H) | exact H
 have Ny208 := am_ hy208
 clear hy208
 by_cases c2 : y208.length + a0_4.size < 140737488355328
 ·rw [if_pos c2] at H
  have LMc2 := am_ c2
  clear c2
  obtain ⟨y211,hy211⟩ : ∃ y_ : List Int,y_ = (y208 ++ bytesOf a0_4) := ⟨_,rfl⟩
  replace H : ((spec_l02Number.f k (a0_5.size : Int) 2).bind fun t214 => (if y211.length + t214.length < 140737488355328 then ((some (y211 ++ t214 : List Int)).bind fun y217 => (if y217.length + a0_5.size < 140737488355328 then (some (y217 ++ bytesOf a0_5)) else (none))) else (none))) = some r := by first | (rw [hy211];with_reducible exact H) | (have H2_ := (Option.bind_some _ _).symm.trans H;rw [hy211];with_reducible exact H2_) | (have H2_ := (Option.bind_some _ _).symm.trans H;with_reducible exact H2_) | with_reducible exact H | (rw [hy211];exact H) | exact H
  have Ny211 := am_ hy211
  clear hy211
  replace H := Option.bind_eq_some_iff.mp H
  obtain ⟨t214,A30,H⟩ := H
  try dsimp only at H
  have A3 := am_ A30
  clear A30
  by_cases c4 : y211.length + t214.length < 140737488355328
  ·rw [if_pos c4] at H
   have LMc4 := am_ c4
   clear c4
   obtain ⟨y217,hy217⟩ : ∃ y_ : List Int,y_ = (y211 ++ t214) := ⟨_,rfl⟩
   replace H : (if y217.length + a0_5.size < 140737488355328 then (some (y217 ++ bytesOf a0_5)) else (none)) = some r := by first | (rw [hy217];with_reducible exact H) | (have H2_ := (Option.bind_some _ _).symm.trans H;rw [hy217];with_reducible exact H2_) | (have H2_ := (Option.bind_some _ _).symm.trans H;with_reducible exact H2_) | with_reducible exact H | (rw [hy217];exact H) | exact H
   have Ny217 := am_ hy217
   clear hy217
   by_cases c5 : y217.length + a0_5.size < 140737488355328
   ·rw [if_pos c5] at H
    have LMc5 := am_ c5
    clear c5
    obtain ⟨y220,hy220⟩ : ∃ y_ : List Int,y_ = (y217 ++ bytesOf a0_5) := ⟨_,rfl⟩
    replace H : (some y220) = some r := by first | (rw [hy220];with_reducible exact H) | (have H2_ := (Option.bind_some _ _).symm.trans H;rw [hy220];with_reducible exact H2_) | (have H2_ := (Option.bind_some _ _).symm.trans H;with_reducible exact H2_) | with_reducible exact H | (rw [hy220];exact H) | exact H
    have Ny220 := am_ hy220
    clear hy220
    obtain rfl := Option.some.inj H
    go_enter Try.func81,Try.ntmps81
    try go_wp2_with (first | ((with_reducible refine gate_dst (N := 1) rfl ?_);refine zbx (N := 1) (cs := #[.int .i64 a0_0,.int .i64 a0_1,.int .i64 a0_2,.int .i64 a0_3,.string a0_4,.string a0_5,.string a0_6]) (t := 63) ?_;intro gb207 hg w6 hbox hb;have BK207 := am_ (hbox);have GW207 := zw_ HB hg;have GE207 := zw_ HB hg;replace HB := zs_ HB hb;clear hb hbox hg;obtain ⟨hcz7_0,hcz7_1,hcz7_2,hcz7_3,hcz7_4,hcz7_5,hcz7_6,hfz7_0,hfz7_1,hfz7_2,hfz7_3,hfz7_4,hfz7_5,hfz7_6⟩ := zc7 BK207) | ((with_reducible refine gate_dst (N := 20) rfl ?_);refine Kd.R_lit (Kd.int .u8) _ 5 ?hg (N := 20) ?hd (xs := ([(a0_0) % 256,(a0_1) % 256,(a0_2) % 256,(a0_3) % 256,((a0_4.size : Int)) % 256] : List Int)) (inner := [.int .u8 ((a0_0) % 256),.int .u8 ((a0_1) % 256),.int .u8 ((a0_2) % 256),.int .u8 ((a0_3) % 256),.int .u8 (((a0_4.size : Int)) % 256)]) (ok := fun _ => True) (okp := fun _ => True) ?hr ?hp (fun _ hk => hk) trivial (Below.refl _ _) (Nat.le_refl _) (by simp) ?_;(case hd => rfl);(case hg => rfl);(case hr => first | (go_simp;done) | (go_simp;rfl));(case hp => exact (Reps.one (show Kd.M (Kd.int .u8) _ _ _ ((a0_0) % 256) [.int .u8 ((a0_0) % 256)] from rfl) (Reps.one (show Kd.M (Kd.int .u8) _ _ _ ((a0_1) % 256) [.int .u8 ((a0_1) % 256)] from rfl) (Reps.one (show Kd.M (Kd.int .u8) _ _ _ ((a0_2) % 256) [.int .u8 ((a0_2) % 256)] from rfl) (Reps.one (show Kd.M (Kd.int .u8) _ _ _ ((a0_3) % 256) [.int .u8 ((a0_3) % 256)] from rfl) (Reps.one (show Kd.M (Kd.int .u8) _ _ _ (((a0_4.size : Int)) % 256) [.int .u8 (((a0_4.size : Int)) % 256)] from rfl) (Reps.none _ _)))))));intro v209 w8 ho9 hb hg_ hnew_;clear hg_ hnew_;(first | rw [← Ny208.out] at ho9 | (simp only [Int.reduceToNat] at ho9;rw [← Ny208.out] at ho9));have HO210 := am_ (Kd.R_lower ho9 (below_size (zl_ HB)));replace BK207 := zb BK207 hb;replace HB := zs_ HB hb;clear hb ho9))
    replace HO210 := am_ (Kd.R_drew HO210.out)
    replace BK207 := am_ (blk_drew BK207.out)
    replace HB := am_ (below_drew1 HB.out)
    refine start_ (n := 10) (S := fun w' => w'.cell? ⟨gb207,0,none⟩ = some (.int .i64 a0_0) ∧ w'.cell? ⟨gb207,1,none⟩ = some (.int .i64 a0_1) ∧ w'.cell? ⟨gb207,2,none⟩ = some (.int .i64 a0_2) ∧ w'.cell? ⟨gb207,3,none⟩ = some (.int .i64 a0_3) ∧ w'.cell? ⟨gb207,4,none⟩ = some (.string a0_4) ∧ w'.cell? ⟨gb207,5,none⟩ = some (.string a0_5) ∧ w'.cell? ⟨gb207,6,none⟩ = some (.string a0_6)) (ds := []) #[false,false,false,false,false,false,false,false,false,false] (by kernel_rfl) rfl rfl ⟨(blk_cell BK207.out 0).trans rfl,(blk_cell BK207.out 1).trans rfl,(blk_cell BK207.out 2).trans rfl,(blk_cell BK207.out 3).trans rfl,(blk_cell BK207.out 4).trans rfl,(blk_cell BK207.out 5).trans rfl,(blk_cell BK207.out 6).trans rfl⟩ (fun hHeld => ?_);refine with_tabW spec_l02Plain.tab2 spec_l02Plain.bits2 (fun HT_ HW_ => ?_)
    generalize w8.drew = w10 at HO210 BK207 HB hHeld ⊢
    refine zpu 0 (N := some 21) HT_ ?_
    refine zpu 1 (N := some 22) HT_ ?_
    refine zpu 4 (N := some 25) HT_ ?_
    refine ztk 2 (N := some 23) HT_ HW_ hHeld ?_
    refine ztk 5 (N := some 26) HT_ HW_ hHeld ?_
    refine zpu 6 (N := some 27) HT_ ?_
    refine zon 3 (N := some 24) HT_ (fun K hK => ?_)
    refine Kd.R_append_str_step (Kd.int .u8) rfl (w0 := w) w.heap.size (by rfl) (.tmp 21) _ 24 9 5 rfl Try.underlying24 Try.underlying9 info5 v209 y208 a0_4 (fun _ => True) rfl rfl ?aO ?aF ?aB ?aS ?aL ?_
    (case aB => exact (zl_ HB))
    (case aF => exact (fun _ _ => trivial))
    (case aO => exact (zr HO210))
    (case aS => exact (below_size (zl_ HB)))
    (case aL => have := LMc2.out;omega)
    intro v212 w11 ho hb hg hat
    rw [← Ny211.out] at ho
    replace BK207 := am_ (blk_grown (g := gb207) (o := .cells #[.int .i64 a0_0,.int .i64 a0_1,.int .i64 a0_2,.int .i64 a0_3,.string a0_4,.string a0_5,.string a0_6] 63 (0,0)) (zk BK207) hg (Kd.R_ne HO210.out BK207.out (by decide)))
    replace HB := am_ (hb)
    have HO213 := am_ (ho)
    clear HO210
    clear ho hb hg hat
    refine hK.out _ _ ⟨(blk_cell BK207.out 0).trans rfl,(blk_cell BK207.out 1).trans rfl,(blk_cell BK207.out 2).trans rfl,(blk_cell BK207.out 3).trans rfl,(blk_cell BK207.out 4).trans rfl,(blk_cell BK207.out 5).trans rfl,(blk_cell BK207.out 6).trans rfl⟩ (fun hHeld => ?_)
    clear hK K
    refine norm_ (a' := ?_) ?_ ?_
    rotate_left
    ·show Act.put _ (some 24) _ = _
     simp only [Act.put,p1_,p2_,p3_,i64_w,i32_w]
     rfl
    refine zon 7 (N := some 28) HT_ (fun K hK => ?_)
    refine zgo Try.func82 #[.int .i64 (a0_5.size : Int),.int .i64 2] ?_
    with_reducible refine (spec_l02Number.calls k (a0_5.size : Int) 2 t214 _ A3.out).mono ?_
    rintro e w12 ⟨v215,rfl,ho0,hb⟩
    refine ⟨_,rfl,?_⟩
    have HO216 := am_ (Kd.R_lower (Kd.R_new' ho0 (Kd.R_lt (zr HO213))) (below_size (zl_ HB)))
    replace HO213 := am_ (Kd.R_elder' (zr HO213) (Kd.R_base ho0) hb)
    replace BK207 := zb BK207 hb
    replace HB := zs_ HB hb
    (try clear hb)
    (try clear hb2)
    (try clear hk)
    (try clear hi)
    (try clear ho0)
    obtain ⟨Ao14,co14,eo14⟩ := Kd.R_slice HO216.out
    (first | subst eo14 | (injection eo14 with f1_ f2_ f3_;have f4_ := f1_.symm;have f5_ := f3_.symm;clear f1_ f2_ f3_;subst f4_;subst f5_))
    refine hK.out _ _ ⟨(blk_cell BK207.out 0).trans rfl,(blk_cell BK207.out 1).trans rfl,(blk_cell BK207.out 2).trans rfl,(blk_cell BK207.out 3).trans rfl,(blk_cell BK207.out 4).trans rfl,(blk_cell BK207.out 5).trans rfl,(blk_cell BK207.out 6).trans rfl⟩ (fun hHeld => ?_)
    clear hK K
    refine norm_ (a' := ?_) ?_ ?_
    rotate_left
    ·show Act.put _ (some 28) _ = _
     simp only [Act.put,p1_,p2_,p3_,i64_w,i32_w]
     rfl
    refine zon 8 (N := some 29) HT_ (fun K hK => ?_)
    refine Kd.R_append_rows_step (Kd.int .u8) (w0 := w) w.heap.size (by rfl) (.tmp 24) (.tmp 28) 24 5 (.int .u8 0) 1 rfl Try.underlying24 info5 rfl (by decide) (by omega) v212 y211 t214 _ _ _ (fun k_ => some k_ ≠ (.slice Ao14 t214.length co14 : Value).ownBlock) (fun _ => False) rfl rfl ?aO ?aR (fun _ _ h => h) (fun _ h => h.elim) ?aF ?aB ?aS ?aL ?_
    (case aR => repeat (first | exact (Kd.R_reads' HO216.out).2.2 | (with_reducible refine Kd.C_alloc ?_ _) | (with_reducible refine Kd.C_drewN ?_ _) | (with_reducible refine Kd.C_drew ?_)))
    (case aB => exact (zl_ HB))
    (case aF => exact (fun k_ hk => Kd.fresh' (Kd.R_lt (zr HO216)) k_ hk))
    (case aO => exact (by (with_reducible repeat (first | apply r1_ | apply r2_ | apply r3_));exact Kd.R_mono HO213.out (fun _ hk => hk.2)))
    (case aS => exact (below_size (zl_ HB)))
    (case aL => have := LMc4.out;omega)
    intro v218 w13 ho hb hg hat
    rw [← Ny217.out] at ho
    replace BK207 := am_ (blk_grown (g := gb207) (o := .cells #[.int .i64 a0_0,.int .i64 a0_1,.int .i64 a0_2,.int .i64 a0_3,.string a0_4,.string a0_5,.string a0_6] 63 (0,0)) (zk BK207) hg (Kd.R_ne HO213.out BK207.out (by decide)))
    replace HO216 := am_ (Kd.R_after (ok := (fun _ => True)) (zr HO216) hg hat)
    replace HB := am_ (hb)
    have HO219 := am_ (ho)
    clear HO213
    clear ho hb hg hat
    refine hK.out _ _ ⟨(blk_cell BK207.out 0).trans rfl,(blk_cell BK207.out 1).trans rfl,(blk_cell BK207.out 2).trans rfl,(blk_cell BK207.out 3).trans rfl,(blk_cell BK207.out 4).trans rfl,(blk_cell BK207.out 5).trans rfl,(blk_cell BK207.out 6).trans rfl⟩ (fun hHeld => ?_)
    clear hK K
    refine norm_ (a' := ?_) ?_ ?_
    rotate_left
    ·show Act.put _ (some 29) _ = _
     simp only [Act.put,p1_,p2_,p3_,i64_w,i32_w]
     rfl
    refine zpu 9 (N := some 3) HT_ ?_
    refine done_ (done_of HT_.out (by kernel_rfl)) ?_
    obtain ⟨hcz15_0,hcz15_1,hcz15_2,hcz15_3,hcz15_4,hcz15_5,hcz15_6,hfz15_0,hfz15_1,hfz15_2,hfz15_3,hfz15_4,hfz15_5,hfz15_6⟩ := zc7 BK207
    try go_wp2_with (first | (at_builtin;refine Kd.R_append_str (Kd.int .u8) rfl (w0 := w) w.heap.size rfl (.tmp 30) _ 24 9 5 rfl Try.underlying24 Try.underlying9 info5 v218 y217 a0_5 (fun k_ => some k_ ≠ (.slice Ao14 t214.length co14 : Value).ownBlock) rfl rfl ?aO ?aF ?aB ?aS ?aL ?_;(case aB => exact (zl_ HB));(case aF => exact (fun k_ hk => Kd.fresh' (Kd.R_lt (zr HO216)) k_ hk));(case aO => exact (zr HO219));(case aS => exact (below_size (zl_ HB)));(case aL => have := LMc5.out;omega);intro v221 w16 ho hb hg hat;rw [← Ny220.out] at ho;replace HB := am_ (hb);have HO222 := am_ (ho);clear HO219;clear ho hb hg hat))
    go_ret
    exact ⟨_,zt_,by (with_reducible repeat (first | apply r1_ | apply r2_ | apply r3_));exact Kd.R_mono HO222.out (fun _ hk => trivial),zl_ HB⟩
   ·rw [if_neg c5] at H
    exact absurd H (by simp)
  ·rw [if_neg c4] at H
   exact absurd H (by simp)
 ·rw [if_neg c2] at H
  exact absurd H (by simp)
set_option maxHeartbeats 8000000 in
set_option maxRecDepth 100000 in
theorem spec_l02Message.calls (k : Nat) (a0_0 : Int) (a0_1 : Int) (a0_2 : Int) (a0_3 : Int) (a0_4 : ByteArray) (a0_5 : ByteArray) (a0_6 : ByteArray) (r : List Int) (w : World) (h : spec_l02Message.f k a0_0 a0_1 a0_2 a0_3 a0_4 a0_5 a0_6 = some r) :
  Calls Try.prog 65 #[.agg #[.int .i64 a0_0,.int .i64 a0_1,.int .i64 a0_2,.int .i64 a0_3,.string a0_4,.string a0_5,.string a0_6]] w fun e w' => ∃ v0_ : Value,e = .returned (v0_) ∧ Kd.R (Kd.int .u8) 5 w' w.heap.size (fun _ => True) v0_ r ∧ Below w.heap.size w w' := by
 have hu63 := Try.underlying63
 have HB := am_ (Below.refl w.heap.size w)
 have H : ((spec_l02Plain.f k a0_0 a0_1 a0_2 a0_3 a0_4 a0_5 a0_6).bind fun t224 => (if t224.length + a0_6.size < 140737488355328 then (some (t224 ++ bytesOf a0_6)) else (none))) = some r := h
 clear h
 replace H := Option.bind_eq_some_iff.mp H
 obtain ⟨t224,A20,H⟩ := H
 try dsimp only at H
 have A2 := am_ A20
 clear A20
 by_cases c3 : t224.length + a0_6.size < 140737488355328
 ·rw [if_pos c3] at H
  have LMc3 := am_ c3
  clear c3
  obtain ⟨y227,hy227⟩ : ∃ y_ : List Int,y_ = (t224 ++ bytesOf a0_6) := ⟨_,rfl⟩
  replace H : (some y227) = some r := by first | (rw [hy227];with_reducible exact H) | (have H2_ := (Option.bind_some _ _).symm.trans H;rw [hy227];with_reducible exact H2_) | (have H2_ := (Option.bind_some _ _).symm.trans H;with_reducible exact H2_) | with_reducible exact H | (rw [hy227];exact H) | exact H
  have Ny227 := am_ hy227
  clear hy227
  obtain rfl := Option.some.inj H
  go_enter Try.func65,Try.ntmps65
  try go_wp2_with (first | ((with_reducible refine gate_dst (N := 1) rfl ?_);refine zbx (N := 1) (cs := #[.int .i64 a0_0,.int .i64 a0_1,.int .i64 a0_2,.int .i64 a0_3,.string a0_4,.string a0_5,.string a0_6]) (t := 63) ?_;intro gb223 hg w4 hbox hb;have BK223 := am_ (hbox);have GW223 := zw_ HB hg;have GE223 := zw_ HB hg;replace HB := zs_ HB hb;clear hb hbox hg))
  replace BK223 := am_ (blk_drew BK223.out)
  replace HB := am_ (below_drew1 HB.out)
  refine start_ (n := 6) (S := fun w' => w'.cell? ⟨gb223,0,none⟩ = some (.int .i64 a0_0) ∧ w'.cell? ⟨gb223,1,none⟩ = some (.int .i64 a0_1) ∧ w'.cell? ⟨gb223,2,none⟩ = some (.int .i64 a0_2) ∧ w'.cell? ⟨gb223,3,none⟩ = some (.int .i64 a0_3) ∧ w'.cell? ⟨gb223,4,none⟩ = some (.string a0_4) ∧ w'.cell? ⟨gb223,5,none⟩ = some (.string a0_5) ∧ w'.cell? ⟨gb223,6,none⟩ = some (.string a0_6)) (ds := []) #[false,false,false,false,false,false] (by kernel_rfl) rfl rfl ⟨(blk_cell BK223.out 0).trans rfl,(blk_cell BK223.out 1).trans rfl,(blk_cell BK223.out 2).trans rfl,(blk_cell BK223.out 3).trans rfl,(blk_cell BK223.out 4).trans rfl,(blk_cell BK223.out 5).trans rfl,(blk_cell BK223.out 6).trans rfl⟩ (fun hHeld => ?_)
  generalize w4.drew = w5 at BK223 HB hHeld ⊢
  refine pure_ (i := 2) (N := some 5) (v := ?_) (a' := ?_) #[false,false,true,false,false,false] rfl rfl (by kernel_rfl) (fun _ _ _ h => h) (Or.inl ⟨by rfl,?_⟩) ?_ ?_
  rotate_left
  ·intro w'
   go_simp
   with_reducible rfl
  rotate_left
  ·simp only [Act.put,p1_,p2_,p3_,i64_w,i32_w]
   rfl
  refine take_ (i := 0) (N := some 3) (v := ?_) (a' := ?_) #[true,false,true,false,false,false] rfl rfl (by kernel_rfl) (fun _ _ _ h => h) (Or.inl ⟨by rfl,?_⟩) hHeld ?_ ?_
  rotate_left
  ·rintro w' ⟨s0,s1,s2,s3,s4,s5,s6⟩
   go_simp
   with_reducible rfl
  rotate_left
  ·simp only [Act.put,p1_,p2_,p3_,i64_w,i32_w]
   rfl
  refine take_ (i := 3) (N := some 6) (v := ?_) (a' := ?_) #[true,false,true,true,false,false] rfl rfl (by kernel_rfl) (fun _ _ _ h => h) (Or.inl ⟨by rfl,?_⟩) hHeld ?_ ?_
  rotate_left
  ·rintro w' ⟨s0,s1,s2,s3,s4,s5,s6⟩
   go_simp
   with_reducible rfl
  rotate_left
  ·simp only [Act.put,p1_,p2_,p3_,i64_w,i32_w]
   rfl
  refine one_ (i := 1) (N := some 4) #[true,true,true,true,false,false] rfl rfl (by kernel_rfl) (by decide) (fun K hK => ?_)
  refine zgo Try.func81 #[.agg #[.int .i64 a0_0,.int .i64 a0_1,.int .i64 a0_2,.int .i64 a0_3,.string a0_4,.string a0_5,.string a0_6]] ?_
  with_reducible refine (spec_l02Plain.calls k a0_0 a0_1 a0_2 a0_3 a0_4 a0_5 a0_6 t224 _ A2.out).mono ?_
  rintro e w6 ⟨v225,rfl,ho0,hb⟩
  refine ⟨_,rfl,?_⟩
  have HO226 := am_ (Kd.R_lower ho0 (below_size (zl_ HB)))
  replace BK223 := zb BK223 hb
  replace HB := zs_ HB hb
  (try clear hb)
  (try clear hb2)
  (try clear hk)
  (try clear hi)
  (try clear ho0)
  refine hK.out _ _ ⟨(blk_cell BK223.out 0).trans rfl,(blk_cell BK223.out 1).trans rfl,(blk_cell BK223.out 2).trans rfl,(blk_cell BK223.out 3).trans rfl,(blk_cell BK223.out 4).trans rfl,(blk_cell BK223.out 5).trans rfl,(blk_cell BK223.out 6).trans rfl⟩ (fun hHeld => ?_)
  clear hK K
  refine norm_ (a' := ?_) ?_ ?_
  rotate_left
  ·show Act.put _ (some 4) _ = _
   simp only [Act.put,p1_,p2_,p3_,i64_w,i32_w]
   rfl
  refine one_ (i := 4) (N := some 7) #[true,true,true,true,true,false] rfl rfl (by kernel_rfl) (by decide) (fun K hK => ?_)
  refine Kd.R_append_str_step (Kd.int .u8) rfl (w0 := w) w.heap.size (by rfl) (.tmp 4) _ 24 9 5 rfl Try.underlying24 Try.underlying9 info5 v225 t224 a0_6 (fun _ => True) rfl rfl ?aO ?aF ?aB ?aS ?aL ?_
  (case aB => exact (zl_ HB))
  (case aF => exact (fun _ _ => trivial))
  (case aO => exact (zr HO226))
  (case aS => exact (below_size (zl_ HB)))
  (case aL => have := LMc3.out;omega)
  intro v228 w7 ho hb hg hat
  rw [← Ny227.out] at ho
  replace BK223 := am_ (blk_grown (g := gb223) (o := .cells #[.int .i64 a0_0,.int .i64 a0_1,.int .i64 a0_2,.int .i64 a0_3,.string a0_4,.string a0_5,.string a0_6] 63 (0,0)) (zk BK223) hg (Kd.R_ne HO226.out BK223.out (by decide)))
  replace HB := am_ (hb)
  have HO229 := am_ (ho)
  clear HO226
  clear ho hb hg hat
  refine hK.out _ _ ⟨(blk_cell BK223.out 0).trans rfl,(blk_cell BK223.out 1).trans rfl,(blk_cell BK223.out 2).trans rfl,(blk_cell BK223.out 3).trans rfl,(blk_cell BK223.out 4).trans rfl,(blk_cell BK223.out 5).trans rfl,(blk_cell BK223.out 6).trans rfl⟩ (fun hHeld => ?_)
  clear hK K
  refine norm_ (a' := ?_) ?_ ?_
  rotate_left
  ·show Act.put _ (some 7) _ = _
   simp only [Act.put,p1_,p2_,p3_,i64_w,i32_w]
   rfl
  refine pure_ (i := 5) (N := some 2) (v := ?_) (a' := ?_) #[true,true,true,true,true,true] rfl rfl (by kernel_rfl) (fun _ _ _ h => h) (Or.inl ⟨by rfl,?_⟩) ?_ ?_
  rotate_left
  ·intro w'
   go_simp
   with_reducible rfl
  rotate_left
  ·simp only [Act.put,p1_,p2_,p3_,i64_w,i32_w]
   rfl
  refine done_ (by kernel_rfl) ?_
  try go_wp2
  go_ret
  exact ⟨_,zt_,zr HO229,zl_ HB⟩
 ·rw [if_neg c3] at H
  exact absurd H (by simp)
set_option maxHeartbeats 8000000 in
set_option maxRecDepth 100000 in
theorem spec_l06Bytes.calls (k : Nat) (a0_0 : ByteArray) (A0_1 : Option Addr) (c0_1 : Nat) (l0_1 : List (S63)) (r : List Int) (w : World) (hr0_1 : Kd.C k63 w A0_1 l0_1.length l0_1) (hc0_1 : l0_1.length ≤ c0_1) (h : spec_l06Bytes.f k a0_0 l0_1 = some r) :
  Calls Try.prog 39 #[.agg #[.string a0_0,.slice A0_1 l0_1.length c0_1]] w fun e w' => ∃ v0_ : Value,e = .returned (v0_) ∧ Kd.R (Kd.int .u8) 5 w' w.heap.size (fun _ => True) v0_ r ∧ Below w.heap.size w w' := by
 have hu39 := Try.underlying39
 have hu63 := Try.underlying63
 have HR0_1 := am_ hr0_1
 have HC0_1 := am_ hc0_1
 clear hr0_1 hc0_1
 have HB := am_ (Below.refl w.heap.size w)
 have H : (spec_l06Bytes.l0 k (([a0_0] : List ByteArray)) 0 a0_0 l0_1) = some r := h
 clear h
 obtain ⟨y245,hy245⟩ : ∃ y_ : List ByteArray,y_ = (([a0_0] : List ByteArray)) := ⟨_,rfl⟩
 replace H : (spec_l06Bytes.l0 k y245 0 a0_0 l0_1) = some r := by first | (rw [hy245];with_reducible exact H) | (have H2_ := (Option.bind_some _ _).symm.trans H;rw [hy245];with_reducible exact H2_) | (have H2_ := (Option.bind_some _ _).symm.trans H;with_reducible exact H2_) | with_reducible exact H | (rw [hy245];exact H) | exact H
 have Ny245 := am_ hy245
 clear hy245
 have H' := am_ H
 clear H
 go_enter Try.func39,Try.ntmps39
 go_wp2_with (first | ((with_reducible refine gate_dst (N := 1) rfl ?_);refine zbx (N := 1) (cs := #[.string a0_0,.slice A0_1 l0_1.length c0_1]) (t := 39) ?_;intro gb244 hg w2 hbox hb;have BK244 := am_ (hbox);have GW244 := zw_ HB hg;have GE244 := zw_ HB hg;replace HB := zs_ HB hb;clear hb hbox hg;obtain ⟨hcz3_0,hcz3_1,hfz3_0,hfz3_1⟩ := zc2 BK244) | ((with_reducible refine gate_dst (N := 7) rfl ?_);refine Kd.R_lit Kd.string _ 9 ?hg (N := 7) ?hd (xs := ([a0_0] : List ByteArray)) (inner := [.string a0_0]) (ok := fun _ => True) (okp := fun _ => True) ?hr ?hp (fun _ hk => hk) trivial (Below.refl _ _) (Nat.le_refl _) (by simp) ?_;(case hd => rfl);(case hg => rfl);(case hr => first | (go_simp;done) | (go_simp;rfl));(case hp => exact (Reps.one (show Kd.M Kd.string _ _ _ a0_0 [.string a0_0] from rfl) (Reps.none _ _)));intro v246 w4 ho5 hb hg_ hnew_;clear hg_ hnew_;(first | rw [← Ny245.out] at ho5 | (simp only [Int.reduceToNat] at ho5;rw [← Ny245.out] at ho5));have HO247 := am_ (Kd.R_lower ho5 (below_size (zl_ HB)));replace BK244 := zb BK244 hb;replace HB := zs_ HB hb;clear hb ho5))
 go_loopg [3,4] k (fun kq v3 v4 w' => ∃ (x3_1 : List ByteArray) (x4_1 : Int),v4 = .int .i64 x4_1 ∧ Aside0 (spec_l06Bytes.l0 kq x3_1 x4_1 a0_0 l0_1 = some r) ∧ Aside0 (kq ≤ k) ∧ Aside0 (Kd.R Kd.string 9 w' w.heap.size (fun _ => True) v3 x3_1) ∧ Aside0 (w'.heap[gb244]? = some (.cells #[.string a0_0,(.slice A0_1 l0_1.length c0_1)] 39 (0,0))) ∧ Aside0 (Below w.heap.size w w'))
 case atStart => exact ⟨(y245),(0),(by first | rfl | (simp;done) | (simp [*];done)),H',⟨Nat.le_refl _⟩,⟨zr HO247⟩,⟨by (with_reducible repeat (first | apply k1_ | apply k2_ | apply k3_));exact BK244.out⟩,⟨zl_ HB⟩⟩
 case round =>
  clear H'
  try clear p2
  try clear c3
  try clear hcz3_0
  try clear hcz3_1
  try clear hfz3_0
  try clear hfz3_1
  obtain ⟨x3_1,x4_1,rfl,HA,HK1,HO_3,BK244,HB⟩ := hrel
  cases gk with
  | zero => exact absurd HA.out (by simp [spec_l06Bytes.l0])
  | succ k1 =>
   have H := HA.out
   clear HA
   simp only [spec_l06Bytes.l0] at H
   by_cases c6 : x4_1 < (l0_1.length : Int)
   ·rw [if_pos c6] at H
    have c6b0 : decide (x4_1 < (l0_1.length : Int)) = true := decide_eq_true c6
    clear c6
    by_cases c7 : 0 ≤ x4_1
    ·rw [if_pos c7] at H
     have c7b0 : decide (0 ≤ x4_1) = true := decide_eq_true c7
     clear c7
     replace H := Option.bind_eq_some_iff.mp H
     obtain ⟨t249,A80,H⟩ := H
     try dsimp only at H
     have A8 := am_ A80
     clear A80
     by_cases c9 : x3_1.length < 8796093022208
     ·rw [if_pos c9] at H
      have LMc9 := am_ c9
      clear c9
      obtain ⟨y252,hy252⟩ : ∃ y_ : List ByteArray,y_ = (x3_1 ++ [strOfNums t249]) := ⟨_,rfl⟩
      replace H : (spec_l06Bytes.l0 k1 y252 (wrap64 (x4_1 + 1)) a0_0 l0_1) = some r := by first | (rw [hy252];with_reducible exact H) | (have H2_ := (Option.bind_some _ _).symm.trans H;rw [hy252];with_reducible exact H2_) | (have H2_ := (Option.bind_some _ _).symm.trans H;with_reducible exact H2_) | with_reducible exact H | (rw [hy252];exact H) | exact H
      have Ny252 := am_ hy252
      clear hy252
      have H' := am_ H
      clear H
      obtain ⟨hcz10_0,hcz10_1,hfz10_0,hfz10_1⟩ := zc2 BK244
      have p248 : 0 ≤ (x4_1 : Int) := zo_
      have q248 : x4_1 < (l0_1.length : Int) := zo_
      obtain ⟨ad248,e248,hx248_0,hx248_1,hx248_2,hx248_3,hx248_4,hx248_5,hx248_6⟩ := at_T63 HR0_1.out x4_1 p248 q248
      cases e248
      replace hx248_0 := zx_ HB hx248_0
      replace hx248_1 := zx_ HB hx248_1
      replace hx248_2 := zx_ HB hx248_2
      replace hx248_3 := zx_ HB hx248_3
      replace hx248_4 := zx_ HB hx248_4
      replace hx248_5 := zx_ HB hx248_5
      replace hx248_6 := zx_ HB hx248_6
      replace p248 := eq_true p248
      replace q248 := eq_true q248
      go_wp2_with (first | ((with_reducible refine gate_callee (f := 65) rfl ?_);refine zgl (some 21) Try.func65 #[.agg #[.int .i64 ((rd_T63 l0_1 x4_1).f0),.int .i64 ((rd_T63 l0_1 x4_1).f1),.int .i64 ((rd_T63 l0_1 x4_1).f2),.int .i64 ((rd_T63 l0_1 x4_1).f3),.string ((rd_T63 l0_1 x4_1).f4),.string ((rd_T63 l0_1 x4_1).f5),.string ((rd_T63 l0_1 x4_1).f6)]] ?_;(with_reducible refine (spec_l02Message.calls k1 ((rd_T63 l0_1 x4_1).f0) ((rd_T63 l0_1 x4_1).f1) ((rd_T63 l0_1 x4_1).f2) ((rd_T63 l0_1 x4_1).f3) ((rd_T63 l0_1 x4_1).f4) ((rd_T63 l0_1 x4_1).f5) ((rd_T63 l0_1 x4_1).f6) t249 _ A8.out).mono ?_);rintro e w11 ⟨v250,rfl,ho0,hb⟩;refine ⟨_,rfl,?_⟩;replace HO_3 := zrb HO_3 hb;have HO251 := am_ (Kd.R_lower ho0 (below_size (zl_ HB)));replace BK244 := zb BK244 hb;replace HB := zs_ HB hb;(try clear hb);(try clear hb2);(try clear hk);(try clear hi);(try clear ho0);have hcv12 := own_string (P := Try.prog) Try.underlying24 Try.underlying5 Try.underlying9 (Kd.own_of_R HO251.out)) | ((with_reducible refine gate_builtin (b := .append) (xs := #[.tmp 15,.tmp 23]) rfl ?_);at_builtin;refine Kd.R_append Kd.string (w0 := w) w.heap.size rfl (.tmp 15) (.tmp 23) 22 9 (.string ⟨#[]⟩) 16 rfl Try.underlying22 info9 rfl (by decide) (by omega) u3 x3_1 (strOfNums t249) [.string (strOfNums t249)] (fun _ => True) (fun _ => False) rfl rfl ?aP (fun _ hk => hk.elim) ?aF ?aO ?aB ?aS ?aL ?_;(case aP => exact rfl);(case aB => exact (zl_ HB));(case aF => exact (fun _ _ => trivial));(case aO => exact (zr HO_3));(case aS => exact (below_size (zl_ HB)));(case aL => have := LMc9.out;omega);intro v253 w13 ho hb hg hat;rw [← Ny252.out] at ho;replace BK244 := am_ (blk_grown (g := gb244) (o := .cells #[.string a0_0,.slice (some ad248) l0_1.length c0_1] 39 (0,0)) (zk BK244) hg (Kd.R_ne HO_3.out BK244.out (by decide)));replace HB := am_ (hb);have HO254 := am_ (ho);clear HO_3;clear ho hb hg hat))
      go_roundg k1
      case measure => have := HK1.out;omega
      case rel => exact ⟨(y252),(wrap64 (x4_1 + 1)),(by first | rfl | (simp;done) | (simp [*];done)),H',⟨by have := HK1.out;omega⟩,⟨zr HO254⟩,⟨by (with_reducible repeat (first | apply k1_ | apply k2_ | apply k3_));exact BK244.out⟩,⟨zl_ HB⟩⟩
     ·rw [if_neg c9] at H
      exact absurd H (by simp)
    ·rw [if_neg c7] at H
     exact absurd H (by simp)
   ·rw [if_neg c6] at H
    have c6b0 : decide (x4_1 < (l0_1.length : Int)) = false := decide_eq_false c6
    clear c6
    replace H := Option.bind_eq_some_iff.mp H
    obtain ⟨t255,A140,H⟩ := H
    try dsimp only at H
    have A14 := am_ A140
    clear A140
    obtain rfl := Option.some.inj H
    obtain ⟨hcz15_0,hcz15_1,hfz15_0,hfz15_1⟩ := zc2 BK244
    obtain ⟨Ao16,co16,eo16⟩ := Kd.R_slice HO_3.out
    subst eo16
    go_wp2_with (first | ((with_reducible refine gate_callee (f := 66) rfl ?_);refine zgl (some 26) Try.func66 #[.slice Ao16 x3_1.length co16] ?_;(with_reducible refine (spec_l02List.calls k1 _ _ x3_1 t255 _ ?side1 ?side2 A14.out).mono ?_);(case side1 => repeat (first | exact (Kd.R_reads' HO_3.out).2.2 | (with_reducible refine Kd.C_alloc ?_ _) | (with_reducible refine Kd.C_drewN ?_ _) | (with_reducible refine Kd.C_drew ?_)));(case side2 => exact (Kd.R_reads' HO_3.out).2.1);rintro e w17 ⟨v256,rfl,ho0,hb⟩;refine ⟨_,rfl,?_⟩;have HO257 := am_ (Kd.R_lower ho0 (below_size (zl_ HB)));replace HB := zs_ HB hb;(try clear hb);(try clear hb2);(try clear hk);(try clear hi);(try clear ho0)))
    go_ret
    exact ⟨_,zt_,zr HO257,zl_ HB⟩
set_option maxHeartbeats 8000000 in
set_option maxRecDepth 100000 in
theorem spec_CertBytes.calls (k : Nat) (a0_0 : ByteArray) (A0_1 : Option Addr) (c0_1 : Nat) (l0_1 : List (S63)) (r1 : List Int) (r2 : Int) (w : World) (hr0_1 : Kd.C k63 w A0_1 l0_1.length l0_1) (hc0_1 : l0_1.length ≤ c0_1) (h : spec_CertBytes.f k a0_0 l0_1 = some (r1,r2)) :
  Calls Try.prog 17 #[.agg #[.string a0_0,.slice A0_1 l0_1.length c0_1]] w fun e w' => ∃ v0_ : Value,e = .returned (.tuple #[v0_,.int .i64 r2]) ∧ Kd.R (Kd.int .u8) 5 w' w.heap.size (fun _ => True) v0_ r1 ∧ Below w.heap.size w w' := by
 have hu39 := Try.underlying39
 have hu63 := Try.underlying63
 have HR0_1 := am_ hr0_1
 have HC0_1 := am_ hc0_1
 clear hr0_1 hc0_1
 have HB := am_ (Below.refl w.heap.size w)
 have H : (if (l0_1.length : Int) > 7 then (spec_CertBytes.j0 k true a0_0 l0_1) else (spec_CertBytes.j0 k (decide ((a0_0.size : Int) > 20000)) a0_0 l0_1)) = some (r1,r2) := h
 clear h
 have HC2 := am_ H
 clear H
 go_enter Try.func17,Try.ntmps17
 go_upto_region 1 with (first | ((with_reducible refine gate_dst (N := 1) rfl ?_);(try (refine gate_guard (by rfl) ?_;dsimp only));refine zbx (N := 1) (cs := #[.string a0_0,.slice A0_1 l0_1.length c0_1]) (t := 39) ?_;intro gb258 hg w3 hbox hb;have BK258 := am_ (hbox);have GW258 := zw_ HB hg;have GE258 := zw_ HB hg;replace HB := zs_ HB hb;clear hb hbox hg))
 (try simp only [Act.put,p1_,p2_,p3_])
 go_cut [14] (fun v14 wc => ∃ (kq : Nat) (x14_1 : Bool),v14 = .bool x14_1 ∧ Aside0 (spec_CertBytes.j0 kq x14_1 a0_0 l0_1 = some (r1,r2)) ∧ Aside0 (kq ≤ k) ∧ Aside0 (wc.heap[gb258]? = some (.cells #[.string a0_0,(.slice A0_1 l0_1.length c0_1)] 39 (0,0))) ∧ Aside0 (Below w.heap.size w wc))
 case first =>
  have H := HC2.out
  clear HC2
  by_cases c4 : (l0_1.length : Int) > 7
  ·rw [if_pos c4] at H
   have c4b0 : decide (7 < (l0_1.length : Int)) = true := decide_eq_true c4
   have c4b1 : decide (7 < l0_1.length) = true := decide_eq_true (by omega)
   clear c4
   (first | rw [c4b0] | (simp only [i64_w,i32_w];rw [c4b0]) | skip)
   have H' := am_ H
   clear H
   obtain ⟨hcz5_0,hcz5_1,hfz5_0,hfz5_1⟩ := zc2 BK258
   go_wp2
   go_meet
   case rel => exact ⟨_,(true),(by first | rfl | (simp;done) | (simp [*];done)),H',⟨by first | omega | exact Nat.le_refl _⟩,⟨by (with_reducible repeat (first | apply k1_ | apply k2_ | apply k3_));exact BK258.out⟩,⟨zl_ HB⟩⟩
  ·rw [if_neg c4] at H
   have c4b0 : decide (7 < (l0_1.length : Int)) = false := decide_eq_false c4
   have c4b1 : decide (7 < l0_1.length) = false := decide_eq_false (by omega)
   clear c4
   (first | rw [c4b0] | (simp only [i64_w,i32_w];rw [c4b0]) | skip)
   have H' := am_ H
   clear H
   obtain ⟨hcz6_0,hcz6_1,hfz6_0,hfz6_1⟩ := zc2 BK258
   go_wp2
   go_meet
   case rel => exact ⟨_,(decide ((a0_0.size : Int) > 20000)),(by first | rfl | (simp;done) | (simp [*];done)),H',⟨by first | omega | exact Nat.le_refl _⟩,⟨by (with_reducible repeat (first | apply k1_ | apply k2_ | apply k3_));exact BK258.out⟩,⟨zl_ HB⟩⟩
 case rest =>
  clear HC2
  try clear c1
  try clear p2
  try clear c4
  try clear c4b0
  try clear c4b1
  try clear hcz5_0
  try clear hcz5_1
  try clear hcz6_0
  try clear hcz6_1
  try clear hfz5_0
  try clear hfz5_1
  try clear hfz6_0
  try clear hfz6_1
  obtain ⟨kq,x14_1,rfl,HA,HJ1,BK258,HB⟩ := hcut
  cases kq with
  | zero => exact absurd HA.out (by simp [spec_CertBytes.j0])
  | succ kj1 =>
   have H := HA.out
   clear HA
   simp only [spec_CertBytes.j0] at H
   by_cases c7 : x14_1 = true
   ·subst c7
    have H1 : (some ((([] : List Int)),1)) = some (r1,r2) := by rw [if_pos rfl] at H;exact H
    clear H
    have H := H1
    clear H1
    obtain ⟨y259,hy259⟩ : ∃ y_ : List Int,y_ = (([] : List Int)) := ⟨_,rfl⟩
    replace H : (some (y259,1)) = some (r1,r2) := by first | (rw [hy259];with_reducible exact H) | (have H2_ := (Option.bind_some _ _).symm.trans H;rw [hy259];with_reducible exact H2_) | (have H2_ := (Option.bind_some _ _).symm.trans H;with_reducible exact H2_) | with_reducible exact H | (rw [hy259];exact H) | exact H
    have Ny259 := am_ hy259
    clear hy259
    simp only [Option.some.injEq,Prod.mk.injEq] at H
    obtain ⟨rfl,rfl⟩ := H
    go_wp2_with (first | ((with_reducible refine gate_dst (N := 15) rfl ?_);(try (refine gate_guard (by rfl) ?_;dsimp only));refine Kd.R_lit (Kd.int .u8) _ 5 ?hg (N := 15) ?hd (xs := ([] : List Int)) (inner := []) (ok := fun _ => True) (okp := fun _ => True) ?hr ?hp (fun _ hk => hk) trivial (Below.refl _ _) (Nat.le_refl _) (by simp) ?_;(case hd => rfl);(case hg => rfl);(case hr => first | (go_simp;done) | (go_simp;rfl));(case hp => exact (Reps.none _ _));intro v260 w8 ho9 hb hg_ hnew_;clear hg_ hnew_;(first | rw [← Ny259.out] at ho9 | (simp only [Int.reduceToNat] at ho9;rw [← Ny259.out] at ho9));have HO261 := am_ (Kd.R_lower ho9 (below_size (zl_ HB)));replace BK258 := zb BK258 hb;replace HB := zs_ HB hb;clear hb ho9))
    go_ret2
    exact ⟨_,zt_,zr HO261,zl_ HB⟩
   ·replace c7 := Bool.eq_false_iff.mpr c7
    subst c7
    have H1 : (spec_CertBytes.l0 kj1 0 a0_0 l0_1) = some (r1,r2) := by rw [if_neg (show ¬ (false = true) by decide)] at H;exact H
    clear H
    have H := H1
    clear H1
    have H' := am_ H
    clear H
    go_wp2
    go_loopg [4] kj1 (fun kq v4 w' => ∃ (x4_2 : Int),v4 = .int .i64 x4_2 ∧ Aside0 (spec_CertBytes.l0 kq x4_2 a0_0 l0_1 = some (r1,r2)) ∧ Aside0 (kq ≤ kj1) ∧ Aside0 (w'.heap[gb258]? = some (.cells #[.string a0_0,(.slice A0_1 l0_1.length c0_1)] 39 (0,0))) ∧ Aside0 (Below w.heap.size w w'))
    case atStart => exact ⟨(0),(by first | rfl | (simp;done) | (simp [*];done)),H',⟨Nat.le_refl _⟩,⟨by (with_reducible repeat (first | apply k1_ | apply k2_ | apply k3_));exact BK258.out⟩,⟨zl_ HB⟩⟩
    case round =>
     clear H'
     try clear c1
     try clear p2
     try clear c4
     try clear c4b0
     try clear c4b1
     try clear c7
     try clear hcz5_0
     try clear hcz5_1
     try clear hcz6_0
     try clear hcz6_1
     try clear hfz5_0
     try clear hfz5_1
     try clear hfz6_0
     try clear hfz6_1
     try clear p2
     obtain ⟨x4_2,rfl,HA,HK2,BK258,HB⟩ := hrel
     cases gk with
     | zero => exact absurd HA.out (by simp [spec_CertBytes.l0])
     | succ k2 =>
      have H := HA.out
      clear HA
      simp only [spec_CertBytes.l0] at H
      by_cases c10 : x4_2 < (l0_1.length : Int)
      ·rw [if_pos c10] at H
       have c10b0 : decide (x4_2 < (l0_1.length : Int)) = true := decide_eq_true c10
       clear c10
       by_cases c11 : 0 ≤ x4_2
       ·rw [if_pos c11] at H
        have c11b0 : decide (0 ≤ x4_2) = true := decide_eq_true c11
        clear c11
        replace H := Option.bind_eq_some_iff.mp H
        obtain ⟨t263,A120,H⟩ := H
        try dsimp only at H
        have A12 := am_ A120
        clear A120
        by_cases c13 : t263 = true
        ·subst c13
         have H1 : (if ((rd_T63 l0_1 x4_2).f0) = 2 then (spec_CertBytes.l0 k2 (wrap64 (x4_2 + 1)) a0_0 l0_1) else (some ((([] : List Int)),1))) = some (r1,r2) := by rw [if_pos rfl] at H;exact H
         clear H
         have H := H1
         clear H1
         by_cases c14 : ((rd_T63 l0_1 x4_2).f0) = 2
         ·rw [if_pos c14] at H
          have c14b0 : (((rd_T63 l0_1 x4_2).f0) == 2) = true := beq_iff_eq.mpr c14
          have c14b1 : (((rd_T63 l0_1 x4_2).f0) != 2) = false := bne_eq_false_iff_eq.mpr c14
          clear c14
          have H' := am_ H
          clear H
          obtain ⟨hcz15_0,hcz15_1,hfz15_0,hfz15_1⟩ := zc2 BK258
          have p262 : 0 ≤ (x4_2 : Int) := zo_
          have q262 : x4_2 < (l0_1.length : Int) := zo_
          obtain ⟨ad262,e262,hx262_0,hx262_1,hx262_2,hx262_3,hx262_4,hx262_5,hx262_6⟩ := at_T63 HR0_1.out x4_2 p262 q262
          cases e262
          replace hx262_0 := zx_ HB hx262_0
          replace hx262_1 := zx_ HB hx262_1
          replace hx262_2 := zx_ HB hx262_2
          replace hx262_3 := zx_ HB hx262_3
          replace hx262_4 := zx_ HB hx262_4
          replace hx262_5 := zx_ HB hx262_5
          replace hx262_6 := zx_ HB hx262_6
          replace p262 := eq_true p262
          replace q262 := eq_true q262
          go_wp2_with (first | ((with_reducible refine gate_callee (f := 38) rfl ?_);refine zgl (some 28) Try.func38 #[.agg #[.int .i64 ((rd_T63 l0_1 x4_2).f0),.int .i64 ((rd_T63 l0_1 x4_2).f1),.int .i64 ((rd_T63 l0_1 x4_2).f2),.int .i64 ((rd_T63 l0_1 x4_2).f3),.string ((rd_T63 l0_1 x4_2).f4),.string ((rd_T63 l0_1 x4_2).f5),.string ((rd_T63 l0_1 x4_2).f6)]] ?_;(with_reducible refine (spec_MessageOK.calls k2 ((rd_T63 l0_1 x4_2).f0) ((rd_T63 l0_1 x4_2).f1) ((rd_T63 l0_1 x4_2).f2) ((rd_T63 l0_1 x4_2).f3) ((rd_T63 l0_1 x4_2).f4) ((rd_T63 l0_1 x4_2).f5) ((rd_T63 l0_1 x4_2).f6) true _ A12.out).mono ?_);rintro e w16 ⟨rfl,hb⟩;refine ⟨_,rfl,?_⟩;replace BK258 := zb BK258 hb;replace HB := zs_ HB hb;(try clear hb);(try clear hb2);(try clear hk);(try clear hi);obtain ⟨hcz17_0,hcz17_1,hfz17_0,hfz17_1⟩ := zc2 BK258;have p264 : 0 ≤ (x4_2 : Int) := zo_;have q264 : x4_2 < (l0_1.length : Int) := zo_;obtain ⟨ad264,e264,hx264_0,hx264_1,hx264_2,hx264_3,hx264_4,hx264_5,hx264_6⟩ := at_T63 HR0_1.out x4_2 p264 q264;obtain rfl : ad262 = ad264 := (by injection e264);replace hx264_0 := zx_ HB hx264_0;replace hx264_1 := zx_ HB hx264_1;replace hx264_2 := zx_ HB hx264_2;replace hx264_3 := zx_ HB hx264_3;replace hx264_4 := zx_ HB hx264_4;replace hx264_5 := zx_ HB hx264_5;replace hx264_6 := zx_ HB hx264_6;replace p264 := eq_true p264;replace q264 := eq_true q264))
          go_roundg k2
          case measure => have := HJ1.out;have := HK2.out;omega
          case rel => exact ⟨(wrap64 (x4_2 + 1)),(by first | rfl | (simp;done) | (simp [*];done)),H',⟨by have := HJ1.out;have := HK2.out;omega⟩,⟨by (with_reducible repeat (first | apply k1_ | apply k2_ | apply k3_));exact BK258.out⟩,⟨zl_ HB⟩⟩
         ·rw [if_neg c14] at H
          have c14b0 : (((rd_T63 l0_1 x4_2).f0) == 2) = false := beq_eq_false_iff_ne.mpr c14
          have c14b1 : (((rd_T63 l0_1 x4_2).f0) != 2) = true := bne_iff_ne.mpr c14
          obtain ⟨y265,hy265⟩ : ∃ y_ : List Int,y_ = (([] : List Int)) := ⟨_,rfl⟩
          replace H : (some (y265,1)) = some (r1,r2) := by first | (rw [hy265];with_reducible exact H) | (have H2_ := (Option.bind_some _ _).symm.trans H;rw [hy265];with_reducible exact H2_) | (have H2_ := (Option.bind_some _ _).symm.trans H;with_reducible exact H2_) | with_reducible exact H | (rw [hy265];exact H) | exact H
          have Ny265 := am_ hy265
          clear hy265
          simp only [Option.some.injEq,Prod.mk.injEq] at H
          obtain ⟨rfl,rfl⟩ := H
          obtain ⟨hcz18_0,hcz18_1,hfz18_0,hfz18_1⟩ := zc2 BK258
          have p262 : 0 ≤ (x4_2 : Int) := zo_
          have q262 : x4_2 < (l0_1.length : Int) := zo_
          obtain ⟨ad262,e262,hx262_0,hx262_1,hx262_2,hx262_3,hx262_4,hx262_5,hx262_6⟩ := at_T63 HR0_1.out x4_2 p262 q262
          cases e262
          replace hx262_0 := zx_ HB hx262_0
          replace hx262_1 := zx_ HB hx262_1
          replace hx262_2 := zx_ HB hx262_2
          replace hx262_3 := zx_ HB hx262_3
          replace hx262_4 := zx_ HB hx262_4
          replace hx262_5 := zx_ HB hx262_5
          replace hx262_6 := zx_ HB hx262_6
          replace p262 := eq_true p262
          replace q262 := eq_true q262
          go_wp2_with (first | ((with_reducible refine gate_callee (f := 38) rfl ?_);refine zgl (some 28) Try.func38 #[.agg #[.int .i64 ((rd_T63 l0_1 x4_2).f0),.int .i64 ((rd_T63 l0_1 x4_2).f1),.int .i64 ((rd_T63 l0_1 x4_2).f2),.int .i64 ((rd_T63 l0_1 x4_2).f3),.string ((rd_T63 l0_1 x4_2).f4),.string ((rd_T63 l0_1 x4_2).f5),.string ((rd_T63 l0_1 x4_2).f6)]] ?_;(with_reducible refine (spec_MessageOK.calls k2 ((rd_T63 l0_1 x4_2).f0) ((rd_T63 l0_1 x4_2).f1) ((rd_T63 l0_1 x4_2).f2) ((rd_T63 l0_1 x4_2).f3) ((rd_T63 l0_1 x4_2).f4) ((rd_T63 l0_1 x4_2).f5) ((rd_T63 l0_1 x4_2).f6) true _ A12.out).mono ?_);rintro e w19 ⟨rfl,hb⟩;refine ⟨_,rfl,?_⟩;replace BK258 := zb BK258 hb;replace HB := zs_ HB hb;(try clear hb);(try clear hb2);(try clear hk);(try clear hi);obtain ⟨hcz20_0,hcz20_1,hfz20_0,hfz20_1⟩ := zc2 BK258;have p264 : 0 ≤ (x4_2 : Int) := zo_;have q264 : x4_2 < (l0_1.length : Int) := zo_;obtain ⟨ad264,e264,hx264_0,hx264_1,hx264_2,hx264_3,hx264_4,hx264_5,hx264_6⟩ := at_T63 HR0_1.out x4_2 p264 q264;obtain rfl : ad262 = ad264 := (by injection e264);replace hx264_0 := zx_ HB hx264_0;replace hx264_1 := zx_ HB hx264_1;replace hx264_2 := zx_ HB hx264_2;replace hx264_3 := zx_ HB hx264_3;replace hx264_4 := zx_ HB hx264_4;replace hx264_5 := zx_ HB hx264_5;replace hx264_6 := zx_ HB hx264_6;replace p264 := eq_true p264;replace q264 := eq_true q264) | ((with_reducible refine gate_dst (N := 39) rfl ?_);(try (refine gate_guard (by rfl) ?_;dsimp only));refine Kd.R_lit (Kd.int .u8) _ 5 ?hg (N := 39) ?hd (xs := ([] : List Int)) (inner := []) (ok := fun _ => True) (okp := fun _ => True) ?hr ?hp (fun _ hk => hk) trivial (Below.refl _ _) (Nat.le_refl _) (by simp) ?_;(case hd => rfl);(case hg => rfl);(case hr => first | (go_simp;done) | (go_simp;rfl));(case hp => exact (Reps.none _ _));intro v266 w21 ho22 hb hg_ hnew_;clear hg_ hnew_;(first | rw [← Ny265.out] at ho22 | (simp only [Int.reduceToNat] at ho22;rw [← Ny265.out] at ho22));have HO267 := am_ (Kd.R_lower ho22 (below_size (zl_ HB)));replace HB := zs_ HB hb;clear hb ho22))
          go_ret2
          exact ⟨_,zt_,zr HO267,zl_ HB⟩
        ·replace c13 := Bool.eq_false_iff.mpr c13
         subst c13
         have H1 : (some ((([] : List Int)),1)) = some (r1,r2) := by rw [if_neg (show ¬ (false = true) by decide)] at H;exact H
         clear H
         have H := H1
         clear H1
         obtain ⟨y268,hy268⟩ : ∃ y_ : List Int,y_ = (([] : List Int)) := ⟨_,rfl⟩
         replace H : (some (y268,1)) = some (r1,r2) := by first | (rw [hy268];with_reducible exact H) | (have H2_ := (Option.bind_some _ _).symm.trans H;rw [hy268];with_reducible exact H2_) | (have H2_ := (Option.bind_some _ _).symm.trans H;with_reducible exact H2_) | with_reducible exact H | (rw [hy268];exact H) | exact H
         have Ny268 := am_ hy268
         clear hy268
         simp only [Option.some.injEq,Prod.mk.injEq] at H
         obtain ⟨rfl,rfl⟩ := H
         obtain ⟨hcz23_0,hcz23_1,hfz23_0,hfz23_1⟩ := zc2 BK258
         have p262 : 0 ≤ (x4_2 : Int) := zo_
         have q262 : x4_2 < (l0_1.length : Int) := zo_
         obtain ⟨ad262,e262,hx262_0,hx262_1,hx262_2,hx262_3,hx262_4,hx262_5,hx262_6⟩ := at_T63 HR0_1.out x4_2 p262 q262
         cases e262
         replace hx262_0 := zx_ HB hx262_0
         replace hx262_1 := zx_ HB hx262_1
         replace hx262_2 := zx_ HB hx262_2
         replace hx262_3 := zx_ HB hx262_3
         replace hx262_4 := zx_ HB hx262_4
         replace hx262_5 := zx_ HB hx262_5
         replace hx262_6 := zx_ HB hx262_6
         replace p262 := eq_true p262
         replace q262 := eq_true q262
         go_wp2_with (first | ((with_reducible refine gate_callee (f := 38) rfl ?_);refine zgl (some 28) Try.func38 #[.agg #[.int .i64 ((rd_T63 l0_1 x4_2).f0),.int .i64 ((rd_T63 l0_1 x4_2).f1),.int .i64 ((rd_T63 l0_1 x4_2).f2),.int .i64 ((rd_T63 l0_1 x4_2).f3),.string ((rd_T63 l0_1 x4_2).f4),.string ((rd_T63 l0_1 x4_2).f5),.string ((rd_T63 l0_1 x4_2).f6)]] ?_;(with_reducible refine (spec_MessageOK.calls k2 ((rd_T63 l0_1 x4_2).f0) ((rd_T63 l0_1 x4_2).f1) ((rd_T63 l0_1 x4_2).f2) ((rd_T63 l0_1 x4_2).f3) ((rd_T63 l0_1 x4_2).f4) ((rd_T63 l0_1 x4_2).f5) ((rd_T63 l0_1 x4_2).f6) false _ A12.out).mono ?_);rintro e w24 ⟨rfl,hb⟩;refine ⟨_,rfl,?_⟩;replace HB := zs_ HB hb;(try clear hb);(try clear hb2);(try clear hk);(try clear hi)) | ((with_reducible refine gate_dst (N := 39) rfl ?_);(try (refine gate_guard (by rfl) ?_;dsimp only));refine Kd.R_lit (Kd.int .u8) _ 5 ?hg (N := 39) ?hd (xs := ([] : List Int)) (inner := []) (ok := fun _ => True) (okp := fun _ => True) ?hr ?hp (fun _ hk => hk) trivial (Below.refl _ _) (Nat.le_refl _) (by simp) ?_;(case hd => rfl);(case hg => rfl);(case hr => first | (go_simp;done) | (go_simp;rfl));(case hp => exact (Reps.none _ _));intro v269 w25 ho26 hb hg_ hnew_;clear hg_ hnew_;(first | rw [← Ny268.out] at ho26 | (simp only [Int.reduceToNat] at ho26;rw [← Ny268.out] at ho26));have HO270 := am_ (Kd.R_lower ho26 (below_size (zl_ HB)));replace HB := zs_ HB hb;clear hb ho26))
         go_ret2
         exact ⟨_,zt_,zr HO270,zl_ HB⟩
       ·rw [if_neg c11] at H
        exact absurd H (by simp)
      ·rw [if_neg c10] at H
       have c10b0 : decide (x4_2 < (l0_1.length : Int)) = false := decide_eq_false c10
       clear c10
       replace H := Option.bind_eq_some_iff.mp H
       obtain ⟨t271,A270,H⟩ := H
       try dsimp only at H
       have A27 := am_ A270
       clear A270
       simp only [Option.some.injEq,Prod.mk.injEq] at H
       obtain ⟨rfl,rfl⟩ := H
       obtain ⟨hcz28_0,hcz28_1,hfz28_0,hfz28_1⟩ := zc2 BK258
       go_wp2_with (first | ((with_reducible refine gate_callee (f := 39) rfl ?_);refine zgl (some 41) Try.func39 #[.agg #[.string a0_0,.slice A0_1 l0_1.length c0_1]] ?_;(with_reducible refine (spec_l06Bytes.calls k2 a0_0 _ _ l0_1 t271 _ ?side1 ?side2 A27.out).mono ?_);(case side1 => exact zc_ HR0_1 HB);(case side2 => exact HC0_1.out);rintro e w29 ⟨v272,rfl,ho0,hb⟩;refine ⟨_,rfl,?_⟩;have HO273 := am_ (Kd.R_lower ho0 (below_size (zl_ HB)));replace HB := zs_ HB hb;(try clear hb);(try clear hb2);(try clear hk);(try clear hi);(try clear ho0)))
       go_ret2
       exact ⟨_,zt_,zr HO273,zl_ HB⟩
set_option maxHeartbeats 8000000 in
set_option maxRecDepth 100000 in
theorem laws_FnExactCertBytes.calls (k : Nat) (a0_0 : ByteArray) (A0_1 : Option Addr) (c0_1 : Nat) (l0_1 : List (S90)) (r : Bool) (w : World) (hr0_1 : Kd.C k90 w A0_1 l0_1.length l0_1) (hc0_1 : l0_1.length ≤ c0_1) (h : laws_FnExactCertBytes.f k a0_0 l0_1 = some r) :
  Calls Try.prog 4 #[.agg #[.string a0_0,.slice A0_1 l0_1.length c0_1]] w fun e w' => e = .returned (.bool r) ∧ Below w.heap.size w w' := by
 have hu34 := Try.underlying34
 have hu39 := Try.underlying39
 have HR0_1 := am_ hr0_1
 have HC0_1 := am_ hc0_1
 clear hr0_1 hc0_1
 have HB := am_ (Below.refl w.heap.size w)
 have H : ((laws_szCert.f k a0_0 l0_1 1048576).bind fun t359 => (if t359 < 0 then (some true) else ((laws_toCert.f k a0_0 l0_1).bind fun bt360 => ((spec_CertBytes.f k bt360.1 bt360.2).bind fun bt364 => ((laws_toCert.f k a0_0 l0_1).bind fun bt368 => ((impl_CertBytes.f k bt368.1 bt368.2).bind fun bt373 => ((laws_eqByteS.f k bt373.1 bt364.1).bind fun t377 => (if t377 = true then (laws_FnExactCertBytes.j0 k bt364.1 bt364.2 bt373.1 bt373.2 (bt373.2 != bt364.2) a0_0 l0_1 bt368.1 bt368.2) else (laws_FnExactCertBytes.j0 k bt364.1 bt364.2 bt373.1 bt373.2 true a0_0 l0_1 bt368.1 bt368.2))))))))) = some r := h
 clear h
 replace H := Option.bind_eq_some_iff.mp H
 obtain ⟨t359,A20,H⟩ := H
 try dsimp only at H
 have A2 := am_ A20
 clear A20
 by_cases c3 : t359 < 0
 ·rw [if_pos c3] at H
  have c3b0 : decide (t359 < 0) = true := decide_eq_true c3
  clear c3
  obtain rfl := Option.some.inj H
  go_enter Try.func4,Try.ntmps4
  go_wp2_with (first | ((with_reducible refine gate_dst (N := 1) rfl ?_);refine zbx (N := 1) (cs := #[.string a0_0,.slice A0_1 l0_1.length c0_1]) (t := 34) ?_;intro gb358 hg w4 hbox hb;have BK358 := am_ (hbox);have GW358 := zw_ HB hg;have GE358 := zw_ HB hg;replace HB := zs_ HB hb;clear hb hbox hg;obtain ⟨hcz5_0,hcz5_1,hfz5_0,hfz5_1⟩ := zc2 BK358) | ((with_reducible refine gate_callee (f := 16) rfl ?_);refine zgl (some 16) Try.func16 #[.agg #[.string a0_0,.slice A0_1 l0_1.length c0_1],.int .i64 1048576] ?_;(with_reducible refine (laws_szCert.calls k a0_0 _ _ l0_1 1048576 t359 _ ?side1 ?side2 A2.out).mono ?_);(case side1 => exact zc_ HR0_1 HB);(case side2 => exact HC0_1.out);rintro e w6 ⟨rfl,hb⟩;refine ⟨_,rfl,?_⟩;replace BK358 := zb BK358 hb;replace HB := zs_ HB hb;(try clear hb);(try clear hb2);(try clear hk);(try clear hi)))
  go_ret
  exact ⟨zt_,zl_ HB⟩
 ·rw [if_neg c3] at H
  have c3b0 : decide (t359 < 0) = false := decide_eq_false c3
  clear c3
  replace H := Option.bind_eq_some_iff.mp H
  obtain ⟨⟨t360,t361⟩,A70,H⟩ := H
  try dsimp only at H
  have A7 := am_ A70
  clear A70
  replace H := Option.bind_eq_some_iff.mp H
  obtain ⟨⟨t364,t367⟩,A80,H⟩ := H
  try dsimp only at H
  have A8 := am_ A80
  clear A80
  replace H := Option.bind_eq_some_iff.mp H
  obtain ⟨⟨t368,t369⟩,A90,H⟩ := H
  try dsimp only at H
  have A9 := am_ A90
  clear A90
  replace H := Option.bind_eq_some_iff.mp H
  obtain ⟨⟨t373,t376⟩,A100,H⟩ := H
  try dsimp only at H
  have A10 := am_ A100
  clear A100
  have HC11 := am_ H
  clear H
  go_enter Try.func4,Try.ntmps4
  go_upto_region 8 with (first | ((with_reducible refine gate_dst (N := 1) rfl ?_);refine zbx (N := 1) (cs := #[.string a0_0,.slice A0_1 l0_1.length c0_1]) (t := 34) ?_;intro gb358 hg w12 hbox hb;have BK358 := am_ (hbox);have GW358 := zw_ HB hg;have GE358 := zw_ HB hg;replace HB := zs_ HB hb;clear hb hbox hg;obtain ⟨hcz13_0,hcz13_1,hfz13_0,hfz13_1⟩ := zc2 BK358) | ((with_reducible refine gate_callee (f := 16) rfl ?_);refine zgl (some 16) Try.func16 #[.agg #[.string a0_0,.slice A0_1 l0_1.length c0_1],.int .i64 1048576] ?_;(with_reducible refine (laws_szCert.calls k a0_0 _ _ l0_1 1048576 t359 _ ?side1 ?side2 A2.out).mono ?_);(case side1 => exact zc_ HR0_1 HB);(case side2 => exact HC0_1.out);rintro e w14 ⟨rfl,hb⟩;refine ⟨_,rfl,?_⟩;replace BK358 := zb BK358 hb;replace HB := zs_ HB hb;(try clear hb);(try clear hb2);(try clear hk);(try clear hi);obtain ⟨hcz15_0,hcz15_1,hfz15_0,hfz15_1⟩ := zc2 BK358) | ((with_reducible refine gate_callee (f := 18) rfl ?_);refine zgl (some 21) Try.func18 #[.agg #[.string a0_0,.slice A0_1 l0_1.length c0_1]] ?_;(with_reducible refine (laws_toCert.calls k a0_0 _ _ l0_1 t360 t361 _ ?side1 ?side2 A7.out).mono ?_);(case side1 => exact zc_ HR0_1 HB);(case side2 => exact HC0_1.out);rintro e w16 ⟨v362,rfl,ho0,hb⟩;refine ⟨_,rfl,?_⟩;have HO363 := am_ (Kd.R_lower ho0 (below_size (zl_ HB)));replace BK358 := zb BK358 hb;replace HB := zs_ HB hb;(try clear hb);(try clear hb2);(try clear hk);(try clear hi);(try clear ho0);obtain ⟨Ao17,co17,eo17⟩ := Kd.R_slice HO363.out;subst eo17) | ((with_reducible refine gate_callee (f := 17) rfl ?_);refine zgl (some 22) Try.func17 #[.agg #[.string t360,.slice Ao17 t361.length co17]] ?_;(with_reducible refine (spec_CertBytes.calls k t360 _ _ t361 t364 t367 _ ?side1 ?side2 A8.out).mono ?_);(case side1 => repeat (first | exact (Kd.R_reads' HO363.out).2.2 | (with_reducible refine Kd.C_alloc ?_ _) | (with_reducible refine Kd.C_drewN ?_ _) | (with_reducible refine Kd.C_drew ?_)));(case side2 => exact (Kd.R_reads' HO363.out).2.1);rintro e w18 ⟨v365,rfl,ho0,hb⟩;refine ⟨_,rfl,?_⟩;replace HO363 := zrb HO363 hb;have HO366 := am_ (Kd.R_lower ho0 (below_size (zl_ HB)));replace BK358 := zb BK358 hb;replace HB := zs_ HB hb;(try clear hb);(try clear hb2);(try clear hk);(try clear hi);(try clear ho0);obtain ⟨hcz19_0,hcz19_1,hfz19_0,hfz19_1⟩ := zc2 BK358) | ((with_reducible refine gate_callee (f := 18) rfl ?_);refine zgl (some 26) Try.func18 #[.agg #[.string a0_0,.slice A0_1 l0_1.length c0_1]] ?_;(with_reducible refine (laws_toCert.calls k a0_0 _ _ l0_1 t368 t369 _ ?side1 ?side2 A9.out).mono ?_);(case side1 => exact zc_ HR0_1 HB);(case side2 => exact HC0_1.out);rintro e w20 ⟨v370,rfl,ho0,hb⟩;refine ⟨_,rfl,?_⟩;replace HO366 := zrb HO366 hb;have HO371 := am_ (Kd.R_lower (Kd.R_new' ho0 (Kd.R_lt (zr HO363))) (below_size (zl_ HB)));replace BK358 := zb BK358 hb;replace HB := zs_ HB hb;(try clear hb);(try clear hb2);(try clear hk);(try clear hi);(try clear ho0)) | ((with_reducible refine gate_dst (N := 6) rfl ?_);refine zbx (N := 6) (cs := #[.string ⟨#[]⟩,.slice none 0 0]) (t := 39) ?_;intro gb372 hg w21 hbox hb;replace HO366 := zrb HO366 hb;replace HO371 := zrb HO371 hb;have BK372 := am_ (hbox);have GW372 := zw_ HB hg;have GE372 := zw_ HB hg;replace HB := zs_ HB hb;have NB358_372 := zl hg BK358;have NB372_358 := zg hg BK358;replace BK358 := zb BK358 hb;clear hb hbox hg;have hnb22 := NB372_358.out;have hnc22 := NB358_372.out;obtain ⟨hcz23_0,hcz23_1,hfz23_0,hfz23_1⟩ := zc2 BK372;obtain ⟨Ao24,co24,eo24⟩ := Kd.R_slice HO371.out;subst eo24) | ((with_reducible refine gate_callee (f := 19) rfl ?_);refine zgl (some 29) Try.func19 #[.agg #[.string t368,.slice Ao24 t369.length co24]] ?_;(with_reducible refine (impl_CertBytes.calls k t368 _ _ t369 t373 t376 _ ?side1 ?side2 A10.out).mono ?_);(case side1 => refine (Kd.R_reads' (e := 63) (base := w.heap.size) (ok := fun k_ => (True ∧ some k_ ≠ (.slice Ao17 t361.length co17 : Value).ownBlock)) (n := t369.length) (c := co24) ?_).2.2;exact (by (with_reducible repeat (first | apply r1_ | apply r2_ | apply r3_));exact (Kd.R_mono (zrf (Kd.R_types HO371.out BK372.out (by decide))) (fun _ h_ => h_.1))));(case side2 => exact (Kd.R_reads' HO371.out).2.1);rintro e w25 ⟨v374,rfl,ho0,hb⟩;refine ⟨_,rfl,?_⟩;replace HO371 := am_ (Kd.R_below (by (with_reducible repeat (first | apply r1_ | apply r2_ | apply r3_));exact (Kd.R_mono (zrf (Kd.R_types HO371.out BK372.out (by decide))) (fun _ h_ => h_.1))) hb);have HO375 := am_ (Kd.B_lower (Kd.B_new' (Kd.B_mono (ok' := fun k_ => True) ho0 (fun _ hk_ => trivial)) (Kd.R_lt (by (with_reducible repeat (first | apply r1_ | apply r2_ | apply r3_));exact (Kd.R_mono (zrf (Kd.R_types HO366.out BK372.out (by decide))) (fun _ h_ => h_.1))))) (below_size (zl_ HB)));replace HO366 := am_ (Kd.R_elder' (by (with_reducible repeat (first | apply r1_ | apply r2_ | apply r3_));exact (Kd.R_mono (zrf (Kd.R_types HO366.out BK372.out (by decide))) (fun _ h_ => h_.1))) (Kd.B_base ho0) hb);replace BK358 := am_ (blk_below (g := gb358) (o := .cells #[.string a0_0,.slice A0_1 l0_1.length c0_1] 34 (0,0)) (zq BK358) hb);replace BK372 := am_ (blk_below (g := gb372) (o := .cells #[.string t368,.slice Ao24 t369.length co24] 39 (0,0)) (zq BK372) hb);replace HB := zs_ HB hb;(try clear hb);(try clear hb2);(try clear hk);(try clear hi);(try clear ho0)))
  (try simp only [Act.put,p1_,p2_,p3_])
  go_cut [40] (fun v40 wc => ∃ (kq : Nat) (x40_10 : Bool),v40 = .bool x40_10 ∧ Aside0 (laws_FnExactCertBytes.j0 kq t364 t367 t373 t376 x40_10 a0_0 l0_1 t368 t369 = some r) ∧ Aside0 (kq ≤ k) ∧ Aside0 (Kd.R (Kd.int .u8) 5 wc w.heap.size (fun k_ => some k_ ≠ (v374 : Value).ownBlock) v365 t364) ∧ Aside0 (Kd.B 5 wc w.heap.size (fun k_ => some k_ ≠ (v365 : Value).ownBlock) v374 t373) ∧ Aside0 (Kd.R k63 63 wc w.heap.size (fun _ => True) (.slice Ao24 t369.length co24) t369) ∧ Aside0 (wc.heap[gb358]? = some (.cells #[.string a0_0,(.slice A0_1 l0_1.length c0_1)] 34 (0,0))) ∧ Aside0 (wc.heap[gb372]? = some (.cells #[.string t368,(.slice Ao24 t369.length co24)] 39 (0,0))) ∧ Aside0 (Below w.heap.size w wc))
  case first =>
   have H := HC11.out
   clear HC11
   replace H := Option.bind_eq_some_iff.mp H
   obtain ⟨t377,A260,H⟩ := H
   try dsimp only at H
   have A26 := am_ A260
   clear A260
   by_cases c27 : t377 = true
   ·subst c27
    have H1 : (laws_FnExactCertBytes.j0 k t364 t367 t373 t376 (t376 != t367) a0_0 l0_1 t368 t369) = some r := by rw [if_pos rfl] at H;exact H
    clear H
    have H := H1
    clear H1
    have H' := am_ H
    clear H
    obtain ⟨Ao28,co28,eo28⟩ := Kd.B_slice HO375.out
    subst eo28
    obtain ⟨Ao29,co29,eo29⟩ := Kd.R_slice HO366.out
    subst eo29
    go_wp2_with (first | ((with_reducible refine gate_callee (f := 11) rfl ?_);refine zgl (some 34) Try.func11 #[.slice Ao28 t373.length co28,.slice Ao29 t364.length co29] ?_;(with_reducible refine (laws_eqByteS.calls k _ _ t373 _ _ t364 true _ ?side1 ?side2 ?side3 ?side4 A26.out).mono ?_);(case side1 => repeat (first | exact (Kd.B_reads' HO375.out).2.2 | (with_reducible refine Kd.C_alloc ?_ _) | (with_reducible refine Kd.C_drewN ?_ _) | (with_reducible refine Kd.C_drew ?_)));(case side2 => exact (Kd.B_reads' HO375.out).2.1);(case side3 => repeat (first | exact (Kd.R_reads' HO366.out).2.2 | (with_reducible refine Kd.C_alloc ?_ _) | (with_reducible refine Kd.C_drewN ?_ _) | (with_reducible refine Kd.C_drew ?_)));(case side4 => exact (Kd.R_reads' HO366.out).2.1);rintro e w' ⟨rfl,⟨nd,rfl⟩⟩;refine ⟨_,rfl,?_⟩))
    go_meet
    case rel => exact ⟨_,((t376 != t367)),(by first | rfl | (simp;done) | (simp [*];done)),H',⟨by first | omega | exact Nat.le_refl _⟩,⟨by (with_reducible repeat (first | apply r1_ | apply r2_ | apply r3_));exact Kd.R_mono HO366.out (fun _ hk => hk.2)⟩,⟨Kd.B_mono (Kd.zrB HO375) (fun _ hk => hk.2)⟩,⟨by (with_reducible repeat (first | apply r1_ | apply r2_ | apply r3_));exact Kd.R_mono HO371.out (fun _ hk => trivial)⟩,⟨by (with_reducible repeat (first | apply k1_ | apply k2_ | apply k3_));exact BK358.out⟩,⟨by (with_reducible repeat (first | apply k1_ | apply k2_ | apply k3_));exact BK372.out⟩,⟨zl_ HB⟩⟩
   ·replace c27 := Bool.eq_false_iff.mpr c27
    subst c27
    have H1 : (laws_FnExactCertBytes.j0 k t364 t367 t373 t376 true a0_0 l0_1 t368 t369) = some r := by rw [if_neg (show ¬ (false = true) by decide)] at H;exact H
    clear H
    have H := H1
    clear H1
    have H' := am_ H
    clear H
    obtain ⟨Ao30,co30,eo30⟩ := Kd.B_slice HO375.out
    subst eo30
    obtain ⟨Ao31,co31,eo31⟩ := Kd.R_slice HO366.out
    subst eo31
    go_wp2_with (first | ((with_reducible refine gate_callee (f := 11) rfl ?_);refine zgl (some 34) Try.func11 #[.slice Ao30 t373.length co30,.slice Ao31 t364.length co31] ?_;(with_reducible refine (laws_eqByteS.calls k _ _ t373 _ _ t364 false _ ?side1 ?side2 ?side3 ?side4 A26.out).mono ?_);(case side1 => repeat (first | exact (Kd.B_reads' HO375.out).2.2 | (with_reducible refine Kd.C_alloc ?_ _) | (with_reducible refine Kd.C_drewN ?_ _) | (with_reducible refine Kd.C_drew ?_)));(case side2 => exact (Kd.B_reads' HO375.out).2.1);(case side3 => repeat (first | exact (Kd.R_reads' HO366.out).2.2 | (with_reducible refine Kd.C_alloc ?_ _) | (with_reducible refine Kd.C_drewN ?_ _) | (with_reducible refine Kd.C_drew ?_)));(case side4 => exact (Kd.R_reads' HO366.out).2.1);rintro e w' ⟨rfl,⟨nd,rfl⟩⟩;refine ⟨_,rfl,?_⟩))
    go_meet
    case rel => exact ⟨_,(true),(by first | rfl | (simp;done) | (simp [*];done)),H',⟨by first | omega | exact Nat.le_refl _⟩,⟨by (with_reducible repeat (first | apply r1_ | apply r2_ | apply r3_));exact Kd.R_mono HO366.out (fun _ hk => hk.2)⟩,⟨Kd.B_mono (Kd.zrB HO375) (fun _ hk => hk.2)⟩,⟨by (with_reducible repeat (first | apply r1_ | apply r2_ | apply r3_));exact Kd.R_mono HO371.out (fun _ hk => trivial)⟩,⟨by (with_reducible repeat (first | apply k1_ | apply k2_ | apply k3_));exact BK358.out⟩,⟨by (with_reducible repeat (first | apply k1_ | apply k2_ | apply k3_));exact BK372.out⟩,⟨zl_ HB⟩⟩
  case rest =>
   clear HC11
   try clear c1
   try clear c2
   try clear p2
   try clear c3
   try clear c3b0
   try clear c4
   try clear c11
   try clear c16
   try clear c17
   try clear c18
   try clear c19
   try clear c22
   try clear c27
   try clear hcz13_0
   try clear hcz13_1
   try clear hcz15_0
   try clear hcz15_1
   try clear hcz19_0
   try clear hcz19_1
   try clear hcz23_0
   try clear hcz23_1
   try clear hcz5_0
   try clear hcz5_1
   try clear hfz13_0
   try clear hfz13_1
   try clear hfz15_0
   try clear hfz15_1
   try clear hfz19_0
   try clear hfz19_1
   try clear hfz23_0
   try clear hfz23_1
   try clear hfz5_0
   try clear hfz5_1
   obtain ⟨kq,x40_10,rfl,HA,HJ10,HO_4,HO_7,HO_373001,BK358,BK372,HB⟩ := hcut
   cases kq with
   | zero => exact absurd HA.out (by simp [laws_FnExactCertBytes.j0])
   | succ kj10 =>
    have H := HA.out
    clear HA
    simp only [laws_FnExactCertBytes.j0] at H
    by_cases c32 : x40_10 = true
    ·subst c32
     have H1 : (some false) = some r := by rw [if_pos rfl] at H;exact H
     clear H
     have H := H1
     clear H1
     obtain rfl := Option.some.inj H
     go_wp2
     go_ret
     exact ⟨zt_,zl_ HB⟩
    ·replace c32 := Bool.eq_false_iff.mpr c32
     subst c32
     have H1 : ((laws_toCert.f kj10 a0_0 l0_1).bind fun bt378 => ((laws_eqCert.f kj10 t368 t369 bt378.1 bt378.2).bind fun t382 => (if t382 = true then ((laws_markCert.f kj10 t368 t369 1).bind fun bt383 => (if bt383.1 < 0 then (laws_FnExactCertBytes.j1 kj10 t364 t367 t373 true a0_0 l0_1) else ((laws_eqByteS.f kj10 t373 t364).bind fun t385 => (if t385 = true then (laws_FnExactCertBytes.j1 kj10 t364 t367 t373 (t376 != t367) a0_0 l0_1) else (laws_FnExactCertBytes.j1 kj10 t364 t367 t373 true a0_0 l0_1))))) else (some false)))) = some r := by rw [if_neg (show ¬ (false = true) by decide)] at H;exact H
     clear H
     have H := H1
     clear H1
     replace H := Option.bind_eq_some_iff.mp H
     obtain ⟨⟨t378,t379⟩,A330,H⟩ := H
     try dsimp only at H
     have A33 := am_ A330
     clear A330
     replace H := Option.bind_eq_some_iff.mp H
     obtain ⟨t382,A340,H⟩ := H
     try dsimp only at H
     have A34 := am_ A340
     clear A340
     by_cases c35 : t382 = true
     ·subst c35
      have H1 : ((laws_markCert.f kj10 t368 t369 1).bind fun bt383 => (if bt383.1 < 0 then (laws_FnExactCertBytes.j1 kj10 t364 t367 t373 true a0_0 l0_1) else ((laws_eqByteS.f kj10 t373 t364).bind fun t385 => (if t385 = true then (laws_FnExactCertBytes.j1 kj10 t364 t367 t373 (t376 != t367) a0_0 l0_1) else (laws_FnExactCertBytes.j1 kj10 t364 t367 t373 true a0_0 l0_1))))) = some r := by rw [if_pos rfl] at H;exact H
      clear H
      have H := H1
      clear H1
      replace H := Option.bind_eq_some_iff.mp H
      obtain ⟨⟨t383,t384⟩,A360,H⟩ := H
      try dsimp only at H
      have A36 := am_ A360
      clear A360
      have HC37 := am_ H
      clear H
      try go_wp2
      replace HO_4 := am_ (Kd.R_drew HO_4.out)
      replace HO_7 := am_ (Kd.B_drew HO_7.out)
      replace HO_373001 := am_ (Kd.R_drew HO_373001.out)
      replace BK358 := am_ (blk_drew BK358.out)
      replace BK372 := am_ (blk_drew BK372.out)
      replace HB := am_ (below_drew1 HB.out)
      refine start_ (n := 5) (S := fun w' => w'.cell? ⟨gb372,0,none⟩ = some (.string t368) ∧ w'.cell? ⟨gb372,1,none⟩ = some (.slice Ao24 t369.length co24) ∧ w'.cell? ⟨gb358,0,none⟩ = some (.string a0_0) ∧ w'.cell? ⟨gb358,1,none⟩ = some (.slice A0_1 l0_1.length c0_1)) (ds := []) #[false,false,false,false,false] (by kernel_rfl) rfl rfl ⟨(blk_cell BK372.out 0).trans rfl,(blk_cell BK372.out 1).trans rfl,(blk_cell BK358.out 0).trans rfl,(blk_cell BK358.out 1).trans rfl⟩ (fun hHeld => ?_)
      generalize wc.drew = w38 at HO_4 HO_7 HO_373001 BK358 BK372 HB hHeld ⊢
      refine take_ (i := 0) (N := some 41) (v := ?_) (a' := ?_) #[true,false,false,false,false] rfl rfl (by kernel_rfl) (fun _ _ _ h => h) (Or.inl ⟨by rfl,?_⟩) hHeld ?_ ?_
      rotate_left
      ·rintro w' ⟨s0,s1,s2,s3⟩
       go_simp
       with_reducible rfl
      rotate_left
      ·simp only [Act.put,p1_,p2_,p3_,i64_w,i32_w]
       rfl
      refine take_ (i := 1) (N := some 42) (v := ?_) (a' := ?_) #[true,true,false,false,false] rfl rfl (by kernel_rfl) (fun _ _ _ h => h) (Or.inl ⟨by rfl,?_⟩) hHeld ?_ ?_
      rotate_left
      ·rintro w' ⟨s0,s1,s2,s3⟩
       go_simp
       with_reducible rfl
      rotate_left
      ·simp only [Act.put,p1_,p2_,p3_,i64_w,i32_w]
       rfl
      refine one_ (i := 2) (N := some 43) #[true,true,true,false,false] rfl rfl (by kernel_rfl) (by decide) (fun K hK => ?_)
      refine zgo Try.func18 #[.agg #[.string a0_0,.slice A0_1 l0_1.length c0_1]] ?_
      with_reducible refine (laws_toCert.calls kj10 a0_0 _ _ l0_1 t378 t379 _ ?side1 ?side2 A33.out).mono ?_
      (case side1 => exact zc_ HR0_1 HB)
      (case side2 => exact HC0_1.out)
      rintro e w39 ⟨v380,rfl,ho0,hb⟩
      refine ⟨_,rfl,?_⟩
      replace HO_4 := zrb HO_4 hb
      replace HO_7 := Kd.zrbB HO_7 hb
      have HO381 := am_ (Kd.R_lower (Kd.R_new' ho0 (Kd.R_lt (zr HO_373001))) (below_size (zl_ HB)))
      replace HO_373001 := am_ (Kd.R_elder' (zr HO_373001) (Kd.R_base ho0) hb)
      replace BK358 := zb BK358 hb
      replace BK372 := zb BK372 hb
      replace HB := zs_ HB hb
      (try clear hb)
      (try clear hb2)
      (try clear hk)
      (try clear hi)
      (try clear ho0)
      obtain ⟨Ao40,co40,eo40⟩ := Kd.R_slice HO381.out
      (first | subst eo40 | (injection eo40 with f1_ f2_ f3_;have f4_ := f1_.symm;have f5_ := f3_.symm;clear f1_ f2_ f3_;subst f4_;subst f5_))
      refine hK.out _ _ ⟨(blk_cell BK372.out 0).trans rfl,(blk_cell BK372.out 1).trans rfl,(blk_cell BK358.out 0).trans rfl,(blk_cell BK358.out 1).trans rfl⟩ (fun hHeld => ?_)
      clear hK K
      refine norm_ (a' := ?_) ?_ ?_
      rotate_left
      ·show Act.put _ (some 43) _ = _
       simp only [Act.put,p1_,p2_,p3_,i64_w,i32_w]
       rfl
      refine one_ (i := 3) (N := some 44) #[true,true,true,true,false] rfl rfl (by kernel_rfl) (by decide) (fun K hK => ?_)
      refine zgo Try.func20 #[.agg #[.string t368,.slice Ao24 t369.length co24],.agg #[.string t378,.slice Ao40 t379.length co40]] ?_
      with_reducible refine (laws_eqCert.calls kj10 t368 _ _ t369 t378 _ _ t379 true _ ?side1 ?side2 ?side3 ?side4 A34.out).mono ?_
      (case side1 => repeat (first | exact (Kd.R_reads' HO_373001.out).2.2 | (with_reducible refine Kd.C_alloc ?_ _) | (with_reducible refine Kd.C_drewN ?_ _) | (with_reducible refine Kd.C_drew ?_)))
      (case side2 => exact (Kd.R_reads' HO_373001.out).2.1)
      (case side3 => repeat (first | exact (Kd.R_reads' HO381.out).2.2 | (with_reducible refine Kd.C_alloc ?_ _) | (with_reducible refine Kd.C_drewN ?_ _) | (with_reducible refine Kd.C_drew ?_)))
      (case side4 => exact (Kd.R_reads' HO381.out).2.1)
      rintro e w41 ⟨rfl,hb⟩
      refine ⟨_,rfl,?_⟩
      replace HO_4 := zrb HO_4 hb
      replace HO_7 := Kd.zrbB HO_7 hb
      replace HO_373001 := zrb HO_373001 hb
      replace HO381 := zrb HO381 hb
      replace BK358 := zb BK358 hb
      replace BK372 := zb BK372 hb
      replace HB := zs_ HB hb
      (try clear hb)
      (try clear hb2)
      (try clear hk)
      (try clear hi)
      refine hK.out _ _ ⟨(blk_cell BK372.out 0).trans rfl,(blk_cell BK372.out 1).trans rfl,(blk_cell BK358.out 0).trans rfl,(blk_cell BK358.out 1).trans rfl⟩ (fun hHeld => ?_)
      clear hK K
      refine norm_ (a' := ?_) ?_ ?_
      rotate_left
      ·show Act.put _ (some 44) _ = _
       simp only [Act.put,p1_,p2_,p3_,i64_w,i32_w]
       rfl
      refine pure_ (i := 4) (N := some 45) (v := ?_) (a' := ?_) #[true,true,true,true,true] rfl rfl (by kernel_rfl) (fun _ _ _ h => h) (Or.inl ⟨by rfl,?_⟩) ?_ ?_
      rotate_left
      ·intro w'
       go_simp
       with_reducible rfl
      rotate_left
      ·simp only [Act.put,p1_,p2_,p3_,i64_w,i32_w]
       rfl
      refine done_ (by kernel_rfl) ?_
      have hnb42 := NB372_358.out
      have hnc42 := NB358_372.out
      obtain ⟨hcz43_0,hcz43_1,hfz43_0,hfz43_1⟩ := zc2 BK372
      go_upto_region 14 with (first | ((with_reducible refine gate_callee (f := 21) rfl ?_);refine zgl (some 48) Try.func21 #[.agg #[.string t368,.slice Ao24 t369.length co24],.int .i64 1] ?_;(with_reducible refine (laws_markCert.calls kj10 t368 (fun k_ => some k_ = (.slice Ao24 t369.length co24 : Value).ownBlock) (.slice Ao24 t369.length co24) t369 1 t383 t384 w _ ?side1 ?side2 A36.out).mono ?_);(case side1 => exact zl_ HB);(case side2 => exact Kd.R_tight rfl HO_373001.out);rintro e w44 ⟨rfl,hy0,hb,hkp⟩;refine ⟨_,rfl,?_⟩;replace HO_4 := am_ (Kd.R_mono (ok' := fun k_ => some k_ ≠ (v374 : Value).ownBlock) (Kd.R_keptB ((Kd.R_apart' HO_4.out (Kd.R_typed HO_373001.out) (by decide))) hkp (fun k_ hk_ hs_ => (hk_.2) hs_)) (fun k_ hk_ => hk_.1.1));replace HO_7 := am_ (Kd.B_mono (ok' := fun k_ => some k_ ≠ (v365 : Value).ownBlock) (Kd.B_keptB ((Kd.B_apart' HO_7.out (Kd.R_typed HO_373001.out) (by decide))) hkp (fun k_ hk_ hs_ => (hk_.2) hs_)) (fun k_ hk_ => hk_.1.1));replace BK358 := am_ (blk_kept (zk BK358) hkp (fun hs_ => (fun e_ => (Kd.R_ne HO_373001.out BK358.out (by decide)) e_) hs_));replace BK372 := am_ (blk_kept (zk BK372) hkp (fun hs_ => (fun e_ => (Kd.R_ne HO_373001.out BK372.out (by decide)) e_) hs_));replace HO_373001 := am_ (Kd.R_reok rfl hy0 (fun k_ e_ => HO_373001.out.1 k_ e_));replace HO381 := am_ (Kd.R_mono (ok' := fun k_ => some k_ ≠ (.slice Ao24 t369.length co24 : Value).ownBlock) (Kd.R_keptB (HO381.out) hkp (fun k_ hk_ hs_ => (hk_.2) hs_)) (fun k_ hk_ => hk_.1.2));replace HB := am_ (hb);(try clear hb);(try clear hkp);(try clear hy0)))
      (try simp only [Act.put,p1_,p2_,p3_])
      go_cut [61] (fun v61 wc => ∃ (kq : Nat) (x61_36 : Bool),v61 = .bool x61_36 ∧ Aside0 (laws_FnExactCertBytes.j1 kq t364 t367 t373 x61_36 a0_0 l0_1 = some r) ∧ Aside0 (kq ≤ kj10) ∧ Aside0 (Kd.R (Kd.int .u8) 5 wc w.heap.size (fun k_ => some k_ ≠ (v374 : Value).ownBlock) v365 t364) ∧ Aside0 (Kd.B 5 wc w.heap.size (fun k_ => some k_ ≠ (v365 : Value).ownBlock) v374 t373) ∧ Aside0 (Kd.R k63 63 wc w.heap.size (fun _ => True) (.slice Ao24 t369.length co24) t384) ∧ Aside0 (wc.heap[gb358]? = some (.cells #[.string a0_0,(.slice A0_1 l0_1.length c0_1)] 34 (0,0))) ∧ Aside0 (wc.heap[gb372]? = some (.cells #[.string t368,(.slice Ao24 t369.length co24)] 39 (0,0))) ∧ Aside0 (Below w.heap.size w wc))
      case first =>
       have H := HC37.out
       clear HC37
       by_cases c45 : t383 < 0
       ·rw [if_pos c45] at H
        have c45b0 : decide (t383 < 0) = true := decide_eq_true c45
        clear c45
        (first | rw [c45b0] | (simp only [i64_w,i32_w];rw [c45b0]) | skip)
        have H' := am_ H
        clear H
        go_wp2
        go_meet
        case rel => exact ⟨_,(true),(by first | rfl | (simp;done) | (simp [*];done)),H',⟨by have := HJ10.out;first | omega | exact Nat.le_refl _⟩,⟨zr HO_4⟩,⟨Kd.zrB HO_7⟩,⟨by (with_reducible repeat (first | apply r1_ | apply r2_ | apply r3_));exact Kd.R_mono HO_373001.out (fun _ hk => trivial)⟩,⟨by (with_reducible repeat (first | apply k1_ | apply k2_ | apply k3_));exact BK358.out⟩,⟨by (with_reducible repeat (first | apply k1_ | apply k2_ | apply k3_));exact BK372.out⟩,⟨zl_ HB⟩⟩
       ·rw [if_neg c45] at H
        have c45b0 : decide (t383 < 0) = false := decide_eq_false c45
        clear c45
        (first | rw [c45b0] | (simp only [i64_w,i32_w];rw [c45b0]) | skip)
        replace H := Option.bind_eq_some_iff.mp H
        obtain ⟨t385,A460,H⟩ := H
        try dsimp only at H
        have A46 := am_ A460
        clear A460
        by_cases c47 : t385 = true
        ·subst c47
         have H1 : (laws_FnExactCertBytes.j1 kj10 t364 t367 t373 (t376 != t367) a0_0 l0_1) = some r := by rw [if_pos rfl] at H;exact H
         clear H
         have H := H1
         clear H1
         have H' := am_ H
         clear H
         obtain ⟨Ao48,co48,eo48⟩ := Kd.B_slice HO_7.out
         subst eo48
         obtain ⟨Ao49,co49,eo49⟩ := Kd.R_slice HO_4.out
         subst eo49
         go_wp2_with (first | (go_at_call 11;(with_reducible refine (laws_eqByteS.calls kj10 _ _ t373 _ _ t364 true _ ?side1 ?side2 ?side3 ?side4 A46.out).mono ?_);(case side1 => repeat (first | exact (Kd.B_reads' HO_7.out).2.2 | (with_reducible refine Kd.C_alloc ?_ _) | (with_reducible refine Kd.C_drewN ?_ _) | (with_reducible refine Kd.C_drew ?_)));(case side2 => exact (Kd.B_reads' HO_7.out).2.1);(case side3 => repeat (first | exact (Kd.R_reads' HO_4.out).2.2 | (with_reducible refine Kd.C_alloc ?_ _) | (with_reducible refine Kd.C_drewN ?_ _) | (with_reducible refine Kd.C_drew ?_)));(case side4 => exact (Kd.R_reads' HO_4.out).2.1);rintro e w' ⟨rfl,⟨nd,rfl⟩⟩))
         go_meet
         case rel => exact ⟨_,((t376 != t367)),(by first | rfl | (simp;done) | (simp [*];done)),H',⟨by have := HJ10.out;first | omega | exact Nat.le_refl _⟩,⟨zr HO_4⟩,⟨Kd.zrB HO_7⟩,⟨by (with_reducible repeat (first | apply r1_ | apply r2_ | apply r3_));exact Kd.R_mono HO_373001.out (fun _ hk => trivial)⟩,⟨by (with_reducible repeat (first | apply k1_ | apply k2_ | apply k3_));exact BK358.out⟩,⟨by (with_reducible repeat (first | apply k1_ | apply k2_ | apply k3_));exact BK372.out⟩,⟨zl_ HB⟩⟩
        ·replace c47 := Bool.eq_false_iff.mpr c47
         subst c47
         have H1 : (laws_FnExactCertBytes.j1 kj10 t364 t367 t373 true a0_0 l0_1) = some r := by rw [if_neg (show ¬ (false = true) by decide)] at H;exact H
         clear H
         have H := H1
         clear H1
         have H' := am_ H
         clear H
         obtain ⟨Ao50,co50,eo50⟩ := Kd.B_slice HO_7.out
         subst eo50
         obtain ⟨Ao51,co51,eo51⟩ := Kd.R_slice HO_4.out
         subst eo51
         go_wp2_with (first | (go_at_call 11;(with_reducible refine (laws_eqByteS.calls kj10 _ _ t373 _ _ t364 false _ ?side1 ?side2 ?side3 ?side4 A46.out).mono ?_);(case side1 => repeat (first | exact (Kd.B_reads' HO_7.out).2.2 | (with_reducible refine Kd.C_alloc ?_ _) | (with_reducible refine Kd.C_drewN ?_ _) | (with_reducible refine Kd.C_drew ?_)));(case side2 => exact (Kd.B_reads' HO_7.out).2.1);(case side3 => repeat (first | exact (Kd.R_reads' HO_4.out).2.2 | (with_reducible refine Kd.C_alloc ?_ _) | (with_reducible refine Kd.C_drewN ?_ _) | (with_reducible refine Kd.C_drew ?_)));(case side4 => exact (Kd.R_reads' HO_4.out).2.1);rintro e w' ⟨rfl,⟨nd,rfl⟩⟩))
         go_meet
         case rel => exact ⟨_,(true),(by first | rfl | (simp;done) | (simp [*];done)),H',⟨by have := HJ10.out;first | omega | exact Nat.le_refl _⟩,⟨zr HO_4⟩,⟨Kd.zrB HO_7⟩,⟨by (with_reducible repeat (first | apply r1_ | apply r2_ | apply r3_));exact Kd.R_mono HO_373001.out (fun _ hk => trivial)⟩,⟨by (with_reducible repeat (first | apply k1_ | apply k2_ | apply k3_));exact BK358.out⟩,⟨by (with_reducible repeat (first | apply k1_ | apply k2_ | apply k3_));exact BK372.out⟩,⟨zl_ HB⟩⟩
      case rest =>
       clear HC37
       try clear c1
       try clear c2
       try clear p2
       try clear c3
       try clear c3b0
       try clear c4
       try clear c11
       try clear c16
       try clear c17
       try clear c18
       try clear c19
       try clear c20
       try clear c21
       try clear c22
       try clear c27
       try clear c32
       try clear c35
       try clear c42
       try clear c45
       try clear c45b0
       try clear c47
       try clear hcz13_0
       try clear hcz13_1
       try clear hcz15_0
       try clear hcz15_1
       try clear hcz19_0
       try clear hcz19_1
       try clear hcz23_0
       try clear hcz23_1
       try clear hcz43_0
       try clear hcz43_1
       try clear hcz5_0
       try clear hcz5_1
       try clear hfz13_0
       try clear hfz13_1
       try clear hfz15_0
       try clear hfz15_1
       try clear hfz19_0
       try clear hfz19_1
       try clear hfz23_0
       try clear hfz23_1
       try clear hfz43_0
       try clear hfz43_1
       try clear hfz5_0
       try clear hfz5_1
       try clear p2
       obtain ⟨kq,x61_36,rfl,HA,HJ36,HO_4,HO_7,HO_373001,BK358,BK372,HB⟩ := hcut
       have hl373001_36 := (Kd.R_reads' HO_373001.out).1
       rw [hl373001_36] at HO_373001
       (try simp only [hl373001_36])
       (try simp only [hl373001_36] at BK358)
       (try simp only [hl373001_36] at BK372)
       (try simp only [hl373001_36] at HO_4)
       (try simp only [hl373001_36] at HO_7)
       cases kq with
       | zero => exact absurd HA.out (by simp [laws_FnExactCertBytes.j1])
       | succ kj36 =>
        have H := HA.out
        clear HA
        simp only [laws_FnExactCertBytes.j1] at H
        by_cases c52 : x61_36 = true
        ·subst c52
         have H1 : (some false) = some r := by rw [if_pos rfl] at H;exact H
         clear H
         have H := H1
         clear H1
         obtain rfl := Option.some.inj H
         go_wp2
         go_ret
         exact ⟨zt_,zl_ HB⟩
        ·replace c52 := Bool.eq_false_iff.mpr c52
         subst c52
         have H1 : ((laws_markByteS.f kj36 t373 1).bind fun bt386 => ((laws_heldByteS.f kj36 bt386.2 1).bind fun t388 => (if t388 < 0 then (some false) else (if t388 = bt386.1 then ((laws_toCert.f kj36 a0_0 l0_1).bind fun bt389 => ((impl_CertBytes.f kj36 bt389.1 bt389.2).bind fun bt393 => ((laws_eqByteS.f kj36 bt393.1 t364).bind fun t397 => (if t397 = true then (laws_FnExactCertBytes.j2 kj36 bt386.2 bt386.1 (bt393.2 != t367)) else (laws_FnExactCertBytes.j2 kj36 bt386.2 bt386.1 true))))) else (some false))))) = some r := by rw [if_neg (show ¬ (false = true) by decide)] at H;exact H
         clear H
         have H := H1
         clear H1
         replace H := Option.bind_eq_some_iff.mp H
         obtain ⟨⟨t386,t387⟩,A530,H⟩ := H
         try dsimp only at H
         have A53 := am_ A530
         clear A530
         replace H := Option.bind_eq_some_iff.mp H
         obtain ⟨t388,A540,H⟩ := H
         try dsimp only at H
         have A54 := am_ A540
         clear A540
         by_cases c55 : t388 < 0
         ·rw [if_pos c55] at H
          have c55b0 : decide (t388 < 0) = true := decide_eq_true c55
          clear c55
          obtain rfl := Option.some.inj H
          obtain ⟨Ao56,co56,eo56⟩ := Kd.B_slice HO_7.out
          subst eo56
          go_wp2_with (first | ((with_reducible refine gate_callee (f := 14) rfl ?_);refine zgl (some 64) Try.func14 #[.slice Ao56 t373.length co56,.int .i64 1] ?_;(with_reducible refine (laws_markByteS.callsB kj36 (fun k_ => some k_ = (.slice Ao56 t373.length co56 : Value).ownBlock) (.slice Ao56 t373.length co56) t373 1 t386 t387 w _ ?side1 ?side2 A53.out).mono ?_);(case side1 => exact zl_ HB);(case side2 => exact Kd.B_reok HO_7.out (fun k_ e_ => e_.symm));rintro e w57 ⟨rfl,hy0,hb,hkp⟩;refine ⟨_,rfl,?_⟩;replace HO_4 := am_ (Kd.R_mono (ok' := fun k_ => some k_ ≠ (.slice Ao56 t373.length co56 : Value).ownBlock) (Kd.R_keptB (HO_4.out) hkp (fun k_ hk_ hs_ => (hk_) hs_)) (fun k_ hk_ => hk_.1));replace HO_373001 := am_ (Kd.R_mono (ok' := fun k_ => True) (Kd.R_keptB ((Kd.R_apartB HO_373001.out HO_7.out)) hkp (fun k_ hk_ hs_ => (hk_.2) hs_)) (fun k_ hk_ => trivial));replace BK358 := am_ (blk_kept (zk BK358) hkp (fun hs_ => (fun e_ => (Kd.B_ne HO_7.out BK358.out) e_) hs_));replace BK372 := am_ (blk_kept (zk BK372) hkp (fun hs_ => (fun e_ => (Kd.B_ne HO_7.out BK372.out) e_) hs_));replace HO_7 := am_ (Kd.B_reok hy0 (fun k_ e_ => HO_7.out.1 k_ e_));replace HB := am_ (hb);(try clear hb);(try clear hkp);(try clear hy0)) | ((with_reducible refine gate_callee (f := 15) rfl ?_);refine goesL_ (some 67) rfl rfl Try.func15 (by kernel_rfl) rfl #[.slice Ao56 t387.length co56,.int .i64 1] rfl (by (try simp only [m1_,m2_,m3_]);first | done | (rw [show t387.length = t373.length from (Kd.B_reads' HO_7.out).1.symm] <;> rfl) | rfl | (simp only [d1_,d2_];rfl)) ?_;(with_reducible refine (laws_heldByteS.calls kj36 _ _ t387 1 t388 _ ?side1 ?side2 A54.out).mono ?_);(case side1 => repeat (first | exact (Kd.B_reads' HO_7.out).2.2 | (with_reducible refine Kd.C_alloc ?_ _) | (with_reducible refine Kd.C_drewN ?_ _) | (with_reducible refine Kd.C_drew ?_)));(case side2 => rw [show t387.length = t373.length from (Kd.B_reads' HO_7.out).1.symm];exact (Kd.B_reads' HO_7.out).2.1);rintro e w' ⟨rfl,⟨nd,rfl⟩⟩;refine ⟨_,rfl,?_⟩))
          go_ret
          exact ⟨zt_,zl_ HB⟩
         ·rw [if_neg c55] at H
          have c55b0 : decide (t388 < 0) = false := decide_eq_false c55
          clear c55
          by_cases c58 : t388 = t386
          ·rw [if_pos c58] at H
           have c58b0 : (t388 == t386) = true := beq_iff_eq.mpr c58
           have c58b1 : (t388 != t386) = false := bne_eq_false_iff_eq.mpr c58
           clear c58
           replace H := Option.bind_eq_some_iff.mp H
           obtain ⟨⟨t389,t390⟩,A590,H⟩ := H
           try dsimp only at H
           have A59 := am_ A590
           clear A590
           replace H := Option.bind_eq_some_iff.mp H
           obtain ⟨⟨t393,t396⟩,A600,H⟩ := H
           try dsimp only at H
           have A60 := am_ A600
           clear A600
           have HC61 := am_ H
           clear H
           obtain ⟨Ao62,co62,eo62⟩ := Kd.B_slice HO_7.out
           subst eo62
           go_upto_region 25 with (first | ((with_reducible refine gate_callee (f := 14) rfl ?_);refine zgl (some 64) Try.func14 #[.slice Ao62 t373.length co62,.int .i64 1] ?_;(with_reducible refine (laws_markByteS.callsB kj36 (fun k_ => some k_ = (.slice Ao62 t373.length co62 : Value).ownBlock) (.slice Ao62 t373.length co62) t373 1 t386 t387 w _ ?side1 ?side2 A53.out).mono ?_);(case side1 => exact zl_ HB);(case side2 => exact Kd.B_reok HO_7.out (fun k_ e_ => e_.symm));rintro e w63 ⟨rfl,hy0,hb,hkp⟩;refine ⟨_,rfl,?_⟩;replace HO_4 := am_ (Kd.R_mono (ok' := fun k_ => some k_ ≠ (.slice Ao62 t373.length co62 : Value).ownBlock) (Kd.R_keptB (HO_4.out) hkp (fun k_ hk_ hs_ => (hk_) hs_)) (fun k_ hk_ => hk_.1));replace HO_373001 := am_ (Kd.R_mono (ok' := fun k_ => True) (Kd.R_keptB ((Kd.R_apartB HO_373001.out HO_7.out)) hkp (fun k_ hk_ hs_ => (hk_.2) hs_)) (fun k_ hk_ => trivial));replace BK358 := am_ (blk_kept (zk BK358) hkp (fun hs_ => (fun e_ => (Kd.B_ne HO_7.out BK358.out) e_) hs_));replace BK372 := am_ (blk_kept (zk BK372) hkp (fun hs_ => (fun e_ => (Kd.B_ne HO_7.out BK372.out) e_) hs_));replace HO_7 := am_ (Kd.B_reok hy0 (fun k_ e_ => HO_7.out.1 k_ e_));replace HB := am_ (hb);(try clear hb);(try clear hkp);(try clear hy0)) | ((with_reducible refine gate_callee (f := 15) rfl ?_);refine goesL_ (some 67) rfl rfl Try.func15 (by kernel_rfl) rfl #[.slice Ao62 t387.length co62,.int .i64 1] rfl (by (try simp only [m1_,m2_,m3_]);first | done | (rw [show t387.length = t373.length from (Kd.B_reads' HO_7.out).1.symm] <;> rfl) | rfl | (simp only [d1_,d2_];rfl)) ?_;(with_reducible refine (laws_heldByteS.calls kj36 _ _ t387 1 t388 _ ?side1 ?side2 A54.out).mono ?_);(case side1 => repeat (first | exact (Kd.B_reads' HO_7.out).2.2 | (with_reducible refine Kd.C_alloc ?_ _) | (with_reducible refine Kd.C_drewN ?_ _) | (with_reducible refine Kd.C_drew ?_)));(case side2 => rw [show t387.length = t373.length from (Kd.B_reads' HO_7.out).1.symm];exact (Kd.B_reads' HO_7.out).2.1);rintro e w' ⟨rfl,⟨nd,rfl⟩⟩;refine ⟨_,rfl,?_⟩;have hnb64 := NB358_372.out;have hnc64 := NB372_358.out;obtain ⟨hcz65_0,hcz65_1,hfz65_0,hfz65_1⟩ := zc2 BK358) | ((with_reducible refine gate_callee (f := 18) rfl ?_);refine zgl (some 75) Try.func18 #[.agg #[.string a0_0,.slice A0_1 l0_1.length c0_1]] ?_;(with_reducible refine (laws_toCert.calls kj36 a0_0 _ _ l0_1 t389 t390 _ ?side1 ?side2 A59.out).mono ?_);(case side1 => repeat (first | exact (Kd.C_below HR0_1.out (zl_ HB)) | (with_reducible refine Kd.C_alloc ?_ _) | (with_reducible refine Kd.C_drewN ?_ _) | (with_reducible refine Kd.C_drew ?_)));(case side2 => exact HC0_1.out);rintro e w66 ⟨v391,rfl,ho0,hb⟩;refine ⟨_,rfl,?_⟩;replace HO_4 := zrb HO_4 hb;replace HO_7 := Kd.zrbB HO_7 hb;have HO392 := am_ (Kd.R_lower (Kd.R_new' ho0 (Kd.R_lt (zr HO_373001))) (below_size (zl_ HB)));replace HO_373001 := am_ (Kd.R_elder' (zr HO_373001) (Kd.R_base ho0) hb);replace BK358 := zb BK358 hb;replace BK372 := zb BK372 hb;replace HB := zs_ HB hb;(try clear hb);(try clear hb2);(try clear hk);(try clear hi);(try clear ho0);obtain ⟨Ao67,co67,eo67⟩ := Kd.R_slice HO392.out;subst eo67) | ((with_reducible refine gate_callee (f := 19) rfl ?_);refine zgl (some 76) Try.func19 #[.agg #[.string t389,.slice Ao67 t390.length co67]] ?_;(with_reducible refine (impl_CertBytes.calls kj36 t389 _ _ t390 t393 t396 _ ?side1 ?side2 A60.out).mono ?_);(case side1 => repeat (first | exact (Kd.R_reads' HO392.out).2.2 | (with_reducible refine Kd.C_alloc ?_ _) | (with_reducible refine Kd.C_drewN ?_ _) | (with_reducible refine Kd.C_drew ?_)));(case side2 => exact (Kd.R_reads' HO392.out).2.1);rintro e w68 ⟨v394,rfl,ho0,hb⟩;refine ⟨_,rfl,?_⟩;replace HO_373001 := zrb HO_373001 hb;have HO395 := am_ (Kd.B_lower (Kd.B_new' (Kd.B_new' (Kd.B_mono (ok' := fun k_ => True) ho0 (fun _ hk_ => trivial)) (Kd.R_lt (zr HO_4))) (Kd.B_lt (Kd.zrB HO_7))) (below_size (zl_ HB)));replace HO_4 := am_ (Kd.R_elder' (zr HO_4) (Kd.B_base ho0) hb);replace HO_7 := am_ (Kd.B_elder' (Kd.zrB HO_7) (Kd.B_base ho0) hb);replace BK358 := zb BK358 hb;replace BK372 := zb BK372 hb;replace HB := zs_ HB hb;(try clear hb);(try clear hb2);(try clear hk);(try clear hi);(try clear ho0)))
           (try simp only [Act.put,p1_,p2_,p3_])
           go_cut [87] (fun v87 wc => ∃ (kq : Nat) (x87_60 : Bool),v87 = .bool x87_60 ∧ Aside0 (laws_FnExactCertBytes.j2 kq t387 t386 x87_60 = some r) ∧ Aside0 (kq ≤ kj36) ∧ Aside0 (Kd.B 5 wc w.heap.size (fun _ => True) (.slice Ao62 t373.length co62) t387) ∧ Aside0 (Kd.R k63 63 wc w.heap.size (fun _ => True) (.slice Ao24 t384.length co24) t384) ∧ Aside0 (wc.heap[gb358]? = some (.cells #[.string a0_0,(.slice A0_1 l0_1.length c0_1)] 34 (0,0))) ∧ Aside0 (wc.heap[gb372]? = some (.cells #[.string t368,(.slice Ao24 t384.length co24)] 39 (0,0))) ∧ Aside0 (Below w.heap.size w wc))
           case first =>
            have H := HC61.out
            clear HC61
            replace H := Option.bind_eq_some_iff.mp H
            obtain ⟨t397,A690,H⟩ := H
            try dsimp only at H
            have A69 := am_ A690
            clear A690
            by_cases c70 : t397 = true
            ·subst c70
             have H1 : (laws_FnExactCertBytes.j2 kj36 t387 t386 (t396 != t367)) = some r := by rw [if_pos rfl] at H;exact H
             clear H
             have H := H1
             clear H1
             have H' := am_ H
             clear H
             obtain ⟨Ao71,co71,eo71⟩ := Kd.B_slice HO395.out
             subst eo71
             obtain ⟨Ao72,co72,eo72⟩ := Kd.R_slice HO_4.out
             subst eo72
             go_wp2_with (first | ((with_reducible refine gate_callee (f := 11) rfl ?_);refine zgl (some 81) Try.func11 #[.slice Ao71 t393.length co71,.slice Ao72 t364.length co72] ?_;(with_reducible refine (laws_eqByteS.calls kj36 _ _ t393 _ _ t364 true _ ?side1 ?side2 ?side3 ?side4 A69.out).mono ?_);(case side1 => repeat (first | exact (Kd.B_reads' HO395.out).2.2 | (with_reducible refine Kd.C_alloc ?_ _) | (with_reducible refine Kd.C_drewN ?_ _) | (with_reducible refine Kd.C_drew ?_)));(case side2 => exact (Kd.B_reads' HO395.out).2.1);(case side3 => repeat (first | exact (Kd.R_reads' HO_4.out).2.2 | (with_reducible refine Kd.C_alloc ?_ _) | (with_reducible refine Kd.C_drewN ?_ _) | (with_reducible refine Kd.C_drew ?_)));(case side4 => exact (Kd.R_reads' HO_4.out).2.1);rintro e w' ⟨rfl,⟨nd,rfl⟩⟩;refine ⟨_,rfl,?_⟩))
             go_meet
             case rel => exact ⟨_,((t396 != t367)),(by first | rfl | (simp;done) | (simp [*];done)),H',⟨by have := HJ10.out;have := HJ36.out;first | omega | exact Nat.le_refl _⟩,⟨by (try simp only [hl373001_36]);exact Kd.B_mono (Kd.zrB HO_7) (fun _ hk => trivial)⟩,⟨by (try simp only [hl373001_36]);(with_reducible repeat (first | apply r1_ | apply r2_ | apply r3_));exact Kd.R_mono HO_373001.out (fun _ hk => trivial)⟩,⟨by (try simp only [hl373001_36]);(with_reducible repeat (first | apply k1_ | apply k2_ | apply k3_));exact BK358.out⟩,⟨by (try simp only [hl373001_36]);(with_reducible repeat (first | apply k1_ | apply k2_ | apply k3_));exact BK372.out⟩,⟨zl_ HB⟩⟩
            ·replace c70 := Bool.eq_false_iff.mpr c70
             subst c70
             have H1 : (laws_FnExactCertBytes.j2 kj36 t387 t386 true) = some r := by rw [if_neg (show ¬ (false = true) by decide)] at H;exact H
             clear H
             have H := H1
             clear H1
             have H' := am_ H
             clear H
             obtain ⟨Ao73,co73,eo73⟩ := Kd.B_slice HO395.out
             subst eo73
             obtain ⟨Ao74,co74,eo74⟩ := Kd.R_slice HO_4.out
             subst eo74
             go_wp2_with (first | ((with_reducible refine gate_callee (f := 11) rfl ?_);refine zgl (some 81) Try.func11 #[.slice Ao73 t393.length co73,.slice Ao74 t364.length co74] ?_;(with_reducible refine (laws_eqByteS.calls kj36 _ _ t393 _ _ t364 false _ ?side1 ?side2 ?side3 ?side4 A69.out).mono ?_);(case side1 => repeat (first | exact (Kd.B_reads' HO395.out).2.2 | (with_reducible refine Kd.C_alloc ?_ _) | (with_reducible refine Kd.C_drewN ?_ _) | (with_reducible refine Kd.C_drew ?_)));(case side2 => exact (Kd.B_reads' HO395.out).2.1);(case side3 => repeat (first | exact (Kd.R_reads' HO_4.out).2.2 | (with_reducible refine Kd.C_alloc ?_ _) | (with_reducible refine Kd.C_drewN ?_ _) | (with_reducible refine Kd.C_drew ?_)));(case side4 => exact (Kd.R_reads' HO_4.out).2.1);rintro e w' ⟨rfl,⟨nd,rfl⟩⟩;refine ⟨_,rfl,?_⟩))
             go_meet
             case rel => exact ⟨_,(true),(by first | rfl | (simp;done) | (simp [*];done)),H',⟨by have := HJ10.out;have := HJ36.out;first | omega | exact Nat.le_refl _⟩,⟨by (try simp only [hl373001_36]);exact Kd.B_mono (Kd.zrB HO_7) (fun _ hk => trivial)⟩,⟨by (try simp only [hl373001_36]);(with_reducible repeat (first | apply r1_ | apply r2_ | apply r3_));exact Kd.R_mono HO_373001.out (fun _ hk => trivial)⟩,⟨by (try simp only [hl373001_36]);(with_reducible repeat (first | apply k1_ | apply k2_ | apply k3_));exact BK358.out⟩,⟨by (try simp only [hl373001_36]);(with_reducible repeat (first | apply k1_ | apply k2_ | apply k3_));exact BK372.out⟩,⟨zl_ HB⟩⟩
           case rest =>
            clear HC61
            try clear c1
            try clear c2
            try clear p2
            try clear c3
            try clear c3b0
            try clear c4
            try clear c5
            try clear c6
            try clear c7
            try clear c11
            try clear c14
            try clear c15
            try clear c16
            try clear c17
            try clear c18
            try clear c19
            try clear c20
            try clear c21
            try clear c22
            try clear c27
            try clear c32
            try clear c35
            try clear c42
            try clear c45
            try clear c45b0
            try clear c47
            try clear c52
            try clear c55
            try clear c55b0
            try clear c58
            try clear c58b0
            try clear c58b1
            try clear c64
            try clear c70
            try clear hcz13_0
            try clear hcz13_1
            try clear hcz15_0
            try clear hcz15_1
            try clear hcz19_0
            try clear hcz19_1
            try clear hcz23_0
            try clear hcz23_1
            try clear hcz43_0
            try clear hcz43_1
            try clear hcz5_0
            try clear hcz5_1
            try clear hcz65_0
            try clear hcz65_1
            try clear hfz13_0
            try clear hfz13_1
            try clear hfz15_0
            try clear hfz15_1
            try clear hfz19_0
            try clear hfz19_1
            try clear hfz23_0
            try clear hfz23_1
            try clear hfz43_0
            try clear hfz43_1
            try clear hfz5_0
            try clear hfz5_1
            try clear hfz65_0
            try clear hfz65_1
            try clear p2
            obtain ⟨kq,x87_60,rfl,HA,HJ60,HO_7,HO_373001,BK358,BK372,HB⟩ := hcut
            have hl7_60 := (Kd.B_reads' HO_7.out).1
            rw [hl7_60] at HO_7
            (try simp only [hl7_60])
            (try simp only [hl7_60] at BK358)
            (try simp only [hl7_60] at BK372)
            (try simp only [hl7_60] at HO_373001)
            cases kq with
            | zero => exact absurd HA.out (by simp [laws_FnExactCertBytes.j2])
            | succ kj60 =>
             have H := HA.out
             clear HA
             simp only [laws_FnExactCertBytes.j2] at H
             by_cases c75 : x87_60 = true
             ·subst c75
              have H1 : (some false) = some r := by rw [if_pos rfl] at H;exact H
              clear H
              have H := H1
              clear H1
              obtain rfl := Option.some.inj H
              go_wp2
              go_ret
              exact ⟨zt_,zl_ HB⟩
             ·replace c75 := Bool.eq_false_iff.mpr c75
              subst c75
              have H1 : ((laws_heldByteS.f kj60 t387 1).bind fun t398 => (if t398 < 0 then (some false) else (if t398 = t386 then (some true) else (some false)))) = some r := by rw [if_neg (show ¬ (false = true) by decide)] at H;exact H
              clear H
              have H := H1
              clear H1
              replace H := Option.bind_eq_some_iff.mp H
              obtain ⟨t398,A760,H⟩ := H
              try dsimp only at H
              have A76 := am_ A760
              clear A760
              by_cases c77 : t398 < 0
              ·rw [if_pos c77] at H
               have c77b0 : decide (t398 < 0) = true := decide_eq_true c77
               clear c77
               obtain rfl := Option.some.inj H
               go_wp2_with (first | ((with_reducible refine gate_callee (f := 15) rfl ?_);refine zgl (some 90) Try.func15 #[.slice Ao62 t387.length co62,.int .i64 1] ?_;(with_reducible refine (laws_heldByteS.calls kj60 _ _ t387 1 t398 _ ?side1 ?side2 A76.out).mono ?_);(case side1 => repeat (first | exact (Kd.B_reads' HO_7.out).2.2 | (with_reducible refine Kd.C_alloc ?_ _) | (with_reducible refine Kd.C_drewN ?_ _) | (with_reducible refine Kd.C_drew ?_)));(case side2 => exact (Kd.B_reads' HO_7.out).2.1);rintro e w' ⟨rfl,⟨nd,rfl⟩⟩;refine ⟨_,rfl,?_⟩))
               go_ret
               exact ⟨zt_,zl_ HB⟩
              ·rw [if_neg c77] at H
               have c77b0 : decide (t398 < 0) = false := decide_eq_false c77
               clear c77
               by_cases c78 : t398 = t386
               ·rw [if_pos c78] at H
                have c78b0 : (t398 == t386) = true := beq_iff_eq.mpr c78
                have c78b1 : (t398 != t386) = false := bne_eq_false_iff_eq.mpr c78
                clear c78
                obtain rfl := Option.some.inj H
                go_wp2_with (first | ((with_reducible refine gate_callee (f := 15) rfl ?_);refine zgl (some 90) Try.func15 #[.slice Ao62 t387.length co62,.int .i64 1] ?_;(with_reducible refine (laws_heldByteS.calls kj60 _ _ t387 1 t398 _ ?side1 ?side2 A76.out).mono ?_);(case side1 => repeat (first | exact (Kd.B_reads' HO_7.out).2.2 | (with_reducible refine Kd.C_alloc ?_ _) | (with_reducible refine Kd.C_drewN ?_ _) | (with_reducible refine Kd.C_drew ?_)));(case side2 => exact (Kd.B_reads' HO_7.out).2.1);rintro e w' ⟨rfl,⟨nd,rfl⟩⟩;refine ⟨_,rfl,?_⟩))
                go_ret
                exact ⟨zt_,zl_ HB⟩
               ·rw [if_neg c78] at H
                have c78b0 : (t398 == t386) = false := beq_eq_false_iff_ne.mpr c78
                have c78b1 : (t398 != t386) = true := bne_iff_ne.mpr c78
                obtain rfl := Option.some.inj H
                go_wp2_with (first | ((with_reducible refine gate_callee (f := 15) rfl ?_);refine zgl (some 90) Try.func15 #[.slice Ao62 t387.length co62,.int .i64 1] ?_;(with_reducible refine (laws_heldByteS.calls kj60 _ _ t387 1 t398 _ ?side1 ?side2 A76.out).mono ?_);(case side1 => repeat (first | exact (Kd.B_reads' HO_7.out).2.2 | (with_reducible refine Kd.C_alloc ?_ _) | (with_reducible refine Kd.C_drewN ?_ _) | (with_reducible refine Kd.C_drew ?_)));(case side2 => exact (Kd.B_reads' HO_7.out).2.1);rintro e w' ⟨rfl,⟨nd,rfl⟩⟩;refine ⟨_,rfl,?_⟩))
                go_ret
                exact ⟨zt_,zl_ HB⟩
          ·rw [if_neg c58] at H
           have c58b0 : (t388 == t386) = false := beq_eq_false_iff_ne.mpr c58
           have c58b1 : (t388 != t386) = true := bne_iff_ne.mpr c58
           obtain rfl := Option.some.inj H
           obtain ⟨Ao79,co79,eo79⟩ := Kd.B_slice HO_7.out
           subst eo79
           go_wp2_with (first | ((with_reducible refine gate_callee (f := 14) rfl ?_);refine zgl (some 64) Try.func14 #[.slice Ao79 t373.length co79,.int .i64 1] ?_;(with_reducible refine (laws_markByteS.callsB kj36 (fun k_ => some k_ = (.slice Ao79 t373.length co79 : Value).ownBlock) (.slice Ao79 t373.length co79) t373 1 t386 t387 w _ ?side1 ?side2 A53.out).mono ?_);(case side1 => exact zl_ HB);(case side2 => exact Kd.B_reok HO_7.out (fun k_ e_ => e_.symm));rintro e w80 ⟨rfl,hy0,hb,hkp⟩;refine ⟨_,rfl,?_⟩;replace HO_7 := am_ (Kd.B_reok hy0 (fun k_ e_ => HO_7.out.1 k_ e_));replace HB := am_ (hb);(try clear hb);(try clear hkp);(try clear hy0)) | ((with_reducible refine gate_callee (f := 15) rfl ?_);refine goesL_ (some 67) rfl rfl Try.func15 (by kernel_rfl) rfl #[.slice Ao79 t387.length co79,.int .i64 1] rfl (by (try simp only [m1_,m2_,m3_]);first | done | (rw [show t387.length = t373.length from (Kd.B_reads' HO_7.out).1.symm] <;> rfl) | rfl | (simp only [d1_,d2_];rfl)) ?_;(with_reducible refine (laws_heldByteS.calls kj36 _ _ t387 1 t388 _ ?side1 ?side2 A54.out).mono ?_);(case side1 => repeat (first | exact (Kd.B_reads' HO_7.out).2.2 | (with_reducible refine Kd.C_alloc ?_ _) | (with_reducible refine Kd.C_drewN ?_ _) | (with_reducible refine Kd.C_drew ?_)));(case side2 => rw [show t387.length = t373.length from (Kd.B_reads' HO_7.out).1.symm];exact (Kd.B_reads' HO_7.out).2.1);rintro e w' ⟨rfl,⟨nd,rfl⟩⟩;refine ⟨_,rfl,?_⟩))
           go_ret
           exact ⟨zt_,zl_ HB⟩
     ·replace c35 := Bool.eq_false_iff.mpr c35
      subst c35
      have H1 : (some false) = some r := by rw [if_neg (show ¬ (false = true) by decide)] at H;exact H
      clear H
      have H := H1
      clear H1
      obtain rfl := Option.some.inj H
      try go_wp2
      replace HO_4 := am_ (Kd.R_drew HO_4.out)
      replace HO_7 := am_ (Kd.B_drew HO_7.out)
      replace HO_373001 := am_ (Kd.R_drew HO_373001.out)
      replace BK358 := am_ (blk_drew BK358.out)
      replace BK372 := am_ (blk_drew BK372.out)
      replace HB := am_ (below_drew1 HB.out)
      refine start_ (n := 5) (S := fun w' => w'.cell? ⟨gb372,0,none⟩ = some (.string t368) ∧ w'.cell? ⟨gb372,1,none⟩ = some (.slice Ao24 t369.length co24) ∧ w'.cell? ⟨gb358,0,none⟩ = some (.string a0_0) ∧ w'.cell? ⟨gb358,1,none⟩ = some (.slice A0_1 l0_1.length c0_1)) (ds := []) #[false,false,false,false,false] (by kernel_rfl) rfl rfl ⟨(blk_cell BK372.out 0).trans rfl,(blk_cell BK372.out 1).trans rfl,(blk_cell BK358.out 0).trans rfl,(blk_cell BK358.out 1).trans rfl⟩ (fun hHeld => ?_)
      generalize wc.drew = w81 at HO_4 HO_7 HO_373001 BK358 BK372 HB hHeld ⊢
      refine take_ (i := 0) (N := some 41) (v := ?_) (a' := ?_) #[true,false,false,false,false] rfl rfl (by kernel_rfl) (fun _ _ _ h => h) (Or.inl ⟨by rfl,?_⟩) hHeld ?_ ?_
      rotate_left
      ·rintro w' ⟨s0,s1,s2,s3⟩
       go_simp
       with_reducible rfl
      rotate_left
      ·simp only [Act.put,p1_,p2_,p3_,i64_w,i32_w]
       rfl
      refine take_ (i := 1) (N := some 42) (v := ?_) (a' := ?_) #[true,true,false,false,false] rfl rfl (by kernel_rfl) (fun _ _ _ h => h) (Or.inl ⟨by rfl,?_⟩) hHeld ?_ ?_
      rotate_left
      ·rintro w' ⟨s0,s1,s2,s3⟩
       go_simp
       with_reducible rfl
      rotate_left
      ·simp only [Act.put,p1_,p2_,p3_,i64_w,i32_w]
       rfl
      refine one_ (i := 2) (N := some 43) #[true,true,true,false,false] rfl rfl (by kernel_rfl) (by decide) (fun K hK => ?_)
      refine zgo Try.func18 #[.agg #[.string a0_0,.slice A0_1 l0_1.length c0_1]] ?_
      with_reducible refine (laws_toCert.calls kj10 a0_0 _ _ l0_1 t378 t379 _ ?side1 ?side2 A33.out).mono ?_
      (case side1 => exact zc_ HR0_1 HB)
      (case side2 => exact HC0_1.out)
      rintro e w82 ⟨v380,rfl,ho0,hb⟩
      refine ⟨_,rfl,?_⟩
      have HO381 := am_ (Kd.R_lower (Kd.R_new' ho0 (Kd.R_lt (zr HO_373001))) (below_size (zl_ HB)))
      replace HO_373001 := am_ (Kd.R_elder' (zr HO_373001) (Kd.R_base ho0) hb)
      replace BK358 := zb BK358 hb
      replace BK372 := zb BK372 hb
      replace HB := zs_ HB hb
      (try clear hb)
      (try clear hb2)
      (try clear hk)
      (try clear hi)
      (try clear ho0)
      obtain ⟨Ao83,co83,eo83⟩ := Kd.R_slice HO381.out
      (first | subst eo83 | (injection eo83 with f1_ f2_ f3_;have f4_ := f1_.symm;have f5_ := f3_.symm;clear f1_ f2_ f3_;subst f4_;subst f5_))
      refine hK.out _ _ ⟨(blk_cell BK372.out 0).trans rfl,(blk_cell BK372.out 1).trans rfl,(blk_cell BK358.out 0).trans rfl,(blk_cell BK358.out 1).trans rfl⟩ (fun hHeld => ?_)
      clear hK K
      refine norm_ (a' := ?_) ?_ ?_
      rotate_left
      ·show Act.put _ (some 43) _ = _
       simp only [Act.put,p1_,p2_,p3_,i64_w,i32_w]
       rfl
      refine one_ (i := 3) (N := some 44) #[true,true,true,true,false] rfl rfl (by kernel_rfl) (by decide) (fun K hK => ?_)
      refine zgo Try.func20 #[.agg #[.string t368,.slice Ao24 t369.length co24],.agg #[.string t378,.slice Ao83 t379.length co83]] ?_
      with_reducible refine (laws_eqCert.calls kj10 t368 _ _ t369 t378 _ _ t379 false _ ?side1 ?side2 ?side3 ?side4 A34.out).mono ?_
      (case side1 => repeat (first | exact (Kd.R_reads' HO_373001.out).2.2 | (with_reducible refine Kd.C_alloc ?_ _) | (with_reducible refine Kd.C_drewN ?_ _) | (with_reducible refine Kd.C_drew ?_)))
      (case side2 => exact (Kd.R_reads' HO_373001.out).2.1)
      (case side3 => repeat (first | exact (Kd.R_reads' HO381.out).2.2 | (with_reducible refine Kd.C_alloc ?_ _) | (with_reducible refine Kd.C_drewN ?_ _) | (with_reducible refine Kd.C_drew ?_)))
      (case side4 => exact (Kd.R_reads' HO381.out).2.1)
      rintro e w84 ⟨rfl,hb⟩
      refine ⟨_,rfl,?_⟩
      replace BK358 := zb BK358 hb
      replace BK372 := zb BK372 hb
      replace HB := zs_ HB hb
      (try clear hb)
      (try clear hb2)
      (try clear hk)
      (try clear hi)
      refine hK.out _ _ ⟨(blk_cell BK372.out 0).trans rfl,(blk_cell BK372.out 1).trans rfl,(blk_cell BK358.out 0).trans rfl,(blk_cell BK358.out 1).trans rfl⟩ (fun hHeld => ?_)
      clear hK K
      refine norm_ (a' := ?_) ?_ ?_
      rotate_left
      ·show Act.put _ (some 44) _ = _
       simp only [Act.put,p1_,p2_,p3_,i64_w,i32_w]
       rfl
      refine pure_ (i := 4) (N := some 45) (v := ?_) (a' := ?_) #[true,true,true,true,true] rfl rfl (by kernel_rfl) (fun _ _ _ h => h) (Or.inl ⟨by rfl,?_⟩) ?_ ?_
      rotate_left
      ·intro w'
       go_simp
       with_reducible rfl
      rotate_left
      ·simp only [Act.put,p1_,p2_,p3_,i64_w,i32_w]
       rfl
      refine done_ (by kernel_rfl) ?_
      try go_wp2
      go_ret
      exact ⟨zt_,zl_ HB⟩
end Go.Proofs.Ytadablpppkjdbaa.A
end
