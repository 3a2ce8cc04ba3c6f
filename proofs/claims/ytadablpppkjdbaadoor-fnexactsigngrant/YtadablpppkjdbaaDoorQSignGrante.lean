/- A part of the proof that FnExactSignGrant returns true at every input: plain functions, contracts and lemmas. No conditions. -/
import Derived.Test.YtadablpppkjdbaaDoorQSignGrantd
set_option linter.unusedVariables false
set_option linter.unusedSimpArgs false
set_option linter.unusedSectionVars false
section
namespace Go.Proofs.YtadablpppkjdbaaDoor.B
open Go.RowKit Go.Proofs.YtadablpppkjdbaaDoorW.PrintWords Go.Proofs.YtadablpppkjdbaaDoorW.PrintLast Go.Proofs.YtadablpppkjdbaaDoorW.PrintMore
attribute [local go_sem] max2_int min2_int max_two min_two max_three min_three max_four min_four
def spec_l00Digits.T7 : Bool × List (List Nat × List Nat) := (true,[([],[]),([0],[0]),([1],[1]),([],[]),([3],[3]),([4],[4]),([5],[5]),([6],[6]),([7],[7]),([2,8],[2,8]),([9,2,0,1,2,3,4,5,6,7,8,9],[9])])
def spec_l00Digits.B7 : List Nat := [0,1,3,0,8,24,56,120,248,511,1023]
theorem spec_l00Digits.tab7 : rtab .any (opsOf Tryd.f140 7) = spec_l00Digits.T7 := by kernel_rfl
theorem spec_l00Digits.bits7 : waitsOk spec_l00Digits.T7.2 spec_l00Digits.B7 = true := by kernel_rfl
set_option maxHeartbeats 8000000 in
set_option maxRecDepth 100000 in
theorem spec_l00Digits.calls (k : Nat) : ∀ (a0 : Int) (r : ByteArray) (w : World) (h : spec_l00Digits.f k a0 = some r),
  Calls Tryd.prog 140 #[.int .i64 a0] w fun e w' => e = .returned (.string r) ∧ Below w.heap.size w w' := by
 induction k using Nat.strongRecOn with
 | _ k ih =>
 intro a0 r w h
 cases k with
 | zero => exact absurd h (by simp [spec_l00Digits.f])
 | succ k =>
 simp only [spec_l00Digits.f] at h
 have HB := am_ (Below.refl w.heap.size w)
 have H : (if a0 = (-9223372036854775808) then (some (⟨#[45,57,50,50,51,51,55,50,48,51,54,56,53,52,55,55,53,56,48,56]⟩ : ByteArray)) else (if a0 < 0 then ((spec_l00Digits.f k (wrap64 (-a0))).bind fun t1027 => (if 1 + t1027.size ≤ 9223372036854775807 then (some ((⟨#[45]⟩ : ByteArray) ++ t1027)) else (none))) else (if a0 < 10 then (some (strOfNums (([(wrap64 (48 + a0)) % 256] : List Int)))) else ((spec_l00Digits.f k (wrap64 (Int.tdiv a0 10))).bind fun t1031 => ((some (([(wrap64 (48 + (Int.tmod a0 10))) % 256] : List Int) : List Int)).bind fun y1032 => (if t1031.size + (strOfNums y1032).size ≤ 9223372036854775807 then (some (t1031 ++ (strOfNums y1032))) else (none))))))) = some r := h
 clear h
 by_cases c2 : a0 = (-9223372036854775808)
 ·rw [if_pos c2] at H
  have c2b0 : (a0 == (-9223372036854775808)) = true := beq_iff_eq.mpr c2
  have c2b1 : (a0 != (-9223372036854775808)) = false := bne_eq_false_iff_eq.mpr c2
  clear c2
  obtain rfl := Option.some.inj H
  go_enter Tryd.func140,Tryd.ntmps140
  go_wp2
  go_ret
  exact ⟨zt_,zl_ HB⟩
 ·rw [if_neg c2] at H
  have c2b0 : (a0 == (-9223372036854775808)) = false := beq_eq_false_iff_ne.mpr c2
  have c2b1 : (a0 != (-9223372036854775808)) = true := bne_iff_ne.mpr c2
  by_cases c3 : a0 < 0
  ·rw [if_pos c3] at H
   have c3b0 : decide (a0 < 0) = true := decide_eq_true c3
   clear c3
   replace H := Option.bind_eq_some_iff.mp H
   obtain ⟨t1027,A40,H⟩ := H
   try dsimp only at H
   have A4 := am_ A40
   clear A40
   by_cases c5 : 1 + t1027.size ≤ 9223372036854775807
   ·rw [if_pos c5] at H
    have c5b0 := eq_true c5
    have c5b1 : decide (1 + t1027.size ≤ 9223372036854775807) = true := decide_eq_true c5
    try have c5b2 : (9223372036854775807 < 1 + t1027.size) = False := eq_false (Nat.not_lt.2 c5)
    obtain rfl := Option.some.inj H
    go_enter Tryd.func140,Tryd.ntmps140
    go_wp2_with (first | ((with_reducible refine gate_callee (f := 140) rfl ?_);refine zgl (some 9) Tryd.func140 #[.int .i64 (wrap64 (-a0))] ?_;(with_reducible refine (ih k (by omega) (wrap64 (-a0)) t1027 _ A4.out).mono ?_);rintro e w6 ⟨rfl,hb⟩;refine ⟨_,rfl,?_⟩;replace HB := zs_ HB hb;(try clear hb);(try clear hb2);(try clear hk);(try clear hi)))
    go_ret
    exact ⟨zt_,zl_ HB⟩
   ·rw [if_neg c5] at H
    exact absurd H (by simp)
  ·rw [if_neg c3] at H
   have c3b0 : decide (a0 < 0) = false := decide_eq_false c3
   clear c3
   by_cases c7 : a0 < 10
   ·rw [if_pos c7] at H
    have c7b0 : decide (a0 < 10) = true := decide_eq_true c7
    clear c7
    obtain ⟨y1028,hy1028⟩ : ∃ y_ : List Int,y_ = (([(wrap64 (48 + a0)) % 256] : List Int)) := ⟨_,rfl⟩
    replace H : (some (strOfNums y1028)) = some r := by first | (rw [hy1028];with_reducible exact H) | (have H2_ := (Option.bind_some _ _).symm.trans H;rw [hy1028];with_reducible exact H2_) | (have H2_ := (Option.bind_some _ _).symm.trans H;with_reducible exact H2_) | with_reducible exact H | (rw [hy1028];exact H) | exact H
    have Ny1028 := am_ hy1028
    clear hy1028
    obtain rfl := Option.some.inj H
    go_enter Tryd.func140,Tryd.ntmps140
    go_wp2_with (first | ((with_reducible refine gate_dst (N := 16) rfl ?_);refine Kd.R_lit (Kd.int .u8) _ 5 ?hg (N := 16) ?hd (xs := ([(wrap64 (48 + a0)) % 256] : List Int)) (inner := [.int .u8 ((wrap64 (48 + a0)) % 256)]) (ok := fun _ => True) (okp := fun _ => True) ?hr ?hp (fun _ hk => hk) trivial (Below.refl _ _) (Nat.le_refl _) (by simp) ?_;(case hd => rfl);(case hg => rfl);(case hr => first | (go_simp;done) | (go_simp;rfl));(case hp => exact (Reps.one (show Kd.M (Kd.int .u8) _ _ _ ((wrap64 (48 + a0)) % 256) [.int .u8 ((wrap64 (48 + a0)) % 256)] from rfl) (Reps.none _ _)));intro v1029 w8 ho9 hb hg_ hnew_;clear hg_ hnew_;(first | rw [← Ny1028.out] at ho9 | (simp only [Int.reduceToNat] at ho9;rw [← Ny1028.out] at ho9));have HO1030 := am_ (Kd.R_lower ho9 (below_size (zl_ HB)));replace HB := zs_ HB hb;clear hb ho9;have hcv10 := own_string (P := Tryd.prog) Tryd.underlying31 Tryd.underlying5 Tryd.underlying9 (Kd.own_of_R HO1030.out)))
    go_ret
    exact ⟨zt_,zl_ HB⟩
   ·rw [if_neg c7] at H
    have c7b0 : decide (a0 < 10) = false := decide_eq_false c7
    clear c7
    replace H := Option.bind_eq_some_iff.mp H
    obtain ⟨t1031,A110,H⟩ := H
    try dsimp only at H
    have A11 := am_ A110
    clear A110
    obtain ⟨y1032,hy1032⟩ : ∃ y_ : List Int,y_ = (([(wrap64 (48 + (Int.tmod a0 10))) % 256] : List Int)) := ⟨_,rfl⟩
    replace H : (if t1031.size + (strOfNums y1032).size ≤ 9223372036854775807 then (some (t1031 ++ (strOfNums y1032))) else (none)) = some r := by first | (rw [hy1032];with_reducible exact H) | (have H2_ := (Option.bind_some _ _).symm.trans H;rw [hy1032];with_reducible exact H2_) | (have H2_ := (Option.bind_some _ _).symm.trans H;with_reducible exact H2_) | with_reducible exact H | (rw [hy1032];exact H) | exact H
    have Ny1032 := am_ hy1032
    clear hy1032
    by_cases c12 : t1031.size + (strOfNums y1032).size ≤ 9223372036854775807
    ·rw [if_pos c12] at H
     have c12b0 := eq_true c12
     have c12b1 : decide (t1031.size + (strOfNums y1032).size ≤ 9223372036854775807) = true := decide_eq_true c12
     try have c12b2 : (9223372036854775807 < t1031.size + (strOfNums y1032).size) = False := eq_false (Nat.not_lt.2 c12)
     obtain rfl := Option.some.inj H
     go_enter Tryd.func140,Tryd.ntmps140
     try go_wp2
     replace HB := am_ (below_drew1 HB.out)
     refine start_ (n := 11) (S := fun w' => True) (ds := []) #[false,false,false,false,false,false,false,false,false,false,false] (by kernel_rfl) rfl rfl trivial (fun hHeld => ?_);refine with_tabW spec_l00Digits.tab7 spec_l00Digits.bits7 (fun HT_ HW_ => ?_)
     generalize w.drew = w13 at HB hHeld ⊢
     refine zpu 0 (N := some 18) HT_ ?_
     refine zpu 1 (N := some 19) HT_ ?_
     refine zpu 3 (N := some 21) HT_ ?_
     refine zpu 4 (N := some 22) HT_ ?_
     refine zpu 5 (N := some 23) HT_ ?_
     refine zpu 6 (N := some 24) HT_ ?_
     refine join_ (σ := Value) 2 #[true,true,true,true,true,true,true,true,true,false,false] (fun s_ => [(20,.string t1031),(25,s_),(26,.string (strOfNums y1032))]) (fun s_ w' => (Kd.R (Kd.int .u8) 5 w' w.heap.size (fun _ => True) s_ y1032) ∧ (Below w.heap.size w w')) ?_ ?_
     rotate_left
     ·intro hCont
      refine two_ (i := 2) (j := 7) (Ni := some 20) (Nj := some 25) #[true,true,true,true,true,true,true,false,false,false,false] #[true,true,false,true,true,true,true,true,false,false,false] rfl rfl rfl rfl (two_of HT_.out (by kernel_rfl)) (by decide) (by decide) (fun K hK => ?_) (fun K hK => ?_)
      ·skip
       refine zgo Tryd.func140 #[.int .i64 (wrap64 (Int.tdiv a0 10))] ?_
       with_reducible refine (ih k (by omega) (wrap64 (Int.tdiv a0 10)) t1031 _ A11.out).mono ?_
       rintro e w14 ⟨rfl,hb⟩
       refine ⟨_,rfl,?_⟩
       replace HB := zs_ HB hb
       (try clear hb)
       (try clear hb2)
       (try clear hk)
       (try clear hi)
       refine hK.out _ _ trivial (fun hHeld => ?_)
       clear hK K
       refine norm_ (a' := ?_) ?_ ?_
       rotate_left
       ·show Act.put _ (some 20) _ = _
        simp only [Act.put,p1_,p2_,p3_,i64_w,i32_w]
        rfl
       refine zon 7 (N := some 25) HT_ (fun K hK => ?_)
       refine Kd.R_lit_step (Kd.int .u8) _ 5 ?hg (N := 25) ?hd (xs := ([(wrap64 (48 + (Int.tmod a0 10))) % 256] : List Int)) (inner := [.int .u8 ((wrap64 (48 + (Int.tmod a0 10))) % 256)]) (ok := fun _ => True) (okp := fun _ => True) ?hr ?hp (fun _ hk => hk) trivial (Below.refl _ _) (Nat.le_refl _) (by simp) ?_;(case hd => rfl);(case hg => rfl);(case hr => first | (go_simp;done) | (go_simp;rfl));(case hp => exact (Reps.one (show Kd.M (Kd.int .u8) _ _ _ ((wrap64 (48 + (Int.tmod a0 10))) % 256) [.int .u8 ((wrap64 (48 + (Int.tmod a0 10))) % 256)] from rfl) (Reps.none _ _)))
       intro v1033 w15 ho16 hb hg_ hnew_
       clear hg_ hnew_
       (first | rw [← Ny1032.out] at ho16 | (simp only [Int.reduceToNat] at ho16;rw [← Ny1032.out] at ho16))
       have HO1034 := am_ (Kd.R_lower ho16 (below_size (zl_ HB)))
       replace HB := zs_ HB hb
       clear hb ho16
       refine hK.out _ _ trivial (fun hHeld => ?_)
       clear hK K
       refine norm_ (a' := ?_) ?_ ?_
       rotate_left
       ·show Act.put _ (some 25) _ = _
        simp only [Act.put,p1_,p2_,p3_,i64_w,i32_w]
        rfl
       refine zon 8 (N := some 26) HT_ (fun K hK => ?_)
       have hcv17 := own_string (P := Tryd.prog) Tryd.underlying31 Tryd.underlying5 Tryd.underlying9 (Kd.own_of_R HO1034.out)
       refine value_ (w1 := ?_) (v := ?_) (by rfl) rfl ?_ ?_
       rotate_left 2
       ·go_simp
        constructor
        ·rfl
        ·rfl
       clear hcv17
       refine hK.out _ _ trivial (fun hHeld => ?_)
       clear hK K
       refine norm_ (a' := ?_) ?_ ?_
       rotate_left
       ·show Act.put _ (some 26) _ = _
        simp only [Act.put,p1_,p2_,p3_,i64_w,i32_w]
        rfl
       exact norm_ (by simp only [putAll,Act.put,p1_,p2_,p3_]) (hCont (v1033) _ ⟨(zr HO1034),(zl_ HB)⟩)
      ·skip
       refine Kd.R_lit_step (Kd.int .u8) _ 5 ?hg (N := 25) ?hd (xs := ([(wrap64 (48 + (Int.tmod a0 10))) % 256] : List Int)) (inner := [.int .u8 ((wrap64 (48 + (Int.tmod a0 10))) % 256)]) (ok := fun _ => True) (okp := fun _ => True) ?hr ?hp (fun _ hk => hk) trivial (Below.refl _ _) (Nat.le_refl _) (by simp) ?_;(case hd => rfl);(case hg => rfl);(case hr => first | (go_simp;done) | (go_simp;rfl));(case hp => exact (Reps.one (show Kd.M (Kd.int .u8) _ _ _ ((wrap64 (48 + (Int.tmod a0 10))) % 256) [.int .u8 ((wrap64 (48 + (Int.tmod a0 10))) % 256)] from rfl) (Reps.none _ _)))
       intro v1033 w14 ho15 hb hg_ hnew_
       clear hg_ hnew_
       (first | rw [← Ny1032.out] at ho15 | (simp only [Int.reduceToNat] at ho15;rw [← Ny1032.out] at ho15))
       have HO1034 := am_ (Kd.R_lower ho15 (below_size (zl_ HB)))
       replace HB := zs_ HB hb
       clear hb ho15
       refine hK.out _ _ trivial (fun hHeld => ?_)
       clear hK K
       refine norm_ (a' := ?_) ?_ ?_
       rotate_left
       ·show Act.put _ (some 25) _ = _
        simp only [Act.put,p1_,p2_,p3_,i64_w,i32_w]
        rfl
       refine two_ (i := 2) (j := 8) (Ni := some 20) (Nj := some 26) #[true,true,true,true,true,true,true,true,false,false,false] #[true,true,false,true,true,true,true,true,true,false,false] rfl rfl rfl rfl (two_of HT_.out (by kernel_rfl)) (by decide) (by decide) (fun K hK => ?_) (fun K hK => ?_)
       ·skip
        refine zgo Tryd.func140 #[.int .i64 (wrap64 (Int.tdiv a0 10))] ?_
        with_reducible refine (ih k (by omega) (wrap64 (Int.tdiv a0 10)) t1031 _ A11.out).mono ?_
        rintro e w16 ⟨rfl,hb⟩
        refine ⟨_,rfl,?_⟩
        replace HO1034 := zrb HO1034 hb
        replace HB := zs_ HB hb
        (try clear hb)
        (try clear hb2)
        (try clear hk)
        (try clear hi)
        refine hK.out _ _ trivial (fun hHeld => ?_)
        clear hK K
        refine norm_ (a' := ?_) ?_ ?_
        rotate_left
        ·show Act.put _ (some 20) _ = _
         simp only [Act.put,p1_,p2_,p3_,i64_w,i32_w]
         rfl
        refine zon 8 (N := some 26) HT_ (fun K hK => ?_)
        have hcv17 := own_string (P := Tryd.prog) Tryd.underlying31 Tryd.underlying5 Tryd.underlying9 (Kd.own_of_R HO1034.out)
        refine value_ (w1 := ?_) (v := ?_) (by rfl) rfl ?_ ?_
        rotate_left 2
        ·go_simp
         constructor
         ·rfl
         ·rfl
        clear hcv17
        refine hK.out _ _ trivial (fun hHeld => ?_)
        clear hK K
        refine norm_ (a' := ?_) ?_ ?_
        rotate_left
        ·show Act.put _ (some 26) _ = _
         simp only [Act.put,p1_,p2_,p3_,i64_w,i32_w]
         rfl
        exact norm_ (by simp only [putAll,Act.put,p1_,p2_,p3_]) (hCont (v1033) _ ⟨(zr HO1034),(zl_ HB)⟩)
       ·skip
        have hcv16 := own_string (P := Tryd.prog) Tryd.underlying31 Tryd.underlying5 Tryd.underlying9 (Kd.own_of_R HO1034.out)
        refine value_ (w1 := ?_) (v := ?_) (by rfl) rfl ?_ ?_
        rotate_left 2
        ·go_simp
         constructor
         ·rfl
         ·rfl
        clear hcv16
        refine hK.out _ _ trivial (fun hHeld => ?_)
        clear hK K
        refine norm_ (a' := ?_) ?_ ?_
        rotate_left
        ·show Act.put _ (some 26) _ = _
         simp only [Act.put,p1_,p2_,p3_,i64_w,i32_w]
         rfl
        refine zon 2 (N := some 20) HT_ (fun K hK => ?_)
        refine zgo Tryd.func140 #[.int .i64 (wrap64 (Int.tdiv a0 10))] ?_
        with_reducible refine (ih k (by omega) (wrap64 (Int.tdiv a0 10)) t1031 _ A11.out).mono ?_
        rintro e w17 ⟨rfl,hb⟩
        refine ⟨_,rfl,?_⟩
        replace HO1034 := zrb HO1034 hb
        replace HB := zs_ HB hb
        (try clear hb)
        (try clear hb2)
        (try clear hk)
        (try clear hi)
        refine hK.out _ _ trivial (fun hHeld => ?_)
        clear hK K
        refine norm_ (a' := ?_) ?_ ?_
        rotate_left
        ·show Act.put _ (some 20) _ = _
         simp only [Act.put,p1_,p2_,p3_,i64_w,i32_w]
         rfl
        exact norm_ (by simp only [putAll,Act.put,p1_,p2_,p3_]) (hCont (v1033) _ ⟨(zr HO1034),(zl_ HB)⟩)
     rintro v1033 w18 ⟨h0_,h1_⟩
     have n0_ : Aside0 (Kd.R (Kd.int .u8) 5 w18 w.heap.size (fun _ => True) v1033 y1032) := ⟨h0_⟩
     have n1_ : Aside0 (Below w.heap.size w w18) := ⟨h1_⟩
     clear HB
     clear h0_ h1_
     have HB := n1_
     clear n0_ n1_
     have hHeld := trivial
     refine norm_ (a' := ?_) ?_ ?_
     rotate_left
     ·simp only [putAll,Act.put,p1_,p2_,p3_]
      rfl
     refine zpu 9 (N := some 27) HT_ ?_
     refine zpu 10 (N := some 2) HT_ ?_
     refine done_ (done_of HT_.out (by kernel_rfl)) ?_
     try go_wp2
     go_ret
     exact ⟨zt_,zl_ HB⟩
    ·rw [if_neg c12] at H
     exact absurd H (by simp)
def spec_l12Text.T1 : Bool × List (List Nat × List Nat) := (true,[([],[]),([0],[0]),([1],[1]),([2],[2]),([],[]),([4],[4]),([5],[5]),([3,6],[3,6]),([7],[7]),([],[]),([9],[9]),([10,6],[10]),([8,11],[8,11]),([12],[12]),([],[]),([14],[14]),([15,11],[15]),([13,16],[13,16]),([17,16,0,1,2,3,4,5,6,7,8,9,10,11,12,13,14,15,16,17],[17])])
def spec_l12Text.B1 : List Nat := [0,1,3,7,0,16,48,127,255,0,512,1648,4095,8191,0,16384,52848,131071,262143]
theorem spec_l12Text.tab1 : rtab .any (opsOf Tryd.f84 1) = spec_l12Text.T1 := by kernel_rfl
theorem spec_l12Text.bits1 : waitsOk spec_l12Text.T1.2 spec_l12Text.B1 = true := by kernel_rfl
set_option maxHeartbeats 8000000 in
set_option maxRecDepth 100000 in
theorem spec_l12Text.calls (k : Nat) (a0_0 : ByteArray) (a0_1 : Int) (a0_2 : Int) (a0_3 : Int) (r : ByteArray) (w : World) (h : spec_l12Text.f k a0_0 a0_1 a0_2 a0_3 = some r) :
  Calls Tryd.prog 84 #[.agg #[.string a0_0,.int .i64 a0_1,.int .i64 a0_2,.int .i64 a0_3]] w fun e w' => e = .returned (.string r) ∧ Below w.heap.size w w' := by
 have hu59 := Tryd.underlying59
 have HB := am_ (Below.refl w.heap.size w)
 have H : (if 6 + a0_0.size ≤ 9223372036854775807 then (if ((⟨#[103,114,97,110,116,32]⟩ : ByteArray) ++ a0_0).size + 1 ≤ 9223372036854775807 then ((spec_l00Digits.f k a0_1).bind fun t1036 => (if (((⟨#[103,114,97,110,116,32]⟩ : ByteArray) ++ a0_0) ++ (⟨#[32]⟩ : ByteArray)).size + t1036.size ≤ 9223372036854775807 then (if ((((⟨#[103,114,97,110,116,32]⟩ : ByteArray) ++ a0_0) ++ (⟨#[32]⟩ : ByteArray)) ++ t1036).size + 1 ≤ 9223372036854775807 then ((spec_l00Digits.f k a0_2).bind fun t1037 => (if (((((⟨#[103,114,97,110,116,32]⟩ : ByteArray) ++ a0_0) ++ (⟨#[32]⟩ : ByteArray)) ++ t1036) ++ (⟨#[32]⟩ : ByteArray)).size + t1037.size ≤ 9223372036854775807 then (if ((((((⟨#[103,114,97,110,116,32]⟩ : ByteArray) ++ a0_0) ++ (⟨#[32]⟩ : ByteArray)) ++ t1036) ++ (⟨#[32]⟩ : ByteArray)) ++ t1037).size + 1 ≤ 9223372036854775807 then ((spec_l00Digits.f k a0_3).bind fun t1038 => (if (((((((⟨#[103,114,97,110,116,32]⟩ : ByteArray) ++ a0_0) ++ (⟨#[32]⟩ : ByteArray)) ++ t1036) ++ (⟨#[32]⟩ : ByteArray)) ++ t1037) ++ (⟨#[32]⟩ : ByteArray)).size + t1038.size ≤ 9223372036854775807 then (some ((((((((⟨#[103,114,97,110,116,32]⟩ : ByteArray) ++ a0_0) ++ (⟨#[32]⟩ : ByteArray)) ++ t1036) ++ (⟨#[32]⟩ : ByteArray)) ++ t1037) ++ (⟨#[32]⟩ : ByteArray)) ++ t1038)) else (none))) else (none)) else (none))) else (none)) else (none))) else (none)) else (none)) = some r := h
 clear h
 by_cases c2 : 6 + a0_0.size ≤ 9223372036854775807
 ·rw [if_pos c2] at H
  have c2b0 := eq_true c2
  have c2b1 : decide (6 + a0_0.size ≤ 9223372036854775807) = true := decide_eq_true c2
  try have c2b2 : (9223372036854775807 < 6 + a0_0.size) = False := eq_false (Nat.not_lt.2 c2)
  by_cases c3 : ((⟨#[103,114,97,110,116,32]⟩ : ByteArray) ++ a0_0).size + 1 ≤ 9223372036854775807
  ·rw [if_pos c3] at H
   have c3b0 := eq_true c3
   have c3b1 : decide (((⟨#[103,114,97,110,116,32]⟩ : ByteArray) ++ a0_0).size + 1 ≤ 9223372036854775807) = true := decide_eq_true c3
   try have c3b2 : (9223372036854775807 < ((⟨#[103,114,97,110,116,32]⟩ : ByteArray) ++ a0_0).size + 1) = False := eq_false (Nat.not_lt.2 c3)
   (try have c3b3 := c3b2;simp only [ByteArray.size_append,show (⟨#[103,114,97,110,116,32]⟩ : ByteArray).size = 6 from rfl] at c3b3)
   replace H := Option.bind_eq_some_iff.mp H
   obtain ⟨t1036,A40,H⟩ := H
   try dsimp only at H
   have A4 := am_ A40
   clear A40
   by_cases c5 : (((⟨#[103,114,97,110,116,32]⟩ : ByteArray) ++ a0_0) ++ (⟨#[32]⟩ : ByteArray)).size + t1036.size ≤ 9223372036854775807
   ·rw [if_pos c5] at H
    have c5b0 := eq_true c5
    have c5b1 : decide ((((⟨#[103,114,97,110,116,32]⟩ : ByteArray) ++ a0_0) ++ (⟨#[32]⟩ : ByteArray)).size + t1036.size ≤ 9223372036854775807) = true := decide_eq_true c5
    try have c5b2 : (9223372036854775807 < (((⟨#[103,114,97,110,116,32]⟩ : ByteArray) ++ a0_0) ++ (⟨#[32]⟩ : ByteArray)).size + t1036.size) = False := eq_false (Nat.not_lt.2 c5)
    (try have c5b3 := c5b2;simp only [ByteArray.size_append,show (⟨#[103,114,97,110,116,32]⟩ : ByteArray).size = 6 from rfl,show (⟨#[32]⟩ : ByteArray).size = 1 from rfl] at c5b3)
    by_cases c6 : ((((⟨#[103,114,97,110,116,32]⟩ : ByteArray) ++ a0_0) ++ (⟨#[32]⟩ : ByteArray)) ++ t1036).size + 1 ≤ 9223372036854775807
    ·rw [if_pos c6] at H
     have c6b0 := eq_true c6
     have c6b1 : decide (((((⟨#[103,114,97,110,116,32]⟩ : ByteArray) ++ a0_0) ++ (⟨#[32]⟩ : ByteArray)) ++ t1036).size + 1 ≤ 9223372036854775807) = true := decide_eq_true c6
     try have c6b2 : (9223372036854775807 < ((((⟨#[103,114,97,110,116,32]⟩ : ByteArray) ++ a0_0) ++ (⟨#[32]⟩ : ByteArray)) ++ t1036).size + 1) = False := eq_false (Nat.not_lt.2 c6)
     (try have c6b3 := c6b2;simp only [ByteArray.size_append,show (⟨#[103,114,97,110,116,32]⟩ : ByteArray).size = 6 from rfl,show (⟨#[32]⟩ : ByteArray).size = 1 from rfl] at c6b3)
     replace H := Option.bind_eq_some_iff.mp H
     obtain ⟨t1037,A70,H⟩ := H
     try dsimp only at H
     have A7 := am_ A70
     clear A70
     by_cases c8 : (((((⟨#[103,114,97,110,116,32]⟩ : ByteArray) ++ a0_0) ++ (⟨#[32]⟩ : ByteArray)) ++ t1036) ++ (⟨#[32]⟩ : ByteArray)).size + t1037.size ≤ 9223372036854775807
     ·rw [if_pos c8] at H
      have c8b0 := eq_true c8
      have c8b1 : decide ((((((⟨#[103,114,97,110,116,32]⟩ : ByteArray) ++ a0_0) ++ (⟨#[32]⟩ : ByteArray)) ++ t1036) ++ (⟨#[32]⟩ : ByteArray)).size + t1037.size ≤ 9223372036854775807) = true := decide_eq_true c8
      try have c8b2 : (9223372036854775807 < (((((⟨#[103,114,97,110,116,32]⟩ : ByteArray) ++ a0_0) ++ (⟨#[32]⟩ : ByteArray)) ++ t1036) ++ (⟨#[32]⟩ : ByteArray)).size + t1037.size) = False := eq_false (Nat.not_lt.2 c8)
      (try have c8b3 := c8b2;simp only [ByteArray.size_append,show (⟨#[103,114,97,110,116,32]⟩ : ByteArray).size = 6 from rfl,show (⟨#[32]⟩ : ByteArray).size = 1 from rfl] at c8b3)
      by_cases c9 : ((((((⟨#[103,114,97,110,116,32]⟩ : ByteArray) ++ a0_0) ++ (⟨#[32]⟩ : ByteArray)) ++ t1036) ++ (⟨#[32]⟩ : ByteArray)) ++ t1037).size + 1 ≤ 9223372036854775807
      ·rw [if_pos c9] at H
       have c9b0 := eq_true c9
       have c9b1 : decide (((((((⟨#[103,114,97,110,116,32]⟩ : ByteArray) ++ a0_0) ++ (⟨#[32]⟩ : ByteArray)) ++ t1036) ++ (⟨#[32]⟩ : ByteArray)) ++ t1037).size + 1 ≤ 9223372036854775807) = true := decide_eq_true c9
       try have c9b2 : (9223372036854775807 < ((((((⟨#[103,114,97,110,116,32]⟩ : ByteArray) ++ a0_0) ++ (⟨#[32]⟩ : ByteArray)) ++ t1036) ++ (⟨#[32]⟩ : ByteArray)) ++ t1037).size + 1) = False := eq_false (Nat.not_lt.2 c9)
       (try have c9b3 := c9b2;simp only [ByteArray.size_append,show (⟨#[103,114,97,110,116,32]⟩ : ByteArray).size = 6 from rfl,show (⟨#[32]⟩ : ByteArray).size = 1 from rfl] at c9b3)
       replace H := Option.bind_eq_some_iff.mp H
       obtain ⟨t1038,A100,H⟩ := H
       try dsimp only at H
       have A10 := am_ A100
       clear A100
       by_cases c11 : (((((((⟨#[103,114,97,110,116,32]⟩ : ByteArray) ++ a0_0) ++ (⟨#[32]⟩ : ByteArray)) ++ t1036) ++ (⟨#[32]⟩ : ByteArray)) ++ t1037) ++ (⟨#[32]⟩ : ByteArray)).size + t1038.size ≤ 9223372036854775807
       ·rw [if_pos c11] at H
        have c11b0 := eq_true c11
        have c11b1 : decide ((((((((⟨#[103,114,97,110,116,32]⟩ : ByteArray) ++ a0_0) ++ (⟨#[32]⟩ : ByteArray)) ++ t1036) ++ (⟨#[32]⟩ : ByteArray)) ++ t1037) ++ (⟨#[32]⟩ : ByteArray)).size + t1038.size ≤ 9223372036854775807) = true := decide_eq_true c11
        try have c11b2 : (9223372036854775807 < (((((((⟨#[103,114,97,110,116,32]⟩ : ByteArray) ++ a0_0) ++ (⟨#[32]⟩ : ByteArray)) ++ t1036) ++ (⟨#[32]⟩ : ByteArray)) ++ t1037) ++ (⟨#[32]⟩ : ByteArray)).size + t1038.size) = False := eq_false (Nat.not_lt.2 c11)
        (try have c11b3 := c11b2;simp only [ByteArray.size_append,show (⟨#[103,114,97,110,116,32]⟩ : ByteArray).size = 6 from rfl,show (⟨#[32]⟩ : ByteArray).size = 1 from rfl] at c11b3)
        obtain rfl := Option.some.inj H
        go_enter Tryd.func84,Tryd.ntmps84
        try go_wp2_with (first | ((with_reducible refine gate_dst (N := 1) rfl ?_);refine zbx (N := 1) (cs := #[.string a0_0,.int .i64 a0_1,.int .i64 a0_2,.int .i64 a0_3]) (t := 59) ?_;intro gb1035 hg w12 hbox hb;have BK1035 := am_ (hbox);have GW1035 := zw_ HB hg;have GE1035 := zw_ HB hg;replace HB := zs_ HB hb;clear hb hbox hg))
        replace BK1035 := am_ (blk_drew BK1035.out)
        replace HB := am_ (below_drew1 HB.out)
        refine start_ (n := 19) (S := fun w' => w'.cell? ⟨gb1035,0,none⟩ = some (.string a0_0) ∧ w'.cell? ⟨gb1035,1,none⟩ = some (.int .i64 a0_1) ∧ w'.cell? ⟨gb1035,2,none⟩ = some (.int .i64 a0_2) ∧ w'.cell? ⟨gb1035,3,none⟩ = some (.int .i64 a0_3)) (ds := []) #[false,false,false,false,false,false,false,false,false,false,false,false,false,false,false,false,false,false,false] (by kernel_rfl) rfl rfl ⟨(blk_cell BK1035.out 0).trans rfl,(blk_cell BK1035.out 1).trans rfl,(blk_cell BK1035.out 2).trans rfl,(blk_cell BK1035.out 3).trans rfl⟩ (fun hHeld => ?_);refine with_tabW spec_l12Text.tab1 spec_l12Text.bits1 (fun HT_ HW_ => ?_)
        generalize w12.drew = w13 at BK1035 HB hHeld ⊢
        refine zpu 0 (N := some 3) HT_ ?_
        refine zpu 4 (N := some 7) HT_ ?_
        refine zpu 9 (N := some 12) HT_ ?_
        refine zpu 14 (N := some 17) HT_ ?_
        refine ztk 1 (N := some 4) HT_ HW_ hHeld ?_
        refine zpu 2 (N := some 5) HT_ ?_
        refine zpu 3 (N := some 6) HT_ ?_
        refine ztk 5 (N := some 8) HT_ HW_ hHeld ?_
        refine ztk 10 (N := some 13) HT_ HW_ hHeld ?_
        refine ztk 15 (N := some 18) HT_ HW_ hHeld ?_
        refine zon 6 (N := some 9) HT_ (fun K hK => ?_)
        refine zgo Tryd.func140 #[.int .i64 a0_1] ?_
        with_reducible refine (spec_l00Digits.calls k a0_1 t1036 _ A4.out).mono ?_
        rintro e w14 ⟨rfl,hb⟩
        refine ⟨_,rfl,?_⟩
        replace BK1035 := zb BK1035 hb
        replace HB := zs_ HB hb
        (try clear hb)
        (try clear hb2)
        (try clear hk)
        (try clear hi)
        refine hK.out _ _ ⟨(blk_cell BK1035.out 0).trans rfl,(blk_cell BK1035.out 1).trans rfl,(blk_cell BK1035.out 2).trans rfl,(blk_cell BK1035.out 3).trans rfl⟩ (fun hHeld => ?_)
        clear hK K
        refine norm_ (a' := ?_) ?_ ?_
        rotate_left
        ·show Act.put _ (some 9) _ = _
         simp only [Act.put,p1_,p2_,p3_,i64_w,i32_w]
         rfl
        refine zpu 7 (N := some 10) HT_ ?_
        refine zpu 8 (N := some 11) HT_ ?_
        refine zon 11 (N := some 14) HT_ (fun K hK => ?_)
        refine zgo Tryd.func140 #[.int .i64 a0_2] ?_
        with_reducible refine (spec_l00Digits.calls k a0_2 t1037 _ A7.out).mono ?_
        rintro e w15 ⟨rfl,hb⟩
        refine ⟨_,rfl,?_⟩
        replace BK1035 := zb BK1035 hb
        replace HB := zs_ HB hb
        (try clear hb)
        (try clear hb2)
        (try clear hk)
        (try clear hi)
        refine hK.out _ _ ⟨(blk_cell BK1035.out 0).trans rfl,(blk_cell BK1035.out 1).trans rfl,(blk_cell BK1035.out 2).trans rfl,(blk_cell BK1035.out 3).trans rfl⟩ (fun hHeld => ?_)
        clear hK K
        refine norm_ (a' := ?_) ?_ ?_
        rotate_left
        ·show Act.put _ (some 14) _ = _
         simp only [Act.put,p1_,p2_,p3_,i64_w,i32_w]
         rfl
        refine zpu 12 (N := some 15) HT_ ?_
        refine zpu 13 (N := some 16) HT_ ?_
        refine zon 16 (N := some 19) HT_ (fun K hK => ?_)
        refine zgo Tryd.func140 #[.int .i64 a0_3] ?_
        with_reducible refine (spec_l00Digits.calls k a0_3 t1038 _ A10.out).mono ?_
        rintro e w16 ⟨rfl,hb⟩
        refine ⟨_,rfl,?_⟩
        replace BK1035 := zb BK1035 hb
        replace HB := zs_ HB hb
        (try clear hb)
        (try clear hb2)
        (try clear hk)
        (try clear hi)
        refine hK.out _ _ ⟨(blk_cell BK1035.out 0).trans rfl,(blk_cell BK1035.out 1).trans rfl,(blk_cell BK1035.out 2).trans rfl,(blk_cell BK1035.out 3).trans rfl⟩ (fun hHeld => ?_)
        clear hK K
        refine norm_ (a' := ?_) ?_ ?_
        rotate_left
        ·show Act.put _ (some 19) _ = _
         simp only [Act.put,p1_,p2_,p3_,i64_w,i32_w]
         rfl
        refine zpu 17 (N := some 20) HT_ ?_
        refine zpu 18 (N := some 2) HT_ ?_
        refine done_ (done_of HT_.out (by kernel_rfl)) ?_
        try go_wp2
        go_ret
        exact ⟨zt_,zl_ HB⟩
       ·rw [if_neg c11] at H
        exact absurd H (by simp)
      ·rw [if_neg c9] at H
       exact absurd H (by simp)
     ·rw [if_neg c8] at H
      exact absurd H (by simp)
    ·rw [if_neg c6] at H
     exact absurd H (by simp)
   ·rw [if_neg c5] at H
    exact absurd H (by simp)
  ·rw [if_neg c3] at H
   exact absurd H (by simp)
 ·rw [if_neg c2] at H
  exact absurd H (by simp)
def spec_SignGrant.T5 : Bool × List (List Nat × List Nat) := (true,[([],[]),([0],[0]),([],[]),([],[]),([3,1],[3]),([1,2,4,4],[1,2,4]),([5,5,0,1,2,3,4,5],[5]),([6,0,1,2,3,4,5,6],[])])
def spec_SignGrant.B5 : List Nat := [0,1,0,0,11,31,63,127]
theorem spec_SignGrant.tab5 : rtab .any (opsOf Tryd.f34 5) = spec_SignGrant.T5 := by kernel_rfl
theorem spec_SignGrant.bits5 : waitsOk spec_SignGrant.T5.2 spec_SignGrant.B5 = true := by kernel_rfl
set_option maxHeartbeats 8000000 in
set_option maxRecDepth 100000 in
theorem spec_SignGrant.calls (k : Nat) (a0 : Int) (a1 : Int) (a2_0 : ByteArray) (a2_1 : Int) (a2_2 : Int) (a2_3 : Int) (r1 : Int) (r2 : List ByteArray) (r3 : List ByteArray) (r4 : List ByteArray) (r5 : Int) (w : World) (h : spec_SignGrant.f k a0 a1 a2_0 a2_1 a2_2 a2_3 = some (r1,r2,r3,r4,r5)) :
  Calls Tryd.prog 34 #[.int .i64 a0,.int .i64 a1,.agg #[.string a2_0,.int .i64 a2_1,.int .i64 a2_2,.int .i64 a2_3]] w fun e w' => ∃ v1_ v2_ v3_ : Value,e = .returned (.tuple #[.agg #[.int .i64 r1,v1_,v2_,v3_],.int .i64 r5]) ∧ Kd.R Kd.string 9 w' w.heap.size (fun k_ => some k_ ≠ (v2_ : Value).ownBlock ∧ some k_ ≠ (v3_ : Value).ownBlock) v1_ r2 ∧ Kd.R Kd.string 9 w' w.heap.size (fun k_ => some k_ ≠ (v1_ : Value).ownBlock ∧ some k_ ≠ (v3_ : Value).ownBlock) v2_ r3 ∧ Kd.R Kd.string 9 w' w.heap.size (fun k_ => some k_ ≠ (v1_ : Value).ownBlock ∧ some k_ ≠ (v2_ : Value).ownBlock) v3_ r4 ∧ Below w.heap.size w w' := by
 have hu59 := Tryd.underlying59
 have hu56 := Tryd.underlying56
 have HB := am_ (Below.refl w.heap.size w)
 have H : ((spec_GrantOK.f k a2_0 a2_1 a2_2 a2_3).bind fun t1041 => (if t1041 = true then ((spec_l01In.f a0 0 6).bind fun t1042 => (if t1042 = true then ((spec_l01In.f a1 0 7).bind fun t1043 => (spec_SignGrant.j0 k a0 a1 (!t1043) a2_0 a2_1 a2_2 a2_3)) else (spec_SignGrant.j0 k a0 a1 true a2_0 a2_1 a2_2 a2_3))) else (some (0,([] : List ByteArray),([] : List ByteArray),([] : List ByteArray),1)))) = some (r1,r2,r3,r4,r5) := h
 clear h
 replace H := Option.bind_eq_some_iff.mp H
 obtain ⟨t1041,A40,H⟩ := H
 try dsimp only at H
 have A4 := am_ A40
 clear A40
 by_cases c5 : t1041 = true
 ·subst c5
  have H1 : ((spec_l01In.f a0 0 6).bind fun t1042 => (if t1042 = true then ((spec_l01In.f a1 0 7).bind fun t1043 => (spec_SignGrant.j0 k a0 a1 (!t1043) a2_0 a2_1 a2_2 a2_3)) else (spec_SignGrant.j0 k a0 a1 true a2_0 a2_1 a2_2 a2_3))) = some (r1,r2,r3,r4,r5) := by rw [if_pos rfl] at H;exact H
  clear H
  have H := H1
  clear H1
  have HC6 := am_ H
  clear H
  go_enter Tryd.func34,Tryd.ntmps34
  go_upto_region 3 with (first | ((with_reducible refine gate_dst (N := 5) rfl ?_);refine zbx (N := 5) (cs := #[.string a2_0,.int .i64 a2_1,.int .i64 a2_2,.int .i64 a2_3]) (t := 59) ?_;intro gb1039 hg w7 hbox hb;have BK1039 := am_ (hbox);have GW1039 := zw_ HB hg;have GE1039 := zw_ HB hg;replace HB := zs_ HB hb;clear hb hbox hg) | ((with_reducible refine gate_dst (N := 6) rfl ?_);refine zbx (N := 6) (cs := #[.int .i64 0,.slice none 0 0,.slice none 0 0,.slice none 0 0]) (t := 56) ?_;intro gb1040 hg w8 hbox hb;have BK1040 := am_ (hbox);have GW1040 := zw_ HB hg;have GE1040 := zw_ HB hg;replace HB := zs_ HB hb;have NB1039_1040 := zl hg BK1039;have NB1040_1039 := zg hg BK1039;replace BK1039 := zb BK1039 hb;clear hb hbox hg;have hnb9 := NB1039_1040.out;have hnc9 := NB1040_1039.out;obtain ⟨hcz10_0,hcz10_1,hcz10_2,hcz10_3,hfz10_0,hfz10_1,hfz10_2,hfz10_3⟩ := zc4 BK1039) | ((with_reducible refine gate_callee (f := 81) rfl ?_);refine zgl (some 9) Tryd.func81 #[.agg #[.string a2_0,.int .i64 a2_1,.int .i64 a2_2,.int .i64 a2_3]] ?_;(with_reducible refine (spec_GrantOK.calls k a2_0 a2_1 a2_2 a2_3 true _ A4.out).mono ?_);rintro e w11 ⟨rfl,hb⟩;refine ⟨_,rfl,?_⟩;replace BK1039 := zb BK1039 hb;replace BK1040 := zb BK1040 hb;replace HB := zs_ HB hb;(try clear hb);(try clear hb2);(try clear hk);(try clear hi)))
  (try simp only [Act.put,p1_,p2_,p3_])
  go_cut [19] (fun v19 wc => ∃ (kq : Nat) (x19_5 : Bool),v19 = .bool x19_5 ∧ Aside0 (spec_SignGrant.j0 kq a0 a1 x19_5 a2_0 a2_1 a2_2 a2_3 = some (r1,r2,r3,r4,r5)) ∧ Aside0 (kq ≤ k) ∧ Aside0 (wc.heap[gb1039]? = some (.cells #[.string a2_0,.int .i64 a2_1,.int .i64 a2_2,.int .i64 a2_3] 59 (0,0))) ∧ Aside0 (wc.heap[gb1040]? = some (.cells #[.int .i64 0,(.slice none 0 0),(.slice none 0 0),(.slice none 0 0)] 56 (0,0))) ∧ Aside0 (Below w.heap.size w wc))
  case first =>
   have H := HC6.out
   clear HC6
   replace H := Option.bind_eq_some_iff.mp H
   obtain ⟨t1042,A120,H⟩ := H
   try dsimp only at H
   have A12 := am_ A120
   clear A120
   by_cases c13 : t1042 = true
   ·subst c13
    have H1 : ((spec_l01In.f a1 0 7).bind fun t1043 => (spec_SignGrant.j0 k a0 a1 (!t1043) a2_0 a2_1 a2_2 a2_3)) = some (r1,r2,r3,r4,r5) := by rw [if_pos rfl] at H;exact H
    clear H
    have H := H1
    clear H1
    replace H := Option.bind_eq_some_iff.mp H
    obtain ⟨t1043,A140,H⟩ := H
    try dsimp only at H
    have A14 := am_ A140
    clear A140
    have H' := am_ H
    clear H
    go_wp2_with (first | ((with_reducible refine gate_callee (f := 53) rfl ?_);refine zgl (some 13) Tryd.func53 #[.int .i64 a0,.int .i64 0,.int .i64 6] ?_;(with_reducible refine (spec_l01In.calls a0 0 6 true _ A12.out).mono ?_);rintro e w' ⟨rfl,⟨nd,rfl⟩⟩;refine ⟨_,rfl,?_⟩) | (go_at_call 53;(with_reducible refine (spec_l01In.calls a1 0 7 t1043 _ A14.out).mono ?_);rintro e w' ⟨rfl,⟨nd,rfl⟩⟩))
    go_meet
    case rel => exact ⟨_,(!t1043),(by first | rfl | (simp;done) | (simp [*];done)),H',⟨by first | omega | exact Nat.le_refl _⟩,⟨by (with_reducible repeat (first | apply k1_ | apply k2_ | apply k3_));exact BK1039.out⟩,⟨by (with_reducible repeat (first | apply k1_ | apply k2_ | apply k3_));exact BK1040.out⟩,⟨zl_ HB⟩⟩
   ·replace c13 := Bool.eq_false_iff.mpr c13
    subst c13
    have H1 : (spec_SignGrant.j0 k a0 a1 true a2_0 a2_1 a2_2 a2_3) = some (r1,r2,r3,r4,r5) := by rw [if_neg (show ¬ (false = true) by decide)] at H;exact H
    clear H
    have H := H1
    clear H1
    have H' := am_ H
    clear H
    go_wp2_with (first | ((with_reducible refine gate_callee (f := 53) rfl ?_);refine zgl (some 13) Tryd.func53 #[.int .i64 a0,.int .i64 0,.int .i64 6] ?_;(with_reducible refine (spec_l01In.calls a0 0 6 false _ A12.out).mono ?_);rintro e w' ⟨rfl,⟨nd,rfl⟩⟩;refine ⟨_,rfl,?_⟩))
    go_meet
    case rel => exact ⟨_,(true),(by first | rfl | (simp;done) | (simp [*];done)),H',⟨by first | omega | exact Nat.le_refl _⟩,⟨by (with_reducible repeat (first | apply k1_ | apply k2_ | apply k3_));exact BK1039.out⟩,⟨by (with_reducible repeat (first | apply k1_ | apply k2_ | apply k3_));exact BK1040.out⟩,⟨zl_ HB⟩⟩
  case rest =>
   clear HC6
   try clear c1
   try clear p2
   try clear c3
   try clear c5
   try clear c8
   try clear c9
   try clear c13
   try clear hcz10_0
   try clear hcz10_1
   try clear hcz10_2
   try clear hcz10_3
   try clear hfz10_0
   try clear hfz10_1
   try clear hfz10_2
   try clear hfz10_3
   obtain ⟨kq,x19_5,rfl,HA,HJ5,BK1039,BK1040,HB⟩ := hcut
   cases kq with
   | zero => exact absurd HA.out (by simp [spec_SignGrant.j0])
   | succ kj5 =>
    have H := HA.out
    clear HA
    simp only [spec_SignGrant.j0] at H
    by_cases c15 : x19_5 = true
    ·subst c15
     have H1 : (some (0,([] : List ByteArray),([] : List ByteArray),([] : List ByteArray),4)) = some (r1,r2,r3,r4,r5) := by rw [if_pos rfl] at H;exact H
     clear H
     have H := H1
     clear H1
     simp only [Option.some.injEq,Prod.mk.injEq] at H
     obtain ⟨rfl,rfl,rfl,rfl,rfl⟩ := H
     have hnb16 := NB1040_1039.out
     have hnc16 := NB1039_1040.out
     obtain ⟨hcz17_0,hcz17_1,hcz17_2,hcz17_3,hfz17_0,hfz17_1,hfz17_2,hfz17_3⟩ := zc4 BK1040
     go_wp2
     refine bodyPost_ret (results_ct rfl _ _ gb1040 56 #[.int .i64 0,.slice none 0 0,.slice none 0 0,.slice none 0 0] (0,0) _ rfl (zq BK1040) Tryd.underlying56 rfl (by kernel_rfl)) rfl ?_
     exact ⟨_,_,_,zt_,by first | exact Kd.R_nil _ _ _ _ _ | exact Kd.N_nil _ _ _ _ _ | exact Kd.V_nil _ _ _ _ _ | exact Kd.Q_nil _ _ _ _ _ | exact Kd.S_nil _ _ _ _ _,by first | exact Kd.R_nil _ _ _ _ _ | exact Kd.N_nil _ _ _ _ _ | exact Kd.V_nil _ _ _ _ _ | exact Kd.Q_nil _ _ _ _ _ | exact Kd.S_nil _ _ _ _ _,by first | exact Kd.R_nil _ _ _ _ _ | exact Kd.N_nil _ _ _ _ _ | exact Kd.V_nil _ _ _ _ _ | exact Kd.Q_nil _ _ _ _ _ | exact Kd.S_nil _ _ _ _ _,zl_ HB⟩
    ·replace c15 := Bool.eq_false_iff.mpr c15
     subst c15
     have H1 : ((spec_l12Seed.f kj5 a0).bind fun t1044 => ((spec_l12Text.f kj5 a2_0 a2_1 a2_2 a2_3).bind fun t1045 => ((spec_l03Sign.f kj5 t1044 a1 t1045).bind fun bt1046 => (some (bt1046.1,bt1046.2.1,bt1046.2.2.1,bt1046.2.2.2,0))))) = some (r1,r2,r3,r4,r5) := by rw [if_neg (show ¬ (false = true) by decide)] at H;exact H
     clear H
     have H := H1
     clear H1
     replace H := Option.bind_eq_some_iff.mp H
     obtain ⟨t1044,A180,H⟩ := H
     try dsimp only at H
     have A18 := am_ A180
     clear A180
     replace H := Option.bind_eq_some_iff.mp H
     obtain ⟨t1045,A190,H⟩ := H
     try dsimp only at H
     have A19 := am_ A190
     clear A190
     replace H := Option.bind_eq_some_iff.mp H
     obtain ⟨⟨t1046,t1047,t1050,t1053⟩,A200,H⟩ := H
     try dsimp only at H
     have A20 := am_ A200
     clear A200
     simp only [Option.some.injEq,Prod.mk.injEq] at H
     obtain ⟨rfl,rfl,rfl,rfl,rfl⟩ := H
     try go_wp2
     replace BK1039 := am_ (blk_drew BK1039.out)
     replace BK1040 := am_ (blk_drew BK1040.out)
     replace HB := am_ (below_drew1 HB.out)
     refine start_ (n := 8) (S := fun w' => w'.cell? ⟨gb1039,0,none⟩ = some (.string a2_0) ∧ w'.cell? ⟨gb1039,1,none⟩ = some (.int .i64 a2_1) ∧ w'.cell? ⟨gb1039,2,none⟩ = some (.int .i64 a2_2) ∧ w'.cell? ⟨gb1039,3,none⟩ = some (.int .i64 a2_3)) (ds := []) #[false,false,false,false,false,false,false,false] (by kernel_rfl) rfl rfl ⟨(blk_cell BK1039.out 0).trans rfl,(blk_cell BK1039.out 1).trans rfl,(blk_cell BK1039.out 2).trans rfl,(blk_cell BK1039.out 3).trans rfl⟩ (fun hHeld => ?_);refine with_tabW spec_SignGrant.tab5 spec_SignGrant.bits5 (fun HT_ HW_ => ?_)
     generalize wc.drew = w21 at BK1039 BK1040 HB hHeld ⊢
     refine zpu 0 (N := some 21) HT_ ?_
     refine zpu 2 (N := some 23) HT_ ?_
     refine ztk 3 (N := some 24) HT_ HW_ hHeld ?_
     refine zon 1 (N := some 22) HT_ (fun K hK => ?_)
     refine zgo Tryd.func83 #[.int .i64 a0] ?_
     with_reducible refine (spec_l12Seed.calls kj5 a0 t1044 _ A18.out).mono ?_
     rintro e w22 ⟨rfl,hb⟩
     refine ⟨_,rfl,?_⟩
     replace BK1039 := zb BK1039 hb
     replace BK1040 := zb BK1040 hb
     replace HB := zs_ HB hb
     (try clear hb)
     (try clear hb2)
     (try clear hk)
     (try clear hi)
     refine hK.out _ _ ⟨(blk_cell BK1039.out 0).trans rfl,(blk_cell BK1039.out 1).trans rfl,(blk_cell BK1039.out 2).trans rfl,(blk_cell BK1039.out 3).trans rfl⟩ (fun hHeld => ?_)
     clear hK K
     refine norm_ (a' := ?_) ?_ ?_
     rotate_left
     ·show Act.put _ (some 22) _ = _
      simp only [Act.put,p1_,p2_,p3_,i64_w,i32_w]
      rfl
     refine zon 4 (N := some 25) HT_ (fun K hK => ?_)
     refine zgo Tryd.func84 #[.agg #[.string a2_0,.int .i64 a2_1,.int .i64 a2_2,.int .i64 a2_3]] ?_
     with_reducible refine (spec_l12Text.calls kj5 a2_0 a2_1 a2_2 a2_3 t1045 _ A19.out).mono ?_
     rintro e w23 ⟨rfl,hb⟩
     refine ⟨_,rfl,?_⟩
     replace BK1039 := zb BK1039 hb
     replace BK1040 := zb BK1040 hb
     replace HB := zs_ HB hb
     (try clear hb)
     (try clear hb2)
     (try clear hk)
     (try clear hi)
     refine hK.out _ _ ⟨(blk_cell BK1039.out 0).trans rfl,(blk_cell BK1039.out 1).trans rfl,(blk_cell BK1039.out 2).trans rfl,(blk_cell BK1039.out 3).trans rfl⟩ (fun hHeld => ?_)
     clear hK K
     refine norm_ (a' := ?_) ?_ ?_
     rotate_left
     ·show Act.put _ (some 25) _ = _
      simp only [Act.put,p1_,p2_,p3_,i64_w,i32_w]
      rfl
     refine zon 5 (N := some 26) HT_ (fun K hK => ?_)
     refine zgo Tryd.func82 #[.string t1044,.int .i64 a1,.string t1045] ?_
     with_reducible refine (spec_l03Sign.calls kj5 t1044 a1 t1045 t1046 t1047 t1050 t1053 _ A20.out).mono ?_
     rintro e w24 ⟨v1048,v1051,v1054,rfl,ho0,ho1,ho2,hb⟩
     refine ⟨_,rfl,?_⟩
     have HO1049 := am_ (Kd.R_lower ho0 (below_size (zl_ HB)))
     have HO1052 := am_ (Kd.R_lower ho1 (below_size (zl_ HB)))
     have HO1055 := am_ (Kd.R_lower ho2 (below_size (zl_ HB)))
     replace BK1039 := zb BK1039 hb
     replace BK1040 := zb BK1040 hb
     replace HB := zs_ HB hb
     (try clear hb)
     (try clear hb2)
     (try clear hk)
     (try clear hi)
     (try clear ho0)
     (try clear ho1)
     (try clear ho2)
     obtain ⟨Ao26,co26,eo26⟩ := Kd.R_slice HO1049.out
     (first | subst eo26 | (injection eo26 with f1_ f2_ f3_;have f4_ := f1_.symm;have f5_ := f3_.symm;clear f1_ f2_ f3_;subst f4_;subst f5_))
     obtain ⟨Ao28,co28,eo28⟩ := Kd.R_slice HO1052.out
     (first | subst eo28 | (injection eo28 with f1_ f2_ f3_;have f4_ := f1_.symm;have f5_ := f3_.symm;clear f1_ f2_ f3_;subst f4_;subst f5_))
     obtain ⟨Ao30,co30,eo30⟩ := Kd.R_slice HO1055.out
     (first | subst eo30 | (injection eo30 with f1_ f2_ f3_;have f4_ := f1_.symm;have f5_ := f3_.symm;clear f1_ f2_ f3_;subst f4_;subst f5_))
     refine hK.out _ _ ⟨(blk_cell BK1039.out 0).trans rfl,(blk_cell BK1039.out 1).trans rfl,(blk_cell BK1039.out 2).trans rfl,(blk_cell BK1039.out 3).trans rfl⟩ (fun hHeld => ?_)
     clear hK K
     refine norm_ (a' := ?_) ?_ ?_
     rotate_left
     ·show Act.put _ (some 26) _ = _
      simp only [Act.put,p1_,p2_,p3_,i64_w,i32_w]
      rfl
     refine zon 6 (N := none) HT_ (fun K hK => ?_)
     have hs25 : w24.cell? ⟨gb1040,0,none⟩ = some (.int .i64 0) := (blk_cell BK1040.out 0).trans rfl
     have hfs25 := blk_frozen BK1040.out 0
     have hns25_0 := NB1039_1040.out
     have hms25_0 := NB1040_1039.out
     have hs27 : w24.cell? ⟨gb1040,1,none⟩ = some (.slice none 0 0) := (blk_cell BK1040.out 1).trans rfl
     have hfs27 := blk_frozen BK1040.out 1
     have hns27_0 := NB1039_1040.out
     have hms27_0 := NB1040_1039.out
     have hs29 : w24.cell? ⟨gb1040,2,none⟩ = some (.slice none 0 0) := (blk_cell BK1040.out 2).trans rfl
     have hfs29 := blk_frozen BK1040.out 2
     have hns29_0 := NB1039_1040.out
     have hms29_0 := NB1040_1039.out
     have hs31 : w24.cell? ⟨gb1040,3,none⟩ = some (.slice none 0 0) := (blk_cell BK1040.out 3).trans rfl
     have hfs31 := blk_frozen BK1040.out 3
     have hns31_0 := NB1039_1040.out
     have hms31_0 := NB1040_1039.out
     refine skip_ (w1 := ?_) (by rfl) rfl ?_ ?_
     rotate_left
     ·go_simp
      rfl
     refine hK.out _ _ ⟨((cell_far (p := ⟨gb1040,_,none⟩) NB1039_1040.out _).trans (((cell_far (p := ⟨gb1040,_,none⟩) NB1039_1040.out _).trans (((cell_far (p := ⟨gb1040,_,none⟩) NB1039_1040.out _).trans (((cell_far (p := ⟨gb1040,_,none⟩) NB1039_1040.out _).trans (hHeld.1)))))))),((cell_far (p := ⟨gb1040,_,none⟩) NB1039_1040.out _).trans (((cell_far (p := ⟨gb1040,_,none⟩) NB1039_1040.out _).trans (((cell_far (p := ⟨gb1040,_,none⟩) NB1039_1040.out _).trans (((cell_far (p := ⟨gb1040,_,none⟩) NB1039_1040.out _).trans (hHeld.2.1)))))))),((cell_far (p := ⟨gb1040,_,none⟩) NB1039_1040.out _).trans (((cell_far (p := ⟨gb1040,_,none⟩) NB1039_1040.out _).trans (((cell_far (p := ⟨gb1040,_,none⟩) NB1039_1040.out _).trans (((cell_far (p := ⟨gb1040,_,none⟩) NB1039_1040.out _).trans (hHeld.2.2.1)))))))),((cell_far (p := ⟨gb1040,_,none⟩) NB1039_1040.out _).trans (((cell_far (p := ⟨gb1040,_,none⟩) NB1039_1040.out _).trans (((cell_far (p := ⟨gb1040,_,none⟩) NB1039_1040.out _).trans (((cell_far (p := ⟨gb1040,_,none⟩) NB1039_1040.out _).trans (hHeld.2.2.2))))))))⟩ (fun hHeld => ?_)
     clear hK K
     refine zpu 7 (N := some 7) HT_ ?_
     refine done_ (done_of HT_.out (by kernel_rfl)) ?_
     try go_wp2
     refine bodyPost_ret (results_ct rfl _ _ gb1040 56 #[.int .i64 t1046,.slice Ao26 t1047.length co26,.slice Ao28 t1050.length co28,.slice Ao30 t1053.length co30] (0,0) _ rfl (zq BK1040) Tryd.underlying56 rfl (by kernel_rfl)) rfl ?_
     exact ⟨_,_,_,zt_,by (with_reducible repeat (first | apply r1_ | apply r2_ | apply r3_));exact Kd.R_mono (zrf (Kd.R_types HO1049.out BK1040.out (by decide))) (fun _ hk => ⟨hk.1.1,hk.1.2⟩),by (with_reducible repeat (first | apply r1_ | apply r2_ | apply r3_));exact Kd.R_mono (zrf (Kd.R_types HO1052.out BK1040.out (by decide))) (fun _ hk => ⟨hk.1.1,hk.1.2⟩),by (with_reducible repeat (first | apply r1_ | apply r2_ | apply r3_));exact Kd.R_mono (zrf (Kd.R_types HO1055.out BK1040.out (by decide))) (fun _ hk => ⟨hk.1.1,hk.1.2⟩),zl_ HB⟩
 ·replace c5 := Bool.eq_false_iff.mpr c5
  subst c5
  have H1 : (some (0,([] : List ByteArray),([] : List ByteArray),([] : List ByteArray),1)) = some (r1,r2,r3,r4,r5) := by rw [if_neg (show ¬ (false = true) by decide)] at H;exact H
  clear H
  have H := H1
  clear H1
  simp only [Option.some.injEq,Prod.mk.injEq] at H
  obtain ⟨rfl,rfl,rfl,rfl,rfl⟩ := H
  go_enter Tryd.func34,Tryd.ntmps34
  go_wp2_with (first | ((with_reducible refine gate_dst (N := 5) rfl ?_);refine zbx (N := 5) (cs := #[.string a2_0,.int .i64 a2_1,.int .i64 a2_2,.int .i64 a2_3]) (t := 59) ?_;intro gb1039 hg w32 hbox hb;have BK1039 := am_ (hbox);have GW1039 := zw_ HB hg;have GE1039 := zw_ HB hg;replace HB := zs_ HB hb;clear hb hbox hg) | ((with_reducible refine gate_dst (N := 6) rfl ?_);refine zbx (N := 6) (cs := #[.int .i64 0,.slice none 0 0,.slice none 0 0,.slice none 0 0]) (t := 56) ?_;intro gb1040 hg w33 hbox hb;have BK1040 := am_ (hbox);have GW1040 := zw_ HB hg;have GE1040 := zw_ HB hg;replace HB := zs_ HB hb;have NB1039_1040 := zl hg BK1039;have NB1040_1039 := zg hg BK1039;replace BK1039 := zb BK1039 hb;clear hb hbox hg;have hnb34 := NB1039_1040.out;have hnc34 := NB1040_1039.out;obtain ⟨hcz35_0,hcz35_1,hcz35_2,hcz35_3,hfz35_0,hfz35_1,hfz35_2,hfz35_3⟩ := zc4 BK1039) | ((with_reducible refine gate_callee (f := 81) rfl ?_);refine zgl (some 9) Tryd.func81 #[.agg #[.string a2_0,.int .i64 a2_1,.int .i64 a2_2,.int .i64 a2_3]] ?_;(with_reducible refine (spec_GrantOK.calls k a2_0 a2_1 a2_2 a2_3 false _ A4.out).mono ?_);rintro e w36 ⟨rfl,hb⟩;refine ⟨_,rfl,?_⟩;replace BK1040 := zb BK1040 hb;replace HB := zs_ HB hb;(try clear hb);(try clear hb2);(try clear hk);(try clear hi);obtain ⟨hcz37_0,hcz37_1,hcz37_2,hcz37_3,hfz37_0,hfz37_1,hfz37_2,hfz37_3⟩ := zc4 BK1040))
  refine bodyPost_ret (results_ct rfl _ _ gb1040 56 #[.int .i64 0,.slice none 0 0,.slice none 0 0,.slice none 0 0] (0,0) _ rfl (zq BK1040) Tryd.underlying56 rfl (by kernel_rfl)) rfl ?_
  exact ⟨_,_,_,zt_,by first | exact Kd.R_nil _ _ _ _ _ | exact Kd.N_nil _ _ _ _ _ | exact Kd.V_nil _ _ _ _ _ | exact Kd.Q_nil _ _ _ _ _ | exact Kd.S_nil _ _ _ _ _,by first | exact Kd.R_nil _ _ _ _ _ | exact Kd.N_nil _ _ _ _ _ | exact Kd.V_nil _ _ _ _ _ | exact Kd.Q_nil _ _ _ _ _ | exact Kd.S_nil _ _ _ _ _,by first | exact Kd.R_nil _ _ _ _ _ | exact Kd.N_nil _ _ _ _ _ | exact Kd.V_nil _ _ _ _ _ | exact Kd.Q_nil _ _ _ _ _ | exact Kd.S_nil _ _ _ _ _,zl_ HB⟩
set_option maxHeartbeats 8000000 in
set_option maxRecDepth 100000 in
theorem laws_FnExactSignGrant.calls (k : Nat) (a0 : Int) (a1 : Int) (a2_0 : ByteArray) (a2_1 : Int) (a2_2 : Int) (a2_3 : Int) (r : Bool) (w : World) (hL : Laid w) (hT : LaidT w) (h : laws_FnExactSignGrant.f k a0 a1 a2_0 a2_1 a2_2 a2_3 = some r) :
  Calls Tryd.prog 7 #[.int .i64 a0,.int .i64 a1,.agg #[.string a2_0,.int .i64 a2_1,.int .i64 a2_2,.int .i64 a2_3]] w fun e w' => e = .returned (.bool r) ∧ Below w.heap.size w w' := by
 have hu53 := Tryd.underlying53
 have hu56 := Tryd.underlying56
 have HLD := am_ hL
 clear hL
 have HTD := am_ hT
 clear hT
 have HB := am_ (Below.refl w.heap.size w)
 have H : ((laws_szGrant.f a2_0 a2_1 a2_2 a2_3 1048576).bind fun t1161 => (if t1161 < 0 then (some true) else ((laws_toGrant.f a2_0 a2_1 a2_2 a2_3).bind fun bt1162 => ((spec_SignGrant.f k a0 a1 bt1162.1 bt1162.2.1 bt1162.2.2.1 bt1162.2.2.2).bind fun bt1166 => ((laws_toGrant.f a2_0 a2_1 a2_2 a2_3).bind fun bt1178 => ((impl_SignGrant.f k a0 a1 bt1178.1 bt1178.2.1 bt1178.2.2.1 bt1178.2.2.2).bind fun bt1182 => ((laws_eqKeySignature.f k bt1182.1 bt1182.2.1 bt1182.2.2.1 bt1182.2.2.2.1 bt1166.1 bt1166.2.1 bt1166.2.2.1 bt1166.2.2.2.1).bind fun t1194 => (if t1194 = true then (laws_FnExactSignGrant.j0 k a0 a1 bt1166.2.2.2.2 (bt1182.2.2.2.2 != bt1166.2.2.2.2) a2_0 a2_1 a2_2 a2_3 bt1166.1 bt1166.2.1 bt1166.2.2.1 bt1166.2.2.2.1 bt1182.1 bt1182.2.1 bt1182.2.2.1 bt1182.2.2.2.1) else (laws_FnExactSignGrant.j0 k a0 a1 bt1166.2.2.2.2 true a2_0 a2_1 a2_2 a2_3 bt1166.1 bt1166.2.1 bt1166.2.2.1 bt1166.2.2.2.1 bt1182.1 bt1182.2.1 bt1182.2.2.1 bt1182.2.2.2.1))))))))) = some r := h
 clear h
 replace H := Option.bind_eq_some_iff.mp H
 obtain ⟨t1161,A40,H⟩ := H
 try dsimp only at H
 have A4 := am_ A40
 clear A40
 by_cases c5 : t1161 < 0
 ·rw [if_pos c5] at H
  have c5b0 : decide (t1161 < 0) = true := decide_eq_true c5
  clear c5
  obtain rfl := Option.some.inj H
  go_enter Tryd.func7,Tryd.ntmps7
  go_wp2_with (first | ((with_reducible refine gate_dst (N := 5) rfl ?_);refine zbx (N := 5) (cs := #[.string a2_0,.int .i64 a2_1,.int .i64 a2_2,.int .i64 a2_3]) (t := 53) ?_;intro gb1160 hg w6 hbox hb;have BK1160 := am_ (hbox);have GW1160 := zw_ HB hg;have GE1160 := zw_ HB hg;replace HB := zs_ HB hb;clear hb hbox hg;obtain ⟨hcz7_0,hcz7_1,hcz7_2,hcz7_3,hfz7_0,hfz7_1,hfz7_2,hfz7_3⟩ := zc4 BK1160) | ((with_reducible refine gate_callee (f := 33) rfl ?_);refine zgl (some 18) Tryd.func33 #[.agg #[.string a2_0,.int .i64 a2_1,.int .i64 a2_2,.int .i64 a2_3],.int .i64 1048576] ?_;(with_reducible refine (laws_szGrant.calls a2_0 a2_1 a2_2 a2_3 1048576 t1161 _ A4.out).mono ?_);rintro e w8 ⟨rfl,hb⟩;refine ⟨_,rfl,?_⟩;replace BK1160 := zb BK1160 hb;replace HB := zs_ HB hb;(try clear hb);(try clear hb2);(try clear hk);(try clear hi)))
  go_ret
  exact ⟨zt_,zl_ HB⟩
 ·rw [if_neg c5] at H
  have c5b0 : decide (t1161 < 0) = false := decide_eq_false c5
  clear c5
  replace H := Option.bind_eq_some_iff.mp H
  obtain ⟨⟨t1162,t1163,t1164,t1165⟩,A90,H⟩ := H
  try dsimp only at H
  have A9 := am_ A90
  clear A90
  replace H := Option.bind_eq_some_iff.mp H
  obtain ⟨⟨t1166,t1167,t1170,t1173,t1176⟩,A100,H⟩ := H
  try dsimp only at H
  have A10 := am_ A100
  clear A100
  replace H := Option.bind_eq_some_iff.mp H
  obtain ⟨⟨t1178,t1179,t1180,t1181⟩,A110,H⟩ := H
  try dsimp only at H
  have A11 := am_ A110
  clear A110
  replace H := Option.bind_eq_some_iff.mp H
  obtain ⟨⟨t1182,t1183,t1186,t1189,t1192⟩,A120,H⟩ := H
  try dsimp only at H
  have A12 := am_ A120
  clear A120
  have HC13 := am_ H
  clear H
  go_enter Tryd.func7,Tryd.ntmps7
  go_upto_region 7 with (first | ((with_reducible refine gate_dst (N := 5) rfl ?_);refine zbx (N := 5) (cs := #[.string a2_0,.int .i64 a2_1,.int .i64 a2_2,.int .i64 a2_3]) (t := 53) ?_;intro gb1160 hg w14 hbox hb;have BK1160 := am_ (hbox);have GW1160 := zw_ HB hg;have GE1160 := zw_ HB hg;replace HB := zs_ HB hb;clear hb hbox hg;obtain ⟨hcz15_0,hcz15_1,hcz15_2,hcz15_3,hfz15_0,hfz15_1,hfz15_2,hfz15_3⟩ := zc4 BK1160) | ((with_reducible refine gate_callee (f := 33) rfl ?_);refine zgl (some 18) Tryd.func33 #[.agg #[.string a2_0,.int .i64 a2_1,.int .i64 a2_2,.int .i64 a2_3],.int .i64 1048576] ?_;(with_reducible refine (laws_szGrant.calls a2_0 a2_1 a2_2 a2_3 1048576 t1161 _ A4.out).mono ?_);rintro e w16 ⟨rfl,hb⟩;refine ⟨_,rfl,?_⟩;replace BK1160 := zb BK1160 hb;replace HB := zs_ HB hb;(try clear hb);(try clear hb2);(try clear hk);(try clear hi);obtain ⟨hcz17_0,hcz17_1,hcz17_2,hcz17_3,hfz17_0,hfz17_1,hfz17_2,hfz17_3⟩ := zc4 BK1160) | ((with_reducible refine gate_callee (f := 35) rfl ?_);refine zgl (some 25) Tryd.func35 #[.agg #[.string a2_0,.int .i64 a2_1,.int .i64 a2_2,.int .i64 a2_3]] ?_;(with_reducible refine (laws_toGrant.calls a2_0 a2_1 a2_2 a2_3 t1162 t1163 t1164 t1165 _ A9.out).mono ?_);rintro e w18 ⟨rfl,hb⟩;refine ⟨_,rfl,?_⟩;replace BK1160 := zb BK1160 hb;replace HB := zs_ HB hb;(try clear hb);(try clear hb2);(try clear hk);(try clear hi)) | ((with_reducible refine gate_callee (f := 34) rfl ?_);refine zgl (some 26) Tryd.func34 #[.int .i64 a0,.int .i64 a1,.agg #[.string t1162,.int .i64 t1163,.int .i64 t1164,.int .i64 t1165]] ?_;(with_reducible refine (spec_SignGrant.calls k a0 a1 t1162 t1163 t1164 t1165 t1166 t1167 t1170 t1173 t1176 _ A10.out).mono ?_);rintro e w19 ⟨v1168,v1171,v1174,rfl,ho0,ho1,ho2,hb⟩;refine ⟨_,rfl,?_⟩;have HO1169 := am_ (Kd.R_lower ho0 (below_size (zl_ HB)));have HO1172 := am_ (Kd.R_lower ho1 (below_size (zl_ HB)));have HO1175 := am_ (Kd.R_lower ho2 (below_size (zl_ HB)));replace BK1160 := zb BK1160 hb;replace HB := zs_ HB hb;(try clear hb);(try clear hb2);(try clear hk);(try clear hi);(try clear ho0);(try clear ho1);(try clear ho2)) | ((with_reducible refine gate_dst (N := 8) rfl ?_);refine zbx (N := 8) (cs := #[.int .i64 0,.slice none 0 0,.slice none 0 0,.slice none 0 0]) (t := 56) ?_;intro gb1177 hg w20 hbox hb;replace HO1169 := zrb HO1169 hb;replace HO1172 := zrb HO1172 hb;replace HO1175 := zrb HO1175 hb;have BK1177 := am_ (hbox);have GW1177 := zw_ HB hg;have GE1177 := zw_ HB hg;replace HB := zs_ HB hb;have NB1160_1177 := zl hg BK1160;have NB1177_1160 := zg hg BK1160;replace BK1160 := zb BK1160 hb;clear hb hbox hg;have hnb21 := NB1177_1160.out;have hnc21 := NB1160_1177.out;obtain ⟨hcz22_0,hcz22_1,hcz22_2,hcz22_3,hfz22_0,hfz22_1,hfz22_2,hfz22_3⟩ := zc4 BK1177;obtain ⟨Ao23,co23,eo23⟩ := Kd.R_slice HO1169.out;subst eo23;obtain ⟨Ao24,co24,eo24⟩ := Kd.R_slice HO1172.out;subst eo24;obtain ⟨Ao25,co25,eo25⟩ := Kd.R_slice HO1175.out;subst eo25;obtain ⟨hcz26_0,hcz26_1,hcz26_2,hcz26_3,hfz26_0,hfz26_1,hfz26_2,hfz26_3⟩ := zc4 BK1160) | ((with_reducible refine gate_callee (f := 35) rfl ?_);refine zgl (some 33) Tryd.func35 #[.agg #[.string a2_0,.int .i64 a2_1,.int .i64 a2_2,.int .i64 a2_3]] ?_;(with_reducible refine (laws_toGrant.calls a2_0 a2_1 a2_2 a2_3 t1178 t1179 t1180 t1181 _ A11.out).mono ?_);rintro e w27 ⟨rfl,hb⟩;refine ⟨_,rfl,?_⟩;replace HO1169 := am_ (Kd.R_below (by (with_reducible repeat (first | apply r1_ | apply r2_ | apply r3_));exact (Kd.R_mono (zrf (Kd.R_types HO1169.out BK1177.out (by decide))) (fun _ h_ => h_.1))) hb);replace HO1172 := am_ (Kd.R_below (by (with_reducible repeat (first | apply r1_ | apply r2_ | apply r3_));exact (Kd.R_mono (zrf (Kd.R_types HO1172.out BK1177.out (by decide))) (fun _ h_ => h_.1))) hb);replace HO1175 := am_ (Kd.R_below (by (with_reducible repeat (first | apply r1_ | apply r2_ | apply r3_));exact (Kd.R_mono (zrf (Kd.R_types HO1175.out BK1177.out (by decide))) (fun _ h_ => h_.1))) hb);replace BK1160 := am_ (blk_below (g := gb1160) (o := .cells #[.string a2_0,.int .i64 a2_1,.int .i64 a2_2,.int .i64 a2_3] 53 (0,0)) (zq BK1160) hb);replace BK1177 := am_ (blk_below (g := gb1177) (o := .cells #[.int .i64 t1166,.slice Ao23 t1167.length co23,.slice Ao24 t1170.length co24,.slice Ao25 t1173.length co25] 56 (0,0)) (zq BK1177) hb);replace HB := zs_ HB hb;(try clear hb);(try clear hb2);(try clear hk);(try clear hi)) | ((with_reducible refine gate_callee (f := 36) rfl ?_);refine zgl (some 34) Tryd.func36 #[.int .i64 a0,.int .i64 a1,.agg #[.string t1178,.int .i64 t1179,.int .i64 t1180,.int .i64 t1181]] ?_;(with_reducible refine (impl_SignGrant.calls k a0 a1 t1178 t1179 t1180 t1181 t1182 t1183 t1186 t1189 t1192 _ ?side1 ?side2 A12.out).mono ?_);(case side1 => exact HLD.out.on (zl_ HB));(case side2 => exact HTD.out.on (zl_ HB));rintro e w28 ⟨v1184,v1187,v1190,rfl,ho0,ho1,ho2,hb⟩;refine ⟨_,rfl,?_⟩;have HO1185 := am_ (Kd.R_lower (Kd.R_new' (Kd.R_new' (Kd.R_new' ho0 (Kd.R_lt (zr HO1169))) (Kd.R_lt (zr HO1172))) (Kd.R_lt (zr HO1175))) (below_size (zl_ HB)));have HO1188 := am_ (Kd.R_lower (Kd.R_new' (Kd.R_new' (Kd.R_new' ho1 (Kd.R_lt (zr HO1169))) (Kd.R_lt (zr HO1172))) (Kd.R_lt (zr HO1175))) (below_size (zl_ HB)));have HO1191 := am_ (Kd.R_lower (Kd.R_new' (Kd.R_new' (Kd.R_new' ho2 (Kd.R_lt (zr HO1169))) (Kd.R_lt (zr HO1172))) (Kd.R_lt (zr HO1175))) (below_size (zl_ HB)));replace HO1169 := am_ (Kd.R_mono (Kd.R_told (Kd.R_told (Kd.R_told (Kd.R_old (zr HO1169) hb) (Kd.R_base ho0)) (Kd.R_base ho1)) (Kd.R_base ho2)) (fun _ h_ => h_.1));replace HO1172 := am_ (Kd.R_mono (Kd.R_told (Kd.R_told (Kd.R_told (Kd.R_old (zr HO1172) hb) (Kd.R_base ho0)) (Kd.R_base ho1)) (Kd.R_base ho2)) (fun _ h_ => h_.1));replace HO1175 := am_ (Kd.R_mono (Kd.R_told (Kd.R_told (Kd.R_told (Kd.R_old (zr HO1175) hb) (Kd.R_base ho0)) (Kd.R_base ho1)) (Kd.R_base ho2)) (fun _ h_ => h_.1));replace BK1160 := zb BK1160 hb;replace BK1177 := zb BK1177 hb;replace HB := zs_ HB hb;(try clear hb);(try clear hb2);(try clear hk);(try clear hi);(try clear ho0);(try clear ho1);(try clear ho2)) | ((with_reducible refine gate_dst (N := 10) rfl ?_);refine zbx (N := 10) (cs := #[.int .i64 0,.slice none 0 0,.slice none 0 0,.slice none 0 0]) (t := 56) ?_;intro gb1193 hg w29 hbox hb;replace HO1169 := zrb HO1169 hb;replace HO1172 := zrb HO1172 hb;replace HO1175 := zrb HO1175 hb;replace HO1185 := zrb HO1185 hb;replace HO1188 := zrb HO1188 hb;replace HO1191 := zrb HO1191 hb;have BK1193 := am_ (hbox);have GW1193 := zw_ HB hg;have GE1193 := zw_ HB hg;replace HB := zs_ HB hb;have NB1160_1193 := zl hg BK1160;have NB1193_1160 := zg hg BK1160;replace BK1160 := zb BK1160 hb;have NB1177_1193 := zl hg BK1177;have NB1193_1177 := zg hg BK1177;replace BK1177 := zb BK1177 hb;clear hb hbox hg;have hnb30 := NB1193_1160.out;have hnc30 := NB1160_1193.out;have hnb31 := NB1193_1177.out;have hnc31 := NB1177_1193.out;obtain ⟨hcz32_0,hcz32_1,hcz32_2,hcz32_3,hfz32_0,hfz32_1,hfz32_2,hfz32_3⟩ := zc4 BK1193;obtain ⟨Ao33,co33,eo33⟩ := Kd.R_slice HO1185.out;subst eo33;obtain ⟨Ao34,co34,eo34⟩ := Kd.R_slice HO1188.out;subst eo34;obtain ⟨Ao35,co35,eo35⟩ := Kd.R_slice HO1191.out;subst eo35))
  (try simp only [Act.put,p1_,p2_,p3_])
  go_cut [45] (fun v45 wc => ∃ (kq : Nat) (x45_12 : Bool),v45 = .bool x45_12 ∧ Aside0 (laws_FnExactSignGrant.j0 kq a0 a1 t1176 x45_12 a2_0 a2_1 a2_2 a2_3 t1166 t1167 t1170 t1173 t1182 t1183 t1186 t1189 = some r) ∧ Aside0 (kq ≤ k) ∧ Aside0 (Kd.R Kd.string 9 wc w.heap.size (fun k_ => some k_ ≠ ((.slice Ao24 t1170.length co24) : Value).ownBlock ∧ some k_ ≠ ((.slice Ao25 t1173.length co25) : Value).ownBlock ∧ some k_ ≠ ((.slice Ao33 t1183.length co33) : Value).ownBlock ∧ some k_ ≠ ((.slice Ao34 t1186.length co34) : Value).ownBlock ∧ some k_ ≠ ((.slice Ao35 t1189.length co35) : Value).ownBlock) (.slice Ao23 t1167.length co23) t1167) ∧ Aside0 (Kd.R Kd.string 9 wc w.heap.size (fun k_ => some k_ ≠ ((.slice Ao23 t1167.length co23) : Value).ownBlock ∧ some k_ ≠ ((.slice Ao25 t1173.length co25) : Value).ownBlock ∧ some k_ ≠ ((.slice Ao33 t1183.length co33) : Value).ownBlock ∧ some k_ ≠ ((.slice Ao34 t1186.length co34) : Value).ownBlock ∧ some k_ ≠ ((.slice Ao35 t1189.length co35) : Value).ownBlock) (.slice Ao24 t1170.length co24) t1170) ∧ Aside0 (Kd.R Kd.string 9 wc w.heap.size (fun k_ => some k_ ≠ ((.slice Ao23 t1167.length co23) : Value).ownBlock ∧ some k_ ≠ ((.slice Ao24 t1170.length co24) : Value).ownBlock ∧ some k_ ≠ ((.slice Ao33 t1183.length co33) : Value).ownBlock ∧ some k_ ≠ ((.slice Ao34 t1186.length co34) : Value).ownBlock ∧ some k_ ≠ ((.slice Ao35 t1189.length co35) : Value).ownBlock) (.slice Ao25 t1173.length co25) t1173) ∧ Aside0 (Kd.R Kd.string 9 wc w.heap.size (fun k_ => some k_ ≠ ((.slice Ao23 t1167.length co23) : Value).ownBlock ∧ some k_ ≠ ((.slice Ao24 t1170.length co24) : Value).ownBlock ∧ some k_ ≠ ((.slice Ao25 t1173.length co25) : Value).ownBlock ∧ some k_ ≠ ((.slice Ao34 t1186.length co34) : Value).ownBlock ∧ some k_ ≠ ((.slice Ao35 t1189.length co35) : Value).ownBlock) (.slice Ao33 t1183.length co33) t1183) ∧ Aside0 (Kd.R Kd.string 9 wc w.heap.size (fun k_ => some k_ ≠ ((.slice Ao23 t1167.length co23) : Value).ownBlock ∧ some k_ ≠ ((.slice Ao24 t1170.length co24) : Value).ownBlock ∧ some k_ ≠ ((.slice Ao25 t1173.length co25) : Value).ownBlock ∧ some k_ ≠ ((.slice Ao33 t1183.length co33) : Value).ownBlock ∧ some k_ ≠ ((.slice Ao35 t1189.length co35) : Value).ownBlock) (.slice Ao34 t1186.length co34) t1186) ∧ Aside0 (Kd.R Kd.string 9 wc w.heap.size (fun k_ => some k_ ≠ ((.slice Ao23 t1167.length co23) : Value).ownBlock ∧ some k_ ≠ ((.slice Ao24 t1170.length co24) : Value).ownBlock ∧ some k_ ≠ ((.slice Ao25 t1173.length co25) : Value).ownBlock ∧ some k_ ≠ ((.slice Ao33 t1183.length co33) : Value).ownBlock ∧ some k_ ≠ ((.slice Ao34 t1186.length co34) : Value).ownBlock) (.slice Ao35 t1189.length co35) t1189) ∧ Aside0 (wc.heap[gb1160]? = some (.cells #[.string a2_0,.int .i64 a2_1,.int .i64 a2_2,.int .i64 a2_3] 53 (0,0))) ∧ Aside0 (wc.heap[gb1177]? = some (.cells #[.int .i64 t1166,(.slice Ao23 t1167.length co23),(.slice Ao24 t1170.length co24),(.slice Ao25 t1173.length co25)] 56 (0,0))) ∧ Aside0 (wc.heap[gb1193]? = some (.cells #[.int .i64 t1182,(.slice Ao33 t1183.length co33),(.slice Ao34 t1186.length co34),(.slice Ao35 t1189.length co35)] 56 (0,0))) ∧ Aside0 (Below w.heap.size w wc))
  case first =>
   have H := HC13.out
   clear HC13
   replace H := Option.bind_eq_some_iff.mp H
   obtain ⟨t1194,A360,H⟩ := H
   try dsimp only at H
   have A36 := am_ A360
   clear A360
   by_cases c37 : t1194 = true
   ·subst c37
    have H1 : (laws_FnExactSignGrant.j0 k a0 a1 t1176 (t1192 != t1176) a2_0 a2_1 a2_2 a2_3 t1166 t1167 t1170 t1173 t1182 t1183 t1186 t1189) = some r := by rw [if_pos rfl] at H;exact H
    clear H
    have H := H1
    clear H1
    have H' := am_ H
    clear H
    have hnb38 := NB1193_1160.out
    have hnc38 := NB1160_1193.out
    have hnb39 := NB1193_1177.out
    have hnc39 := NB1177_1193.out
    obtain ⟨hcz40_0,hcz40_1,hcz40_2,hcz40_3,hfz40_0,hfz40_1,hfz40_2,hfz40_3⟩ := zc4 BK1193
    have hnb41 := NB1177_1160.out
    have hnc41 := NB1160_1177.out
    obtain ⟨hcz42_0,hcz42_1,hcz42_2,hcz42_3,hfz42_0,hfz42_1,hfz42_2,hfz42_3⟩ := zc4 BK1177
    go_wp2_with (first | ((with_reducible refine gate_callee (f := 37) rfl ?_);refine zgl (some 39) Tryd.func37 #[.agg #[.int .i64 t1182,.slice Ao33 t1183.length co33,.slice Ao34 t1186.length co34,.slice Ao35 t1189.length co35],.agg #[.int .i64 t1166,.slice Ao23 t1167.length co23,.slice Ao24 t1170.length co24,.slice Ao25 t1173.length co25]] ?_;(with_reducible refine (laws_eqKeySignature.calls k t1182 _ _ t1183 _ _ t1186 _ _ t1189 t1166 _ _ t1167 _ _ t1170 _ _ t1173 true _ ?side1 ?side2 ?side3 ?side4 ?side5 ?side6 ?side7 ?side8 ?side9 ?side10 ?side11 ?side12 A36.out).mono ?_);(case side1 => refine (Kd.R_reads' (e := 9) (base := w.heap.size) (ok := fun k_ => ((((some k_ ≠ (.slice Ao34 t1186.length co34 : Value).ownBlock ∧ some k_ ≠ (.slice Ao35 t1189.length co35 : Value).ownBlock) ∧ some k_ ≠ (.slice Ao23 t1167.length co23 : Value).ownBlock) ∧ some k_ ≠ (.slice Ao24 t1170.length co24 : Value).ownBlock) ∧ some k_ ≠ (.slice Ao25 t1173.length co25 : Value).ownBlock)) (n := t1183.length) (c := co33) ?_).2.2;exact (by (with_reducible repeat (first | apply r1_ | apply r2_ | apply r3_));exact (Kd.R_mono (zrf (Kd.R_types HO1185.out BK1193.out (by decide))) (fun _ h_ => h_.1))));(case side2 => exact (Kd.R_reads' HO1185.out).2.1);(case side3 => refine (Kd.R_reads' (e := 9) (base := w.heap.size) (ok := fun k_ => ((((some k_ ≠ (.slice Ao33 t1183.length co33 : Value).ownBlock ∧ some k_ ≠ (.slice Ao35 t1189.length co35 : Value).ownBlock) ∧ some k_ ≠ (.slice Ao23 t1167.length co23 : Value).ownBlock) ∧ some k_ ≠ (.slice Ao24 t1170.length co24 : Value).ownBlock) ∧ some k_ ≠ (.slice Ao25 t1173.length co25 : Value).ownBlock)) (n := t1186.length) (c := co34) ?_).2.2;exact (by (with_reducible repeat (first | apply r1_ | apply r2_ | apply r3_));exact (Kd.R_mono (zrf (Kd.R_types HO1188.out BK1193.out (by decide))) (fun _ h_ => h_.1))));(case side4 => exact (Kd.R_reads' HO1188.out).2.1);(case side5 => refine (Kd.R_reads' (e := 9) (base := w.heap.size) (ok := fun k_ => ((((some k_ ≠ (.slice Ao33 t1183.length co33 : Value).ownBlock ∧ some k_ ≠ (.slice Ao34 t1186.length co34 : Value).ownBlock) ∧ some k_ ≠ (.slice Ao23 t1167.length co23 : Value).ownBlock) ∧ some k_ ≠ (.slice Ao24 t1170.length co24 : Value).ownBlock) ∧ some k_ ≠ (.slice Ao25 t1173.length co25 : Value).ownBlock)) (n := t1189.length) (c := co35) ?_).2.2;exact (by (with_reducible repeat (first | apply r1_ | apply r2_ | apply r3_));exact (Kd.R_mono (zrf (Kd.R_types HO1191.out BK1193.out (by decide))) (fun _ h_ => h_.1))));(case side6 => exact (Kd.R_reads' HO1191.out).2.1);(case side7 => refine (Kd.R_reads' (e := 9) (base := w.heap.size) (ok := fun k_ => ((((some k_ ≠ (.slice Ao24 t1170.length co24 : Value).ownBlock ∧ some k_ ≠ (.slice Ao25 t1173.length co25 : Value).ownBlock) ∧ some k_ ≠ (.slice Ao33 t1183.length co33 : Value).ownBlock) ∧ some k_ ≠ (.slice Ao34 t1186.length co34 : Value).ownBlock) ∧ some k_ ≠ (.slice Ao35 t1189.length co35 : Value).ownBlock)) (n := t1167.length) (c := co23) ?_).2.2;exact (by (with_reducible repeat (first | apply r1_ | apply r2_ | apply r3_));exact (Kd.R_mono (zrf (Kd.R_types HO1169.out BK1193.out (by decide))) (fun _ h_ => h_.1))));(case side8 => exact (Kd.R_reads' HO1169.out).2.1);(case side9 => refine (Kd.R_reads' (e := 9) (base := w.heap.size) (ok := fun k_ => ((((some k_ ≠ (.slice Ao23 t1167.length co23 : Value).ownBlock ∧ some k_ ≠ (.slice Ao25 t1173.length co25 : Value).ownBlock) ∧ some k_ ≠ (.slice Ao33 t1183.length co33 : Value).ownBlock) ∧ some k_ ≠ (.slice Ao34 t1186.length co34 : Value).ownBlock) ∧ some k_ ≠ (.slice Ao35 t1189.length co35 : Value).ownBlock)) (n := t1170.length) (c := co24) ?_).2.2;exact (by (with_reducible repeat (first | apply r1_ | apply r2_ | apply r3_));exact (Kd.R_mono (zrf (Kd.R_types HO1172.out BK1193.out (by decide))) (fun _ h_ => h_.1))));(case side10 => exact (Kd.R_reads' HO1172.out).2.1);(case side11 => refine (Kd.R_reads' (e := 9) (base := w.heap.size) (ok := fun k_ => ((((some k_ ≠ (.slice Ao23 t1167.length co23 : Value).ownBlock ∧ some k_ ≠ (.slice Ao24 t1170.length co24 : Value).ownBlock) ∧ some k_ ≠ (.slice Ao33 t1183.length co33 : Value).ownBlock) ∧ some k_ ≠ (.slice Ao34 t1186.length co34 : Value).ownBlock) ∧ some k_ ≠ (.slice Ao35 t1189.length co35 : Value).ownBlock)) (n := t1173.length) (c := co25) ?_).2.2;exact (by (with_reducible repeat (first | apply r1_ | apply r2_ | apply r3_));exact (Kd.R_mono (zrf (Kd.R_types HO1175.out BK1193.out (by decide))) (fun _ h_ => h_.1))));(case side12 => exact (Kd.R_reads' HO1175.out).2.1);rintro e w43 ⟨rfl,hb⟩;refine ⟨_,rfl,?_⟩;replace HO1169 := am_ (Kd.R_below (by (with_reducible repeat (first | apply r1_ | apply r2_ | apply r3_));exact (Kd.R_mono (zrf (Kd.R_types HO1169.out BK1193.out (by decide))) (fun _ h_ => h_.1))) hb);replace HO1172 := am_ (Kd.R_below (by (with_reducible repeat (first | apply r1_ | apply r2_ | apply r3_));exact (Kd.R_mono (zrf (Kd.R_types HO1172.out BK1193.out (by decide))) (fun _ h_ => h_.1))) hb);replace HO1175 := am_ (Kd.R_below (by (with_reducible repeat (first | apply r1_ | apply r2_ | apply r3_));exact (Kd.R_mono (zrf (Kd.R_types HO1175.out BK1193.out (by decide))) (fun _ h_ => h_.1))) hb);replace HO1185 := am_ (Kd.R_below (by (with_reducible repeat (first | apply r1_ | apply r2_ | apply r3_));exact (Kd.R_mono (zrf (Kd.R_types HO1185.out BK1193.out (by decide))) (fun _ h_ => h_.1))) hb);replace HO1188 := am_ (Kd.R_below (by (with_reducible repeat (first | apply r1_ | apply r2_ | apply r3_));exact (Kd.R_mono (zrf (Kd.R_types HO1188.out BK1193.out (by decide))) (fun _ h_ => h_.1))) hb);replace HO1191 := am_ (Kd.R_below (by (with_reducible repeat (first | apply r1_ | apply r2_ | apply r3_));exact (Kd.R_mono (zrf (Kd.R_types HO1191.out BK1193.out (by decide))) (fun _ h_ => h_.1))) hb);replace BK1160 := am_ (blk_below (g := gb1160) (o := .cells #[.string a2_0,.int .i64 a2_1,.int .i64 a2_2,.int .i64 a2_3] 53 (0,0)) (zq BK1160) hb);replace BK1177 := am_ (blk_below (g := gb1177) (o := .cells #[.int .i64 t1166,.slice Ao23 t1167.length co23,.slice Ao24 t1170.length co24,.slice Ao25 t1173.length co25] 56 (0,0)) (zq BK1177) hb);replace BK1193 := am_ (blk_below (g := gb1193) (o := .cells #[.int .i64 t1182,.slice Ao33 t1183.length co33,.slice Ao34 t1186.length co34,.slice Ao35 t1189.length co35] 56 (0,0)) (zq BK1193) hb);replace HB := zs_ HB hb;(try clear hb);(try clear hb2);(try clear hk);(try clear hi)))
    go_meet
    case rel => exact ⟨_,((t1192 != t1176)),(by first | rfl | (simp;done) | (simp [*];done)),H',⟨by first | omega | exact Nat.le_refl _⟩,⟨by (with_reducible repeat (first | apply r1_ | apply r2_ | apply r3_));exact Kd.R_mono HO1169.out (fun _ hk => ⟨hk.1.1.1.1,⟨hk.1.1.1.2,⟨hk.1.1.2,⟨hk.1.2,hk.2⟩⟩⟩⟩)⟩,⟨by (with_reducible repeat (first | apply r1_ | apply r2_ | apply r3_));exact Kd.R_mono HO1172.out (fun _ hk => ⟨hk.1.1.1.1,⟨hk.1.1.1.2,⟨hk.1.1.2,⟨hk.1.2,hk.2⟩⟩⟩⟩)⟩,⟨by (with_reducible repeat (first | apply r1_ | apply r2_ | apply r3_));exact Kd.R_mono HO1175.out (fun _ hk => ⟨hk.1.1.1.1,⟨hk.1.1.1.2,⟨hk.1.1.2,⟨hk.1.2,hk.2⟩⟩⟩⟩)⟩,⟨by (with_reducible repeat (first | apply r1_ | apply r2_ | apply r3_));exact Kd.R_mono HO1185.out (fun _ hk => ⟨hk.1.1.2,⟨hk.1.2,⟨hk.2,⟨hk.1.1.1.1,hk.1.1.1.2⟩⟩⟩⟩)⟩,⟨by (with_reducible repeat (first | apply r1_ | apply r2_ | apply r3_));exact Kd.R_mono HO1188.out (fun _ hk => ⟨hk.1.1.2,⟨hk.1.2,⟨hk.2,⟨hk.1.1.1.1,hk.1.1.1.2⟩⟩⟩⟩)⟩,⟨by (with_reducible repeat (first | apply r1_ | apply r2_ | apply r3_));exact Kd.R_mono HO1191.out (fun _ hk => ⟨hk.1.1.2,⟨hk.1.2,⟨hk.2,⟨hk.1.1.1.1,hk.1.1.1.2⟩⟩⟩⟩)⟩,⟨by (with_reducible repeat (first | apply k1_ | apply k2_ | apply k3_));exact BK1160.out⟩,⟨by (with_reducible repeat (first | apply k1_ | apply k2_ | apply k3_));exact BK1177.out⟩,⟨by (with_reducible repeat (first | apply k1_ | apply k2_ | apply k3_));exact BK1193.out⟩,⟨zl_ HB⟩⟩
   ·replace c37 := Bool.eq_false_iff.mpr c37
    subst c37
    have H1 : (laws_FnExactSignGrant.j0 k a0 a1 t1176 true a2_0 a2_1 a2_2 a2_3 t1166 t1167 t1170 t1173 t1182 t1183 t1186 t1189) = some r := by rw [if_neg (show ¬ (false = true) by decide)] at H;exact H
    clear H
    have H := H1
    clear H1
    have H' := am_ H
    clear H
    have hnb44 := NB1193_1160.out
    have hnc44 := NB1160_1193.out
    have hnb45 := NB1193_1177.out
    have hnc45 := NB1177_1193.out
    obtain ⟨hcz46_0,hcz46_1,hcz46_2,hcz46_3,hfz46_0,hfz46_1,hfz46_2,hfz46_3⟩ := zc4 BK1193
    have hnb47 := NB1177_1160.out
    have hnc47 := NB1160_1177.out
    obtain ⟨hcz48_0,hcz48_1,hcz48_2,hcz48_3,hfz48_0,hfz48_1,hfz48_2,hfz48_3⟩ := zc4 BK1177
    go_wp2_with (first | ((with_reducible refine gate_callee (f := 37) rfl ?_);refine zgl (some 39) Tryd.func37 #[.agg #[.int .i64 t1182,.slice Ao33 t1183.length co33,.slice Ao34 t1186.length co34,.slice Ao35 t1189.length co35],.agg #[.int .i64 t1166,.slice Ao23 t1167.length co23,.slice Ao24 t1170.length co24,.slice Ao25 t1173.length co25]] ?_;(with_reducible refine (laws_eqKeySignature.calls k t1182 _ _ t1183 _ _ t1186 _ _ t1189 t1166 _ _ t1167 _ _ t1170 _ _ t1173 false _ ?side1 ?side2 ?side3 ?side4 ?side5 ?side6 ?side7 ?side8 ?side9 ?side10 ?side11 ?side12 A36.out).mono ?_);(case side1 => refine (Kd.R_reads' (e := 9) (base := w.heap.size) (ok := fun k_ => ((((some k_ ≠ (.slice Ao34 t1186.length co34 : Value).ownBlock ∧ some k_ ≠ (.slice Ao35 t1189.length co35 : Value).ownBlock) ∧ some k_ ≠ (.slice Ao23 t1167.length co23 : Value).ownBlock) ∧ some k_ ≠ (.slice Ao24 t1170.length co24 : Value).ownBlock) ∧ some k_ ≠ (.slice Ao25 t1173.length co25 : Value).ownBlock)) (n := t1183.length) (c := co33) ?_).2.2;exact (by (with_reducible repeat (first | apply r1_ | apply r2_ | apply r3_));exact (Kd.R_mono (zrf (Kd.R_types HO1185.out BK1193.out (by decide))) (fun _ h_ => h_.1))));(case side2 => exact (Kd.R_reads' HO1185.out).2.1);(case side3 => refine (Kd.R_reads' (e := 9) (base := w.heap.size) (ok := fun k_ => ((((some k_ ≠ (.slice Ao33 t1183.length co33 : Value).ownBlock ∧ some k_ ≠ (.slice Ao35 t1189.length co35 : Value).ownBlock) ∧ some k_ ≠ (.slice Ao23 t1167.length co23 : Value).ownBlock) ∧ some k_ ≠ (.slice Ao24 t1170.length co24 : Value).ownBlock) ∧ some k_ ≠ (.slice Ao25 t1173.length co25 : Value).ownBlock)) (n := t1186.length) (c := co34) ?_).2.2;exact (by (with_reducible repeat (first | apply r1_ | apply r2_ | apply r3_));exact (Kd.R_mono (zrf (Kd.R_types HO1188.out BK1193.out (by decide))) (fun _ h_ => h_.1))));(case side4 => exact (Kd.R_reads' HO1188.out).2.1);(case side5 => refine (Kd.R_reads' (e := 9) (base := w.heap.size) (ok := fun k_ => ((((some k_ ≠ (.slice Ao33 t1183.length co33 : Value).ownBlock ∧ some k_ ≠ (.slice Ao34 t1186.length co34 : Value).ownBlock) ∧ some k_ ≠ (.slice Ao23 t1167.length co23 : Value).ownBlock) ∧ some k_ ≠ (.slice Ao24 t1170.length co24 : Value).ownBlock) ∧ some k_ ≠ (.slice Ao25 t1173.length co25 : Value).ownBlock)) (n := t1189.length) (c := co35) ?_).2.2;exact (by (with_reducible repeat (first | apply r1_ | apply r2_ | apply r3_));exact (Kd.R_mono (zrf (Kd.R_types HO1191.out BK1193.out (by decide))) (fun _ h_ => h_.1))));(case side6 => exact (Kd.R_reads' HO1191.out).2.1);(case side7 => refine (Kd.R_reads' (e := 9) (base := w.heap.size) (ok := fun k_ => ((((some k_ ≠ (.slice Ao24 t1170.length co24 : Value).ownBlock ∧ some k_ ≠ (.slice Ao25 t1173.length co25 : Value).ownBlock) ∧ some k_ ≠ (.slice Ao33 t1183.length co33 : Value).ownBlock) ∧ some k_ ≠ (.slice Ao34 t1186.length co34 : Value).ownBlock) ∧ some k_ ≠ (.slice Ao35 t1189.length co35 : Value).ownBlock)) (n := t1167.length) (c := co23) ?_).2.2;exact (by (with_reducible repeat (first | apply r1_ | apply r2_ | apply r3_));exact (Kd.R_mono (zrf (Kd.R_types HO1169.out BK1193.out (by decide))) (fun _ h_ => h_.1))));(case side8 => exact (Kd.R_reads' HO1169.out).2.1);(case side9 => refine (Kd.R_reads' (e := 9) (base := w.heap.size) (ok := fun k_ => ((((some k_ ≠ (.slice Ao23 t1167.length co23 : Value).ownBlock ∧ some k_ ≠ (.slice Ao25 t1173.length co25 : Value).ownBlock) ∧ some k_ ≠ (.slice Ao33 t1183.length co33 : Value).ownBlock) ∧ some k_ ≠ (.slice Ao34 t1186.length co34 : Value).ownBlock) ∧ some k_ ≠ (.slice Ao35 t1189.length co35 : Value).ownBlock)) (n := t1170.length) (c := co24) ?_).2.2;exact (by (with_reducible repeat (first | apply r1_ | apply r2_ | apply r3_));exact (Kd.R_mono (zrf (Kd.R_types HO1172.out BK1193.out (by decide))) (fun _ h_ => h_.1))));(case side10 => exact (Kd.R_reads' HO1172.out).2.1);(case side11 => refine (Kd.R_reads' (e := 9) (base := w.heap.size) (ok := fun k_ => ((((some k_ ≠ (.slice Ao23 t1167.length co23 : Value).ownBlock ∧ some k_ ≠ (.slice Ao24 t1170.length co24 : Value).ownBlock) ∧ some k_ ≠ (.slice Ao33 t1183.length co33 : Value).ownBlock) ∧ some k_ ≠ (.slice Ao34 t1186.length co34 : Value).ownBlock) ∧ some k_ ≠ (.slice Ao35 t1189.length co35 : Value).ownBlock)) (n := t1173.length) (c := co25) ?_).2.2;exact (by (with_reducible repeat (first | apply r1_ | apply r2_ | apply r3_));exact (Kd.R_mono (zrf (Kd.R_types HO1175.out BK1193.out (by decide))) (fun _ h_ => h_.1))));(case side12 => exact (Kd.R_reads' HO1175.out).2.1);rintro e w49 ⟨rfl,hb⟩;refine ⟨_,rfl,?_⟩;replace HO1169 := am_ (Kd.R_below (by (with_reducible repeat (first | apply r1_ | apply r2_ | apply r3_));exact (Kd.R_mono (zrf (Kd.R_types HO1169.out BK1193.out (by decide))) (fun _ h_ => h_.1))) hb);replace HO1172 := am_ (Kd.R_below (by (with_reducible repeat (first | apply r1_ | apply r2_ | apply r3_));exact (Kd.R_mono (zrf (Kd.R_types HO1172.out BK1193.out (by decide))) (fun _ h_ => h_.1))) hb);replace HO1175 := am_ (Kd.R_below (by (with_reducible repeat (first | apply r1_ | apply r2_ | apply r3_));exact (Kd.R_mono (zrf (Kd.R_types HO1175.out BK1193.out (by decide))) (fun _ h_ => h_.1))) hb);replace HO1185 := am_ (Kd.R_below (by (with_reducible repeat (first | apply r1_ | apply r2_ | apply r3_));exact (Kd.R_mono (zrf (Kd.R_types HO1185.out BK1193.out (by decide))) (fun _ h_ => h_.1))) hb);replace HO1188 := am_ (Kd.R_below (by (with_reducible repeat (first | apply r1_ | apply r2_ | apply r3_));exact (Kd.R_mono (zrf (Kd.R_types HO1188.out BK1193.out (by decide))) (fun _ h_ => h_.1))) hb);replace HO1191 := am_ (Kd.R_below (by (with_reducible repeat (first | apply r1_ | apply r2_ | apply r3_));exact (Kd.R_mono (zrf (Kd.R_types HO1191.out BK1193.out (by decide))) (fun _ h_ => h_.1))) hb);replace BK1160 := am_ (blk_below (g := gb1160) (o := .cells #[.string a2_0,.int .i64 a2_1,.int .i64 a2_2,.int .i64 a2_3] 53 (0,0)) (zq BK1160) hb);replace BK1177 := am_ (blk_below (g := gb1177) (o := .cells #[.int .i64 t1166,.slice Ao23 t1167.length co23,.slice Ao24 t1170.length co24,.slice Ao25 t1173.length co25] 56 (0,0)) (zq BK1177) hb);replace BK1193 := am_ (blk_below (g := gb1193) (o := .cells #[.int .i64 t1182,.slice Ao33 t1183.length co33,.slice Ao34 t1186.length co34,.slice Ao35 t1189.length co35] 56 (0,0)) (zq BK1193) hb);replace HB := zs_ HB hb;(try clear hb);(try clear hb2);(try clear hk);(try clear hi)))
    go_meet
    case rel => exact ⟨_,(true),(by first | rfl | (simp;done) | (simp [*];done)),H',⟨by first | omega | exact Nat.le_refl _⟩,⟨by (with_reducible repeat (first | apply r1_ | apply r2_ | apply r3_));exact Kd.R_mono HO1169.out (fun _ hk => ⟨hk.1.1.1.1,⟨hk.1.1.1.2,⟨hk.1.1.2,⟨hk.1.2,hk.2⟩⟩⟩⟩)⟩,⟨by (with_reducible repeat (first | apply r1_ | apply r2_ | apply r3_));exact Kd.R_mono HO1172.out (fun _ hk => ⟨hk.1.1.1.1,⟨hk.1.1.1.2,⟨hk.1.1.2,⟨hk.1.2,hk.2⟩⟩⟩⟩)⟩,⟨by (with_reducible repeat (first | apply r1_ | apply r2_ | apply r3_));exact Kd.R_mono HO1175.out (fun _ hk => ⟨hk.1.1.1.1,⟨hk.1.1.1.2,⟨hk.1.1.2,⟨hk.1.2,hk.2⟩⟩⟩⟩)⟩,⟨by (with_reducible repeat (first | apply r1_ | apply r2_ | apply r3_));exact Kd.R_mono HO1185.out (fun _ hk => ⟨hk.1.1.2,⟨hk.1.2,⟨hk.2,⟨hk.1.1.1.1,hk.1.1.1.2⟩⟩⟩⟩)⟩,⟨by (with_reducible repeat (first | apply r1_ | apply r2_ | apply r3_));exact Kd.R_mono HO1188.out (fun _ hk => ⟨hk.1.1.2,⟨hk.1.2,⟨hk.2,⟨hk.1.1.1.1,hk.1.1.1.2⟩⟩⟩⟩)⟩,⟨by (with_reducible repeat (first | apply r1_ | apply r2_ | apply r3_));exact Kd.R_mono HO1191.out (fun _ hk => ⟨hk.1.1.2,⟨hk.1.2,⟨hk.2,⟨hk.1.1.1.1,hk.1.1.1.2⟩⟩⟩⟩)⟩,⟨by (with_reducible repeat (first | apply k1_ | apply k2_ | apply k3_));exact BK1160.out⟩,⟨by (with_reducible repeat (first | apply k1_ | apply k2_ | apply k3_));exact BK1177.out⟩,⟨by (with_reducible repeat (first | apply k1_ | apply k2_ | apply k3_));exact BK1193.out⟩,⟨zl_ HB⟩⟩
  case rest =>
   clear HC13
   try clear c2
   try clear p2
   try clear c3
   try clear c4
   try clear c5
   try clear c5b0
   try clear c7
   try clear c21
   try clear c30
   try clear c31
   try clear c33
   try clear c34
   try clear c35
   try clear c36
   try clear c37
   try clear c38
   try clear c39
   try clear c41
   try clear c44
   try clear c45
   try clear c47
   try clear hcz15_0
   try clear hcz15_1
   try clear hcz15_2
   try clear hcz15_3
   try clear hcz17_0
   try clear hcz17_1
   try clear hcz17_2
   try clear hcz17_3
   try clear hcz22_0
   try clear hcz22_1
   try clear hcz22_2
   try clear hcz22_3
   try clear hcz26_0
   try clear hcz26_1
   try clear hcz26_2
   try clear hcz26_3
   try clear hcz32_0
   try clear hcz32_1
   try clear hcz32_2
   try clear hcz32_3
   try clear hcz40_0
   try clear hcz40_1
   try clear hcz40_2
   try clear hcz40_3
   try clear hcz42_0
   try clear hcz42_1
   try clear hcz42_2
   try clear hcz42_3
   try clear hcz46_0
   try clear hcz46_1
   try clear hcz46_2
   try clear hcz46_3
   try clear hcz48_0
   try clear hcz48_1
   try clear hcz48_2
   try clear hcz48_3
   try clear hcz7_0
   try clear hcz7_1
   try clear hcz7_2
   try clear hcz7_3
   try clear hfz15_0
   try clear hfz15_1
   try clear hfz15_2
   try clear hfz15_3
   try clear hfz17_0
   try clear hfz17_1
   try clear hfz17_2
   try clear hfz17_3
   try clear hfz22_0
   try clear hfz22_1
   try clear hfz22_2
   try clear hfz22_3
   try clear hfz26_0
   try clear hfz26_1
   try clear hfz26_2
   try clear hfz26_3
   try clear hfz32_0
   try clear hfz32_1
   try clear hfz32_2
   try clear hfz32_3
   try clear hfz40_0
   try clear hfz40_1
   try clear hfz40_2
   try clear hfz40_3
   try clear hfz42_0
   try clear hfz42_1
   try clear hfz42_2
   try clear hfz42_3
   try clear hfz46_0
   try clear hfz46_1
   try clear hfz46_2
   try clear hfz46_3
   try clear hfz48_0
   try clear hfz48_1
   try clear hfz48_2
   try clear hfz48_3
   try clear hfz7_0
   try clear hfz7_1
   try clear hfz7_2
   try clear hfz7_3
   obtain ⟨kq,x45_12,rfl,HA,HJ12,HO_1178001,HO_1178002,HO_1178003,HO_1194001,HO_1194002,HO_1194003,BK1160,BK1177,BK1193,HB⟩ := hcut
   cases kq with
   | zero => exact absurd HA.out (by simp [laws_FnExactSignGrant.j0])
   | succ kj12 =>
    have H := HA.out
    clear HA
    simp only [laws_FnExactSignGrant.j0] at H
    by_cases c50 : x45_12 = true
    ·subst c50
     have H1 : (some false) = some r := by rw [if_pos rfl] at H;exact H
     clear H
     have H := H1
     clear H1
     obtain rfl := Option.some.inj H
     go_wp2
     go_ret
     exact ⟨zt_,zl_ HB⟩
    ·replace c50 := Bool.eq_false_iff.mpr c50
     subst c50
     have H1 : ((laws_markKeySignature.f kj12 t1182 t1183 t1186 t1189 1).bind fun bt1195 => ((laws_heldKeySignature.f kj12 t1182 bt1195.2.1 bt1195.2.2.1 bt1195.2.2.2 1).bind fun t1199 => (if t1199 < 0 then (some false) else (if t1199 = bt1195.1 then ((laws_toGrant.f a2_0 a2_1 a2_2 a2_3).bind fun bt1200 => ((impl_SignGrant.f kj12 a0 a1 bt1200.1 bt1200.2.1 bt1200.2.2.1 bt1200.2.2.2).bind fun bt1204 => ((laws_eqKeySignature.f kj12 bt1204.1 bt1204.2.1 bt1204.2.2.1 bt1204.2.2.2.1 t1166 t1167 t1170 t1173).bind fun t1216 => (if t1216 = true then (laws_FnExactSignGrant.j1 kj12 bt1195.1 (bt1204.2.2.2.2 != t1176) t1182 bt1195.2.1 bt1195.2.2.1 bt1195.2.2.2) else (laws_FnExactSignGrant.j1 kj12 bt1195.1 true t1182 bt1195.2.1 bt1195.2.2.1 bt1195.2.2.2))))) else (some false))))) = some r := by rw [if_neg (show ¬ (false = true) by decide)] at H;exact H
     clear H
     have H := H1
     clear H1
     replace H := Option.bind_eq_some_iff.mp H
     obtain ⟨⟨t1195,t1196,t1197,t1198⟩,A510,H⟩ := H
     try dsimp only at H
     have A51 := am_ A510
     clear A510
     replace H := Option.bind_eq_some_iff.mp H
     obtain ⟨t1199,A520,H⟩ := H
     try dsimp only at H
     have A52 := am_ A520
     clear A520
     by_cases c53 : t1199 < 0
     ·rw [if_pos c53] at H
      have c53b0 : decide (t1199 < 0) = true := decide_eq_true c53
      clear c53
      obtain rfl := Option.some.inj H
      have hnb54 := NB1193_1160.out
      have hnc54 := NB1160_1193.out
      have hnb55 := NB1193_1177.out
      have hnc55 := NB1177_1193.out
      obtain ⟨hcz56_0,hcz56_1,hcz56_2,hcz56_3,hfz56_0,hfz56_1,hfz56_2,hfz56_3⟩ := zc4 BK1193
      go_wp2_with (first | ((with_reducible refine gate_callee (f := 38) rfl ?_);refine zgl (some 48) Tryd.func38 #[.agg #[.int .i64 t1182,.slice Ao33 t1183.length co33,.slice Ao34 t1186.length co34,.slice Ao35 t1189.length co35],.int .i64 1] ?_;(with_reducible refine (laws_markKeySignature.calls kj12 t1182 (fun k_ => some k_ = (.slice Ao33 t1183.length co33 : Value).ownBlock) (.slice Ao33 t1183.length co33) t1183 (fun k_ => some k_ = (.slice Ao34 t1186.length co34 : Value).ownBlock) (.slice Ao34 t1186.length co34) t1186 (fun k_ => some k_ = (.slice Ao35 t1189.length co35 : Value).ownBlock) (.slice Ao35 t1189.length co35) t1189 1 t1195 t1196 t1197 t1198 w _ ?side1 ?side2 ?side3 ?side4 ?side5 ?side6 ?side7 ?side8 ?side9 ?side10 A51.out).mono ?_);(case side1 => exact zl_ HB);(case side2 => exact Kd.R_tight rfl HO_1194001.out);(case side3 => exact fun k_ e_ => (HO_1194001.out.1 k_ e_.symm).2.2.2.1);(case side4 => exact fun k_ e_ => (HO_1194001.out.1 k_ e_.symm).2.2.2.2);(case side5 => exact Kd.R_tight rfl HO_1194002.out);(case side6 => exact fun k_ e_ => (HO_1194002.out.1 k_ e_.symm).2.2.2.1);(case side7 => exact fun k_ e_ => (HO_1194002.out.1 k_ e_.symm).2.2.2.2);(case side8 => exact Kd.R_tight rfl HO_1194003.out);(case side9 => exact fun k_ e_ => (HO_1194003.out.1 k_ e_.symm).2.2.2.1);(case side10 => exact fun k_ e_ => (HO_1194003.out.1 k_ e_.symm).2.2.2.2);rintro e w57 ⟨rfl,hy0,hy1,hy2,hb,hkp⟩;refine ⟨_,rfl,?_⟩;replace HO_1178001 := am_ (Kd.R_mono (ok' := fun k_ => some k_ ≠ (.slice Ao24 t1170.length co24 : Value).ownBlock ∧ some k_ ≠ (.slice Ao25 t1173.length co25 : Value).ownBlock ∧ some k_ ≠ (.slice Ao33 t1183.length co33 : Value).ownBlock ∧ some k_ ≠ (.slice Ao34 t1186.length co34 : Value).ownBlock ∧ some k_ ≠ (.slice Ao35 t1189.length co35 : Value).ownBlock) (Kd.R_keptB (HO_1178001.out) hkp (fun k_ hk_ hs_ => Or.elim hs_ (fun e_ => (hk_.2.2.1) e_) (fun e_ => Or.elim e_ (fun e_ => (hk_.2.2.2.1) e_) (fun e_ => (hk_.2.2.2.2) e_)))) (fun k_ hk_ => ⟨hk_.1.1,hk_.1.2.1,hk_.1.2.2.1,hk_.1.2.2.2.1,hk_.1.2.2.2.2⟩));replace HO_1178002 := am_ (Kd.R_mono (ok' := fun k_ => some k_ ≠ (.slice Ao23 t1167.length co23 : Value).ownBlock ∧ some k_ ≠ (.slice Ao25 t1173.length co25 : Value).ownBlock ∧ some k_ ≠ (.slice Ao33 t1183.length co33 : Value).ownBlock ∧ some k_ ≠ (.slice Ao34 t1186.length co34 : Value).ownBlock ∧ some k_ ≠ (.slice Ao35 t1189.length co35 : Value).ownBlock) (Kd.R_keptB (HO_1178002.out) hkp (fun k_ hk_ hs_ => Or.elim hs_ (fun e_ => (hk_.2.2.1) e_) (fun e_ => Or.elim e_ (fun e_ => (hk_.2.2.2.1) e_) (fun e_ => (hk_.2.2.2.2) e_)))) (fun k_ hk_ => ⟨hk_.1.1,hk_.1.2.1,hk_.1.2.2.1,hk_.1.2.2.2.1,hk_.1.2.2.2.2⟩));replace HO_1178003 := am_ (Kd.R_mono (ok' := fun k_ => some k_ ≠ (.slice Ao23 t1167.length co23 : Value).ownBlock ∧ some k_ ≠ (.slice Ao24 t1170.length co24 : Value).ownBlock ∧ some k_ ≠ (.slice Ao33 t1183.length co33 : Value).ownBlock ∧ some k_ ≠ (.slice Ao34 t1186.length co34 : Value).ownBlock ∧ some k_ ≠ (.slice Ao35 t1189.length co35 : Value).ownBlock) (Kd.R_keptB (HO_1178003.out) hkp (fun k_ hk_ hs_ => Or.elim hs_ (fun e_ => (hk_.2.2.1) e_) (fun e_ => Or.elim e_ (fun e_ => (hk_.2.2.2.1) e_) (fun e_ => (hk_.2.2.2.2) e_)))) (fun k_ hk_ => ⟨hk_.1.1,hk_.1.2.1,hk_.1.2.2.1,hk_.1.2.2.2.1,hk_.1.2.2.2.2⟩));replace BK1160 := am_ (blk_kept (zk BK1160) hkp (fun hs_ => Or.elim hs_ (fun e_ => (fun e_ => (Kd.R_ne HO_1194001.out BK1160.out (by decide)) e_) e_) (fun e_ => Or.elim e_ (fun e_ => (fun e_ => (Kd.R_ne HO_1194002.out BK1160.out (by decide)) e_) e_) (fun e_ => (fun e_ => (Kd.R_ne HO_1194003.out BK1160.out (by decide)) e_) e_))));replace BK1177 := am_ (blk_kept (zk BK1177) hkp (fun hs_ => Or.elim hs_ (fun e_ => (fun e_ => (Kd.R_ne HO_1194001.out BK1177.out (by decide)) e_) e_) (fun e_ => Or.elim e_ (fun e_ => (fun e_ => (Kd.R_ne HO_1194002.out BK1177.out (by decide)) e_) e_) (fun e_ => (fun e_ => (Kd.R_ne HO_1194003.out BK1177.out (by decide)) e_) e_))));replace BK1193 := am_ (blk_kept (zk BK1193) hkp (fun hs_ => Or.elim hs_ (fun e_ => (fun e_ => (Kd.R_ne HO_1194001.out BK1193.out (by decide)) e_) e_) (fun e_ => Or.elim e_ (fun e_ => (fun e_ => (Kd.R_ne HO_1194002.out BK1193.out (by decide)) e_) e_) (fun e_ => (fun e_ => (Kd.R_ne HO_1194003.out BK1193.out (by decide)) e_) e_))));replace HO_1194001 := am_ (Kd.R_reok rfl hy0 (fun k_ e_ => HO_1194001.out.1 k_ e_));replace HO_1194002 := am_ (Kd.R_reok rfl hy1 (fun k_ e_ => HO_1194002.out.1 k_ e_));replace HO_1194003 := am_ (Kd.R_reok rfl hy2 (fun k_ e_ => HO_1194003.out.1 k_ e_));replace HB := am_ (hb);(try clear hb);(try clear hkp);(try clear hy0);(try clear hy1);(try clear hy2);obtain ⟨hcz58_0,hcz58_1,hcz58_2,hcz58_3,hfz58_0,hfz58_1,hfz58_2,hfz58_3⟩ := zc4 BK1193) | ((with_reducible refine gate_callee (f := 39) rfl ?_);refine goesL_ (some 51) rfl rfl Tryd.func39 (by kernel_rfl) rfl #[.agg #[.int .i64 t1182,.slice Ao33 t1196.length co33,.slice Ao34 t1197.length co34,.slice Ao35 t1198.length co35],.int .i64 1] rfl (by (try simp only [m1_,m2_,m3_]);first | done | (rw [show t1196.length = t1183.length from (Kd.R_reads' HO_1194001.out).1.symm,show t1197.length = t1186.length from (Kd.R_reads' HO_1194002.out).1.symm,show t1198.length = t1189.length from (Kd.R_reads' HO_1194003.out).1.symm] <;> rfl) | rfl | (simp only [d1_,d2_];rfl)) ?_;(with_reducible refine (laws_heldKeySignature.calls kj12 t1182 _ _ t1196 _ _ t1197 _ _ t1198 1 t1199 _ ?side1 ?side2 ?side3 ?side4 ?side5 ?side6 A52.out).mono ?_);(case side1 => repeat (first | exact (Kd.R_reads' HO_1194001.out).2.2 | (with_reducible refine Kd.C_alloc ?_ _) | (with_reducible refine Kd.C_drewN ?_ _) | (with_reducible refine Kd.C_drew ?_)));(case side2 => rw [show t1196.length = t1183.length from (Kd.R_reads' HO_1194001.out).1.symm];exact (Kd.R_reads' HO_1194001.out).2.1);(case side3 => repeat (first | exact (Kd.R_reads' HO_1194002.out).2.2 | (with_reducible refine Kd.C_alloc ?_ _) | (with_reducible refine Kd.C_drewN ?_ _) | (with_reducible refine Kd.C_drew ?_)));(case side4 => rw [show t1197.length = t1186.length from (Kd.R_reads' HO_1194002.out).1.symm];exact (Kd.R_reads' HO_1194002.out).2.1);(case side5 => repeat (first | exact (Kd.R_reads' HO_1194003.out).2.2 | (with_reducible refine Kd.C_alloc ?_ _) | (with_reducible refine Kd.C_drewN ?_ _) | (with_reducible refine Kd.C_drew ?_)));(case side6 => rw [show t1198.length = t1189.length from (Kd.R_reads' HO_1194003.out).1.symm];exact (Kd.R_reads' HO_1194003.out).2.1);rintro e w59 ⟨rfl,hb⟩;refine ⟨_,rfl,?_⟩;replace HO_1178001 := zrb HO_1178001 hb;replace HO_1178002 := zrb HO_1178002 hb;replace HO_1178003 := zrb HO_1178003 hb;replace HO_1194001 := zrb HO_1194001 hb;replace HO_1194002 := zrb HO_1194002 hb;replace HO_1194003 := zrb HO_1194003 hb;replace BK1160 := zb BK1160 hb;replace BK1177 := zb BK1177 hb;replace BK1193 := zb BK1193 hb;replace HB := zs_ HB hb;(try clear hb);(try clear hb2);(try clear hk);(try clear hi)))
      go_ret
      exact ⟨zt_,zl_ HB⟩
     ·rw [if_neg c53] at H
      have c53b0 : decide (t1199 < 0) = false := decide_eq_false c53
      clear c53
      by_cases c60 : t1199 = t1195
      ·rw [if_pos c60] at H
       have c60b0 : (t1199 == t1195) = true := beq_iff_eq.mpr c60
       have c60b1 : (t1199 != t1195) = false := bne_eq_false_iff_eq.mpr c60
       clear c60
       replace H := Option.bind_eq_some_iff.mp H
       obtain ⟨⟨t1200,t1201,t1202,t1203⟩,A610,H⟩ := H
       try dsimp only at H
       have A61 := am_ A610
       clear A610
       replace H := Option.bind_eq_some_iff.mp H
       obtain ⟨⟨t1204,t1205,t1208,t1211,t1214⟩,A620,H⟩ := H
       try dsimp only at H
       have A62 := am_ A620
       clear A620
       have HC63 := am_ H
       clear H
       have hnb64 := NB1193_1160.out
       have hnc64 := NB1160_1193.out
       have hnb65 := NB1193_1177.out
       have hnc65 := NB1177_1193.out
       obtain ⟨hcz66_0,hcz66_1,hcz66_2,hcz66_3,hfz66_0,hfz66_1,hfz66_2,hfz66_3⟩ := zc4 BK1193
       go_upto_region 18 with (first | ((with_reducible refine gate_callee (f := 38) rfl ?_);refine zgl (some 48) Tryd.func38 #[.agg #[.int .i64 t1182,.slice Ao33 t1183.length co33,.slice Ao34 t1186.length co34,.slice Ao35 t1189.length co35],.int .i64 1] ?_;(with_reducible refine (laws_markKeySignature.calls kj12 t1182 (fun k_ => some k_ = (.slice Ao33 t1183.length co33 : Value).ownBlock) (.slice Ao33 t1183.length co33) t1183 (fun k_ => some k_ = (.slice Ao34 t1186.length co34 : Value).ownBlock) (.slice Ao34 t1186.length co34) t1186 (fun k_ => some k_ = (.slice Ao35 t1189.length co35 : Value).ownBlock) (.slice Ao35 t1189.length co35) t1189 1 t1195 t1196 t1197 t1198 w _ ?side1 ?side2 ?side3 ?side4 ?side5 ?side6 ?side7 ?side8 ?side9 ?side10 A51.out).mono ?_);(case side1 => exact zl_ HB);(case side2 => exact Kd.R_tight rfl HO_1194001.out);(case side3 => exact fun k_ e_ => (HO_1194001.out.1 k_ e_.symm).2.2.2.1);(case side4 => exact fun k_ e_ => (HO_1194001.out.1 k_ e_.symm).2.2.2.2);(case side5 => exact Kd.R_tight rfl HO_1194002.out);(case side6 => exact fun k_ e_ => (HO_1194002.out.1 k_ e_.symm).2.2.2.1);(case side7 => exact fun k_ e_ => (HO_1194002.out.1 k_ e_.symm).2.2.2.2);(case side8 => exact Kd.R_tight rfl HO_1194003.out);(case side9 => exact fun k_ e_ => (HO_1194003.out.1 k_ e_.symm).2.2.2.1);(case side10 => exact fun k_ e_ => (HO_1194003.out.1 k_ e_.symm).2.2.2.2);rintro e w67 ⟨rfl,hy0,hy1,hy2,hb,hkp⟩;refine ⟨_,rfl,?_⟩;replace HO_1178001 := am_ (Kd.R_mono (ok' := fun k_ => some k_ ≠ (.slice Ao24 t1170.length co24 : Value).ownBlock ∧ some k_ ≠ (.slice Ao25 t1173.length co25 : Value).ownBlock ∧ some k_ ≠ (.slice Ao33 t1183.length co33 : Value).ownBlock ∧ some k_ ≠ (.slice Ao34 t1186.length co34 : Value).ownBlock ∧ some k_ ≠ (.slice Ao35 t1189.length co35 : Value).ownBlock) (Kd.R_keptB (HO_1178001.out) hkp (fun k_ hk_ hs_ => Or.elim hs_ (fun e_ => (hk_.2.2.1) e_) (fun e_ => Or.elim e_ (fun e_ => (hk_.2.2.2.1) e_) (fun e_ => (hk_.2.2.2.2) e_)))) (fun k_ hk_ => ⟨hk_.1.1,hk_.1.2.1,hk_.1.2.2.1,hk_.1.2.2.2.1,hk_.1.2.2.2.2⟩));replace HO_1178002 := am_ (Kd.R_mono (ok' := fun k_ => some k_ ≠ (.slice Ao23 t1167.length co23 : Value).ownBlock ∧ some k_ ≠ (.slice Ao25 t1173.length co25 : Value).ownBlock ∧ some k_ ≠ (.slice Ao33 t1183.length co33 : Value).ownBlock ∧ some k_ ≠ (.slice Ao34 t1186.length co34 : Value).ownBlock ∧ some k_ ≠ (.slice Ao35 t1189.length co35 : Value).ownBlock) (Kd.R_keptB (HO_1178002.out) hkp (fun k_ hk_ hs_ => Or.elim hs_ (fun e_ => (hk_.2.2.1) e_) (fun e_ => Or.elim e_ (fun e_ => (hk_.2.2.2.1) e_) (fun e_ => (hk_.2.2.2.2) e_)))) (fun k_ hk_ => ⟨hk_.1.1,hk_.1.2.1,hk_.1.2.2.1,hk_.1.2.2.2.1,hk_.1.2.2.2.2⟩));replace HO_1178003 := am_ (Kd.R_mono (ok' := fun k_ => some k_ ≠ (.slice Ao23 t1167.length co23 : Value).ownBlock ∧ some k_ ≠ (.slice Ao24 t1170.length co24 : Value).ownBlock ∧ some k_ ≠ (.slice Ao33 t1183.length co33 : Value).ownBlock ∧ some k_ ≠ (.slice Ao34 t1186.length co34 : Value).ownBlock ∧ some k_ ≠ (.slice Ao35 t1189.length co35 : Value).ownBlock) (Kd.R_keptB (HO_1178003.out) hkp (fun k_ hk_ hs_ => Or.elim hs_ (fun e_ => (hk_.2.2.1) e_) (fun e_ => Or.elim e_ (fun e_ => (hk_.2.2.2.1) e_) (fun e_ => (hk_.2.2.2.2) e_)))) (fun k_ hk_ => ⟨hk_.1.1,hk_.1.2.1,hk_.1.2.2.1,hk_.1.2.2.2.1,hk_.1.2.2.2.2⟩));replace BK1160 := am_ (blk_kept (zk BK1160) hkp (fun hs_ => Or.elim hs_ (fun e_ => (fun e_ => (Kd.R_ne HO_1194001.out BK1160.out (by decide)) e_) e_) (fun e_ => Or.elim e_ (fun e_ => (fun e_ => (Kd.R_ne HO_1194002.out BK1160.out (by decide)) e_) e_) (fun e_ => (fun e_ => (Kd.R_ne HO_1194003.out BK1160.out (by decide)) e_) e_))));replace BK1177 := am_ (blk_kept (zk BK1177) hkp (fun hs_ => Or.elim hs_ (fun e_ => (fun e_ => (Kd.R_ne HO_1194001.out BK1177.out (by decide)) e_) e_) (fun e_ => Or.elim e_ (fun e_ => (fun e_ => (Kd.R_ne HO_1194002.out BK1177.out (by decide)) e_) e_) (fun e_ => (fun e_ => (Kd.R_ne HO_1194003.out BK1177.out (by decide)) e_) e_))));replace BK1193 := am_ (blk_kept (zk BK1193) hkp (fun hs_ => Or.elim hs_ (fun e_ => (fun e_ => (Kd.R_ne HO_1194001.out BK1193.out (by decide)) e_) e_) (fun e_ => Or.elim e_ (fun e_ => (fun e_ => (Kd.R_ne HO_1194002.out BK1193.out (by decide)) e_) e_) (fun e_ => (fun e_ => (Kd.R_ne HO_1194003.out BK1193.out (by decide)) e_) e_))));replace HO_1194001 := am_ (Kd.R_reok rfl hy0 (fun k_ e_ => HO_1194001.out.1 k_ e_));replace HO_1194002 := am_ (Kd.R_reok rfl hy1 (fun k_ e_ => HO_1194002.out.1 k_ e_));replace HO_1194003 := am_ (Kd.R_reok rfl hy2 (fun k_ e_ => HO_1194003.out.1 k_ e_));replace HB := am_ (hb);(try clear hb);(try clear hkp);(try clear hy0);(try clear hy1);(try clear hy2);obtain ⟨hcz68_0,hcz68_1,hcz68_2,hcz68_3,hfz68_0,hfz68_1,hfz68_2,hfz68_3⟩ := zc4 BK1193) | ((with_reducible refine gate_callee (f := 39) rfl ?_);refine goesL_ (some 51) rfl rfl Tryd.func39 (by kernel_rfl) rfl #[.agg #[.int .i64 t1182,.slice Ao33 t1196.length co33,.slice Ao34 t1197.length co34,.slice Ao35 t1198.length co35],.int .i64 1] rfl (by (try simp only [m1_,m2_,m3_]);first | done | (rw [show t1196.length = t1183.length from (Kd.R_reads' HO_1194001.out).1.symm,show t1197.length = t1186.length from (Kd.R_reads' HO_1194002.out).1.symm,show t1198.length = t1189.length from (Kd.R_reads' HO_1194003.out).1.symm] <;> rfl) | rfl | (simp only [d1_,d2_];rfl)) ?_;(with_reducible refine (laws_heldKeySignature.calls kj12 t1182 _ _ t1196 _ _ t1197 _ _ t1198 1 t1199 _ ?side1 ?side2 ?side3 ?side4 ?side5 ?side6 A52.out).mono ?_);(case side1 => repeat (first | exact (Kd.R_reads' HO_1194001.out).2.2 | (with_reducible refine Kd.C_alloc ?_ _) | (with_reducible refine Kd.C_drewN ?_ _) | (with_reducible refine Kd.C_drew ?_)));(case side2 => rw [show t1196.length = t1183.length from (Kd.R_reads' HO_1194001.out).1.symm];exact (Kd.R_reads' HO_1194001.out).2.1);(case side3 => repeat (first | exact (Kd.R_reads' HO_1194002.out).2.2 | (with_reducible refine Kd.C_alloc ?_ _) | (with_reducible refine Kd.C_drewN ?_ _) | (with_reducible refine Kd.C_drew ?_)));(case side4 => rw [show t1197.length = t1186.length from (Kd.R_reads' HO_1194002.out).1.symm];exact (Kd.R_reads' HO_1194002.out).2.1);(case side5 => repeat (first | exact (Kd.R_reads' HO_1194003.out).2.2 | (with_reducible refine Kd.C_alloc ?_ _) | (with_reducible refine Kd.C_drewN ?_ _) | (with_reducible refine Kd.C_drew ?_)));(case side6 => rw [show t1198.length = t1189.length from (Kd.R_reads' HO_1194003.out).1.symm];exact (Kd.R_reads' HO_1194003.out).2.1);rintro e w69 ⟨rfl,hb⟩;refine ⟨_,rfl,?_⟩;replace HO_1178001 := zrb HO_1178001 hb;replace HO_1178002 := zrb HO_1178002 hb;replace HO_1178003 := zrb HO_1178003 hb;replace HO_1194001 := zrb HO_1194001 hb;replace HO_1194002 := zrb HO_1194002 hb;replace HO_1194003 := zrb HO_1194003 hb;replace BK1160 := zb BK1160 hb;replace BK1177 := zb BK1177 hb;replace BK1193 := zb BK1193 hb;replace HB := zs_ HB hb;(try clear hb);(try clear hb2);(try clear hk);(try clear hi);have hnb70 := NB1160_1177.out;have hnc70 := NB1177_1160.out;obtain ⟨hcz71_0,hcz71_1,hcz71_2,hcz71_3,hfz71_0,hfz71_1,hfz71_2,hfz71_3⟩ := zc4 BK1160) | ((with_reducible refine gate_callee (f := 35) rfl ?_);refine zgl (some 61) Tryd.func35 #[.agg #[.string a2_0,.int .i64 a2_1,.int .i64 a2_2,.int .i64 a2_3]] ?_;(with_reducible refine (laws_toGrant.calls a2_0 a2_1 a2_2 a2_3 t1200 t1201 t1202 t1203 _ A61.out).mono ?_);rintro e w72 ⟨rfl,hb⟩;refine ⟨_,rfl,?_⟩;replace HO_1178001 := zrb HO_1178001 hb;replace HO_1178002 := zrb HO_1178002 hb;replace HO_1178003 := zrb HO_1178003 hb;replace HO_1194001 := zrb HO_1194001 hb;replace HO_1194002 := zrb HO_1194002 hb;replace HO_1194003 := zrb HO_1194003 hb;replace BK1160 := zb BK1160 hb;replace BK1177 := zb BK1177 hb;replace BK1193 := zb BK1193 hb;replace HB := zs_ HB hb;(try clear hb);(try clear hb2);(try clear hk);(try clear hi)) | ((with_reducible refine gate_callee (f := 36) rfl ?_);refine zgl (some 62) Tryd.func36 #[.int .i64 a0,.int .i64 a1,.agg #[.string t1200,.int .i64 t1201,.int .i64 t1202,.int .i64 t1203]] ?_;(with_reducible refine (impl_SignGrant.calls kj12 a0 a1 t1200 t1201 t1202 t1203 t1204 t1205 t1208 t1211 t1214 _ ?side1 ?side2 A62.out).mono ?_);(case side1 => exact HLD.out.on (zl_ HB));(case side2 => exact HTD.out.on (zl_ HB));rintro e w73 ⟨v1206,v1209,v1212,rfl,ho0,ho1,ho2,hb⟩;refine ⟨_,rfl,?_⟩;have HO1207 := am_ (Kd.R_lower (Kd.R_new' (Kd.R_new' (Kd.R_new' (Kd.R_new' (Kd.R_new' (Kd.R_new' ho0 (Kd.R_lt (zr HO_1178001))) (Kd.R_lt (zr HO_1178002))) (Kd.R_lt (zr HO_1178003))) (Kd.R_lt (zr HO_1194001))) (Kd.R_lt (zr HO_1194002))) (Kd.R_lt (zr HO_1194003))) (below_size (zl_ HB)));have HO1210 := am_ (Kd.R_lower (Kd.R_new' (Kd.R_new' (Kd.R_new' (Kd.R_new' (Kd.R_new' (Kd.R_new' ho1 (Kd.R_lt (zr HO_1178001))) (Kd.R_lt (zr HO_1178002))) (Kd.R_lt (zr HO_1178003))) (Kd.R_lt (zr HO_1194001))) (Kd.R_lt (zr HO_1194002))) (Kd.R_lt (zr HO_1194003))) (below_size (zl_ HB)));have HO1213 := am_ (Kd.R_lower (Kd.R_new' (Kd.R_new' (Kd.R_new' (Kd.R_new' (Kd.R_new' (Kd.R_new' ho2 (Kd.R_lt (zr HO_1178001))) (Kd.R_lt (zr HO_1178002))) (Kd.R_lt (zr HO_1178003))) (Kd.R_lt (zr HO_1194001))) (Kd.R_lt (zr HO_1194002))) (Kd.R_lt (zr HO_1194003))) (below_size (zl_ HB)));replace HO_1178001 := am_ (Kd.R_mono (Kd.R_told (Kd.R_told (Kd.R_told (Kd.R_old (zr HO_1178001) hb) (Kd.R_base ho0)) (Kd.R_base ho1)) (Kd.R_base ho2)) (fun _ h_ => h_.1));replace HO_1178002 := am_ (Kd.R_mono (Kd.R_told (Kd.R_told (Kd.R_told (Kd.R_old (zr HO_1178002) hb) (Kd.R_base ho0)) (Kd.R_base ho1)) (Kd.R_base ho2)) (fun _ h_ => h_.1));replace HO_1178003 := am_ (Kd.R_mono (Kd.R_told (Kd.R_told (Kd.R_told (Kd.R_old (zr HO_1178003) hb) (Kd.R_base ho0)) (Kd.R_base ho1)) (Kd.R_base ho2)) (fun _ h_ => h_.1));replace HO_1194001 := am_ (Kd.R_mono (Kd.R_told (Kd.R_told (Kd.R_told (Kd.R_old (zr HO_1194001) hb) (Kd.R_base ho0)) (Kd.R_base ho1)) (Kd.R_base ho2)) (fun _ h_ => h_.1));replace HO_1194002 := am_ (Kd.R_mono (Kd.R_told (Kd.R_told (Kd.R_told (Kd.R_old (zr HO_1194002) hb) (Kd.R_base ho0)) (Kd.R_base ho1)) (Kd.R_base ho2)) (fun _ h_ => h_.1));replace HO_1194003 := am_ (Kd.R_mono (Kd.R_told (Kd.R_told (Kd.R_told (Kd.R_old (zr HO_1194003) hb) (Kd.R_base ho0)) (Kd.R_base ho1)) (Kd.R_base ho2)) (fun _ h_ => h_.1));replace BK1160 := zb BK1160 hb;replace BK1177 := zb BK1177 hb;replace BK1193 := zb BK1193 hb;replace HB := zs_ HB hb;(try clear hb);(try clear hb2);(try clear hk);(try clear hi);(try clear ho0);(try clear ho1);(try clear ho2)) | ((with_reducible refine gate_dst (N := 14) rfl ?_);refine zbx (N := 14) (cs := #[.int .i64 0,.slice none 0 0,.slice none 0 0,.slice none 0 0]) (t := 56) ?_;intro gb1215 hg w74 hbox hb;replace HO_1178001 := zrb HO_1178001 hb;replace HO_1178002 := zrb HO_1178002 hb;replace HO_1178003 := zrb HO_1178003 hb;replace HO_1194001 := zrb HO_1194001 hb;replace HO_1194002 := zrb HO_1194002 hb;replace HO_1194003 := zrb HO_1194003 hb;replace HO1207 := zrb HO1207 hb;replace HO1210 := zrb HO1210 hb;replace HO1213 := zrb HO1213 hb;have BK1215 := am_ (hbox);have GW1215 := zw_ HB hg;have GE1215 := zw_ HB hg;replace HB := zs_ HB hb;have NB1160_1215 := zl hg BK1160;have NB1215_1160 := zg hg BK1160;replace BK1160 := zb BK1160 hb;have NB1177_1215 := zl hg BK1177;have NB1215_1177 := zg hg BK1177;replace BK1177 := zb BK1177 hb;have NB1193_1215 := zl hg BK1193;have NB1215_1193 := zg hg BK1193;replace BK1193 := zb BK1193 hb;clear hb hbox hg;have hnb75 := NB1215_1160.out;have hnc75 := NB1160_1215.out;have hnb76 := NB1215_1177.out;have hnc76 := NB1177_1215.out;have hnb77 := NB1215_1193.out;have hnc77 := NB1193_1215.out;obtain ⟨hcz78_0,hcz78_1,hcz78_2,hcz78_3,hfz78_0,hfz78_1,hfz78_2,hfz78_3⟩ := zc4 BK1215;obtain ⟨Ao79,co79,eo79⟩ := Kd.R_slice HO1207.out;subst eo79;obtain ⟨Ao80,co80,eo80⟩ := Kd.R_slice HO1210.out;subst eo80;obtain ⟨Ao81,co81,eo81⟩ := Kd.R_slice HO1213.out;subst eo81))
       (try simp only [Act.put,p1_,p2_,p3_])
       go_cut [73] (fun v73 wc => ∃ (kq : Nat) (x73_62 : Bool),v73 = .bool x73_62 ∧ Aside0 (laws_FnExactSignGrant.j1 kq t1195 x73_62 t1182 t1196 t1197 t1198 = some r) ∧ Aside0 (kq ≤ kj12) ∧ Aside0 (Kd.R Kd.string 9 wc w.heap.size (fun k_ => some k_ ≠ ((.slice Ao24 t1170.length co24) : Value).ownBlock ∧ some k_ ≠ ((.slice Ao25 t1173.length co25) : Value).ownBlock ∧ some k_ ≠ ((.slice Ao33 t1183.length co33) : Value).ownBlock ∧ some k_ ≠ ((.slice Ao34 t1186.length co34) : Value).ownBlock ∧ some k_ ≠ ((.slice Ao35 t1189.length co35) : Value).ownBlock ∧ some k_ ≠ ((.slice Ao79 t1205.length co79) : Value).ownBlock ∧ some k_ ≠ ((.slice Ao80 t1208.length co80) : Value).ownBlock ∧ some k_ ≠ ((.slice Ao81 t1211.length co81) : Value).ownBlock) (.slice Ao23 t1167.length co23) t1167) ∧ Aside0 (Kd.R Kd.string 9 wc w.heap.size (fun k_ => some k_ ≠ ((.slice Ao23 t1167.length co23) : Value).ownBlock ∧ some k_ ≠ ((.slice Ao25 t1173.length co25) : Value).ownBlock ∧ some k_ ≠ ((.slice Ao33 t1183.length co33) : Value).ownBlock ∧ some k_ ≠ ((.slice Ao34 t1186.length co34) : Value).ownBlock ∧ some k_ ≠ ((.slice Ao35 t1189.length co35) : Value).ownBlock ∧ some k_ ≠ ((.slice Ao79 t1205.length co79) : Value).ownBlock ∧ some k_ ≠ ((.slice Ao80 t1208.length co80) : Value).ownBlock ∧ some k_ ≠ ((.slice Ao81 t1211.length co81) : Value).ownBlock) (.slice Ao24 t1170.length co24) t1170) ∧ Aside0 (Kd.R Kd.string 9 wc w.heap.size (fun k_ => some k_ ≠ ((.slice Ao23 t1167.length co23) : Value).ownBlock ∧ some k_ ≠ ((.slice Ao24 t1170.length co24) : Value).ownBlock ∧ some k_ ≠ ((.slice Ao33 t1183.length co33) : Value).ownBlock ∧ some k_ ≠ ((.slice Ao34 t1186.length co34) : Value).ownBlock ∧ some k_ ≠ ((.slice Ao35 t1189.length co35) : Value).ownBlock ∧ some k_ ≠ ((.slice Ao79 t1205.length co79) : Value).ownBlock ∧ some k_ ≠ ((.slice Ao80 t1208.length co80) : Value).ownBlock ∧ some k_ ≠ ((.slice Ao81 t1211.length co81) : Value).ownBlock) (.slice Ao25 t1173.length co25) t1173) ∧ Aside0 (Kd.R Kd.string 9 wc w.heap.size (fun k_ => some k_ ≠ ((.slice Ao23 t1167.length co23) : Value).ownBlock ∧ some k_ ≠ ((.slice Ao24 t1170.length co24) : Value).ownBlock ∧ some k_ ≠ ((.slice Ao25 t1173.length co25) : Value).ownBlock ∧ some k_ ≠ ((.slice Ao34 t1186.length co34) : Value).ownBlock ∧ some k_ ≠ ((.slice Ao35 t1189.length co35) : Value).ownBlock ∧ some k_ ≠ ((.slice Ao79 t1205.length co79) : Value).ownBlock ∧ some k_ ≠ ((.slice Ao80 t1208.length co80) : Value).ownBlock ∧ some k_ ≠ ((.slice Ao81 t1211.length co81) : Value).ownBlock) (.slice Ao33 t1183.length co33) t1196) ∧ Aside0 (Kd.R Kd.string 9 wc w.heap.size (fun k_ => some k_ ≠ ((.slice Ao23 t1167.length co23) : Value).ownBlock ∧ some k_ ≠ ((.slice Ao24 t1170.length co24) : Value).ownBlock ∧ some k_ ≠ ((.slice Ao25 t1173.length co25) : Value).ownBlock ∧ some k_ ≠ ((.slice Ao33 t1183.length co33) : Value).ownBlock ∧ some k_ ≠ ((.slice Ao35 t1189.length co35) : Value).ownBlock ∧ some k_ ≠ ((.slice Ao79 t1205.length co79) : Value).ownBlock ∧ some k_ ≠ ((.slice Ao80 t1208.length co80) : Value).ownBlock ∧ some k_ ≠ ((.slice Ao81 t1211.length co81) : Value).ownBlock) (.slice Ao34 t1186.length co34) t1197) ∧ Aside0 (Kd.R Kd.string 9 wc w.heap.size (fun k_ => some k_ ≠ ((.slice Ao23 t1167.length co23) : Value).ownBlock ∧ some k_ ≠ ((.slice Ao24 t1170.length co24) : Value).ownBlock ∧ some k_ ≠ ((.slice Ao25 t1173.length co25) : Value).ownBlock ∧ some k_ ≠ ((.slice Ao33 t1183.length co33) : Value).ownBlock ∧ some k_ ≠ ((.slice Ao34 t1186.length co34) : Value).ownBlock ∧ some k_ ≠ ((.slice Ao79 t1205.length co79) : Value).ownBlock ∧ some k_ ≠ ((.slice Ao80 t1208.length co80) : Value).ownBlock ∧ some k_ ≠ ((.slice Ao81 t1211.length co81) : Value).ownBlock) (.slice Ao35 t1189.length co35) t1198) ∧ Aside0 (Kd.R Kd.string 9 wc w.heap.size (fun k_ => some k_ ≠ ((.slice Ao23 t1167.length co23) : Value).ownBlock ∧ some k_ ≠ ((.slice Ao24 t1170.length co24) : Value).ownBlock ∧ some k_ ≠ ((.slice Ao25 t1173.length co25) : Value).ownBlock ∧ some k_ ≠ ((.slice Ao33 t1183.length co33) : Value).ownBlock ∧ some k_ ≠ ((.slice Ao34 t1186.length co34) : Value).ownBlock ∧ some k_ ≠ ((.slice Ao35 t1189.length co35) : Value).ownBlock ∧ some k_ ≠ ((.slice Ao80 t1208.length co80) : Value).ownBlock ∧ some k_ ≠ ((.slice Ao81 t1211.length co81) : Value).ownBlock) (.slice Ao79 t1205.length co79) t1205) ∧ Aside0 (Kd.R Kd.string 9 wc w.heap.size (fun k_ => some k_ ≠ ((.slice Ao23 t1167.length co23) : Value).ownBlock ∧ some k_ ≠ ((.slice Ao24 t1170.length co24) : Value).ownBlock ∧ some k_ ≠ ((.slice Ao25 t1173.length co25) : Value).ownBlock ∧ some k_ ≠ ((.slice Ao33 t1183.length co33) : Value).ownBlock ∧ some k_ ≠ ((.slice Ao34 t1186.length co34) : Value).ownBlock ∧ some k_ ≠ ((.slice Ao35 t1189.length co35) : Value).ownBlock ∧ some k_ ≠ ((.slice Ao79 t1205.length co79) : Value).ownBlock ∧ some k_ ≠ ((.slice Ao81 t1211.length co81) : Value).ownBlock) (.slice Ao80 t1208.length co80) t1208) ∧ Aside0 (Kd.R Kd.string 9 wc w.heap.size (fun k_ => some k_ ≠ ((.slice Ao23 t1167.length co23) : Value).ownBlock ∧ some k_ ≠ ((.slice Ao24 t1170.length co24) : Value).ownBlock ∧ some k_ ≠ ((.slice Ao25 t1173.length co25) : Value).ownBlock ∧ some k_ ≠ ((.slice Ao33 t1183.length co33) : Value).ownBlock ∧ some k_ ≠ ((.slice Ao34 t1186.length co34) : Value).ownBlock ∧ some k_ ≠ ((.slice Ao35 t1189.length co35) : Value).ownBlock ∧ some k_ ≠ ((.slice Ao79 t1205.length co79) : Value).ownBlock ∧ some k_ ≠ ((.slice Ao80 t1208.length co80) : Value).ownBlock) (.slice Ao81 t1211.length co81) t1211) ∧ Aside0 (wc.heap[gb1160]? = some (.cells #[.string a2_0,.int .i64 a2_1,.int .i64 a2_2,.int .i64 a2_3] 53 (0,0))) ∧ Aside0 (wc.heap[gb1177]? = some (.cells #[.int .i64 t1166,(.slice Ao23 t1167.length co23),(.slice Ao24 t1170.length co24),(.slice Ao25 t1173.length co25)] 56 (0,0))) ∧ Aside0 (wc.heap[gb1193]? = some (.cells #[.int .i64 t1182,(.slice Ao33 t1183.length co33),(.slice Ao34 t1186.length co34),(.slice Ao35 t1189.length co35)] 56 (0,0))) ∧ Aside0 (wc.heap[gb1215]? = some (.cells #[.int .i64 t1204,(.slice Ao79 t1205.length co79),(.slice Ao80 t1208.length co80),(.slice Ao81 t1211.length co81)] 56 (0,0))) ∧ Aside0 (Below w.heap.size w wc))
       case first =>
        have H := HC63.out
        clear HC63
        replace H := Option.bind_eq_some_iff.mp H
        obtain ⟨t1216,A820,H⟩ := H
        try dsimp only at H
        have A82 := am_ A820
        clear A820
        by_cases c83 : t1216 = true
        ·subst c83
         have H1 : (laws_FnExactSignGrant.j1 kj12 t1195 (t1214 != t1176) t1182 t1196 t1197 t1198) = some r := by rw [if_pos rfl] at H;exact H
         clear H
         have H := H1
         clear H1
         have H' := am_ H
         clear H
         have hnb84 := NB1215_1160.out
         have hnc84 := NB1160_1215.out
         have hnb85 := NB1215_1177.out
         have hnc85 := NB1177_1215.out
         have hnb86 := NB1215_1193.out
         have hnc86 := NB1193_1215.out
         obtain ⟨hcz87_0,hcz87_1,hcz87_2,hcz87_3,hfz87_0,hfz87_1,hfz87_2,hfz87_3⟩ := zc4 BK1215
         have hnb88 := NB1177_1160.out
         have hnc88 := NB1160_1177.out
         have hnb89 := NB1177_1193.out
         have hnc89 := NB1193_1177.out
         obtain ⟨hcz90_0,hcz90_1,hcz90_2,hcz90_3,hfz90_0,hfz90_1,hfz90_2,hfz90_3⟩ := zc4 BK1177
         go_wp2_with (first | ((with_reducible refine gate_callee (f := 37) rfl ?_);refine zgl (some 67) Tryd.func37 #[.agg #[.int .i64 t1204,.slice Ao79 t1205.length co79,.slice Ao80 t1208.length co80,.slice Ao81 t1211.length co81],.agg #[.int .i64 t1166,.slice Ao23 t1167.length co23,.slice Ao24 t1170.length co24,.slice Ao25 t1173.length co25]] ?_;(with_reducible refine (laws_eqKeySignature.calls kj12 t1204 _ _ t1205 _ _ t1208 _ _ t1211 t1166 _ _ t1167 _ _ t1170 _ _ t1173 true _ ?side1 ?side2 ?side3 ?side4 ?side5 ?side6 ?side7 ?side8 ?side9 ?side10 ?side11 ?side12 A82.out).mono ?_);(case side1 => refine (Kd.R_reads' (e := 9) (base := w.heap.size) (ok := fun k_ => (((((((some k_ ≠ (.slice Ao80 t1208.length co80 : Value).ownBlock ∧ some k_ ≠ (.slice Ao81 t1211.length co81 : Value).ownBlock) ∧ some k_ ≠ (.slice Ao23 t1167.length co23 : Value).ownBlock) ∧ some k_ ≠ (.slice Ao24 t1170.length co24 : Value).ownBlock) ∧ some k_ ≠ (.slice Ao25 t1173.length co25 : Value).ownBlock) ∧ some k_ ≠ (.slice Ao33 t1183.length co33 : Value).ownBlock) ∧ some k_ ≠ (.slice Ao34 t1186.length co34 : Value).ownBlock) ∧ some k_ ≠ (.slice Ao35 t1189.length co35 : Value).ownBlock)) (n := t1205.length) (c := co79) ?_).2.2;exact (by (with_reducible repeat (first | apply r1_ | apply r2_ | apply r3_));exact (Kd.R_mono (zrf (Kd.R_types HO1207.out BK1215.out (by decide))) (fun _ h_ => h_.1))));(case side2 => exact (Kd.R_reads' HO1207.out).2.1);(case side3 => refine (Kd.R_reads' (e := 9) (base := w.heap.size) (ok := fun k_ => (((((((some k_ ≠ (.slice Ao79 t1205.length co79 : Value).ownBlock ∧ some k_ ≠ (.slice Ao81 t1211.length co81 : Value).ownBlock) ∧ some k_ ≠ (.slice Ao23 t1167.length co23 : Value).ownBlock) ∧ some k_ ≠ (.slice Ao24 t1170.length co24 : Value).ownBlock) ∧ some k_ ≠ (.slice Ao25 t1173.length co25 : Value).ownBlock) ∧ some k_ ≠ (.slice Ao33 t1183.length co33 : Value).ownBlock) ∧ some k_ ≠ (.slice Ao34 t1186.length co34 : Value).ownBlock) ∧ some k_ ≠ (.slice Ao35 t1189.length co35 : Value).ownBlock)) (n := t1208.length) (c := co80) ?_).2.2;exact (by (with_reducible repeat (first | apply r1_ | apply r2_ | apply r3_));exact (Kd.R_mono (zrf (Kd.R_types HO1210.out BK1215.out (by decide))) (fun _ h_ => h_.1))));(case side4 => exact (Kd.R_reads' HO1210.out).2.1);(case side5 => refine (Kd.R_reads' (e := 9) (base := w.heap.size) (ok := fun k_ => (((((((some k_ ≠ (.slice Ao79 t1205.length co79 : Value).ownBlock ∧ some k_ ≠ (.slice Ao80 t1208.length co80 : Value).ownBlock) ∧ some k_ ≠ (.slice Ao23 t1167.length co23 : Value).ownBlock) ∧ some k_ ≠ (.slice Ao24 t1170.length co24 : Value).ownBlock) ∧ some k_ ≠ (.slice Ao25 t1173.length co25 : Value).ownBlock) ∧ some k_ ≠ (.slice Ao33 t1183.length co33 : Value).ownBlock) ∧ some k_ ≠ (.slice Ao34 t1186.length co34 : Value).ownBlock) ∧ some k_ ≠ (.slice Ao35 t1189.length co35 : Value).ownBlock)) (n := t1211.length) (c := co81) ?_).2.2;exact (by (with_reducible repeat (first | apply r1_ | apply r2_ | apply r3_));exact (Kd.R_mono (zrf (Kd.R_types HO1213.out BK1215.out (by decide))) (fun _ h_ => h_.1))));(case side6 => exact (Kd.R_reads' HO1213.out).2.1);(case side7 => refine (Kd.R_reads' (e := 9) (base := w.heap.size) (ok := fun k_ => ((((some k_ ≠ (.slice Ao24 t1170.length co24 : Value).ownBlock ∧ (some k_ ≠ (.slice Ao25 t1173.length co25 : Value).ownBlock ∧ (some k_ ≠ (.slice Ao33 t1183.length co33 : Value).ownBlock ∧ (some k_ ≠ (.slice Ao34 t1186.length co34 : Value).ownBlock ∧ some k_ ≠ (.slice Ao35 t1189.length co35 : Value).ownBlock)))) ∧ some k_ ≠ (.slice Ao79 t1205.length co79 : Value).ownBlock) ∧ some k_ ≠ (.slice Ao80 t1208.length co80 : Value).ownBlock) ∧ some k_ ≠ (.slice Ao81 t1211.length co81 : Value).ownBlock)) (n := t1167.length) (c := co23) ?_).2.2;exact (by (with_reducible repeat (first | apply r1_ | apply r2_ | apply r3_));exact (Kd.R_mono (zrf (Kd.R_types HO_1178001.out BK1215.out (by decide))) (fun _ h_ => h_.1))));(case side8 => exact (Kd.R_reads' HO_1178001.out).2.1);(case side9 => refine (Kd.R_reads' (e := 9) (base := w.heap.size) (ok := fun k_ => ((((some k_ ≠ (.slice Ao23 t1167.length co23 : Value).ownBlock ∧ (some k_ ≠ (.slice Ao25 t1173.length co25 : Value).ownBlock ∧ (some k_ ≠ (.slice Ao33 t1183.length co33 : Value).ownBlock ∧ (some k_ ≠ (.slice Ao34 t1186.length co34 : Value).ownBlock ∧ some k_ ≠ (.slice Ao35 t1189.length co35 : Value).ownBlock)))) ∧ some k_ ≠ (.slice Ao79 t1205.length co79 : Value).ownBlock) ∧ some k_ ≠ (.slice Ao80 t1208.length co80 : Value).ownBlock) ∧ some k_ ≠ (.slice Ao81 t1211.length co81 : Value).ownBlock)) (n := t1170.length) (c := co24) ?_).2.2;exact (by (with_reducible repeat (first | apply r1_ | apply r2_ | apply r3_));exact (Kd.R_mono (zrf (Kd.R_types HO_1178002.out BK1215.out (by decide))) (fun _ h_ => h_.1))));(case side10 => exact (Kd.R_reads' HO_1178002.out).2.1);(case side11 => refine (Kd.R_reads' (e := 9) (base := w.heap.size) (ok := fun k_ => ((((some k_ ≠ (.slice Ao23 t1167.length co23 : Value).ownBlock ∧ (some k_ ≠ (.slice Ao24 t1170.length co24 : Value).ownBlock ∧ (some k_ ≠ (.slice Ao33 t1183.length co33 : Value).ownBlock ∧ (some k_ ≠ (.slice Ao34 t1186.length co34 : Value).ownBlock ∧ some k_ ≠ (.slice Ao35 t1189.length co35 : Value).ownBlock)))) ∧ some k_ ≠ (.slice Ao79 t1205.length co79 : Value).ownBlock) ∧ some k_ ≠ (.slice Ao80 t1208.length co80 : Value).ownBlock) ∧ some k_ ≠ (.slice Ao81 t1211.length co81 : Value).ownBlock)) (n := t1173.length) (c := co25) ?_).2.2;exact (by (with_reducible repeat (first | apply r1_ | apply r2_ | apply r3_));exact (Kd.R_mono (zrf (Kd.R_types HO_1178003.out BK1215.out (by decide))) (fun _ h_ => h_.1))));(case side12 => exact (Kd.R_reads' HO_1178003.out).2.1);rintro e w91 ⟨rfl,hb⟩;refine ⟨_,rfl,?_⟩;replace HO_1178001 := am_ (Kd.R_below (by (with_reducible repeat (first | apply r1_ | apply r2_ | apply r3_));exact (Kd.R_mono (zrf (Kd.R_types HO_1178001.out BK1215.out (by decide))) (fun _ h_ => h_.1))) hb);replace HO_1178002 := am_ (Kd.R_below (by (with_reducible repeat (first | apply r1_ | apply r2_ | apply r3_));exact (Kd.R_mono (zrf (Kd.R_types HO_1178002.out BK1215.out (by decide))) (fun _ h_ => h_.1))) hb);replace HO_1178003 := am_ (Kd.R_below (by (with_reducible repeat (first | apply r1_ | apply r2_ | apply r3_));exact (Kd.R_mono (zrf (Kd.R_types HO_1178003.out BK1215.out (by decide))) (fun _ h_ => h_.1))) hb);replace HO_1194001 := am_ (Kd.R_below (by (with_reducible repeat (first | apply r1_ | apply r2_ | apply r3_));exact (Kd.R_mono (zrf (Kd.R_types HO_1194001.out BK1215.out (by decide))) (fun _ h_ => h_.1))) hb);replace HO_1194002 := am_ (Kd.R_below (by (with_reducible repeat (first | apply r1_ | apply r2_ | apply r3_));exact (Kd.R_mono (zrf (Kd.R_types HO_1194002.out BK1215.out (by decide))) (fun _ h_ => h_.1))) hb);replace HO_1194003 := am_ (Kd.R_below (by (with_reducible repeat (first | apply r1_ | apply r2_ | apply r3_));exact (Kd.R_mono (zrf (Kd.R_types HO_1194003.out BK1215.out (by decide))) (fun _ h_ => h_.1))) hb);replace HO1207 := am_ (Kd.R_below (by (with_reducible repeat (first | apply r1_ | apply r2_ | apply r3_));exact (Kd.R_mono (zrf (Kd.R_types HO1207.out BK1215.out (by decide))) (fun _ h_ => h_.1))) hb);replace HO1210 := am_ (Kd.R_below (by (with_reducible repeat (first | apply r1_ | apply r2_ | apply r3_));exact (Kd.R_mono (zrf (Kd.R_types HO1210.out BK1215.out (by decide))) (fun _ h_ => h_.1))) hb);replace HO1213 := am_ (Kd.R_below (by (with_reducible repeat (first | apply r1_ | apply r2_ | apply r3_));exact (Kd.R_mono (zrf (Kd.R_types HO1213.out BK1215.out (by decide))) (fun _ h_ => h_.1))) hb);replace BK1160 := am_ (blk_below (g := gb1160) (o := .cells #[.string a2_0,.int .i64 a2_1,.int .i64 a2_2,.int .i64 a2_3] 53 (0,0)) (zq BK1160) hb);replace BK1177 := am_ (blk_below (g := gb1177) (o := .cells #[.int .i64 t1166,.slice Ao23 t1167.length co23,.slice Ao24 t1170.length co24,.slice Ao25 t1173.length co25] 56 (0,0)) (zq BK1177) hb);replace BK1193 := am_ (blk_below (g := gb1193) (o := .cells #[.int .i64 t1182,.slice Ao33 t1183.length co33,.slice Ao34 t1186.length co34,.slice Ao35 t1189.length co35] 56 (0,0)) (zq BK1193) hb);replace BK1215 := am_ (blk_below (g := gb1215) (o := .cells #[.int .i64 t1204,.slice Ao79 t1205.length co79,.slice Ao80 t1208.length co80,.slice Ao81 t1211.length co81] 56 (0,0)) (zq BK1215) hb);replace HB := zs_ HB hb;(try clear hb);(try clear hb2);(try clear hk);(try clear hi)))
         go_meet
         case rel => exact ⟨_,((t1214 != t1176)),(by first | rfl | (simp;done) | (simp [*];done)),H',⟨by have := HJ12.out;first | omega | exact Nat.le_refl _⟩,⟨by (with_reducible repeat (first | apply r1_ | apply r2_ | apply r3_));exact Kd.R_mono HO_1178001.out (fun _ hk => ⟨hk.1.1.1.1,⟨hk.1.1.1.2.1,⟨hk.1.1.1.2.2.1,⟨hk.1.1.1.2.2.2.1,⟨hk.1.1.1.2.2.2.2,⟨hk.1.1.2,⟨hk.1.2,hk.2⟩⟩⟩⟩⟩⟩⟩)⟩,⟨by (with_reducible repeat (first | apply r1_ | apply r2_ | apply r3_));exact Kd.R_mono HO_1178002.out (fun _ hk => ⟨hk.1.1.1.1,⟨hk.1.1.1.2.1,⟨hk.1.1.1.2.2.1,⟨hk.1.1.1.2.2.2.1,⟨hk.1.1.1.2.2.2.2,⟨hk.1.1.2,⟨hk.1.2,hk.2⟩⟩⟩⟩⟩⟩⟩)⟩,⟨by (with_reducible repeat (first | apply r1_ | apply r2_ | apply r3_));exact Kd.R_mono HO_1178003.out (fun _ hk => ⟨hk.1.1.1.1,⟨hk.1.1.1.2.1,⟨hk.1.1.1.2.2.1,⟨hk.1.1.1.2.2.2.1,⟨hk.1.1.1.2.2.2.2,⟨hk.1.1.2,⟨hk.1.2,hk.2⟩⟩⟩⟩⟩⟩⟩)⟩,⟨by (with_reducible repeat (first | apply r1_ | apply r2_ | apply r3_));exact Kd.R_mono HO_1194001.out (fun _ hk => ⟨hk.1.1.1.1,⟨hk.1.1.1.2.1,⟨hk.1.1.1.2.2.1,⟨hk.1.1.1.2.2.2.1,⟨hk.1.1.1.2.2.2.2,⟨hk.1.1.2,⟨hk.1.2,hk.2⟩⟩⟩⟩⟩⟩⟩)⟩,⟨by (with_reducible repeat (first | apply r1_ | apply r2_ | apply r3_));exact Kd.R_mono HO_1194002.out (fun _ hk => ⟨hk.1.1.1.1,⟨hk.1.1.1.2.1,⟨hk.1.1.1.2.2.1,⟨hk.1.1.1.2.2.2.1,⟨hk.1.1.1.2.2.2.2,⟨hk.1.1.2,⟨hk.1.2,hk.2⟩⟩⟩⟩⟩⟩⟩)⟩,⟨by (with_reducible repeat (first | apply r1_ | apply r2_ | apply r3_));exact Kd.R_mono HO_1194003.out (fun _ hk => ⟨hk.1.1.1.1,⟨hk.1.1.1.2.1,⟨hk.1.1.1.2.2.1,⟨hk.1.1.1.2.2.2.1,⟨hk.1.1.1.2.2.2.2,⟨hk.1.1.2,⟨hk.1.2,hk.2⟩⟩⟩⟩⟩⟩⟩)⟩,⟨by (with_reducible repeat (first | apply r1_ | apply r2_ | apply r3_));exact Kd.R_mono HO1207.out (fun _ hk => ⟨hk.1.1.1.1.1.2,⟨hk.1.1.1.1.2,⟨hk.1.1.1.2,⟨hk.1.1.2,⟨hk.1.2,⟨hk.2,⟨hk.1.1.1.1.1.1.1,hk.1.1.1.1.1.1.2⟩⟩⟩⟩⟩⟩⟩)⟩,⟨by (with_reducible repeat (first | apply r1_ | apply r2_ | apply r3_));exact Kd.R_mono HO1210.out (fun _ hk => ⟨hk.1.1.1.1.1.2,⟨hk.1.1.1.1.2,⟨hk.1.1.1.2,⟨hk.1.1.2,⟨hk.1.2,⟨hk.2,⟨hk.1.1.1.1.1.1.1,hk.1.1.1.1.1.1.2⟩⟩⟩⟩⟩⟩⟩)⟩,⟨by (with_reducible repeat (first | apply r1_ | apply r2_ | apply r3_));exact Kd.R_mono HO1213.out (fun _ hk => ⟨hk.1.1.1.1.1.2,⟨hk.1.1.1.1.2,⟨hk.1.1.1.2,⟨hk.1.1.2,⟨hk.1.2,⟨hk.2,⟨hk.1.1.1.1.1.1.1,hk.1.1.1.1.1.1.2⟩⟩⟩⟩⟩⟩⟩)⟩,⟨by (with_reducible repeat (first | apply k1_ | apply k2_ | apply k3_));exact BK1160.out⟩,⟨by (with_reducible repeat (first | apply k1_ | apply k2_ | apply k3_));exact BK1177.out⟩,⟨by (with_reducible repeat (first | apply k1_ | apply k2_ | apply k3_));exact BK1193.out⟩,⟨by (with_reducible repeat (first | apply k1_ | apply k2_ | apply k3_));exact BK1215.out⟩,⟨zl_ HB⟩⟩
        ·replace c83 := Bool.eq_false_iff.mpr c83
         subst c83
         have H1 : (laws_FnExactSignGrant.j1 kj12 t1195 true t1182 t1196 t1197 t1198) = some r := by rw [if_neg (show ¬ (false = true) by decide)] at H;exact H
         clear H
         have H := H1
         clear H1
         have H' := am_ H
         clear H
         have hnb92 := NB1215_1160.out
         have hnc92 := NB1160_1215.out
         have hnb93 := NB1215_1177.out
         have hnc93 := NB1177_1215.out
         have hnb94 := NB1215_1193.out
         have hnc94 := NB1193_1215.out
         obtain ⟨hcz95_0,hcz95_1,hcz95_2,hcz95_3,hfz95_0,hfz95_1,hfz95_2,hfz95_3⟩ := zc4 BK1215
         have hnb96 := NB1177_1160.out
         have hnc96 := NB1160_1177.out
         have hnb97 := NB1177_1193.out
         have hnc97 := NB1193_1177.out
         obtain ⟨hcz98_0,hcz98_1,hcz98_2,hcz98_3,hfz98_0,hfz98_1,hfz98_2,hfz98_3⟩ := zc4 BK1177
         go_wp2_with (first | ((with_reducible refine gate_callee (f := 37) rfl ?_);refine zgl (some 67) Tryd.func37 #[.agg #[.int .i64 t1204,.slice Ao79 t1205.length co79,.slice Ao80 t1208.length co80,.slice Ao81 t1211.length co81],.agg #[.int .i64 t1166,.slice Ao23 t1167.length co23,.slice Ao24 t1170.length co24,.slice Ao25 t1173.length co25]] ?_;(with_reducible refine (laws_eqKeySignature.calls kj12 t1204 _ _ t1205 _ _ t1208 _ _ t1211 t1166 _ _ t1167 _ _ t1170 _ _ t1173 false _ ?side1 ?side2 ?side3 ?side4 ?side5 ?side6 ?side7 ?side8 ?side9 ?side10 ?side11 ?side12 A82.out).mono ?_);(case side1 => refine (Kd.R_reads' (e := 9) (base := w.heap.size) (ok := fun k_ => (((((((some k_ ≠ (.slice Ao80 t1208.length co80 : Value).ownBlock ∧ some k_ ≠ (.slice Ao81 t1211.length co81 : Value).ownBlock) ∧ some k_ ≠ (.slice Ao23 t1167.length co23 : Value).ownBlock) ∧ some k_ ≠ (.slice Ao24 t1170.length co24 : Value).ownBlock) ∧ some k_ ≠ (.slice Ao25 t1173.length co25 : Value).ownBlock) ∧ some k_ ≠ (.slice Ao33 t1183.length co33 : Value).ownBlock) ∧ some k_ ≠ (.slice Ao34 t1186.length co34 : Value).ownBlock) ∧ some k_ ≠ (.slice Ao35 t1189.length co35 : Value).ownBlock)) (n := t1205.length) (c := co79) ?_).2.2;exact (by (with_reducible repeat (first | apply r1_ | apply r2_ | apply r3_));exact (Kd.R_mono (zrf (Kd.R_types HO1207.out BK1215.out (by decide))) (fun _ h_ => h_.1))));(case side2 => exact (Kd.R_reads' HO1207.out).2.1);(case side3 => refine (Kd.R_reads' (e := 9) (base := w.heap.size) (ok := fun k_ => (((((((some k_ ≠ (.slice Ao79 t1205.length co79 : Value).ownBlock ∧ some k_ ≠ (.slice Ao81 t1211.length co81 : Value).ownBlock) ∧ some k_ ≠ (.slice Ao23 t1167.length co23 : Value).ownBlock) ∧ some k_ ≠ (.slice Ao24 t1170.length co24 : Value).ownBlock) ∧ some k_ ≠ (.slice Ao25 t1173.length co25 : Value).ownBlock) ∧ some k_ ≠ (.slice Ao33 t1183.length co33 : Value).ownBlock) ∧ some k_ ≠ (.slice Ao34 t1186.length co34 : Value).ownBlock) ∧ some k_ ≠ (.slice Ao35 t1189.length co35 : Value).ownBlock)) (n := t1208.length) (c := co80) ?_).2.2;exact (by (with_reducible repeat (first | apply r1_ | apply r2_ | apply r3_));exact (Kd.R_mono (zrf (Kd.R_types HO1210.out BK1215.out (by decide))) (fun _ h_ => h_.1))));(case side4 => exact (Kd.R_reads' HO1210.out).2.1);(case side5 => refine (Kd.R_reads' (e := 9) (base := w.heap.size) (ok := fun k_ => (((((((some k_ ≠ (.slice Ao79 t1205.length co79 : Value).ownBlock ∧ some k_ ≠ (.slice Ao80 t1208.length co80 : Value).ownBlock) ∧ some k_ ≠ (.slice Ao23 t1167.length co23 : Value).ownBlock) ∧ some k_ ≠ (.slice Ao24 t1170.length co24 : Value).ownBlock) ∧ some k_ ≠ (.slice Ao25 t1173.length co25 : Value).ownBlock) ∧ some k_ ≠ (.slice Ao33 t1183.length co33 : Value).ownBlock) ∧ some k_ ≠ (.slice Ao34 t1186.length co34 : Value).ownBlock) ∧ some k_ ≠ (.slice Ao35 t1189.length co35 : Value).ownBlock)) (n := t1211.length) (c := co81) ?_).2.2;exact (by (with_reducible repeat (first | apply r1_ | apply r2_ | apply r3_));exact (Kd.R_mono (zrf (Kd.R_types HO1213.out BK1215.out (by decide))) (fun _ h_ => h_.1))));(case side6 => exact (Kd.R_reads' HO1213.out).2.1);(case side7 => refine (Kd.R_reads' (e := 9) (base := w.heap.size) (ok := fun k_ => ((((some k_ ≠ (.slice Ao24 t1170.length co24 : Value).ownBlock ∧ (some k_ ≠ (.slice Ao25 t1173.length co25 : Value).ownBlock ∧ (some k_ ≠ (.slice Ao33 t1183.length co33 : Value).ownBlock ∧ (some k_ ≠ (.slice Ao34 t1186.length co34 : Value).ownBlock ∧ some k_ ≠ (.slice Ao35 t1189.length co35 : Value).ownBlock)))) ∧ some k_ ≠ (.slice Ao79 t1205.length co79 : Value).ownBlock) ∧ some k_ ≠ (.slice Ao80 t1208.length co80 : Value).ownBlock) ∧ some k_ ≠ (.slice Ao81 t1211.length co81 : Value).ownBlock)) (n := t1167.length) (c := co23) ?_).2.2;exact (by (with_reducible repeat (first | apply r1_ | apply r2_ | apply r3_));exact (Kd.R_mono (zrf (Kd.R_types HO_1178001.out BK1215.out (by decide))) (fun _ h_ => h_.1))));(case side8 => exact (Kd.R_reads' HO_1178001.out).2.1);(case side9 => refine (Kd.R_reads' (e := 9) (base := w.heap.size) (ok := fun k_ => ((((some k_ ≠ (.slice Ao23 t1167.length co23 : Value).ownBlock ∧ (some k_ ≠ (.slice Ao25 t1173.length co25 : Value).ownBlock ∧ (some k_ ≠ (.slice Ao33 t1183.length co33 : Value).ownBlock ∧ (some k_ ≠ (.slice Ao34 t1186.length co34 : Value).ownBlock ∧ some k_ ≠ (.slice Ao35 t1189.length co35 : Value).ownBlock)))) ∧ some k_ ≠ (.slice Ao79 t1205.length co79 : Value).ownBlock) ∧ some k_ ≠ (.slice Ao80 t1208.length co80 : Value).ownBlock) ∧ some k_ ≠ (.slice Ao81 t1211.length co81 : Value).ownBlock)) (n := t1170.length) (c := co24) ?_).2.2;exact (by (with_reducible repeat (first | apply r1_ | apply r2_ | apply r3_));exact (Kd.R_mono (zrf (Kd.R_types HO_1178002.out BK1215.out (by decide))) (fun _ h_ => h_.1))));(case side10 => exact (Kd.R_reads' HO_1178002.out).2.1);(case side11 => refine (Kd.R_reads' (e := 9) (base := w.heap.size) (ok := fun k_ => ((((some k_ ≠ (.slice Ao23 t1167.length co23 : Value).ownBlock ∧ (some k_ ≠ (.slice Ao24 t1170.length co24 : Value).ownBlock ∧ (some k_ ≠ (.slice Ao33 t1183.length co33 : Value).ownBlock ∧ (some k_ ≠ (.slice Ao34 t1186.length co34 : Value).ownBlock ∧ some k_ ≠ (.slice Ao35 t1189.length co35 : Value).ownBlock)))) ∧ some k_ ≠ (.slice Ao79 t1205.length co79 : Value).ownBlock) ∧ some k_ ≠ (.slice Ao80 t1208.length co80 : Value).ownBlock) ∧ some k_ ≠ (.slice Ao81 t1211.length co81 : Value).ownBlock)) (n := t1173.length) (c := co25) ?_).2.2;exact (by (with_reducible repeat (first | apply r1_ | apply r2_ | apply r3_));exact (Kd.R_mono (zrf (Kd.R_types HO_1178003.out BK1215.out (by decide))) (fun _ h_ => h_.1))));(case side12 => exact (Kd.R_reads' HO_1178003.out).2.1);rintro e w99 ⟨rfl,hb⟩;refine ⟨_,rfl,?_⟩;replace HO_1178001 := am_ (Kd.R_below (by (with_reducible repeat (first | apply r1_ | apply r2_ | apply r3_));exact (Kd.R_mono (zrf (Kd.R_types HO_1178001.out BK1215.out (by decide))) (fun _ h_ => h_.1))) hb);replace HO_1178002 := am_ (Kd.R_below (by (with_reducible repeat (first | apply r1_ | apply r2_ | apply r3_));exact (Kd.R_mono (zrf (Kd.R_types HO_1178002.out BK1215.out (by decide))) (fun _ h_ => h_.1))) hb);replace HO_1178003 := am_ (Kd.R_below (by (with_reducible repeat (first | apply r1_ | apply r2_ | apply r3_));exact (Kd.R_mono (zrf (Kd.R_types HO_1178003.out BK1215.out (by decide))) (fun _ h_ => h_.1))) hb);replace HO_1194001 := am_ (Kd.R_below (by (with_reducible repeat (first | apply r1_ | apply r2_ | apply r3_));exact (Kd.R_mono (zrf (Kd.R_types HO_1194001.out BK1215.out (by decide))) (fun _ h_ => h_.1))) hb);replace HO_1194002 := am_ (Kd.R_below (by (with_reducible repeat (first | apply r1_ | apply r2_ | apply r3_));exact (Kd.R_mono (zrf (Kd.R_types HO_1194002.out BK1215.out (by decide))) (fun _ h_ => h_.1))) hb);replace HO_1194003 := am_ (Kd.R_below (by (with_reducible repeat (first | apply r1_ | apply r2_ | apply r3_));exact (Kd.R_mono (zrf (Kd.R_types HO_1194003.out BK1215.out (by decide))) (fun _ h_ => h_.1))) hb);replace HO1207 := am_ (Kd.R_below (by (with_reducible repeat (first | apply r1_ | apply r2_ | apply r3_));exact (Kd.R_mono (zrf (Kd.R_types HO1207.out BK1215.out (by decide))) (fun _ h_ => h_.1))) hb);replace HO1210 := am_ (Kd.R_below (by (with_reducible repeat (first | apply r1_ | apply r2_ | apply r3_));exact (Kd.R_mono (zrf (Kd.R_types HO1210.out BK1215.out (by decide))) (fun _ h_ => h_.1))) hb);replace HO1213 := am_ (Kd.R_below (by (with_reducible repeat (first | apply r1_ | apply r2_ | apply r3_));exact (Kd.R_mono (zrf (Kd.R_types HO1213.out BK1215.out (by decide))) (fun _ h_ => h_.1))) hb);replace BK1160 := am_ (blk_below (g := gb1160) (o := .cells #[.string a2_0,.int .i64 a2_1,.int .i64 a2_2,.int .i64 a2_3] 53 (0,0)) (zq BK1160) hb);replace BK1177 := am_ (blk_below (g := gb1177) (o := .cells #[.int .i64 t1166,.slice Ao23 t1167.length co23,.slice Ao24 t1170.length co24,.slice Ao25 t1173.length co25] 56 (0,0)) (zq BK1177) hb);replace BK1193 := am_ (blk_below (g := gb1193) (o := .cells #[.int .i64 t1182,.slice Ao33 t1183.length co33,.slice Ao34 t1186.length co34,.slice Ao35 t1189.length co35] 56 (0,0)) (zq BK1193) hb);replace BK1215 := am_ (blk_below (g := gb1215) (o := .cells #[.int .i64 t1204,.slice Ao79 t1205.length co79,.slice Ao80 t1208.length co80,.slice Ao81 t1211.length co81] 56 (0,0)) (zq BK1215) hb);replace HB := zs_ HB hb;(try clear hb);(try clear hb2);(try clear hk);(try clear hi)))
         go_meet
         case rel => exact ⟨_,(true),(by first | rfl | (simp;done) | (simp [*];done)),H',⟨by have := HJ12.out;first | omega | exact Nat.le_refl _⟩,⟨by (with_reducible repeat (first | apply r1_ | apply r2_ | apply r3_));exact Kd.R_mono HO_1178001.out (fun _ hk => ⟨hk.1.1.1.1,⟨hk.1.1.1.2.1,⟨hk.1.1.1.2.2.1,⟨hk.1.1.1.2.2.2.1,⟨hk.1.1.1.2.2.2.2,⟨hk.1.1.2,⟨hk.1.2,hk.2⟩⟩⟩⟩⟩⟩⟩)⟩,⟨by (with_reducible repeat (first | apply r1_ | apply r2_ | apply r3_));exact Kd.R_mono HO_1178002.out (fun _ hk => ⟨hk.1.1.1.1,⟨hk.1.1.1.2.1,⟨hk.1.1.1.2.2.1,⟨hk.1.1.1.2.2.2.1,⟨hk.1.1.1.2.2.2.2,⟨hk.1.1.2,⟨hk.1.2,hk.2⟩⟩⟩⟩⟩⟩⟩)⟩,⟨by (with_reducible repeat (first | apply r1_ | apply r2_ | apply r3_));exact Kd.R_mono HO_1178003.out (fun _ hk => ⟨hk.1.1.1.1,⟨hk.1.1.1.2.1,⟨hk.1.1.1.2.2.1,⟨hk.1.1.1.2.2.2.1,⟨hk.1.1.1.2.2.2.2,⟨hk.1.1.2,⟨hk.1.2,hk.2⟩⟩⟩⟩⟩⟩⟩)⟩,⟨by (with_reducible repeat (first | apply r1_ | apply r2_ | apply r3_));exact Kd.R_mono HO_1194001.out (fun _ hk => ⟨hk.1.1.1.1,⟨hk.1.1.1.2.1,⟨hk.1.1.1.2.2.1,⟨hk.1.1.1.2.2.2.1,⟨hk.1.1.1.2.2.2.2,⟨hk.1.1.2,⟨hk.1.2,hk.2⟩⟩⟩⟩⟩⟩⟩)⟩,⟨by (with_reducible repeat (first | apply r1_ | apply r2_ | apply r3_));exact Kd.R_mono HO_1194002.out (fun _ hk => ⟨hk.1.1.1.1,⟨hk.1.1.1.2.1,⟨hk.1.1.1.2.2.1,⟨hk.1.1.1.2.2.2.1,⟨hk.1.1.1.2.2.2.2,⟨hk.1.1.2,⟨hk.1.2,hk.2⟩⟩⟩⟩⟩⟩⟩)⟩,⟨by (with_reducible repeat (first | apply r1_ | apply r2_ | apply r3_));exact Kd.R_mono HO_1194003.out (fun _ hk => ⟨hk.1.1.1.1,⟨hk.1.1.1.2.1,⟨hk.1.1.1.2.2.1,⟨hk.1.1.1.2.2.2.1,⟨hk.1.1.1.2.2.2.2,⟨hk.1.1.2,⟨hk.1.2,hk.2⟩⟩⟩⟩⟩⟩⟩)⟩,⟨by (with_reducible repeat (first | apply r1_ | apply r2_ | apply r3_));exact Kd.R_mono HO1207.out (fun _ hk => ⟨hk.1.1.1.1.1.2,⟨hk.1.1.1.1.2,⟨hk.1.1.1.2,⟨hk.1.1.2,⟨hk.1.2,⟨hk.2,⟨hk.1.1.1.1.1.1.1,hk.1.1.1.1.1.1.2⟩⟩⟩⟩⟩⟩⟩)⟩,⟨by (with_reducible repeat (first | apply r1_ | apply r2_ | apply r3_));exact Kd.R_mono HO1210.out (fun _ hk => ⟨hk.1.1.1.1.1.2,⟨hk.1.1.1.1.2,⟨hk.1.1.1.2,⟨hk.1.1.2,⟨hk.1.2,⟨hk.2,⟨hk.1.1.1.1.1.1.1,hk.1.1.1.1.1.1.2⟩⟩⟩⟩⟩⟩⟩)⟩,⟨by (with_reducible repeat (first | apply r1_ | apply r2_ | apply r3_));exact Kd.R_mono HO1213.out (fun _ hk => ⟨hk.1.1.1.1.1.2,⟨hk.1.1.1.1.2,⟨hk.1.1.1.2,⟨hk.1.1.2,⟨hk.1.2,⟨hk.2,⟨hk.1.1.1.1.1.1.1,hk.1.1.1.1.1.1.2⟩⟩⟩⟩⟩⟩⟩)⟩,⟨by (with_reducible repeat (first | apply k1_ | apply k2_ | apply k3_));exact BK1160.out⟩,⟨by (with_reducible repeat (first | apply k1_ | apply k2_ | apply k3_));exact BK1177.out⟩,⟨by (with_reducible repeat (first | apply k1_ | apply k2_ | apply k3_));exact BK1193.out⟩,⟨by (with_reducible repeat (first | apply k1_ | apply k2_ | apply k3_));exact BK1215.out⟩,⟨zl_ HB⟩⟩
       case rest =>
        clear HC63
        try clear c2
        try clear p2
        try clear c3
        try clear c4
        try clear c5
        try clear c5b0
        try clear c6
        try clear c7
        try clear c8
        try clear c9
        try clear c21
        try clear c30
        try clear c31
        try clear c33
        try clear c34
        try clear c35
        try clear c36
        try clear c37
        try clear c38
        try clear c39
        try clear c41
        try clear c44
        try clear c45
        try clear c47
        try clear c50
        try clear c53
        try clear c53b0
        try clear c54
        try clear c55
        try clear c60
        try clear c60b0
        try clear c60b1
        try clear c64
        try clear c65
        try clear c70
        try clear c75
        try clear c76
        try clear c77
        try clear c83
        try clear c84
        try clear c85
        try clear c86
        try clear c88
        try clear c89
        try clear c92
        try clear c93
        try clear c94
        try clear c96
        try clear c97
        try clear hcz15_0
        try clear hcz15_1
        try clear hcz15_2
        try clear hcz15_3
        try clear hcz17_0
        try clear hcz17_1
        try clear hcz17_2
        try clear hcz17_3
        try clear hcz22_0
        try clear hcz22_1
        try clear hcz22_2
        try clear hcz22_3
        try clear hcz26_0
        try clear hcz26_1
        try clear hcz26_2
        try clear hcz26_3
        try clear hcz32_0
        try clear hcz32_1
        try clear hcz32_2
        try clear hcz32_3
        try clear hcz40_0
        try clear hcz40_1
        try clear hcz40_2
        try clear hcz40_3
        try clear hcz42_0
        try clear hcz42_1
        try clear hcz42_2
        try clear hcz42_3
        try clear hcz46_0
        try clear hcz46_1
        try clear hcz46_2
        try clear hcz46_3
        try clear hcz48_0
        try clear hcz48_1
        try clear hcz48_2
        try clear hcz48_3
        try clear hcz56_0
        try clear hcz56_1
        try clear hcz56_2
        try clear hcz56_3
        try clear hcz58_0
        try clear hcz58_1
        try clear hcz58_2
        try clear hcz58_3
        try clear hcz66_0
        try clear hcz66_1
        try clear hcz66_2
        try clear hcz66_3
        try clear hcz68_0
        try clear hcz68_1
        try clear hcz68_2
        try clear hcz68_3
        try clear hcz71_0
        try clear hcz71_1
        try clear hcz71_2
        try clear hcz71_3
        try clear hcz78_0
        try clear hcz78_1
        try clear hcz78_2
        try clear hcz78_3
        try clear hcz7_0
        try clear hcz7_1
        try clear hcz7_2
        try clear hcz7_3
        try clear hcz87_0
        try clear hcz87_1
        try clear hcz87_2
        try clear hcz87_3
        try clear hcz90_0
        try clear hcz90_1
        try clear hcz90_2
        try clear hcz90_3
        try clear hcz95_0
        try clear hcz95_1
        try clear hcz95_2
        try clear hcz95_3
        try clear hcz98_0
        try clear hcz98_1
        try clear hcz98_2
        try clear hcz98_3
        try clear hfz15_0
        try clear hfz15_1
        try clear hfz15_2
        try clear hfz15_3
        try clear hfz17_0
        try clear hfz17_1
        try clear hfz17_2
        try clear hfz17_3
        try clear hfz22_0
        try clear hfz22_1
        try clear hfz22_2
        try clear hfz22_3
        try clear hfz26_0
        try clear hfz26_1
        try clear hfz26_2
        try clear hfz26_3
        try clear hfz32_0
        try clear hfz32_1
        try clear hfz32_2
        try clear hfz32_3
        try clear hfz40_0
        try clear hfz40_1
        try clear hfz40_2
        try clear hfz40_3
        try clear hfz42_0
        try clear hfz42_1
        try clear hfz42_2
        try clear hfz42_3
        try clear hfz46_0
        try clear hfz46_1
        try clear hfz46_2
        try clear hfz46_3
        try clear hfz48_0
        try clear hfz48_1
        try clear hfz48_2
        try clear hfz48_3
        try clear hfz56_0
        try clear hfz56_1
        try clear hfz56_2
        try clear hfz56_3
        try clear hfz58_0
        try clear hfz58_1
        try clear hfz58_2
        try clear hfz58_3
        try clear hfz66_0
        try clear hfz66_1
        try clear hfz66_2
        try clear hfz66_3
        try clear hfz68_0
        try clear hfz68_1
        try clear hfz68_2
        try clear hfz68_3
        try clear hfz71_0
        try clear hfz71_1
        try clear hfz71_2
        try clear hfz71_3
        try clear hfz78_0
        try clear hfz78_1
        try clear hfz78_2
        try clear hfz78_3
        try clear hfz7_0
        try clear hfz7_1
        try clear hfz7_2
        try clear hfz7_3
        try clear hfz87_0
        try clear hfz87_1
        try clear hfz87_2
        try clear hfz87_3
        try clear hfz90_0
        try clear hfz90_1
        try clear hfz90_2
        try clear hfz90_3
        try clear hfz95_0
        try clear hfz95_1
        try clear hfz95_2
        try clear hfz95_3
        try clear hfz98_0
        try clear hfz98_1
        try clear hfz98_2
        try clear hfz98_3
        try clear p2
        obtain ⟨kq,x73_62,rfl,HA,HJ62,HO_1178001,HO_1178002,HO_1178003,HO_1194001,HO_1194002,HO_1194003,HO_1216001,HO_1216002,HO_1216003,BK1160,BK1177,BK1193,BK1215,HB⟩ := hcut
        have hl1194001_62 := (Kd.R_reads' HO_1194001.out).1
        rw [hl1194001_62] at HO_1194001
        (try simp only [hl1194001_62])
        (try simp only [hl1194001_62] at BK1160)
        (try simp only [hl1194001_62] at BK1177)
        (try simp only [hl1194001_62] at BK1193)
        (try simp only [hl1194001_62] at BK1215)
        (try simp only [hl1194001_62] at HO_1178001)
        (try simp only [hl1194001_62] at HO_1178002)
        (try simp only [hl1194001_62] at HO_1178003)
        (try simp only [hl1194001_62] at HO_1194002)
        (try simp only [hl1194001_62] at HO_1194003)
        (try simp only [hl1194001_62] at HO_1216001)
        (try simp only [hl1194001_62] at HO_1216002)
        (try simp only [hl1194001_62] at HO_1216003)
        have hl1194002_62 := (Kd.R_reads' HO_1194002.out).1
        rw [hl1194002_62] at HO_1194002
        (try simp only [hl1194002_62])
        (try simp only [hl1194002_62] at BK1160)
        (try simp only [hl1194002_62] at BK1177)
        (try simp only [hl1194002_62] at BK1193)
        (try simp only [hl1194002_62] at BK1215)
        (try simp only [hl1194002_62] at HO_1178001)
        (try simp only [hl1194002_62] at HO_1178002)
        (try simp only [hl1194002_62] at HO_1178003)
        (try simp only [hl1194002_62] at HO_1194001)
        (try simp only [hl1194002_62] at HO_1194003)
        (try simp only [hl1194002_62] at HO_1216001)
        (try simp only [hl1194002_62] at HO_1216002)
        (try simp only [hl1194002_62] at HO_1216003)
        have hl1194003_62 := (Kd.R_reads' HO_1194003.out).1
        rw [hl1194003_62] at HO_1194003
        (try simp only [hl1194003_62])
        (try simp only [hl1194003_62] at BK1160)
        (try simp only [hl1194003_62] at BK1177)
        (try simp only [hl1194003_62] at BK1193)
        (try simp only [hl1194003_62] at BK1215)
        (try simp only [hl1194003_62] at HO_1178001)
        (try simp only [hl1194003_62] at HO_1178002)
        (try simp only [hl1194003_62] at HO_1178003)
        (try simp only [hl1194003_62] at HO_1194001)
        (try simp only [hl1194003_62] at HO_1194002)
        (try simp only [hl1194003_62] at HO_1216001)
        (try simp only [hl1194003_62] at HO_1216002)
        (try simp only [hl1194003_62] at HO_1216003)
        cases kq with
        | zero => exact absurd HA.out (by simp [laws_FnExactSignGrant.j1])
        | succ kj62 =>
         have H := HA.out
         clear HA
         simp only [laws_FnExactSignGrant.j1] at H
         by_cases c100 : x73_62 = true
         ·subst c100
          have H1 : (some false) = some r := by rw [if_pos rfl] at H;exact H
          clear H
          have H := H1
          clear H1
          obtain rfl := Option.some.inj H
          go_wp2
          go_ret
          exact ⟨zt_,zl_ HB⟩
         ·replace c100 := Bool.eq_false_iff.mpr c100
          subst c100
          have H1 : ((laws_heldKeySignature.f kj62 t1182 t1196 t1197 t1198 1).bind fun t1217 => (if t1217 < 0 then (some false) else (if t1217 = t1195 then (some true) else (some false)))) = some r := by rw [if_neg (show ¬ (false = true) by decide)] at H;exact H
          clear H
          have H := H1
          clear H1
          replace H := Option.bind_eq_some_iff.mp H
          obtain ⟨t1217,A1010,H⟩ := H
          try dsimp only at H
          have A101 := am_ A1010
          clear A1010
          by_cases c102 : t1217 < 0
          ·rw [if_pos c102] at H
           have c102b0 : decide (t1217 < 0) = true := decide_eq_true c102
           clear c102
           obtain rfl := Option.some.inj H
           have hnb103 := NB1193_1160.out
           have hnc103 := NB1160_1193.out
           have hnb104 := NB1193_1177.out
           have hnc104 := NB1177_1193.out
           have hnb105 := NB1193_1215.out
           have hnc105 := NB1215_1193.out
           obtain ⟨hcz106_0,hcz106_1,hcz106_2,hcz106_3,hfz106_0,hfz106_1,hfz106_2,hfz106_3⟩ := zc4 BK1193
           go_wp2_with (first | ((with_reducible refine gate_callee (f := 39) rfl ?_);refine zgl (some 76) Tryd.func39 #[.agg #[.int .i64 t1182,.slice Ao33 t1196.length co33,.slice Ao34 t1197.length co34,.slice Ao35 t1198.length co35],.int .i64 1] ?_;(with_reducible refine (laws_heldKeySignature.calls kj62 t1182 _ _ t1196 _ _ t1197 _ _ t1198 1 t1217 _ ?side1 ?side2 ?side3 ?side4 ?side5 ?side6 A101.out).mono ?_);(case side1 => repeat (first | exact (Kd.R_reads' HO_1194001.out).2.2 | (with_reducible refine Kd.C_alloc ?_ _) | (with_reducible refine Kd.C_drewN ?_ _) | (with_reducible refine Kd.C_drew ?_)));(case side2 => exact (Kd.R_reads' HO_1194001.out).2.1);(case side3 => repeat (first | exact (Kd.R_reads' HO_1194002.out).2.2 | (with_reducible refine Kd.C_alloc ?_ _) | (with_reducible refine Kd.C_drewN ?_ _) | (with_reducible refine Kd.C_drew ?_)));(case side4 => exact (Kd.R_reads' HO_1194002.out).2.1);(case side5 => repeat (first | exact (Kd.R_reads' HO_1194003.out).2.2 | (with_reducible refine Kd.C_alloc ?_ _) | (with_reducible refine Kd.C_drewN ?_ _) | (with_reducible refine Kd.C_drew ?_)));(case side6 => exact (Kd.R_reads' HO_1194003.out).2.1);rintro e w107 ⟨rfl,hb⟩;refine ⟨_,rfl,?_⟩;replace HO_1194001 := zrb HO_1194001 hb;replace HO_1194002 := zrb HO_1194002 hb;replace HO_1194003 := zrb HO_1194003 hb;replace BK1193 := zb BK1193 hb;replace HB := zs_ HB hb;(try clear hb);(try clear hb2);(try clear hk);(try clear hi)))
           go_ret
           exact ⟨zt_,zl_ HB⟩
          ·rw [if_neg c102] at H
           have c102b0 : decide (t1217 < 0) = false := decide_eq_false c102
           clear c102
           by_cases c108 : t1217 = t1195
           ·rw [if_pos c108] at H
            have c108b0 : (t1217 == t1195) = true := beq_iff_eq.mpr c108
            have c108b1 : (t1217 != t1195) = false := bne_eq_false_iff_eq.mpr c108
            clear c108
            obtain rfl := Option.some.inj H
            have hnb109 := NB1193_1160.out
            have hnc109 := NB1160_1193.out
            have hnb110 := NB1193_1177.out
            have hnc110 := NB1177_1193.out
            have hnb111 := NB1193_1215.out
            have hnc111 := NB1215_1193.out
            obtain ⟨hcz112_0,hcz112_1,hcz112_2,hcz112_3,hfz112_0,hfz112_1,hfz112_2,hfz112_3⟩ := zc4 BK1193
            go_wp2_with (first | ((with_reducible refine gate_callee (f := 39) rfl ?_);refine zgl (some 76) Tryd.func39 #[.agg #[.int .i64 t1182,.slice Ao33 t1196.length co33,.slice Ao34 t1197.length co34,.slice Ao35 t1198.length co35],.int .i64 1] ?_;(with_reducible refine (laws_heldKeySignature.calls kj62 t1182 _ _ t1196 _ _ t1197 _ _ t1198 1 t1217 _ ?side1 ?side2 ?side3 ?side4 ?side5 ?side6 A101.out).mono ?_);(case side1 => repeat (first | exact (Kd.R_reads' HO_1194001.out).2.2 | (with_reducible refine Kd.C_alloc ?_ _) | (with_reducible refine Kd.C_drewN ?_ _) | (with_reducible refine Kd.C_drew ?_)));(case side2 => exact (Kd.R_reads' HO_1194001.out).2.1);(case side3 => repeat (first | exact (Kd.R_reads' HO_1194002.out).2.2 | (with_reducible refine Kd.C_alloc ?_ _) | (with_reducible refine Kd.C_drewN ?_ _) | (with_reducible refine Kd.C_drew ?_)));(case side4 => exact (Kd.R_reads' HO_1194002.out).2.1);(case side5 => repeat (first | exact (Kd.R_reads' HO_1194003.out).2.2 | (with_reducible refine Kd.C_alloc ?_ _) | (with_reducible refine Kd.C_drewN ?_ _) | (with_reducible refine Kd.C_drew ?_)));(case side6 => exact (Kd.R_reads' HO_1194003.out).2.1);rintro e w113 ⟨rfl,hb⟩;refine ⟨_,rfl,?_⟩;replace HO_1194001 := zrb HO_1194001 hb;replace HO_1194002 := zrb HO_1194002 hb;replace HO_1194003 := zrb HO_1194003 hb;replace BK1193 := zb BK1193 hb;replace HB := zs_ HB hb;(try clear hb);(try clear hb2);(try clear hk);(try clear hi)))
            go_ret
            exact ⟨zt_,zl_ HB⟩
           ·rw [if_neg c108] at H
            have c108b0 : (t1217 == t1195) = false := beq_eq_false_iff_ne.mpr c108
            have c108b1 : (t1217 != t1195) = true := bne_iff_ne.mpr c108
            obtain rfl := Option.some.inj H
            have hnb114 := NB1193_1160.out
            have hnc114 := NB1160_1193.out
            have hnb115 := NB1193_1177.out
            have hnc115 := NB1177_1193.out
            have hnb116 := NB1193_1215.out
            have hnc116 := NB1215_1193.out
            obtain ⟨hcz117_0,hcz117_1,hcz117_2,hcz117_3,hfz117_0,hfz117_1,hfz117_2,hfz117_3⟩ := zc4 BK1193
            go_wp2_with (first | ((with_reducible refine gate_callee (f := 39) rfl ?_);refine zgl (some 76) Tryd.func39 #[.agg #[.int .i64 t1182,.slice Ao33 t1196.length co33,.slice Ao34 t1197.length co34,.slice Ao35 t1198.length co35],.int .i64 1] ?_;(with_reducible refine (laws_heldKeySignature.calls kj62 t1182 _ _ t1196 _ _ t1197 _ _ t1198 1 t1217 _ ?side1 ?side2 ?side3 ?side4 ?side5 ?side6 A101.out).mono ?_);(case side1 => repeat (first | exact (Kd.R_reads' HO_1194001.out).2.2 | (with_reducible refine Kd.C_alloc ?_ _) | (with_reducible refine Kd.C_drewN ?_ _) | (with_reducible refine Kd.C_drew ?_)));(case side2 => exact (Kd.R_reads' HO_1194001.out).2.1);(case side3 => repeat (first | exact (Kd.R_reads' HO_1194002.out).2.2 | (with_reducible refine Kd.C_alloc ?_ _) | (with_reducible refine Kd.C_drewN ?_ _) | (with_reducible refine Kd.C_drew ?_)));(case side4 => exact (Kd.R_reads' HO_1194002.out).2.1);(case side5 => repeat (first | exact (Kd.R_reads' HO_1194003.out).2.2 | (with_reducible refine Kd.C_alloc ?_ _) | (with_reducible refine Kd.C_drewN ?_ _) | (with_reducible refine Kd.C_drew ?_)));(case side6 => exact (Kd.R_reads' HO_1194003.out).2.1);rintro e w118 ⟨rfl,hb⟩;refine ⟨_,rfl,?_⟩;replace HB := zs_ HB hb;(try clear hb);(try clear hb2);(try clear hk);(try clear hi)))
            go_ret
            exact ⟨zt_,zl_ HB⟩
      ·rw [if_neg c60] at H
       have c60b0 : (t1199 == t1195) = false := beq_eq_false_iff_ne.mpr c60
       have c60b1 : (t1199 != t1195) = true := bne_iff_ne.mpr c60
       obtain rfl := Option.some.inj H
       have hnb119 := NB1193_1160.out
       have hnc119 := NB1160_1193.out
       have hnb120 := NB1193_1177.out
       have hnc120 := NB1177_1193.out
       obtain ⟨hcz121_0,hcz121_1,hcz121_2,hcz121_3,hfz121_0,hfz121_1,hfz121_2,hfz121_3⟩ := zc4 BK1193
       go_wp2_with (first | ((with_reducible refine gate_callee (f := 38) rfl ?_);refine zgl (some 48) Tryd.func38 #[.agg #[.int .i64 t1182,.slice Ao33 t1183.length co33,.slice Ao34 t1186.length co34,.slice Ao35 t1189.length co35],.int .i64 1] ?_;(with_reducible refine (laws_markKeySignature.calls kj12 t1182 (fun k_ => some k_ = (.slice Ao33 t1183.length co33 : Value).ownBlock) (.slice Ao33 t1183.length co33) t1183 (fun k_ => some k_ = (.slice Ao34 t1186.length co34 : Value).ownBlock) (.slice Ao34 t1186.length co34) t1186 (fun k_ => some k_ = (.slice Ao35 t1189.length co35 : Value).ownBlock) (.slice Ao35 t1189.length co35) t1189 1 t1195 t1196 t1197 t1198 w _ ?side1 ?side2 ?side3 ?side4 ?side5 ?side6 ?side7 ?side8 ?side9 ?side10 A51.out).mono ?_);(case side1 => exact zl_ HB);(case side2 => exact Kd.R_tight rfl HO_1194001.out);(case side3 => exact fun k_ e_ => (HO_1194001.out.1 k_ e_.symm).2.2.2.1);(case side4 => exact fun k_ e_ => (HO_1194001.out.1 k_ e_.symm).2.2.2.2);(case side5 => exact Kd.R_tight rfl HO_1194002.out);(case side6 => exact fun k_ e_ => (HO_1194002.out.1 k_ e_.symm).2.2.2.1);(case side7 => exact fun k_ e_ => (HO_1194002.out.1 k_ e_.symm).2.2.2.2);(case side8 => exact Kd.R_tight rfl HO_1194003.out);(case side9 => exact fun k_ e_ => (HO_1194003.out.1 k_ e_.symm).2.2.2.1);(case side10 => exact fun k_ e_ => (HO_1194003.out.1 k_ e_.symm).2.2.2.2);rintro e w122 ⟨rfl,hy0,hy1,hy2,hb,hkp⟩;refine ⟨_,rfl,?_⟩;replace BK1193 := am_ (blk_kept (zk BK1193) hkp (fun hs_ => Or.elim hs_ (fun e_ => (fun e_ => (Kd.R_ne HO_1194001.out BK1193.out (by decide)) e_) e_) (fun e_ => Or.elim e_ (fun e_ => (fun e_ => (Kd.R_ne HO_1194002.out BK1193.out (by decide)) e_) e_) (fun e_ => (fun e_ => (Kd.R_ne HO_1194003.out BK1193.out (by decide)) e_) e_))));replace HO_1194001 := am_ (Kd.R_reok rfl hy0 (fun k_ e_ => HO_1194001.out.1 k_ e_));replace HO_1194002 := am_ (Kd.R_reok rfl hy1 (fun k_ e_ => HO_1194002.out.1 k_ e_));replace HO_1194003 := am_ (Kd.R_reok rfl hy2 (fun k_ e_ => HO_1194003.out.1 k_ e_));replace HB := am_ (hb);(try clear hb);(try clear hkp);(try clear hy0);(try clear hy1);(try clear hy2);obtain ⟨hcz123_0,hcz123_1,hcz123_2,hcz123_3,hfz123_0,hfz123_1,hfz123_2,hfz123_3⟩ := zc4 BK1193) | ((with_reducible refine gate_callee (f := 39) rfl ?_);refine goesL_ (some 51) rfl rfl Tryd.func39 (by kernel_rfl) rfl #[.agg #[.int .i64 t1182,.slice Ao33 t1196.length co33,.slice Ao34 t1197.length co34,.slice Ao35 t1198.length co35],.int .i64 1] rfl (by (try simp only [m1_,m2_,m3_]);first | done | (rw [show t1196.length = t1183.length from (Kd.R_reads' HO_1194001.out).1.symm,show t1197.length = t1186.length from (Kd.R_reads' HO_1194002.out).1.symm,show t1198.length = t1189.length from (Kd.R_reads' HO_1194003.out).1.symm] <;> rfl) | rfl | (simp only [d1_,d2_];rfl)) ?_;(with_reducible refine (laws_heldKeySignature.calls kj12 t1182 _ _ t1196 _ _ t1197 _ _ t1198 1 t1199 _ ?side1 ?side2 ?side3 ?side4 ?side5 ?side6 A52.out).mono ?_);(case side1 => repeat (first | exact (Kd.R_reads' HO_1194001.out).2.2 | (with_reducible refine Kd.C_alloc ?_ _) | (with_reducible refine Kd.C_drewN ?_ _) | (with_reducible refine Kd.C_drew ?_)));(case side2 => rw [show t1196.length = t1183.length from (Kd.R_reads' HO_1194001.out).1.symm];exact (Kd.R_reads' HO_1194001.out).2.1);(case side3 => repeat (first | exact (Kd.R_reads' HO_1194002.out).2.2 | (with_reducible refine Kd.C_alloc ?_ _) | (with_reducible refine Kd.C_drewN ?_ _) | (with_reducible refine Kd.C_drew ?_)));(case side4 => rw [show t1197.length = t1186.length from (Kd.R_reads' HO_1194002.out).1.symm];exact (Kd.R_reads' HO_1194002.out).2.1);(case side5 => repeat (first | exact (Kd.R_reads' HO_1194003.out).2.2 | (with_reducible refine Kd.C_alloc ?_ _) | (with_reducible refine Kd.C_drewN ?_ _) | (with_reducible refine Kd.C_drew ?_)));(case side6 => rw [show t1198.length = t1189.length from (Kd.R_reads' HO_1194003.out).1.symm];exact (Kd.R_reads' HO_1194003.out).2.1);rintro e w124 ⟨rfl,hb⟩;refine ⟨_,rfl,?_⟩;replace HB := zs_ HB hb;(try clear hb);(try clear hb2);(try clear hk);(try clear hi)))
       go_ret
       exact ⟨zt_,zl_ HB⟩
end Go.Proofs.YtadablpppkjdbaaDoor.B
end
