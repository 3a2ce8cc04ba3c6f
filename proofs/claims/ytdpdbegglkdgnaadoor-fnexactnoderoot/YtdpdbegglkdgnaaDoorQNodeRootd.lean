/- A part of the proof that FnExactNodeRoot returns true at every input: plain functions, contracts and lemmas. No conditions. -/
import Derived.Test.YtdpdbegglkdgnaaDoorQNodeRootc
set_option linter.unusedVariables false
set_option linter.unusedSimpArgs false
set_option linter.unusedSectionVars false
section
namespace Go.Proofs.YtdpdbegglkdgnaaDoor.A
open Go.RowKit Go.Proofs.YtdpdbegglkdgnaaDoorW.PrintWords Go.Proofs.YtdpdbegglkdgnaaDoorW.PrintLast Go.Proofs.YtdpdbegglkdgnaaDoorW.PrintMore
attribute [local go_sem] max2_int min2_int max_two min_two max_three min_three max_four min_four
set_option maxHeartbeats 8000000 in
set_option maxRecDepth 100000 in
theorem spec_l03Node.calls (k : Nat) (a0 : ByteArray) (a1 : ByteArray) (r : ByteArray) (w : World) (h : spec_l03Node.f k a0 a1 = some r) :
  Calls Tryd.prog 106 #[.string a0,.string a1] w fun e w' => e = .returned (.string r) ∧ Below w.heap.size w w' := by
 have HB := am_ (Below.refl w.heap.size w)
 have H : (if 4 + a0.size ≤ 9223372036854775807 then (if ((⟨#[110,111,100,101]⟩ : ByteArray) ++ a0).size + a1.size ≤ 9223372036854775807 then (if (((⟨#[110,111,100,101]⟩ : ByteArray) ++ a0) ++ a1).size ≤ 140737488355328 then ((spec_l01Hash.f k (bytesOf (((⟨#[110,111,100,101]⟩ : ByteArray) ++ a0) ++ a1))).bind fun t378 => (some t378)) else (none)) else (none)) else (none)) = some r := h
 clear h
 by_cases c3 : 4 + a0.size ≤ 9223372036854775807
 ·rw [if_pos c3] at H
  have c3b0 := eq_true c3
  have c3b1 : decide (4 + a0.size ≤ 9223372036854775807) = true := decide_eq_true c3
  try have c3b2 : (9223372036854775807 < 4 + a0.size) = False := eq_false (Nat.not_lt.2 c3)
  by_cases c4 : ((⟨#[110,111,100,101]⟩ : ByteArray) ++ a0).size + a1.size ≤ 9223372036854775807
  ·rw [if_pos c4] at H
   have c4b0 := eq_true c4
   have c4b1 : decide (((⟨#[110,111,100,101]⟩ : ByteArray) ++ a0).size + a1.size ≤ 9223372036854775807) = true := decide_eq_true c4
   try have c4b2 : (9223372036854775807 < ((⟨#[110,111,100,101]⟩ : ByteArray) ++ a0).size + a1.size) = False := eq_false (Nat.not_lt.2 c4)
   (try have c4b3 := c4b2;simp only [ByteArray.size_append,show (⟨#[110,111,100,101]⟩ : ByteArray).size = 4 from rfl] at c4b3)
   by_cases c5 : (((⟨#[110,111,100,101]⟩ : ByteArray) ++ a0) ++ a1).size ≤ 140737488355328
   ·rw [if_pos c5] at H
    have c5b0 := eq_true c5
    have c5b1 : decide ((((⟨#[110,111,100,101]⟩ : ByteArray) ++ a0) ++ a1).size ≤ 140737488355328) = true := decide_eq_true c5
    obtain ⟨y375,hy375⟩ : ∃ y_ : List Int,y_ = (bytesOf (((⟨#[110,111,100,101]⟩ : ByteArray) ++ a0) ++ a1)) := ⟨_,rfl⟩
    replace H : ((spec_l01Hash.f k y375).bind fun t378 => (some t378)) = some r := by first | (rw [hy375];with_reducible exact H) | (have H2_ := (Option.bind_some _ _).symm.trans H;rw [hy375];with_reducible exact H2_) | (have H2_ := (Option.bind_some _ _).symm.trans H;with_reducible exact H2_) | with_reducible exact H | (rw [hy375];exact H) | exact H
    have Ny375 := am_ hy375
    clear hy375
    replace H := Option.bind_eq_some_iff.mp H
    obtain ⟨t378,A60,H⟩ := H
    try dsimp only at H
    have A6 := am_ A60
    clear A60
    obtain rfl := Option.some.inj H
    go_enter Tryd.func106,Tryd.ntmps106
    go_wp2_with (first | ((with_reducible refine gate_dst (N := 9) rfl ?_);refine Kd.V_conv (Kd.int .u8) rfl _ 5 rfl (N := 9) rfl 9 94 _ rfl (((⟨#[110,111,100,101]⟩ : ByteArray) ++ a0) ++ a1) rfl Tryd.underlying9 Tryd.underlying94 Tryd.underlying5 (ok := fun k_ => w.heap.size ≤ k_) (okp := fun _ => False) (fun _ hk => hk.elim) (Nat.le_refl _) (by have := o1_ (by first | (with_reducible assumption) | assumption : decide ((((⟨#[110,111,100,101]⟩ : ByteArray) ++ a0) ++ a1).size ≤ 140737488355328) = true);omega) (Below.refl _ _) (Nat.le_refl _) ?_;intro v376 w7 ho8 hb hg_ hnew_;clear hg_ hnew_;(first | rw [← Ny375.out] at ho8 | (simp only [Int.reduceToNat] at ho8;rw [← Ny375.out] at ho8));have n0_ := am_ (Kd.V_lower (Kd.V_mono (ok' := fun k_ => True) ho8 (fun k_ hk_ => trivial)) (below_size (by repeat (first | (with_reducible first | exact HB.out | apply b1_ | apply b2_ | apply b3_) | exact HB.out))));have n1_ := am_ (below_step (by repeat (first | (with_reducible first | exact HB.out | apply b1_ | apply b2_ | apply b3_) | exact HB.out)) hb);clear HB;have HO377 := n0_;have HB := n1_;clear n0_ n1_;clear hb ho8;obtain ⟨Ao9,co9,eo9⟩ := Kd.V_slice HO377.out;subst eo9) | ((with_reducible refine gate_callee (f := 83) rfl ?_);refine goesL_ (some 10) rfl rfl Tryd.func83 (by kernel_rfl) rfl #[.slice Ao9 y375.length co9] rfl (by (try simp only [m1_,m2_,m3_]);first | done | rfl | (simp only [d1_,d2_];rfl)) ?_;(with_reducible refine (spec_l01Hash.calls k _ _ y375 t378 _ ?side1 ?side2 A6.out).mono ?_);(case side1 => repeat (first | exact (Kd.V_reads' HO377.out).2.2 | (with_reducible refine Kd.C_alloc ?_ _) | (with_reducible refine Kd.C_drewN ?_ _) | (with_reducible refine Kd.C_drew ?_)));(case side2 => exact (Kd.V_reads' HO377.out).2.1);rintro e w10 ⟨rfl,hb⟩;refine ⟨_,rfl,?_⟩;have n0_ := am_ (Kd.V_below (by (with_reducible repeat (first | apply Kd.V_alloc | apply Kd.V_drewN | apply Kd.V_drew));exact HO377.out) hb);have n1_ := am_ (below_step (by repeat (first | (with_reducible first | exact HB.out | apply b1_ | apply b2_ | apply b3_) | exact HB.out)) hb);clear HO377;clear HB;have HO377 := n0_;have HB := n1_;clear n0_ n1_;(try clear hb);(try clear hb2);(try clear hk);(try clear hi)))
    go_ret
    exact ⟨by first | rfl | (simp [e1_,e2_] <;> rfl) | (simp [*,e1_,e2_] <;> rfl) | (simp [e3_,e4_];done) | (simp [*,e3_,e4_];done),by repeat (first | (with_reducible first | exact HB.out | apply b1_ | apply b2_ | apply b3_) | exact HB.out)⟩
   ·rw [if_neg c5] at H
    exact absurd H (by simp)
  ·rw [if_neg c4] at H
   exact absurd H (by simp)
 ·rw [if_neg c3] at H
  exact absurd H (by simp)
def spec_l03Level.T5 : Bool × List (List Nat × List Nat) := (true,[([],[]),([],[]),([],[]),([1,2],[1,2]),([3],[3]),([],[]),([],[]),([6],[6]),([5,7],[5,7]),([8],[8]),([4,9],[4,9]),([10],[10]),([0,11,10],[0,11]),([12,12,0,1,2,3,4,5,6,7,8,9,10,11,12],[0,12])])
def spec_l03Level.B5 : List Nat := [0,0,0,6,14,0,0,64,224,480,1022,2046,4095,8191]
theorem spec_l03Level.tab5 : rtab .any (opsOf Tryd.f96 5) = spec_l03Level.T5 := by kernel_rfl
theorem spec_l03Level.bits5 : waitsOk spec_l03Level.T5.2 spec_l03Level.B5 = true := by kernel_rfl
set_option maxHeartbeats 8000000 in
set_option maxRecDepth 100000 in
theorem spec_l03Level.calls (k : Nat) (A0 : Option Addr) (c0 : Nat) (l0 : List ByteArray) (r : List ByteArray) (w : World) (hr0 : Kd.C Kd.string w A0 l0.length l0) (hc0 : l0.length ≤ c0) (h : spec_l03Level.f k l0 = some r) :
  Calls Tryd.prog 96 #[.slice A0 l0.length c0] w fun e w' => ∃ v0_ : Value,e = .returned (v0_) ∧ Kd.R Kd.string 9 w' w.heap.size (fun _ => True) v0_ r ∧ Below w.heap.size w w' := by
 have HR0 := am_ hr0
 have HC0 := am_ hc0
 clear hr0 hc0
 have HB := am_ (Below.refl w.heap.size w)
 have H : (spec_l03Level.l0 k l0 (([] : List ByteArray)) 0) = some r := h
 clear h
 obtain ⟨y379,hy379⟩ : ∃ y_ : List ByteArray,y_ = (([] : List ByteArray)) := ⟨_,rfl⟩
 replace H : (spec_l03Level.l0 k l0 y379 0) = some r := by first | (rw [hy379];with_reducible exact H) | (have H2_ := (Option.bind_some _ _).symm.trans H;rw [hy379];with_reducible exact H2_) | (have H2_ := (Option.bind_some _ _).symm.trans H;with_reducible exact H2_) | with_reducible exact H | (rw [hy379];exact H) | exact H
 have Ny379 := am_ hy379
 clear hy379
 have H' := am_ H
 clear H
 go_enter Tryd.func96,Tryd.ntmps96
 go_wp2_with (first | ((with_reducible refine gate_dst (N := 5) rfl ?_);refine Kd.R_lit Kd.string _ 9 ?hg (N := 5) ?hd (xs := ([] : List ByteArray)) (inner := []) (ok := fun _ => True) (okp := fun _ => True) ?hr ?hp (fun _ hk => hk) trivial (Below.refl _ _) (Nat.le_refl _) (by simp) ?_;(case hd => rfl);(case hg => rfl);(case hr => first | (go_simp;done) | (go_simp;rfl));(case hp => exact (Reps.none _ _));intro v380 w2 ho3 hb hg_ hnew_;clear hg_ hnew_;(first | rw [← Ny379.out] at ho3 | (simp only [Int.reduceToNat] at ho3;rw [← Ny379.out] at ho3));have n0_ := am_ (Kd.R_lower ho3 (below_size (by repeat (first | (with_reducible first | exact HB.out | apply b1_ | apply b2_ | apply b3_) | exact HB.out))));have n1_ := am_ (below_step (by repeat (first | (with_reducible first | exact HB.out | apply b1_ | apply b2_ | apply b3_) | exact HB.out)) hb);clear HB;have HO381 := n0_;have HB := n1_;clear n0_ n1_;clear hb ho3))
 go_loopg [3,4] k (fun kq v3 v4 w' => ∃ (x3_1 : List ByteArray) (x4_1 : Int),v4 = .int .i64 x4_1 ∧ Aside0 (spec_l03Level.l0 kq l0 x3_1 x4_1 = some r) ∧ Aside0 (kq ≤ k) ∧ Aside0 (Kd.R Kd.string 9 w' w.heap.size (fun _ => True) v3 x3_1) ∧ Aside0 (Below w.heap.size w w'))
 case atStart => exact ⟨(y379),(0),(by first | rfl | (simp;done) | (simp [*];done)),H',⟨Nat.le_refl _⟩,⟨by (with_reducible repeat (first | apply r1_ | apply r2_ | apply r3_));exact HO381.out⟩,⟨by repeat (first | (with_reducible first | exact HB.out | apply b1_ | apply b2_ | apply b3_) | exact HB.out)⟩⟩
 case round =>
  clear H'
  try clear p2
  obtain ⟨x3_1,x4_1,rfl,HA,HK1,HO_3,HB⟩ := hrel
  cases gk with
  | zero => exact absurd HA.out (by simp [spec_l03Level.l0])
  | succ k1 =>
   have H := HA.out
   clear HA
   simp only [spec_l03Level.l0] at H
   by_cases c4 : x4_1 < (l0.length : Int)
   ·rw [if_pos c4] at H
    have c4b0 : decide (x4_1 < (l0.length : Int)) = true := decide_eq_true c4
    clear c4
    by_cases c5 : 0 ≤ x4_1
    ·rw [if_pos c5] at H
     have c5b0 : decide (0 ≤ x4_1) = true := decide_eq_true c5
     clear c5
     obtain ⟨ji6,hji6⟩ : ∃ j_ : Int,(wrap64 (x4_1 + 1)) = j_ := ⟨_,rfl⟩
     replace H : (if 0 ≤ (ji6) then (if (ji6) < (l0.length : Int) then ((spec_l03Node.f k1 (rdOf ByteArray.empty l0 x4_1) (rdOf ByteArray.empty l0 (ji6))).bind fun t384 => (if x3_1.length < 8796093022208 then (spec_l03Level.l0 k1 l0 (x3_1 ++ [t384]) (wrap64 (x4_1 + 2))) else (none))) else (none)) else (none)) = some r := by first | (rw [hji6] at H;exact H) | (simp only [hji6] at H ⊢;exact H)
     have hji6w : (IntKind.i64.wrap (x4_1 + 1)) = ji6 := (i64_w _).trans hji6
     by_cases c7 : 0 ≤ (ji6)
     ·rw [if_pos c7] at H
      have c7b0 : decide (0 ≤ (ji6)) = true := decide_eq_true c7
      clear c7
      by_cases c8 : (ji6) < (l0.length : Int)
      ·rw [if_pos c8] at H
       have c8b0 : decide ((ji6) < (l0.length : Int)) = true := decide_eq_true c8
       clear c8
       replace H := Option.bind_eq_some_iff.mp H
       obtain ⟨t384,A90,H⟩ := H
       try dsimp only at H
       have A9 := am_ A90
       clear A90
       by_cases c10 : x3_1.length < 8796093022208
       ·rw [if_pos c10] at H
        have LMc10 := am_ c10
        clear c10
        obtain ⟨y385,hy385⟩ : ∃ y_ : List ByteArray,y_ = (x3_1 ++ [t384]) := ⟨_,rfl⟩
        replace H : (spec_l03Level.l0 k1 l0 y385 (wrap64 (x4_1 + 2))) = some r := by first | (rw [hy385];with_reducible exact H) | (have H2_ := (Option.bind_some _ _).symm.trans H;rw [hy385];with_reducible exact H2_) | (have H2_ := (Option.bind_some _ _).symm.trans H;with_reducible exact H2_) | with_reducible exact H | (rw [hy385];exact H) | exact H
        have Ny385 := am_ hy385
        clear hy385
        have H' := am_ H
        clear H
        try go_wp2
        have n0_ := am_ (Kd.R_drew HO_3.out)
        have n1_ := am_ (below_drew1 HB.out)
        clear HO_3
        clear HB
        have HO_3 := n0_
        have HB := n1_
        clear n0_ n1_
        have p382 : 0 ≤ (x4_1 : Int) := o1_ (by first | (with_reducible assumption) | assumption)
        have q382 : x4_1 < (l0.length : Int) := o1_ (by first | (with_reducible assumption) | assumption)
        obtain ⟨ad382,e382,hx382_0⟩ := Kd.at_string HR0.out x4_1 p382 q382
        have hw382_0 := hx382_0
        cases e382
        replace hx382_0 := (HB.out.cell (World.block_lt_of_cell? w _ hx382_0)).trans hx382_0
        replace p382 := eq_true p382
        replace q382 := eq_true q382
        have p383 : 0 ≤ ((ji6) : Int) := o1_ (by first | (with_reducible assumption) | assumption)
        have q383 : (ji6) < (l0.length : Int) := o1_ (by first | (with_reducible assumption) | assumption)
        obtain ⟨ad383,e383,hx383_0⟩ := Kd.at_string HR0.out (ji6) p383 q383
        have hw383_0 := hx383_0
        obtain rfl : ad382 = ad383 := (by injection e383)
        replace hx383_0 := (HB.out.cell (World.block_lt_of_cell? w _ hx383_0)).trans hx383_0
        replace p383 := eq_true p383
        replace q383 := eq_true q383
        refine start_ (n := 14) (S := fun w' => w'.cell? (ad382.add (x4_1).toNat) = some (.string (rdOf ByteArray.empty l0 x4_1)) ∧ w'.cell? (ad382.add ((ji6)).toNat) = some (.string (rdOf ByteArray.empty l0 (ji6)))) (ds := []) #[false,false,false,false,false,false,false,false,false,false,false,false,false,false] (by kernel_rfl) rfl rfl ⟨((HB.out.cell (World.block_lt_of_cell? w _ hw382_0)).trans hw382_0),((HB.out.cell (World.block_lt_of_cell? w _ hw383_0)).trans hw383_0)⟩ (fun hHeld => ?_);refine with_tabW spec_l03Level.tab5 spec_l03Level.bits5 (fun HT_ HW_ => ?_)
        generalize wr.drew = w11 at HO_3 HB hx382_0 hx383_0 hHeld ⊢
        refine pure_ (i := 0) (N := some 12) (v := ?_) (a' := ?_) #[true,false,false,false,false,false,false,false,false,false,false,false,false,false] rfl rfl (any_of HT_.out (by kernel_rfl)) (fun _ _ _ h => h) (Or.inl ⟨by rfl,?_⟩) ?_ ?_
        rotate_left
        ·intro w'
         go_simp
         with_reducible rfl
        rotate_left
        ·simp only [Act.put,p1_,p2_,p3_,i64_w,i32_w]
         rfl
        refine pure_ (i := 1) (N := some 13) (v := ?_) (a' := ?_) #[true,true,false,false,false,false,false,false,false,false,false,false,false,false] rfl rfl (any_of HT_.out (by kernel_rfl)) (fun _ _ _ h => h) (Or.inl ⟨by rfl,?_⟩) ?_ ?_
        rotate_left
        ·intro w'
         go_simp
         with_reducible rfl
        rotate_left
        ·simp only [Act.put,p1_,p2_,p3_,i64_w,i32_w]
         rfl
        refine pure_ (i := 2) (N := some 14) (v := ?_) (a' := ?_) #[true,true,true,false,false,false,false,false,false,false,false,false,false,false] rfl rfl (any_of HT_.out (by kernel_rfl)) (fun _ _ _ h => h) (Or.inl ⟨by rfl,?_⟩) ?_ ?_
        rotate_left
        ·intro w'
         go_simp
         with_reducible rfl
        rotate_left
        ·simp only [Act.put,p1_,p2_,p3_,i64_w,i32_w]
         rfl
        refine pure_ (i := 3) (N := some 15) (v := ?_) (a' := ?_) #[true,true,true,true,false,false,false,false,false,false,false,false,false,false] rfl rfl (any_of HT_.out (by kernel_rfl)) (fun _ _ _ h => h) (Or.inl ⟨by rfl,?_⟩) ?_ ?_
        rotate_left
        ·intro w'
         go_simp
         with_reducible rfl
        rotate_left
        ·simp only [Act.put,p1_,p2_,p3_,i64_w,i32_w]
         rfl
        refine pure_ (i := 5) (N := some 17) (v := ?_) (a' := ?_) #[true,true,true,true,false,true,false,false,false,false,false,false,false,false] rfl rfl (any_of HT_.out (by kernel_rfl)) (fun _ _ _ h => h) (Or.inl ⟨by rfl,?_⟩) ?_ ?_
        rotate_left
        ·intro w'
         go_simp
         with_reducible rfl
        rotate_left
        ·simp only [Act.put,p1_,p2_,p3_,i64_w,i32_w]
         rfl
        refine pure_ (i := 6) (N := some 18) (v := ?_) (a' := ?_) #[true,true,true,true,false,true,true,false,false,false,false,false,false,false] rfl rfl (any_of HT_.out (by kernel_rfl)) (fun _ _ _ h => h) (Or.inl ⟨by rfl,?_⟩) ?_ ?_
        rotate_left
        ·intro w'
         go_simp
         with_reducible rfl
        rotate_left
        ·simp only [Act.put,p1_,p2_,p3_,i64_w,i32_w]
         rfl
        refine pure_ (i := 7) (N := some 19) (v := ?_) (a' := ?_) #[true,true,true,true,false,true,true,true,false,false,false,false,false,false] rfl rfl (any_of HT_.out (by kernel_rfl)) (fun _ _ _ h => h) (Or.inl ⟨by rfl,?_⟩) ?_ ?_
        rotate_left
        ·intro w'
         go_simp
         with_reducible rfl
        rotate_left
        ·simp only [Act.put,p1_,p2_,p3_,i64_w,i32_w]
         rfl
        refine pure_ (i := 8) (N := some 20) (v := ?_) (a' := ?_) #[true,true,true,true,false,true,true,true,true,false,false,false,false,false] rfl rfl (any_of HT_.out (by kernel_rfl)) (fun _ _ _ h => h) (Or.inl ⟨by rfl,?_⟩) ?_ ?_
        rotate_left
        ·intro w'
         go_simp
         with_reducible rfl
        rotate_left
        ·simp only [Act.put,p1_,p2_,p3_,i64_w,i32_w]
         rfl
        refine take_ (i := 4) (N := some 16) (v := ?_) (a' := ?_) #[true,true,true,true,true,true,true,true,true,false,false,false,false,false] rfl rfl (take_ofW HT_.out HW_.out (by kernel_rfl)) (fun _ _ _ h => h) (Or.inl ⟨by rfl,?_⟩) hHeld ?_ ?_
        rotate_left
        ·rintro w' ⟨s0,s1⟩
         go_simp
         with_reducible rfl
        rotate_left
        ·simp only [Act.put,p1_,p2_,p3_,i64_w,i32_w]
         rfl
        refine take_ (i := 9) (N := some 21) (v := ?_) (a' := ?_) #[true,true,true,true,true,true,true,true,true,true,false,false,false,false] rfl rfl (take_ofW HT_.out HW_.out (by kernel_rfl)) (fun _ _ _ h => h) (Or.inl ⟨by rfl,?_⟩) hHeld ?_ ?_
        rotate_left
        ·rintro w' ⟨s0,s1⟩
         go_simp
         with_reducible rfl
        rotate_left
        ·simp only [Act.put,p1_,p2_,p3_,i64_w,i32_w]
         rfl
        refine one_ (i := 10) (N := some 22) #[true,true,true,true,true,true,true,true,true,true,true,false,false,false] rfl rfl (one_of HT_.out (by kernel_rfl)) (by decide) (fun K hK => ?_)
        refine goes_ Tryd.func106 (by kernel_rfl) rfl #[.string (rdOf ByteArray.empty l0 x4_1),.string (rdOf ByteArray.empty l0 (ji6))] (by rfl) rfl rfl (by (try simp only [m1_,m2_,m3_]);first | done | (simp only [hji6];rfl) | rfl | (simp only [d1_,d2_];rfl)) ?_
        with_reducible refine (spec_l03Node.calls k1 (rdOf ByteArray.empty l0 x4_1) (rdOf ByteArray.empty l0 (ji6)) t384 _ A9.out).mono ?_
        rintro e w12 ⟨rfl,hb⟩
        refine ⟨_,rfl,?_⟩
        have n0_ := am_ (Kd.R_below (by (with_reducible repeat (first | apply r1_ | apply r2_ | apply r3_));exact HO_3.out) hb)
        have n1_ := am_ (below_step (by repeat (first | (with_reducible first | exact HB.out | apply b1_ | apply b2_ | apply b3_) | exact HB.out)) hb)
        clear HO_3
        clear HB
        have HO_3 := n0_
        have HB := n1_
        clear n0_ n1_
        (try clear hb)
        (try clear hb2)
        (try clear hk)
        (try clear hi)
        refine hK.out _ _ ⟨((HB.out.cell (World.block_lt_of_cell? w _ hw382_0)).trans hw382_0),((HB.out.cell (World.block_lt_of_cell? w _ hw383_0)).trans hw383_0)⟩ (fun hHeld => ?_)
        clear hK K
        refine norm_ (a' := ?_) ?_ ?_
        rotate_left
        ·show Act.put _ (some 22) _ = _
         simp only [Act.put,p1_,p2_,p3_,i64_w,i32_w]
         rfl
        refine one_ (i := 11) (N := some 23) #[true,true,true,true,true,true,true,true,true,true,true,true,false,false] rfl rfl (one_of HT_.out (by kernel_rfl)) (by decide) (fun K hK => ?_)
        refine value_ (w1 := ?_) (v := ?_) (by rfl) rfl ?_ ?_
        rotate_left 2
        ·go_simp
         constructor
         ·rfl
         ·rfl
        refine hK.out _ _ ⟨(World.cell?_alloc_lt _ _ _ (World.block_lt_of_cell? _ _ (((HB.out.cell (World.block_lt_of_cell? w _ hw382_0)).trans hw382_0)))).trans (((HB.out.cell (World.block_lt_of_cell? w _ hw382_0)).trans hw382_0)),(World.cell?_alloc_lt _ _ _ (World.block_lt_of_cell? _ _ (((HB.out.cell (World.block_lt_of_cell? w _ hw383_0)).trans hw383_0)))).trans (((HB.out.cell (World.block_lt_of_cell? w _ hw383_0)).trans hw383_0))⟩ (fun hHeld => ?_)
        clear hK K
        refine norm_ (a' := ?_) ?_ ?_
        rotate_left
        ·show Act.put _ (some 23) _ = _
         simp only [Act.put,p1_,p2_,p3_,i64_w,i32_w]
         rfl
        refine one_ (i := 12) (N := some 24) #[true,true,true,true,true,true,true,true,true,true,true,true,true,false] rfl rfl (one_of HT_.out (by kernel_rfl)) (by decide) (fun K hK => ?_)
        refine Kd.R_append_step Kd.string (w0 := w) w.heap.size (by rfl) (.tmp 12) (.tmp 23) 56 9 (.string ⟨#[]⟩) 16 rfl Tryd.underlying56 info9 rfl (by decide) (by omega) u3 x3_1 t384 [.string t384] (fun _ => True) (fun _ => False) rfl rfl ?aP (fun _ hk => hk.elim) ?aF ?aO ?aB ?aS ?aL ?_
        (case aP => exact rfl)
        (case aB => exact (by repeat (first | (with_reducible first | exact HB.out | apply b1_ | apply b2_ | apply b3_) | exact HB.out)))
        (case aF => exact (fun _ _ => trivial))
        (case aO => exact (by (with_reducible repeat (first | apply r1_ | apply r2_ | apply r3_));exact HO_3.out))
        (case aS => exact (below_size (by repeat (first | (with_reducible first | exact HB.out | apply b1_ | apply b2_ | apply b3_) | exact HB.out))))
        (case aL => have := LMc10.out;omega)
        intro v386 w13 ho hb hg hat
        rw [← Ny385.out] at ho
        have n0_ := am_ (hb)
        have n1_ := am_ (ho)
        clear HB
        clear HO_3
        have HB := n0_
        have HO387 := n1_
        clear n0_ n1_
        clear ho hb hg hat
        refine hK.out _ _ ⟨((HB.out.cell (World.block_lt_of_cell? w _ hw382_0)).trans hw382_0),((HB.out.cell (World.block_lt_of_cell? w _ hw383_0)).trans hw383_0)⟩ (fun hHeld => ?_)
        clear hK K
        refine norm_ (a' := ?_) ?_ ?_
        rotate_left
        ·show Act.put _ (some 24) _ = _
         simp only [Act.put,p1_,p2_,p3_,i64_w,i32_w]
         rfl
        refine pure_ (i := 13) (N := some 3) (v := ?_) (a' := ?_) #[true,true,true,true,true,true,true,true,true,true,true,true,true,true] rfl rfl (any_of HT_.out (by kernel_rfl)) (fun _ _ _ h => h) (Or.inl ⟨by rfl,?_⟩) ?_ ?_
        rotate_left
        ·intro w'
         go_simp
         with_reducible rfl
        rotate_left
        ·simp only [Act.put,p1_,p2_,p3_,i64_w,i32_w]
         rfl
        refine done_ (done_of HT_.out (by kernel_rfl)) ?_
        try go_wp2
        go_roundg k1
        case measure => have := HK1.out;omega
        case rel => exact ⟨(y385),(wrap64 (x4_1 + 2)),(by first | rfl | (simp;done) | (simp [*];done)),H',⟨by have := HK1.out;omega⟩,⟨by (with_reducible repeat (first | apply r1_ | apply r2_ | apply r3_));exact HO387.out⟩,⟨by repeat (first | (with_reducible first | exact HB.out | apply b1_ | apply b2_ | apply b3_) | exact HB.out)⟩⟩
       ·rw [if_neg c10] at H
        exact absurd H (by simp)
      ·rw [if_neg c8] at H
       exact absurd H (by simp)
     ·rw [if_neg c7] at H
      exact absurd H (by simp)
    ·rw [if_neg c5] at H
     exact absurd H (by simp)
   ·rw [if_neg c4] at H
    have c4b0 : decide (x4_1 < (l0.length : Int)) = false := decide_eq_false c4
    clear c4
    obtain rfl := Option.some.inj H
    go_wp2
    go_ret
    exact ⟨_,by first | rfl | (simp [e1_,e2_] <;> rfl) | (simp [*,e1_,e2_] <;> rfl) | (simp [e3_,e4_];done) | (simp [*,e3_,e4_];done),by (with_reducible repeat (first | apply r1_ | apply r2_ | apply r3_));exact HO_3.out,by repeat (first | (with_reducible first | exact HB.out | apply b1_ | apply b2_ | apply b3_) | exact HB.out)⟩
set_option maxHeartbeats 8000000 in
set_option maxRecDepth 100000 in
theorem spec_l03Root.calls (k : Nat) (P0_ : Nat → Prop) (A0 : Option Addr) (c0 : Nat) (l0 : List ByteArray) (r : ByteArray) (w : World) (hs0 : Kd.V Kd.string 9 w w.heap.size (fun k_ => P0_ k_) (.slice A0 l0.length c0) l0) (h : spec_l03Root.f k l0 = some r) :
  Calls Tryd.prog 58 #[.slice A0 l0.length c0] w fun e w' => e = .returned (.string r) ∧ Below w.heap.size w w' := by
 have HO0 := am_ (show Kd.V Kd.string 9 w w.heap.size (fun k_ => (P0_ k_ ∨ w.heap.size ≤ k_)) (.slice A0 l0.length c0) l0 from Kd.V_mono hs0 (fun k_ hk => .inl hk))
 have HB := am_ (Below.refl w.heap.size w)
 have H : (spec_l03Root.l0 k l0) = some r := h
 clear h
 have H' := am_ H
 clear H
 go_enter Tryd.func58,Tryd.ntmps58
 go_wp2
 go_loopg [0] k (fun kq v0 w' => ∃ (x0_1 : List ByteArray),Aside0 (spec_l03Root.l0 kq x0_1 = some r) ∧ Aside0 (kq ≤ k) ∧ Aside0 (Kd.V Kd.string 9 w' w.heap.size (fun k_ => (P0_ k_ ∨ w.heap.size ≤ k_)) v0 x0_1) ∧ Aside0 (Below w.heap.size w w'))
 case atStart => exact ⟨(l0),H',⟨Nat.le_refl _⟩,⟨by (with_reducible repeat (first | apply Kd.V_alloc | apply Kd.V_drewN | apply Kd.V_drew));exact HO0.out⟩,⟨by repeat (first | (with_reducible first | exact HB.out | apply b1_ | apply b2_ | apply b3_) | exact HB.out)⟩⟩
 case round =>
  clear H'
  obtain ⟨x0_1,HA,HK1,HO_0,HB⟩ := hrel
  cases gk with
  | zero => exact absurd HA.out (by simp [spec_l03Root.l0])
  | succ k1 =>
   have H := HA.out
   clear HA
   simp only [spec_l03Root.l0] at H
   by_cases c2 : (x0_1.length : Int) > 1
   ·rw [if_pos c2] at H
    have c2b0 : decide (1 < (x0_1.length : Int)) = true := decide_eq_true c2
    have c2b1 : decide (1 < x0_1.length) = true := decide_eq_true (by omega)
    clear c2
    replace H := Option.bind_eq_some_iff.mp H
    obtain ⟨t388,A30,H⟩ := H
    try dsimp only at H
    have A3 := am_ A30
    clear A30
    have H' := am_ H
    clear H
    obtain ⟨Ao4,co4,eo4⟩ := Kd.V_slice HO_0.out
    subst eo4
    go_wp2_with (first | ((with_reducible refine gate_callee (f := 96) rfl ?_);refine goesL_ (some 7) rfl rfl Tryd.func96 (by kernel_rfl) rfl #[.slice Ao4 x0_1.length co4] rfl (by (try simp only [m1_,m2_,m3_]);first | done | rfl | (simp only [d1_,d2_];rfl)) ?_;(with_reducible refine (spec_l03Level.calls k1 _ _ x0_1 t388 _ ?side1 ?side2 A3.out).mono ?_);(case side1 => repeat (first | exact (Kd.V_reads' HO_0.out).2.2 | (with_reducible refine Kd.C_alloc ?_ _) | (with_reducible refine Kd.C_drewN ?_ _) | (with_reducible refine Kd.C_drew ?_)));(case side2 => exact (Kd.V_reads' HO_0.out).2.1);rintro e w5 ⟨v389,rfl,ho0,hb⟩;refine ⟨_,rfl,?_⟩;have n0_ := am_ (Kd.V_elder' (by (with_reducible repeat (first | apply Kd.V_alloc | apply Kd.V_drewN | apply Kd.V_drew));exact HO_0.out) (Kd.R_base ho0) hb);have n1_ := am_ (Kd.R_lower (Kd.R_newM (M := fun k_ => (w.heap.size ≤ k_)) ho0 (below_size (by repeat (first | (with_reducible first | exact HB.out | apply b1_ | apply b2_ | apply b3_) | exact HB.out))) (fun k_ h_ => h_)) (below_size (by repeat (first | (with_reducible first | exact HB.out | apply b1_ | apply b2_ | apply b3_) | exact HB.out))));have n2_ := am_ (below_step (by repeat (first | (with_reducible first | exact HB.out | apply b1_ | apply b2_ | apply b3_) | exact HB.out)) hb);clear HO_0;clear HB;have HO_0 := n0_;have HO390 := n1_;have HB := n2_;clear n0_ n1_ n2_;(try clear hb);(try clear hb2);(try clear hk);(try clear hi);(try clear ho0)))
    go_roundg k1
    case measure => have := HK1.out;omega
    case rel => exact ⟨(t388),H',⟨by have := HK1.out;omega⟩,⟨Kd.V_mono (Kd.R_V (by (with_reducible repeat (first | apply r1_ | apply r2_ | apply r3_));exact Kd.R_mono HO390.out (fun _ hk => hk.1))) (fun k_ hk => by first | exact ⟨(.inr (hk.1)),hk.2⟩ | exact (.inr (hk)))⟩,⟨by repeat (first | (with_reducible first | exact HB.out | apply b1_ | apply b2_ | apply b3_) | exact HB.out)⟩⟩
   ·rw [if_neg c2] at H
    have c2b0 : decide (1 < (x0_1.length : Int)) = false := decide_eq_false c2
    have c2b1 : decide (1 < x0_1.length) = false := decide_eq_false (by omega)
    clear c2
    by_cases c6 : 0 < (x0_1.length : Int)
    ·rw [if_pos c6] at H
     have c6b0 : decide (0 < (x0_1.length : Int)) = true := decide_eq_true c6
     have c6b1 : decide (0 < x0_1.length) = true := decide_eq_true (by omega)
     clear c6
     obtain rfl := Option.some.inj H
     obtain ⟨Ao7,co7,eo7⟩ := Kd.V_slice HO_0.out
     subst eo7
     have p391 : 0 ≤ (0 : Int) := (by omega)
     have q391 : 0 < (x0_1.length : Int) := o1_ (by first | (with_reducible assumption) | assumption)
     obtain ⟨ad391,e391,hx391_0⟩ := Kd.at_string (Kd.V_reads' HO_0.out).2.2 0 p391 q391
     cases e391
     have qi391 : (0 < x0_1.length) = True := eq_true (by omega)
     (try rw [show ((0 : Int)).toNat = 0 from rfl] at hx391_0)
     (try rw [Addr.add_zero'] at hx391_0)
     replace p391 := eq_true p391
     replace q391 := eq_true q391
     go_wp2
     go_ret
     exact ⟨by first | rfl | (simp [e1_,e2_] <;> rfl) | (simp [*,e1_,e2_] <;> rfl) | (simp [e3_,e4_];done) | (simp [*,e3_,e4_];done),by repeat (first | (with_reducible first | exact HB.out | apply b1_ | apply b2_ | apply b3_) | exact HB.out)⟩
    ·rw [if_neg c6] at H
     exact absurd H (by simp)
set_option maxHeartbeats 8000000 in
set_option maxRecDepth 100000 in
theorem spec_l12Seed.calls (k : Nat) (a0 : Int) (r : ByteArray) (w : World) (h : spec_l12Seed.f k a0 = some r) :
  Calls Tryd.prog 46 #[.int .i64 a0] w fun e w' => e = .returned (.string r) ∧ Below w.heap.size w w' := by
 have HB := am_ (Below.refl w.heap.size w)
 have H : ((some (([(a0) % 256] : List Int) : List Int)).bind fun y196 => (if 9 + (strOfNums y196).size ≤ 9223372036854775807 then (if ((⟨#[110,111,100,101,32,115,101,101,100]⟩ : ByteArray) ++ (strOfNums y196)).size ≤ 140737488355328 then ((spec_l01Hash.f k (bytesOf ((⟨#[110,111,100,101,32,115,101,101,100]⟩ : ByteArray) ++ (strOfNums y196)))).bind fun t202 => (some t202)) else (none)) else (none))) = some r := h
 clear h
 obtain ⟨y196,hy196⟩ : ∃ y_ : List Int,y_ = (([(a0) % 256] : List Int)) := ⟨_,rfl⟩
 replace H : (if 9 + (strOfNums y196).size ≤ 9223372036854775807 then (if ((⟨#[110,111,100,101,32,115,101,101,100]⟩ : ByteArray) ++ (strOfNums y196)).size ≤ 140737488355328 then ((spec_l01Hash.f k (bytesOf ((⟨#[110,111,100,101,32,115,101,101,100]⟩ : ByteArray) ++ (strOfNums y196)))).bind fun t202 => (some t202)) else (none)) else (none)) = some r := by first | (rw [hy196];with_reducible exact H) | (have H2_ := (Option.bind_some _ _).symm.trans H;rw [hy196];with_reducible exact H2_) | (have H2_ := (Option.bind_some _ _).symm.trans H;with_reducible exact H2_) | with_reducible exact H | (rw [hy196];exact H) | exact H
 have Ny196 := am_ hy196
 clear hy196
 by_cases c2 : 9 + (strOfNums y196).size ≤ 9223372036854775807
 ·rw [if_pos c2] at H
  have c2b0 := eq_true c2
  have c2b1 : decide (9 + (strOfNums y196).size ≤ 9223372036854775807) = true := decide_eq_true c2
  try have c2b2 : (9223372036854775807 < 9 + (strOfNums y196).size) = False := eq_false (Nat.not_lt.2 c2)
  by_cases c3 : ((⟨#[110,111,100,101,32,115,101,101,100]⟩ : ByteArray) ++ (strOfNums y196)).size ≤ 140737488355328
  ·rw [if_pos c3] at H
   have c3b0 := eq_true c3
   have c3b1 : decide (((⟨#[110,111,100,101,32,115,101,101,100]⟩ : ByteArray) ++ (strOfNums y196)).size ≤ 140737488355328) = true := decide_eq_true c3
   obtain ⟨y199,hy199⟩ : ∃ y_ : List Int,y_ = (bytesOf ((⟨#[110,111,100,101,32,115,101,101,100]⟩ : ByteArray) ++ (strOfNums y196))) := ⟨_,rfl⟩
   replace H : ((spec_l01Hash.f k y199).bind fun t202 => (some t202)) = some r := by first | (rw [hy199];with_reducible exact H) | (have H2_ := (Option.bind_some _ _).symm.trans H;rw [hy199];with_reducible exact H2_) | (have H2_ := (Option.bind_some _ _).symm.trans H;with_reducible exact H2_) | with_reducible exact H | (rw [hy199];exact H) | exact H
   have Ny199 := am_ hy199
   clear hy199
   replace H := Option.bind_eq_some_iff.mp H
   obtain ⟨t202,A40,H⟩ := H
   try dsimp only at H
   have A4 := am_ A40
   clear A40
   obtain rfl := Option.some.inj H
   go_enter Tryd.func46,Tryd.ntmps46
   go_wp2_with (first | ((with_reducible refine gate_dst (N := 5) rfl ?_);refine Kd.R_lit (Kd.int .u8) _ 5 ?hg (N := 5) ?hd (xs := ([(a0) % 256] : List Int)) (inner := [.int .u8 ((a0) % 256)]) (ok := fun _ => True) (okp := fun _ => True) ?hr ?hp (fun _ hk => hk) trivial (Below.refl _ _) (Nat.le_refl _) (by simp) ?_;(case hd => rfl);(case hg => rfl);(case hr => first | (go_simp;done) | (go_simp;rfl));(case hp => exact (Reps.one (show Kd.M (Kd.int .u8) _ _ _ ((a0) % 256) [.int .u8 ((a0) % 256)] from rfl) (Reps.none _ _)));intro v197 w5 ho6 hb hg_ hnew_;clear hg_ hnew_;(first | rw [← Ny196.out] at ho6 | (simp only [Int.reduceToNat] at ho6;rw [← Ny196.out] at ho6));have n0_ := am_ (Kd.R_lower ho6 (below_size (by repeat (first | (with_reducible first | exact HB.out | apply b1_ | apply b2_ | apply b3_) | exact HB.out))));have n1_ := am_ (below_step (by repeat (first | (with_reducible first | exact HB.out | apply b1_ | apply b2_ | apply b3_) | exact HB.out)) hb);clear HB;have HO198 := n0_;have HB := n1_;clear n0_ n1_;clear hb ho6;have hcv7 := own_string (P := Tryd.prog) Tryd.underlying94 Tryd.underlying5 Tryd.underlying9 (Kd.own_of_R HO198.out)) | ((with_reducible refine gate_dst (N := 8) rfl ?_);refine Kd.V_conv (Kd.int .u8) rfl _ 5 rfl (N := 8) rfl 9 94 _ rfl ((⟨#[110,111,100,101,32,115,101,101,100]⟩ : ByteArray) ++ (strOfNums y196)) rfl Tryd.underlying9 Tryd.underlying94 Tryd.underlying5 (ok := fun k_ => w5.heap.size ≤ k_) (okp := fun _ => False) (fun _ hk => hk.elim) (Nat.le_refl _) (by have := o1_ (by first | (with_reducible assumption) | assumption : decide (((⟨#[110,111,100,101,32,115,101,101,100]⟩ : ByteArray) ++ (strOfNums y196)).size ≤ 140737488355328) = true);omega) (Below.refl _ _) (Nat.le_refl _) ?_;intro v200 w8 ho9 hb hg_ hnew_;clear hg_ hnew_;(first | rw [← Ny199.out] at ho9 | (simp only [Int.reduceToNat] at ho9;rw [← Ny199.out] at ho9));have n0_ := am_ (Kd.R_below (by (with_reducible repeat (first | apply r1_ | apply r2_ | apply r3_));exact HO198.out) hb);have n1_ := am_ (Kd.V_lower (Kd.V_mono (ok' := fun k_ => some k_ ≠ (v197 : Value).ownBlock) ho9 (fun k_ hk_ => (Kd.fresh' (Kd.R_lt (by (with_reducible repeat (first | apply r1_ | apply r2_ | apply r3_));exact HO198.out)) k_ hk_))) (below_size (by repeat (first | (with_reducible first | exact HB.out | apply b1_ | apply b2_ | apply b3_) | exact HB.out))));have n2_ := am_ (below_step (by repeat (first | (with_reducible first | exact HB.out | apply b1_ | apply b2_ | apply b3_) | exact HB.out)) hb);clear HO198;clear HB;have HO198 := n0_;have HO201 := n1_;have HB := n2_;clear n0_ n1_ n2_;clear hb ho9;obtain ⟨Ao10,co10,eo10⟩ := Kd.V_slice HO201.out;subst eo10) | ((with_reducible refine gate_callee (f := 83) rfl ?_);refine goesL_ (some 9) rfl rfl Tryd.func83 (by kernel_rfl) rfl #[.slice Ao10 y199.length co10] rfl (by (try simp only [m1_,m2_,m3_]);first | done | rfl | (simp only [d1_,d2_];rfl)) ?_;(with_reducible refine (spec_l01Hash.calls k _ _ y199 t202 _ ?side1 ?side2 A4.out).mono ?_);(case side1 => repeat (first | exact (Kd.V_reads' HO201.out).2.2 | (with_reducible refine Kd.C_alloc ?_ _) | (with_reducible refine Kd.C_drewN ?_ _) | (with_reducible refine Kd.C_drew ?_)));(case side2 => exact (Kd.V_reads' HO201.out).2.1);rintro e w11 ⟨rfl,hb⟩;refine ⟨_,rfl,?_⟩;have n0_ := am_ (Kd.R_below (by (with_reducible repeat (first | apply r1_ | apply r2_ | apply r3_));exact HO198.out) hb);have n1_ := am_ (Kd.V_below (by (with_reducible repeat (first | apply Kd.V_alloc | apply Kd.V_drewN | apply Kd.V_drew));exact HO201.out) hb);have n2_ := am_ (below_step (by repeat (first | (with_reducible first | exact HB.out | apply b1_ | apply b2_ | apply b3_) | exact HB.out)) hb);clear HO198;clear HO201;clear HB;have HO198 := n0_;have HO201 := n1_;have HB := n2_;clear n0_ n1_ n2_;(try clear hb);(try clear hb2);(try clear hk);(try clear hi)))
   go_ret
   exact ⟨by first | rfl | (simp [e1_,e2_] <;> rfl) | (simp [*,e1_,e2_] <;> rfl) | (simp [e3_,e4_];done) | (simp [*,e3_,e4_];done),by repeat (first | (with_reducible first | exact HB.out | apply b1_ | apply b2_ | apply b3_) | exact HB.out)⟩
  ·rw [if_neg c3] at H
   exact absurd H (by simp)
 ·rw [if_neg c2] at H
  exact absurd H (by simp)
set_option maxHeartbeats 8000000 in
set_option maxRecDepth 100000 in
theorem spec_NodeRoot.calls (k : Nat) (a0 : Int) (r1 : ByteArray) (r2 : Int) (w : World) (h : spec_NodeRoot.f k a0 = some (r1,r2)) :
  Calls Tryd.prog 21 #[.int .i64 a0] w fun e w' => e = .returned (.tuple #[.string r1,.int .i64 r2]) ∧ Below w.heap.size w w' := by
 have HB := am_ (Below.refl w.heap.size w)
 have H : ((spec_l01In.f a0 0 6).bind fun t418 => (if t418 = true then ((spec_l12Seed.f k a0).bind fun t419 => ((spec_l03Keys.f k t419).bind fun t420 => ((spec_l03Root.f k t420).bind fun t423 => (some (t423,0))))) else (some ((⟨#[]⟩ : ByteArray),4)))) = some (r1,r2) := h
 clear h
 replace H := Option.bind_eq_some_iff.mp H
 obtain ⟨t418,A20,H⟩ := H
 try dsimp only at H
 have A2 := am_ A20
 clear A20
 by_cases c3 : t418 = true
 ·subst c3
  have H1 : ((spec_l12Seed.f k a0).bind fun t419 => ((spec_l03Keys.f k t419).bind fun t420 => ((spec_l03Root.f k t420).bind fun t423 => (some (t423,0))))) = some (r1,r2) := by rw [if_pos rfl] at H;exact H
  clear H
  have H := H1
  clear H1
  replace H := Option.bind_eq_some_iff.mp H
  obtain ⟨t419,A40,H⟩ := H
  try dsimp only at H
  have A4 := am_ A40
  clear A40
  replace H := Option.bind_eq_some_iff.mp H
  obtain ⟨t420,A50,H⟩ := H
  try dsimp only at H
  have A5 := am_ A50
  clear A50
  replace H := Option.bind_eq_some_iff.mp H
  obtain ⟨t423,A60,H⟩ := H
  try dsimp only at H
  have A6 := am_ A60
  clear A60
  simp only [Option.some.injEq,Prod.mk.injEq] at H
  obtain ⟨rfl,rfl⟩ := H
  go_enter Tryd.func21,Tryd.ntmps21
  go_wp2_with (first | ((with_reducible refine gate_callee (f := 45) rfl ?_);refine goesL_ (some 5) rfl rfl Tryd.func45 (by kernel_rfl) rfl #[.int .i64 a0,.int .i64 0,.int .i64 6] rfl (by (try simp only [m1_,m2_,m3_]);first | done | rfl | (simp only [d1_,d2_];rfl)) ?_;(with_reducible refine (spec_l01In.calls a0 0 6 true _ A2.out).mono ?_);rintro e w' ⟨rfl,⟨nd,rfl⟩⟩;refine ⟨_,rfl,?_⟩) | ((with_reducible refine gate_callee (f := 46) rfl ?_);refine goesL_ (some 8) rfl rfl Tryd.func46 (by kernel_rfl) rfl #[.int .i64 a0] rfl (by (try simp only [m1_,m2_,m3_]);first | done | rfl | (simp only [d1_,d2_];rfl)) ?_;(with_reducible refine (spec_l12Seed.calls k a0 t419 _ A4.out).mono ?_);rintro e w7 ⟨rfl,hb⟩;refine ⟨_,rfl,?_⟩;have n0_ := am_ (below_step (by repeat (first | (with_reducible first | exact HB.out | apply b1_ | apply b2_ | apply b3_) | exact HB.out)) hb);clear HB;have HB := n0_;clear n0_;(try clear hb);(try clear hb2);(try clear hk);(try clear hi)) | ((with_reducible refine gate_callee (f := 59) rfl ?_);refine goesL_ (some 9) rfl rfl Tryd.func59 (by kernel_rfl) rfl #[.string t419] rfl (by (try simp only [m1_,m2_,m3_]);first | done | rfl | (simp only [d1_,d2_];rfl)) ?_;(with_reducible refine (spec_l03Keys.calls k t419 t420 _ A5.out).mono ?_);rintro e w8 ⟨v421,rfl,ho0,hb⟩;refine ⟨_,rfl,?_⟩;have n0_ := am_ (Kd.R_lower ho0 (below_size (by repeat (first | (with_reducible first | exact HB.out | apply b1_ | apply b2_ | apply b3_) | exact HB.out))));have n1_ := am_ (below_step (by repeat (first | (with_reducible first | exact HB.out | apply b1_ | apply b2_ | apply b3_) | exact HB.out)) hb);clear HB;have HO422 := n0_;have HB := n1_;clear n0_ n1_;(try clear hb);(try clear hb2);(try clear hk);(try clear hi);(try clear ho0);obtain ⟨Ao9,co9,eo9⟩ := Kd.R_slice HO422.out;subst eo9) | ((with_reducible refine gate_callee (f := 58) rfl ?_);refine goesL_ (some 10) rfl rfl Tryd.func58 (by kernel_rfl) rfl #[.slice Ao9 t420.length co9] rfl (by (try simp only [m1_,m2_,m3_]);first | done | rfl | (simp only [d1_,d2_];rfl)) ?_;(with_reducible refine (spec_l03Root.calls k (fun k_ => some k_ = (.slice Ao9 t420.length co9 : Value).ownBlock) _ _ t420 t423 _ ?side1 A6.out).mono ?_);(case side1 => exact Kd.R_V (Kd.R_tight rfl (HO422.out)));rintro e w10 ⟨rfl,hb⟩;refine ⟨_,rfl,?_⟩;have n0_ := am_ (Kd.R_below (by (with_reducible repeat (first | apply r1_ | apply r2_ | apply r3_));exact HO422.out) hb);have n1_ := am_ (below_step (by repeat (first | (with_reducible first | exact HB.out | apply b1_ | apply b2_ | apply b3_) | exact HB.out)) hb);clear HO422;clear HB;have HO422 := n0_;have HB := n1_;clear n0_ n1_;(try clear hb);(try clear hb2);(try clear hk);(try clear hi)))
  go_ret2
  exact ⟨by first | rfl | (simp [e1_,e2_] <;> rfl) | (simp [*,e1_,e2_] <;> rfl) | (simp [e3_,e4_];done) | (simp [*,e3_,e4_];done),by repeat (first | (with_reducible first | exact HB.out | apply b1_ | apply b2_ | apply b3_) | exact HB.out)⟩
 ·replace c3 := Bool.eq_false_iff.mpr c3
  subst c3
  have H1 : (some ((⟨#[]⟩ : ByteArray),4)) = some (r1,r2) := by rw [if_neg (show ¬ (false = true) by decide)] at H;exact H
  clear H
  have H := H1
  clear H1
  simp only [Option.some.injEq,Prod.mk.injEq] at H
  obtain ⟨rfl,rfl⟩ := H
  go_enter Tryd.func21,Tryd.ntmps21
  go_wp2_with (first | ((with_reducible refine gate_callee (f := 45) rfl ?_);refine goesL_ (some 5) rfl rfl Tryd.func45 (by kernel_rfl) rfl #[.int .i64 a0,.int .i64 0,.int .i64 6] rfl (by (try simp only [m1_,m2_,m3_]);first | done | rfl | (simp only [d1_,d2_];rfl)) ?_;(with_reducible refine (spec_l01In.calls a0 0 6 false _ A2.out).mono ?_);rintro e w' ⟨rfl,⟨nd,rfl⟩⟩;refine ⟨_,rfl,?_⟩))
  go_ret2
  exact ⟨by first | rfl | (simp [e1_,e2_] <;> rfl) | (simp [*,e1_,e2_] <;> rfl) | (simp [e3_,e4_];done) | (simp [*,e3_,e4_];done),by repeat (first | (with_reducible first | exact HB.out | apply b1_ | apply b2_ | apply b3_) | exact HB.out)⟩
set_option maxHeartbeats 8000000 in
set_option maxRecDepth 100000 in
theorem laws_FnExactNodeRoot.calls (k : Nat) (a0 : Int) (r : Bool) (w : World) (hL : Laid w) (h : laws_FnExactNodeRoot.f k a0 = some r) :
  Calls Tryd.prog 6 #[.int .i64 a0] w fun e w' => e = .returned (.bool r) ∧ Below w.heap.size w w' := by
 have HLD := am_ hL
 clear hL
 have HB := am_ (Below.refl w.heap.size w)
 have H : ((spec_NodeRoot.f k a0).bind fun bt454 => ((impl_NodeRoot.f k a0).bind fun bt456 => (if bt456.1.toList = bt454.1.toList then (if bt456.2 = bt454.2 then (some true) else (some false)) else (some false)))) = some r := h
 clear h
 replace H := Option.bind_eq_some_iff.mp H
 obtain ⟨⟨t454,t455⟩,A20,H⟩ := H
 try dsimp only at H
 have A2 := am_ A20
 clear A20
 replace H := Option.bind_eq_some_iff.mp H
 obtain ⟨⟨t456,t457⟩,A30,H⟩ := H
 try dsimp only at H
 have A3 := am_ A30
 clear A30
 by_cases c4 : t456.toList = t454.toList
 ·rw [if_pos c4] at H
  have c4b0 : (t456.toList == t454.toList) = true := beq_iff_eq.mpr c4
  have c4b1 : (t456.toList != t454.toList) = false := bne_eq_false_iff_eq.mpr c4
  clear c4
  by_cases c5 : t457 = t455
  ·rw [if_pos c5] at H
   have c5b0 : (t457 == t455) = true := beq_iff_eq.mpr c5
   have c5b1 : (t457 != t455) = false := bne_eq_false_iff_eq.mpr c5
   clear c5
   obtain rfl := Option.some.inj H
   go_enter Tryd.func6,Tryd.ntmps6
   go_wp2_with (first | ((with_reducible refine gate_callee (f := 21) rfl ?_);refine goesL_ (some 9) rfl rfl Tryd.func21 (by kernel_rfl) rfl #[.int .i64 a0] rfl (by (try simp only [m1_,m2_,m3_]);first | done | rfl | (simp only [d1_,d2_];rfl)) ?_;(with_reducible refine (spec_NodeRoot.calls k a0 t454 t455 _ A2.out).mono ?_);rintro e w6 ⟨rfl,hb⟩;refine ⟨_,rfl,?_⟩;have n0_ := am_ (below_step (by repeat (first | (with_reducible first | exact HB.out | apply b1_ | apply b2_ | apply b3_) | exact HB.out)) hb);clear HB;have HB := n0_;clear n0_;(try clear hb);(try clear hb2);(try clear hk);(try clear hi)) | ((with_reducible refine gate_callee (f := 22) rfl ?_);refine goesL_ (some 14) rfl rfl Tryd.func22 (by kernel_rfl) rfl #[.int .i64 a0] rfl (by (try simp only [m1_,m2_,m3_]);first | done | rfl | (simp only [d1_,d2_];rfl)) ?_;(with_reducible refine (impl_NodeRoot.calls k a0 t456 t457 _ ?side1 A3.out).mono ?_);(case side1 => exact HLD.out.on (by repeat (first | (with_reducible first | exact HB.out | apply b1_ | apply b2_ | apply b3_) | exact HB.out)));rintro e w7 ⟨rfl,hb⟩;refine ⟨_,rfl,?_⟩;have n0_ := am_ (below_step (by repeat (first | (with_reducible first | exact HB.out | apply b1_ | apply b2_ | apply b3_) | exact HB.out)) hb);clear HB;have HB := n0_;clear n0_;(try clear hb);(try clear hb2);(try clear hk);(try clear hi)))
   go_ret
   exact ⟨by first | rfl | (simp [e1_,e2_] <;> rfl) | (simp [*,e1_,e2_] <;> rfl) | (simp [e3_,e4_];done) | (simp [*,e3_,e4_];done),by repeat (first | (with_reducible first | exact HB.out | apply b1_ | apply b2_ | apply b3_) | exact HB.out)⟩
  ·rw [if_neg c5] at H
   have c5b0 : (t457 == t455) = false := beq_eq_false_iff_ne.mpr c5
   have c5b1 : (t457 != t455) = true := bne_iff_ne.mpr c5
   obtain rfl := Option.some.inj H
   go_enter Tryd.func6,Tryd.ntmps6
   go_wp2_with (first | ((with_reducible refine gate_callee (f := 21) rfl ?_);refine goesL_ (some 9) rfl rfl Tryd.func21 (by kernel_rfl) rfl #[.int .i64 a0] rfl (by (try simp only [m1_,m2_,m3_]);first | done | rfl | (simp only [d1_,d2_];rfl)) ?_;(with_reducible refine (spec_NodeRoot.calls k a0 t454 t455 _ A2.out).mono ?_);rintro e w8 ⟨rfl,hb⟩;refine ⟨_,rfl,?_⟩;have n0_ := am_ (below_step (by repeat (first | (with_reducible first | exact HB.out | apply b1_ | apply b2_ | apply b3_) | exact HB.out)) hb);clear HB;have HB := n0_;clear n0_;(try clear hb);(try clear hb2);(try clear hk);(try clear hi)) | ((with_reducible refine gate_callee (f := 22) rfl ?_);refine goesL_ (some 14) rfl rfl Tryd.func22 (by kernel_rfl) rfl #[.int .i64 a0] rfl (by (try simp only [m1_,m2_,m3_]);first | done | rfl | (simp only [d1_,d2_];rfl)) ?_;(with_reducible refine (impl_NodeRoot.calls k a0 t456 t457 _ ?side1 A3.out).mono ?_);(case side1 => exact HLD.out.on (by repeat (first | (with_reducible first | exact HB.out | apply b1_ | apply b2_ | apply b3_) | exact HB.out)));rintro e w9 ⟨rfl,hb⟩;refine ⟨_,rfl,?_⟩;have n0_ := am_ (below_step (by repeat (first | (with_reducible first | exact HB.out | apply b1_ | apply b2_ | apply b3_) | exact HB.out)) hb);clear HB;have HB := n0_;clear n0_;(try clear hb);(try clear hb2);(try clear hk);(try clear hi)))
   go_ret
   exact ⟨by first | rfl | (simp [e1_,e2_] <;> rfl) | (simp [*,e1_,e2_] <;> rfl) | (simp [e3_,e4_];done) | (simp [*,e3_,e4_];done),by repeat (first | (with_reducible first | exact HB.out | apply b1_ | apply b2_ | apply b3_) | exact HB.out)⟩
 ·rw [if_neg c4] at H
  have c4b0 : (t456.toList == t454.toList) = false := beq_eq_false_iff_ne.mpr c4
  have c4b1 : (t456.toList != t454.toList) = true := bne_iff_ne.mpr c4
  obtain rfl := Option.some.inj H
  go_enter Tryd.func6,Tryd.ntmps6
  go_wp2_with (first | ((with_reducible refine gate_callee (f := 21) rfl ?_);refine goesL_ (some 9) rfl rfl Tryd.func21 (by kernel_rfl) rfl #[.int .i64 a0] rfl (by (try simp only [m1_,m2_,m3_]);first | done | rfl | (simp only [d1_,d2_];rfl)) ?_;(with_reducible refine (spec_NodeRoot.calls k a0 t454 t455 _ A2.out).mono ?_);rintro e w10 ⟨rfl,hb⟩;refine ⟨_,rfl,?_⟩;have n0_ := am_ (below_step (by repeat (first | (with_reducible first | exact HB.out | apply b1_ | apply b2_ | apply b3_) | exact HB.out)) hb);clear HB;have HB := n0_;clear n0_;(try clear hb);(try clear hb2);(try clear hk);(try clear hi)) | ((with_reducible refine gate_callee (f := 22) rfl ?_);refine goesL_ (some 14) rfl rfl Tryd.func22 (by kernel_rfl) rfl #[.int .i64 a0] rfl (by (try simp only [m1_,m2_,m3_]);first | done | rfl | (simp only [d1_,d2_];rfl)) ?_;(with_reducible refine (impl_NodeRoot.calls k a0 t456 t457 _ ?side1 A3.out).mono ?_);(case side1 => exact HLD.out.on (by repeat (first | (with_reducible first | exact HB.out | apply b1_ | apply b2_ | apply b3_) | exact HB.out)));rintro e w11 ⟨rfl,hb⟩;refine ⟨_,rfl,?_⟩;have n0_ := am_ (below_step (by repeat (first | (with_reducible first | exact HB.out | apply b1_ | apply b2_ | apply b3_) | exact HB.out)) hb);clear HB;have HB := n0_;clear n0_;(try clear hb);(try clear hb2);(try clear hk);(try clear hi)))
  go_ret
  exact ⟨by first | rfl | (simp [e1_,e2_] <;> rfl) | (simp [*,e1_,e2_] <;> rfl) | (simp [e3_,e4_];done) | (simp [*,e3_,e4_];done),by repeat (first | (with_reducible first | exact HB.out | apply b1_ | apply b2_ | apply b3_) | exact HB.out)⟩
end Go.Proofs.YtdpdbegglkdgnaaDoor.A
end
