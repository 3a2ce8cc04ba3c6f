/- A part of the proof that FnExactClientOK returns true at every input: plain functions, contracts and lemmas. No conditions. -/
import Derived.Test.YtlifdodphkimpaaDoorQClientOKe
set_option linter.unusedVariables false
set_option linter.unusedSimpArgs false
set_option linter.unusedSectionVars false
section
namespace Go.Proofs.YtlifdodphkimpaaDoor.B
open Go.RowKit Go.Proofs.YtlifdodphkimpaaDoorW.PrintWords Go.Proofs.YtlifdodphkimpaaDoorW.PrintLast Go.Proofs.YtlifdodphkimpaaDoorW.PrintMore
attribute [local go_sem] max2_int min2_int max_two min_two max_three min_three max_four min_four
attribute [local go_sem high] eqA63
def spec_l11Count.T9 : Bool × List (List Nat × List Nat) := (true,[([],[]),([],[]),([0,1],[0,1]),([2,2],[2]),([3],[3]),([4,3],[3,4]),([3],[3]),([5,6,3],[3,5,6]),([3,7],[3,7]),([8,3],[8]),([9],[9]),([10,9],[9,10]),([9],[9]),([11,12,9],[9,11,12]),([9,13],[9,13]),([14,9],[14]),([15],[15]),([16,15],[15,16]),([15],[15]),([15],[15]),([18,19,15],[15,18,19]),([20,15],[15,20]),([21,15],[15,21]),([17,22,15],[15,17,22]),([15,23],[15,23]),([24,15],[24]),([25],[25]),([25],[25]),([27,25],[25,27]),([26,28,25,25],[25,26,28]),([29,25],[25,29]),([25,30],[25,30])])
def spec_l11Count.B9 : List Nat := [0,0,3,7,15,31,15,127,255,511,1023,2047,1023,8191,16383,32767,65535,131071,65535,65535,851967,1900543,3997695,8388607,16777215,33554431,67108863,67108863,201326591,536870911,1073741823,2147483647]
theorem spec_l11Count.tab9 : rtab .any (opsOf Tryd.f83 9) = spec_l11Count.T9 := by kernel_rfl
theorem spec_l11Count.bits9 : waitsOk spec_l11Count.T9.2 spec_l11Count.B9 = true := by kernel_rfl
set_option maxHeartbeats 8000000 in
set_option maxRecDepth 100000 in
theorem spec_l11Count.calls (k : Nat) (a0 : Int) (a1 : Int) (a2 : Int) (A3 : Option Addr) (c3 : Nat) (l3 : List (S73)) (r1 : Int) (r2 : Int) (r3 : Int) (r4 : Int) (r5 : Bool) (w : World) (hr3 : Kd.C k73 w A3 l3.length l3) (hc3 : l3.length ≤ c3) (h : spec_l11Count.f k a0 a1 a2 l3 = some (r1,r2,r3,r4,r5)) :
  Calls Tryd.prog 83 #[.int .i64 a0,.int .i64 a1,.int .i64 a2,.slice A3 l3.length c3] w fun e w' => e = .returned (.tuple #[.agg #[.int .i64 r1,.int .i64 r2,.int .i64 r3,.int .i64 r4],.bool r5]) ∧ Below w.heap.size w w' := by
 have hu63 := Tryd.underlying63
 have hu73 := Tryd.underlying73
 have HR3 := am_ hr3
 have HC3 := am_ hc3
 clear hr3 hc3
 have HB := am_ (Below.refl w.heap.size w)
 have H : (spec_l11Count.l0 k a0 a1 a2 l3 0) = some (r1,r2,r3,r4,r5) := h
 clear h
 have H' := am_ H
 clear H
 go_enter Tryd.func83,Tryd.ntmps83
 go_wp2_with (first | ((with_reducible refine gate_dst (N := 8) rfl ?_);refine zbx (N := 8) (cs := #[.int .i64 0,.int .i64 0,.int .i64 0,.int .i64 0]) (t := 63) ?_;intro gb932 hg w5 hbox hb;have BK932 := am_ (hbox);have GW932 := zw_ HB hg;have GE932 := zw_ HB hg;replace HB := zs_ HB hb;clear hb hbox hg))
 go_loopg [10] k (fun kq v10 w' => ∃ (x10_1 : Int) (x933000_1 : Int) (x933001_1 : Int) (x933002_1 : Int) (x933003_1 : Int),v10 = .int .i64 x10_1 ∧ Aside0 (spec_l11Count.l0 kq a0 a1 a2 l3 x10_1 = some (r1,r2,r3,r4,r5)) ∧ Aside0 (kq ≤ k) ∧ Aside0 (w'.heap[gb932]? = some (.cells #[.int .i64 x933000_1,.int .i64 x933001_1,.int .i64 x933002_1,.int .i64 x933003_1] 63 (0,0))) ∧ Aside0 (Below w.heap.size w w'))
 case atStart => exact ⟨(0),(0),(0),(0),(0),(by first | rfl | (simp;done) | (simp [*];done)),H',⟨Nat.le_refl _⟩,⟨by (with_reducible repeat (first | apply k1_ | apply k2_ | apply k3_));exact BK932.out⟩,⟨zl_ HB⟩⟩
 case round =>
  clear H'
  try clear p2
  try clear c3
  obtain ⟨x10_1,x933000_1,x933001_1,x933002_1,x933003_1,rfl,HA,HK1,BK932,HB⟩ := hrel
  cases gk with
  | zero => exact absurd HA.out (by simp [spec_l11Count.l0])
  | succ k1 =>
   have H := HA.out
   clear HA
   simp only [spec_l11Count.l0] at H
   by_cases c6 : x10_1 < (l3.length : Int)
   ·rw [if_pos c6] at H
    have c6b0 : decide (x10_1 < (l3.length : Int)) = true := decide_eq_true c6
    clear c6
    obtain ⟨y933,hy933⟩ : ∃ y_ : List Int,y_ = (([] : List Int)) := ⟨_,rfl⟩
    replace H : (spec_l11Count.l1 k1 a0 a1 a2 l3 x10_1 y933 0) = some (r1,r2,r3,r4,r5) := by first | (rw [hy933];with_reducible exact H) | (have H2_ := (Option.bind_some _ _).symm.trans H;rw [hy933];with_reducible exact H2_) | (have H2_ := (Option.bind_some _ _).symm.trans H;with_reducible exact H2_) | with_reducible exact H | (rw [hy933];exact H) | exact H
    have Ny933 := am_ hy933
    clear hy933
    have H' := am_ H
    clear H
    go_wp2_with (first | ((with_reducible refine gate_dst (N := 20) rfl ?_);refine Kd.R_lit (Kd.int .i64) _ 3 ?hg (N := 20) ?hd (xs := ([] : List Int)) (inner := []) (ok := fun _ => True) (okp := fun _ => True) ?hr ?hp (fun _ hk => hk) trivial (Below.refl _ _) (Nat.le_refl _) (by simp) ?_;(case hd => rfl);(case hg => rfl);(case hr => first | (go_simp;done) | (go_simp;rfl));(case hp => exact (Reps.none _ _));intro v934 w7 ho8 hb hg_ hnew_;clear hg_ hnew_;(first | rw [← Ny933.out] at ho8 | (simp only [Int.reduceToNat] at ho8;rw [← Ny933.out] at ho8));have HO935 := am_ (Kd.R_lower ho8 (below_size (zl_ HB)));replace BK932 := zb BK932 hb;replace HB := zs_ HB hb;clear hb ho8))
    go_loopg [11,12] k1 (fun kq v11 v12 w' => ∃ (x11_2 : List Int) (x12_2 : Int),v12 = .int .i64 x12_2 ∧ Aside0 (spec_l11Count.l1 kq a0 a1 a2 l3 x10_1 x11_2 x12_2 = some (r1,r2,r3,r4,r5)) ∧ Aside0 (kq ≤ k1) ∧ Aside0 (Kd.R (Kd.int .i64) 3 w' w.heap.size (fun _ => True) v11 x11_2) ∧ Aside0 (w'.heap[gb932]? = some (.cells #[.int .i64 x933000_1,.int .i64 x933001_1,.int .i64 x933002_1,.int .i64 x933003_1] 63 (0,0))) ∧ Aside0 (Below w.heap.size w w'))
    case atStart => exact ⟨(y933),(0),(by first | rfl | (simp;done) | (simp [*];done)),H',⟨Nat.le_refl _⟩,⟨zr HO935⟩,⟨by (with_reducible repeat (first | apply k1_ | apply k2_ | apply k3_));exact BK932.out⟩,⟨zl_ HB⟩⟩
    case round =>
     clear H'
     try clear p2
     try clear c3
     try clear c6
     try clear c6b0
     try clear c8
     try clear p2
     obtain ⟨x11_2,x12_2,rfl,HA,HK2,HO_11,BK932,HB⟩ := hrel
     cases gk with
     | zero => exact absurd HA.out (by simp [spec_l11Count.l1])
     | succ k2 =>
      have H := HA.out
      clear HA
      simp only [spec_l11Count.l1] at H
      by_cases c9 : x12_2 ≤ x10_1
      ·rw [if_pos c9] at H
       have c9b0 : decide (x12_2 ≤ x10_1) = true := decide_eq_true c9
       clear c9
       by_cases c10 : 0 ≤ x12_2
       ·rw [if_pos c10] at H
        have c10b0 : decide (0 ≤ x12_2) = true := decide_eq_true c10
        clear c10
        by_cases c11 : x12_2 < (l3.length : Int)
        ·rw [if_pos c11] at H
         have c11b0 : decide (x12_2 < (l3.length : Int)) = true := decide_eq_true c11
         clear c11
         replace H := Option.bind_eq_some_iff.mp H
         obtain ⟨t939,A120,H⟩ := H
         try dsimp only at H
         have A12 := am_ A120
         clear A120
         by_cases c13 : t939 = true
         ·subst c13
          have H1 : (if ((rd_T73 l3 x12_2).f1) = a1 then (if ((rd_T73 l3 x12_2).f2) = a2 then (if 0 ≤ x10_1 then (if x10_1 < (l3.length : Int) then (if (((rd_T73 l3 x12_2).f3.f0) == ((rd_T73 l3 x10_1).f3.f0) && (((rd_T73 l3 x12_2).f3.f1) == ((rd_T73 l3 x10_1).f3.f1) && (((rd_T73 l3 x12_2).f3.f2) == ((rd_T73 l3 x10_1).f3.f2) && (((rd_T73 l3 x12_2).f3.f3) == ((rd_T73 l3 x10_1).f3.f3))))) = true then ((spec_l08Has.f k2 x11_2 ((rd_T73 l3 x12_2).f0)).bind fun t941 => (if t941 = true then (spec_l11Count.l1 k2 a0 a1 a2 l3 x10_1 x11_2 (wrap64 (x12_2 + 1))) else (if x11_2.length < 17592186044416 then (spec_l11Count.l1 k2 a0 a1 a2 l3 x10_1 (x11_2 ++ [(rd_T73 l3 x12_2).f0]) (wrap64 (x12_2 + 1))) else (none)))) else (spec_l11Count.l1 k2 a0 a1 a2 l3 x10_1 x11_2 (wrap64 (x12_2 + 1)))) else (none)) else (none)) else (spec_l11Count.l1 k2 a0 a1 a2 l3 x10_1 x11_2 (wrap64 (x12_2 + 1)))) else (spec_l11Count.l1 k2 a0 a1 a2 l3 x10_1 x11_2 (wrap64 (x12_2 + 1)))) = some (r1,r2,r3,r4,r5) := by rw [if_pos rfl] at H;exact H
          clear H
          have H := H1
          clear H1
          by_cases c14 : ((rd_T73 l3 x12_2).f1) = a1
          ·rw [if_pos c14] at H
           have c14b0 : (((rd_T73 l3 x12_2).f1) == a1) = true := beq_iff_eq.mpr c14
           have c14b1 : (((rd_T73 l3 x12_2).f1) != a1) = false := bne_eq_false_iff_eq.mpr c14
           clear c14
           by_cases c15 : ((rd_T73 l3 x12_2).f2) = a2
           ·rw [if_pos c15] at H
            have c15b0 : (((rd_T73 l3 x12_2).f2) == a2) = true := beq_iff_eq.mpr c15
            have c15b1 : (((rd_T73 l3 x12_2).f2) != a2) = false := bne_eq_false_iff_eq.mpr c15
            clear c15
            by_cases c16 : 0 ≤ x10_1
            ·rw [if_pos c16] at H
             have c16b0 : decide (0 ≤ x10_1) = true := decide_eq_true c16
             clear c16
             by_cases c17 : x10_1 < (l3.length : Int)
             ·rw [if_pos c17] at H
              have c17b0 : decide (x10_1 < (l3.length : Int)) = true := decide_eq_true c17
              clear c17
              by_cases c18 : (((rd_T73 l3 x12_2).f3.f0) == ((rd_T73 l3 x10_1).f3.f0) && (((rd_T73 l3 x12_2).f3.f1) == ((rd_T73 l3 x10_1).f3.f1) && (((rd_T73 l3 x12_2).f3.f2) == ((rd_T73 l3 x10_1).f3.f2) && (((rd_T73 l3 x12_2).f3.f3) == ((rd_T73 l3 x10_1).f3.f3))))) = true
              ·rw [if_pos c18] at H
               have c18k := am_ c18
               have c18b0 : (((rd_T73 l3 x12_2).f3.f0) == ((rd_T73 l3 x10_1).f3.f0) && (((rd_T73 l3 x12_2).f3.f1) == ((rd_T73 l3 x10_1).f3.f1) && (((rd_T73 l3 x12_2).f3.f2) == ((rd_T73 l3 x10_1).f3.f2) && (((rd_T73 l3 x12_2).f3.f3) == ((rd_T73 l3 x10_1).f3.f3))))) = true := c18k.out
               (try (have c18b1 : decide (((rd_T73 l3 x12_2).f3.f0) = ((rd_T73 l3 x10_1).f3.f0) && (((rd_T73 l3 x12_2).f3.f1) == ((rd_T73 l3 x10_1).f3.f1) && (((rd_T73 l3 x12_2).f3.f2) == ((rd_T73 l3 x10_1).f3.f2) && (((rd_T73 l3 x12_2).f3.f3) == ((rd_T73 l3 x10_1).f3.f3))))) = true := by simpa using c18k.out))
               (try (have c18b2 : (((rd_T73 l3 x12_2).f3.f0) == ((rd_T73 l3 x10_1).f3.f0) && (((rd_T73 l3 x12_2).f3.f1) == ((rd_T73 l3 x10_1).f3.f1) && (((rd_T73 l3 x12_2).f3.f2) == ((rd_T73 l3 x10_1).f3.f2) && (((rd_T73 l3 x12_2).f3.f3) == ((rd_T73 l3 x10_1).f3.f3))))) = true := by simpa using c18k.out))
               (try simp only [*,Bool.not_true,Bool.not_false,Bool.false_or,Bool.true_or,Bool.or_false,Bool.or_true,Bool.true_and,Bool.and_true,Bool.false_and,Bool.and_false] at c18)
               have c18bs := c18
               clear c18k
               clear c18
               replace H := Option.bind_eq_some_iff.mp H
               obtain ⟨t941,A190,H⟩ := H
               try dsimp only at H
               have A19 := am_ A190
               clear A190
               by_cases c20 : t941 = true
               ·subst c20
                have H1 : (spec_l11Count.l1 k2 a0 a1 a2 l3 x10_1 x11_2 (wrap64 (x12_2 + 1))) = some (r1,r2,r3,r4,r5) := by rw [if_pos rfl] at H;exact H
                clear H
                have H := H1
                clear H1
                have H' := am_ H
                clear H
                have p937 : 0 ≤ (x12_2 : Int) := zo_
                have q937 : x12_2 < (l3.length : Int) := zo_
                obtain ⟨ad937,e937,hx937_0,hx937_1,hx937_2,hx937_3,hx937_4,hx937_5,hx937_6,hx937_7⟩ := at_T73 HR3.out x12_2 p937 q937
                cases e937
                replace hx937_0 := zx_ HB hx937_0
                replace hx937_1 := zx_ HB hx937_1
                replace hx937_2 := zx_ HB hx937_2
                replace hx937_3 := zx_ HB hx937_3
                replace hx937_4 := zx_ HB hx937_4
                replace hx937_5 := zx_ HB hx937_5
                replace hx937_6 := zx_ HB hx937_6
                replace hx937_7 := zx_ HB hx937_7
                replace p937 := eq_true p937
                replace q937 := eq_true q937
                try go_wp2_with (first | ((with_reducible refine gate_dst (N := 13) rfl ?_);refine zbx (N := 13) (cs := #[.int .i64 0,.int .i64 0,.int .i64 0,.int .i64 0,.int .i64 0,.int .i64 0,.int .i64 0,.string ⟨#[]⟩]) (t := 73) ?_;intro gb938 hg w21 hbox hb;replace HO_11 := zrb HO_11 hb;have BK938 := am_ (hbox);have GW938 := zw_ HB hg;have GE938 := zw_ HB hg;replace HB := zs_ HB hb;have NB932_938 := zl hg BK932;have NB938_932 := zg hg BK932;replace BK932 := zb BK932 hb;clear hb hbox hg;have hnb22 := NB938_932.out;have hnc22 := NB932_938.out;obtain ⟨hcz23_0,hcz23_1,hcz23_2,hcz23_3,hcz23_4,hcz23_5,hcz23_6,hcz23_7,hfz23_0,hfz23_1,hfz23_2,hfz23_3,hfz23_4,hfz23_5,hfz23_6,hfz23_7⟩ := zc8 BK938))
                have n0_ : Aside0 (Kd.R (Kd.int .i64) 3 ((((((((w21.setCell ⟨gb938,0,none⟩ (.int .i64 ((rd_T73 l3 x12_2).f0))).setCell ⟨gb938,1,none⟩ (.int .i64 ((rd_T73 l3 x12_2).f1))).setCell ⟨gb938,2,none⟩ (.int .i64 ((rd_T73 l3 x12_2).f2))).setCell ⟨gb938,3,none⟩ (.int .i64 ((rd_T73 l3 x12_2).f3.f0))).setCell ⟨gb938,4,none⟩ (.int .i64 ((rd_T73 l3 x12_2).f3.f1))).setCell ⟨gb938,5,none⟩ (.int .i64 ((rd_T73 l3 x12_2).f3.f2))).setCell ⟨gb938,6,none⟩ (.int .i64 ((rd_T73 l3 x12_2).f3.f3))).setCell ⟨gb938,7,none⟩ (.string ((rd_T73 l3 x12_2).f4))) w.heap.size (fun _ => True) u11 x11_2) := ⟨by (with_reducible repeat (first | apply r1_ | apply r2_ | apply r3_));exact Kd.R_mono (zrf (Kd.R_types HO_11.out BK938.out (by decide))) (fun _ hk => trivial)⟩
                have n1_ : Aside0 (((((((((w21.setCell ⟨gb938,0,none⟩ (.int .i64 ((rd_T73 l3 x12_2).f0))).setCell ⟨gb938,1,none⟩ (.int .i64 ((rd_T73 l3 x12_2).f1))).setCell ⟨gb938,2,none⟩ (.int .i64 ((rd_T73 l3 x12_2).f2))).setCell ⟨gb938,3,none⟩ (.int .i64 ((rd_T73 l3 x12_2).f3.f0))).setCell ⟨gb938,4,none⟩ (.int .i64 ((rd_T73 l3 x12_2).f3.f1))).setCell ⟨gb938,5,none⟩ (.int .i64 ((rd_T73 l3 x12_2).f3.f2))).setCell ⟨gb938,6,none⟩ (.int .i64 ((rd_T73 l3 x12_2).f3.f3))).setCell ⟨gb938,7,none⟩ (.string ((rd_T73 l3 x12_2).f4))).heap[gb932]? = some (.cells #[.int .i64 x933000_1,.int .i64 x933001_1,.int .i64 x933002_1,.int .i64 x933003_1] 63 (0,0))) := ⟨zq BK932⟩
                have n2_ : Aside0 (((((((((w21.setCell ⟨gb938,0,none⟩ (.int .i64 ((rd_T73 l3 x12_2).f0))).setCell ⟨gb938,1,none⟩ (.int .i64 ((rd_T73 l3 x12_2).f1))).setCell ⟨gb938,2,none⟩ (.int .i64 ((rd_T73 l3 x12_2).f2))).setCell ⟨gb938,3,none⟩ (.int .i64 ((rd_T73 l3 x12_2).f3.f0))).setCell ⟨gb938,4,none⟩ (.int .i64 ((rd_T73 l3 x12_2).f3.f1))).setCell ⟨gb938,5,none⟩ (.int .i64 ((rd_T73 l3 x12_2).f3.f2))).setCell ⟨gb938,6,none⟩ (.int .i64 ((rd_T73 l3 x12_2).f3.f3))).setCell ⟨gb938,7,none⟩ (.string ((rd_T73 l3 x12_2).f4))).heap[gb938]? = some (.cells #[.int .i64 ((rd_T73 l3 x12_2).f0),.int .i64 ((rd_T73 l3 x12_2).f1),.int .i64 ((rd_T73 l3 x12_2).f2),.int .i64 ((rd_T73 l3 x12_2).f3.f0),.int .i64 ((rd_T73 l3 x12_2).f3.f1),.int .i64 ((rd_T73 l3 x12_2).f3.f2),.int .i64 ((rd_T73 l3 x12_2).f3.f3),.string ((rd_T73 l3 x12_2).f4)] 73 (0,0))) := ⟨zq BK938⟩
                have n3_ : Aside0 (Below w.heap.size w ((((((((w21.setCell ⟨gb938,0,none⟩ (.int .i64 ((rd_T73 l3 x12_2).f0))).setCell ⟨gb938,1,none⟩ (.int .i64 ((rd_T73 l3 x12_2).f1))).setCell ⟨gb938,2,none⟩ (.int .i64 ((rd_T73 l3 x12_2).f2))).setCell ⟨gb938,3,none⟩ (.int .i64 ((rd_T73 l3 x12_2).f3.f0))).setCell ⟨gb938,4,none⟩ (.int .i64 ((rd_T73 l3 x12_2).f3.f1))).setCell ⟨gb938,5,none⟩ (.int .i64 ((rd_T73 l3 x12_2).f3.f2))).setCell ⟨gb938,6,none⟩ (.int .i64 ((rd_T73 l3 x12_2).f3.f3))).setCell ⟨gb938,7,none⟩ (.string ((rd_T73 l3 x12_2).f4)))) := ⟨zl_ HB⟩
                (try clear HO_11)
                (try clear BK932)
                (try clear BK938)
                (try clear HB)
                generalize ((((((((w21.setCell ⟨gb938,0,none⟩ (.int .i64 ((rd_T73 l3 x12_2).f0))).setCell ⟨gb938,1,none⟩ (.int .i64 ((rd_T73 l3 x12_2).f1))).setCell ⟨gb938,2,none⟩ (.int .i64 ((rd_T73 l3 x12_2).f2))).setCell ⟨gb938,3,none⟩ (.int .i64 ((rd_T73 l3 x12_2).f3.f0))).setCell ⟨gb938,4,none⟩ (.int .i64 ((rd_T73 l3 x12_2).f3.f1))).setCell ⟨gb938,5,none⟩ (.int .i64 ((rd_T73 l3 x12_2).f3.f2))).setCell ⟨gb938,6,none⟩ (.int .i64 ((rd_T73 l3 x12_2).f3.f3))).setCell ⟨gb938,7,none⟩ (.string ((rd_T73 l3 x12_2).f4))) = w24 at n0_ n1_ n2_ n3_ ⊢
                have HO_11 := n0_
                have BK932 := n1_
                have BK938 := n2_
                have HB := n3_
                clear n0_ n1_ n2_ n3_
                replace HO_11 := am_ (Kd.R_drew HO_11.out)
                replace BK932 := am_ (blk_drew BK932.out)
                replace BK938 := am_ (blk_drew BK938.out)
                replace HB := am_ (below_drew1 HB.out)
                have p940 : 0 ≤ (x10_1 : Int) := zo_
                have q940 : x10_1 < (l3.length : Int) := zo_
                obtain ⟨ad940,e940,hx940_0,hx940_1,hx940_2,hx940_3,hx940_4,hx940_5,hx940_6,hx940_7⟩ := at_T73 HR3.out x10_1 p940 q940
                have hw940_7 := hx940_7
                have hw940_6 := hx940_6
                have hw940_5 := hx940_5
                have hw940_4 := hx940_4
                have hw940_3 := hx940_3
                have hw940_2 := hx940_2
                have hw940_1 := hx940_1
                have hw940_0 := hx940_0
                obtain rfl : ad937 = ad940 := (by injection e940)
                replace hx940_0 := zx_ HB hx940_0
                replace hx940_1 := zx_ HB hx940_1
                replace hx940_2 := zx_ HB hx940_2
                replace hx940_3 := zx_ HB hx940_3
                replace hx940_4 := zx_ HB hx940_4
                replace hx940_5 := zx_ HB hx940_5
                replace hx940_6 := zx_ HB hx940_6
                replace hx940_7 := zx_ HB hx940_7
                replace p940 := eq_true p940
                replace q940 := eq_true q940
                refine start_ (n := 32) (S := fun w' => w'.cell? ⟨gb938,0,none⟩ = some (.int .i64 ((rd_T73 l3 x12_2).f0)) ∧ w'.cell? ⟨gb938,1,none⟩ = some (.int .i64 ((rd_T73 l3 x12_2).f1)) ∧ w'.cell? ⟨gb938,2,none⟩ = some (.int .i64 ((rd_T73 l3 x12_2).f2)) ∧ w'.cell? ⟨gb938,3,none⟩ = some (.int .i64 ((rd_T73 l3 x12_2).f3.f0)) ∧ w'.cell? ⟨gb938,4,none⟩ = some (.int .i64 ((rd_T73 l3 x12_2).f3.f1)) ∧ w'.cell? ⟨gb938,5,none⟩ = some (.int .i64 ((rd_T73 l3 x12_2).f3.f2)) ∧ w'.cell? ⟨gb938,6,none⟩ = some (.int .i64 ((rd_T73 l3 x12_2).f3.f3)) ∧ w'.cell? ⟨gb938,7,none⟩ = some (.string ((rd_T73 l3 x12_2).f4)) ∧ w'.cell? (ad937.add ((x10_1).toNat * 8)) = some (.int .i64 ((rd_T73 l3 x10_1).f0)) ∧ w'.cell? ⟨(ad937.add ((x10_1).toNat * 8)).block,(ad937.add ((x10_1).toNat * 8)).off + 1,none⟩ = some (.int .i64 ((rd_T73 l3 x10_1).f1)) ∧ w'.cell? ⟨(ad937.add ((x10_1).toNat * 8)).block,(ad937.add ((x10_1).toNat * 8)).off + 2,none⟩ = some (.int .i64 ((rd_T73 l3 x10_1).f2)) ∧ w'.cell? ⟨(ad937.add ((x10_1).toNat * 8)).block,(ad937.add ((x10_1).toNat * 8)).off + 3,none⟩ = some (.int .i64 ((rd_T73 l3 x10_1).f3.f0)) ∧ w'.cell? ⟨(ad937.add ((x10_1).toNat * 8)).block,(ad937.add ((x10_1).toNat * 8)).off + 4,none⟩ = some (.int .i64 ((rd_T73 l3 x10_1).f3.f1)) ∧ w'.cell? ⟨(ad937.add ((x10_1).toNat * 8)).block,(ad937.add ((x10_1).toNat * 8)).off + 5,none⟩ = some (.int .i64 ((rd_T73 l3 x10_1).f3.f2)) ∧ w'.cell? ⟨(ad937.add ((x10_1).toNat * 8)).block,(ad937.add ((x10_1).toNat * 8)).off + 6,none⟩ = some (.int .i64 ((rd_T73 l3 x10_1).f3.f3)) ∧ w'.cell? ⟨(ad937.add ((x10_1).toNat * 8)).block,(ad937.add ((x10_1).toNat * 8)).off + 7,none⟩ = some (.string ((rd_T73 l3 x10_1).f4))) (ds := []) #[false,false,false,false,false,false,false,false,false,false,false,false,false,false,false,false,false,false,false,false,false,false,false,false,false,false,false,false,false,false,false,false] (by kernel_rfl) rfl rfl ⟨(blk_cell BK938.out 0).trans rfl,(blk_cell BK938.out 1).trans rfl,(blk_cell BK938.out 2).trans rfl,(blk_cell BK938.out 3).trans rfl,(blk_cell BK938.out 4).trans rfl,(blk_cell BK938.out 5).trans rfl,(blk_cell BK938.out 6).trans rfl,(blk_cell BK938.out 7).trans rfl,(zx_ HB hw940_0),(zx_ HB hw940_1),(zx_ HB hw940_2),(zx_ HB hw940_3),(zx_ HB hw940_4),(zx_ HB hw940_5),(zx_ HB hw940_6),(zx_ HB hw940_7)⟩ (fun hHeld => ?_);refine with_tabW spec_l11Count.tab9 spec_l11Count.bits9 (fun HT_ HW_ => ?_)
                generalize w24.drew = w25 at HO_11 BK932 BK938 HB hx940_0 hx940_1 hx940_2 hx940_3 hx940_4 hx940_5 hx940_6 hx940_7 hHeld ⊢
                refine zpu 0 (N := some 30) HT_ ?_
                refine ztk 1 (N := some 31) HT_ HW_ hHeld ?_
                refine zon 2 (N := some 32) HT_ (fun K hK => ?_)
                refine zgo Tryd.func97 #[.int .i64 a0,.agg #[.int .i64 ((rd_T73 l3 x12_2).f0),.int .i64 ((rd_T73 l3 x12_2).f1),.int .i64 ((rd_T73 l3 x12_2).f2),.int .i64 ((rd_T73 l3 x12_2).f3.f0),.int .i64 ((rd_T73 l3 x12_2).f3.f1),.int .i64 ((rd_T73 l3 x12_2).f3.f2),.int .i64 ((rd_T73 l3 x12_2).f3.f3),.string ((rd_T73 l3 x12_2).f4)]] ?_
                with_reducible refine (spec_l11OK.calls k2 a0 ((rd_T73 l3 x12_2).f0) ((rd_T73 l3 x12_2).f1) ((rd_T73 l3 x12_2).f2) ((rd_T73 l3 x12_2).f3.f0) ((rd_T73 l3 x12_2).f3.f1) ((rd_T73 l3 x12_2).f3.f2) ((rd_T73 l3 x12_2).f3.f3) ((rd_T73 l3 x12_2).f4) true _ A12.out).mono ?_
                rintro e w26 ⟨rfl,hb⟩
                refine ⟨_,rfl,?_⟩
                replace HO_11 := zrb HO_11 hb
                replace BK932 := zb BK932 hb
                replace BK938 := zb BK938 hb
                replace HB := zs_ HB hb
                (try clear hb)
                (try clear hb2)
                (try clear hk)
                (try clear hi)
                obtain ⟨Ao27,co27,eo27⟩ := Kd.R_slice HO_11.out
                (first | subst eo27 | (injection eo27 with f1_ f2_ f3_;have f4_ := f1_.symm;have f5_ := f3_.symm;clear f1_ f2_ f3_;subst f4_;subst f5_))
                refine hK.out _ _ ⟨(blk_cell BK938.out 0).trans rfl,(blk_cell BK938.out 1).trans rfl,(blk_cell BK938.out 2).trans rfl,(blk_cell BK938.out 3).trans rfl,(blk_cell BK938.out 4).trans rfl,(blk_cell BK938.out 5).trans rfl,(blk_cell BK938.out 6).trans rfl,(blk_cell BK938.out 7).trans rfl,(zx_ HB hw940_0),(zx_ HB hw940_1),(zx_ HB hw940_2),(zx_ HB hw940_3),(zx_ HB hw940_4),(zx_ HB hw940_5),(zx_ HB hw940_6),(zx_ HB hw940_7)⟩ (fun hHeld => ?_)
                clear hK K
                refine norm_ (a' := ?_) ?_ ?_
                rotate_left
                ·show Act.put _ (some 32) _ = _
                 simp only [Act.put,p1_,p2_,p3_,i64_w,i32_w]
                 rfl
                refine zpu 3 (N := some 33) HT_ ?_
                refine zpu 4 (N := some 34) HT_ ?_
                refine zpu 6 (N := some 36) HT_ ?_
                refine ztk 5 (N := some 35) HT_ HW_ hHeld ?_
                refine zpu 7 (N := some 37) HT_ ?_
                refine zpu 8 (N := some 38) HT_ ?_
                refine zpu 9 (N := some 39) HT_ ?_
                refine zpu 10 (N := some 40) HT_ ?_
                refine zpu 12 (N := some 42) HT_ ?_
                refine ztk 11 (N := some 41) HT_ HW_ hHeld ?_
                refine zpu 13 (N := some 43) HT_ ?_
                refine zpu 14 (N := some 44) HT_ ?_
                refine zpu 15 (N := some 45) HT_ ?_
                refine zpu 16 (N := some 46) HT_ ?_
                refine zpu 18 (N := some 48) HT_ ?_
                refine zpu 19 (N := some 49) HT_ ?_
                refine zpu 20 (N := some 50) HT_ ?_
                refine zpu 21 (N := some 51) HT_ ?_
                refine ztk 17 (N := some 47) HT_ HW_ hHeld ?_
                refine ztk 22 (N := some 52) HT_ HW_ hHeld ?_
                refine zpu 23 (N := some 53) HT_ ?_
                refine zpu 24 (N := some 54) HT_ ?_
                refine zpu 25 (N := some 55) HT_ ?_
                refine zpu 26 (N := some 56) HT_ ?_
                refine zpu 27 (N := some 57) HT_ ?_
                refine ztk 28 (N := some 58) HT_ HW_ hHeld ?_
                refine zon 29 (N := some 59) HT_ (fun K hK => ?_)
                refine zgo Tryd.func138 #[.slice Ao27 x11_2.length co27,.int .i64 ((rd_T73 l3 x12_2).f0)] ?_
                with_reducible refine (spec_l08Has.calls k2 _ _ x11_2 ((rd_T73 l3 x12_2).f0) true _ ?side1 ?side2 A19.out).mono ?_
                (case side1 => repeat (first | exact (Kd.R_reads' HO_11.out).2.2 | (with_reducible refine Kd.C_alloc ?_ _) | (with_reducible refine Kd.C_drewN ?_ _) | (with_reducible refine Kd.C_drew ?_)))
                (case side2 => exact (Kd.R_reads' HO_11.out).2.1)
                rintro e w' ⟨rfl,⟨nd,rfl⟩⟩
                refine ⟨_,rfl,?_⟩
                refine hK.out _ _ ⟨(blk_cell BK938.out 0).trans rfl,(blk_cell BK938.out 1).trans rfl,(blk_cell BK938.out 2).trans rfl,(blk_cell BK938.out 3).trans rfl,(blk_cell BK938.out 4).trans rfl,(blk_cell BK938.out 5).trans rfl,(blk_cell BK938.out 6).trans rfl,(blk_cell BK938.out 7).trans rfl,(zx_ ⟨pw_below_drewN HB.out nd⟩ hw940_0),(zx_ ⟨pw_below_drewN HB.out nd⟩ hw940_1),(zx_ ⟨pw_below_drewN HB.out nd⟩ hw940_2),(zx_ ⟨pw_below_drewN HB.out nd⟩ hw940_3),(zx_ ⟨pw_below_drewN HB.out nd⟩ hw940_4),(zx_ ⟨pw_below_drewN HB.out nd⟩ hw940_5),(zx_ ⟨pw_below_drewN HB.out nd⟩ hw940_6),(zx_ ⟨pw_below_drewN HB.out nd⟩ hw940_7)⟩ (fun hHeld => ?_)
                clear hK K
                refine norm_ (a' := ?_) ?_ ?_
                rotate_left
                ·show Act.put _ (some 59) _ = _
                 simp only [Act.put,p1_,p2_,p3_,i64_w,i32_w]
                 rfl
                refine zpu 30 (N := some 60) HT_ ?_
                refine zpu 31 (N := some 61) HT_ ?_
                refine done_ (done_of HT_.out (by kernel_rfl)) ?_
                try go_wp2
                go_roundg k2
                case measure => have := HK1.out;have := HK2.out;omega
                case rel => exact ⟨(x11_2),(wrap64 (x12_2 + 1)),(by first | rfl | (simp;done) | (simp [*];done)),H',⟨by have := HK1.out;have := HK2.out;omega⟩,⟨zr HO_11⟩,⟨by (with_reducible repeat (first | apply k1_ | apply k2_ | apply k3_));exact BK932.out⟩,⟨zl_ HB⟩⟩
               ·replace c20 := Bool.eq_false_iff.mpr c20
                subst c20
                have H1 : (if x11_2.length < 17592186044416 then (spec_l11Count.l1 k2 a0 a1 a2 l3 x10_1 (x11_2 ++ [(rd_T73 l3 x12_2).f0]) (wrap64 (x12_2 + 1))) else (none)) = some (r1,r2,r3,r4,r5) := by rw [if_neg (show ¬ (false = true) by decide)] at H;exact H
                clear H
                have H := H1
                clear H1
                by_cases c28 : x11_2.length < 17592186044416
                ·rw [if_pos c28] at H
                 have LMc28 := am_ c28
                 clear c28
                 obtain ⟨y942,hy942⟩ : ∃ y_ : List Int,y_ = (x11_2 ++ [(rd_T73 l3 x12_2).f0]) := ⟨_,rfl⟩
                 replace H : (spec_l11Count.l1 k2 a0 a1 a2 l3 x10_1 y942 (wrap64 (x12_2 + 1))) = some (r1,r2,r3,r4,r5) := by first | (rw [hy942];with_reducible exact H) | (have H2_ := (Option.bind_some _ _).symm.trans H;rw [hy942];with_reducible exact H2_) | (have H2_ := (Option.bind_some _ _).symm.trans H;with_reducible exact H2_) | with_reducible exact H | (rw [hy942];exact H) | exact H
                 have Ny942 := am_ hy942
                 clear hy942
                 have H' := am_ H
                 clear H
                 have p937 : 0 ≤ (x12_2 : Int) := zo_
                 have q937 : x12_2 < (l3.length : Int) := zo_
                 obtain ⟨ad937,e937,hx937_0,hx937_1,hx937_2,hx937_3,hx937_4,hx937_5,hx937_6,hx937_7⟩ := at_T73 HR3.out x12_2 p937 q937
                 cases e937
                 replace hx937_0 := zx_ HB hx937_0
                 replace hx937_1 := zx_ HB hx937_1
                 replace hx937_2 := zx_ HB hx937_2
                 replace hx937_3 := zx_ HB hx937_3
                 replace hx937_4 := zx_ HB hx937_4
                 replace hx937_5 := zx_ HB hx937_5
                 replace hx937_6 := zx_ HB hx937_6
                 replace hx937_7 := zx_ HB hx937_7
                 replace p937 := eq_true p937
                 replace q937 := eq_true q937
                 try go_wp2_with (first | ((with_reducible refine gate_dst (N := 13) rfl ?_);refine zbx (N := 13) (cs := #[.int .i64 0,.int .i64 0,.int .i64 0,.int .i64 0,.int .i64 0,.int .i64 0,.int .i64 0,.string ⟨#[]⟩]) (t := 73) ?_;intro gb938 hg w29 hbox hb;replace HO_11 := zrb HO_11 hb;have BK938 := am_ (hbox);have GW938 := zw_ HB hg;have GE938 := zw_ HB hg;replace HB := zs_ HB hb;have NB932_938 := zl hg BK932;have NB938_932 := zg hg BK932;replace BK932 := zb BK932 hb;clear hb hbox hg;have hnb30 := NB938_932.out;have hnc30 := NB932_938.out;obtain ⟨hcz31_0,hcz31_1,hcz31_2,hcz31_3,hcz31_4,hcz31_5,hcz31_6,hcz31_7,hfz31_0,hfz31_1,hfz31_2,hfz31_3,hfz31_4,hfz31_5,hfz31_6,hfz31_7⟩ := zc8 BK938))
                 have n0_ : Aside0 (Kd.R (Kd.int .i64) 3 ((((((((w29.setCell ⟨gb938,0,none⟩ (.int .i64 ((rd_T73 l3 x12_2).f0))).setCell ⟨gb938,1,none⟩ (.int .i64 ((rd_T73 l3 x12_2).f1))).setCell ⟨gb938,2,none⟩ (.int .i64 ((rd_T73 l3 x12_2).f2))).setCell ⟨gb938,3,none⟩ (.int .i64 ((rd_T73 l3 x12_2).f3.f0))).setCell ⟨gb938,4,none⟩ (.int .i64 ((rd_T73 l3 x12_2).f3.f1))).setCell ⟨gb938,5,none⟩ (.int .i64 ((rd_T73 l3 x12_2).f3.f2))).setCell ⟨gb938,6,none⟩ (.int .i64 ((rd_T73 l3 x12_2).f3.f3))).setCell ⟨gb938,7,none⟩ (.string ((rd_T73 l3 x12_2).f4))) w.heap.size (fun _ => True) u11 x11_2) := ⟨by (with_reducible repeat (first | apply r1_ | apply r2_ | apply r3_));exact Kd.R_mono (zrf (Kd.R_types HO_11.out BK938.out (by decide))) (fun _ hk => trivial)⟩
                 have n1_ : Aside0 (((((((((w29.setCell ⟨gb938,0,none⟩ (.int .i64 ((rd_T73 l3 x12_2).f0))).setCell ⟨gb938,1,none⟩ (.int .i64 ((rd_T73 l3 x12_2).f1))).setCell ⟨gb938,2,none⟩ (.int .i64 ((rd_T73 l3 x12_2).f2))).setCell ⟨gb938,3,none⟩ (.int .i64 ((rd_T73 l3 x12_2).f3.f0))).setCell ⟨gb938,4,none⟩ (.int .i64 ((rd_T73 l3 x12_2).f3.f1))).setCell ⟨gb938,5,none⟩ (.int .i64 ((rd_T73 l3 x12_2).f3.f2))).setCell ⟨gb938,6,none⟩ (.int .i64 ((rd_T73 l3 x12_2).f3.f3))).setCell ⟨gb938,7,none⟩ (.string ((rd_T73 l3 x12_2).f4))).heap[gb932]? = some (.cells #[.int .i64 x933000_1,.int .i64 x933001_1,.int .i64 x933002_1,.int .i64 x933003_1] 63 (0,0))) := ⟨zq BK932⟩
                 have n2_ : Aside0 (((((((((w29.setCell ⟨gb938,0,none⟩ (.int .i64 ((rd_T73 l3 x12_2).f0))).setCell ⟨gb938,1,none⟩ (.int .i64 ((rd_T73 l3 x12_2).f1))).setCell ⟨gb938,2,none⟩ (.int .i64 ((rd_T73 l3 x12_2).f2))).setCell ⟨gb938,3,none⟩ (.int .i64 ((rd_T73 l3 x12_2).f3.f0))).setCell ⟨gb938,4,none⟩ (.int .i64 ((rd_T73 l3 x12_2).f3.f1))).setCell ⟨gb938,5,none⟩ (.int .i64 ((rd_T73 l3 x12_2).f3.f2))).setCell ⟨gb938,6,none⟩ (.int .i64 ((rd_T73 l3 x12_2).f3.f3))).setCell ⟨gb938,7,none⟩ (.string ((rd_T73 l3 x12_2).f4))).heap[gb938]? = some (.cells #[.int .i64 ((rd_T73 l3 x12_2).f0),.int .i64 ((rd_T73 l3 x12_2).f1),.int .i64 ((rd_T73 l3 x12_2).f2),.int .i64 ((rd_T73 l3 x12_2).f3.f0),.int .i64 ((rd_T73 l3 x12_2).f3.f1),.int .i64 ((rd_T73 l3 x12_2).f3.f2),.int .i64 ((rd_T73 l3 x12_2).f3.f3),.string ((rd_T73 l3 x12_2).f4)] 73 (0,0))) := ⟨zq BK938⟩
                 have n3_ : Aside0 (Below w.heap.size w ((((((((w29.setCell ⟨gb938,0,none⟩ (.int .i64 ((rd_T73 l3 x12_2).f0))).setCell ⟨gb938,1,none⟩ (.int .i64 ((rd_T73 l3 x12_2).f1))).setCell ⟨gb938,2,none⟩ (.int .i64 ((rd_T73 l3 x12_2).f2))).setCell ⟨gb938,3,none⟩ (.int .i64 ((rd_T73 l3 x12_2).f3.f0))).setCell ⟨gb938,4,none⟩ (.int .i64 ((rd_T73 l3 x12_2).f3.f1))).setCell ⟨gb938,5,none⟩ (.int .i64 ((rd_T73 l3 x12_2).f3.f2))).setCell ⟨gb938,6,none⟩ (.int .i64 ((rd_T73 l3 x12_2).f3.f3))).setCell ⟨gb938,7,none⟩ (.string ((rd_T73 l3 x12_2).f4)))) := ⟨zl_ HB⟩
                 (try clear HO_11)
                 (try clear BK932)
                 (try clear BK938)
                 (try clear HB)
                 generalize ((((((((w29.setCell ⟨gb938,0,none⟩ (.int .i64 ((rd_T73 l3 x12_2).f0))).setCell ⟨gb938,1,none⟩ (.int .i64 ((rd_T73 l3 x12_2).f1))).setCell ⟨gb938,2,none⟩ (.int .i64 ((rd_T73 l3 x12_2).f2))).setCell ⟨gb938,3,none⟩ (.int .i64 ((rd_T73 l3 x12_2).f3.f0))).setCell ⟨gb938,4,none⟩ (.int .i64 ((rd_T73 l3 x12_2).f3.f1))).setCell ⟨gb938,5,none⟩ (.int .i64 ((rd_T73 l3 x12_2).f3.f2))).setCell ⟨gb938,6,none⟩ (.int .i64 ((rd_T73 l3 x12_2).f3.f3))).setCell ⟨gb938,7,none⟩ (.string ((rd_T73 l3 x12_2).f4))) = w32 at n0_ n1_ n2_ n3_ ⊢
                 have HO_11 := n0_
                 have BK932 := n1_
                 have BK938 := n2_
                 have HB := n3_
                 clear n0_ n1_ n2_ n3_
                 replace HO_11 := am_ (Kd.R_drew HO_11.out)
                 replace BK932 := am_ (blk_drew BK932.out)
                 replace BK938 := am_ (blk_drew BK938.out)
                 replace HB := am_ (below_drew1 HB.out)
                 have p940 : 0 ≤ (x10_1 : Int) := zo_
                 have q940 : x10_1 < (l3.length : Int) := zo_
                 obtain ⟨ad940,e940,hx940_0,hx940_1,hx940_2,hx940_3,hx940_4,hx940_5,hx940_6,hx940_7⟩ := at_T73 HR3.out x10_1 p940 q940
                 have hw940_7 := hx940_7
                 have hw940_6 := hx940_6
                 have hw940_5 := hx940_5
                 have hw940_4 := hx940_4
                 have hw940_3 := hx940_3
                 have hw940_2 := hx940_2
                 have hw940_1 := hx940_1
                 have hw940_0 := hx940_0
                 obtain rfl : ad937 = ad940 := (by injection e940)
                 replace hx940_0 := zx_ HB hx940_0
                 replace hx940_1 := zx_ HB hx940_1
                 replace hx940_2 := zx_ HB hx940_2
                 replace hx940_3 := zx_ HB hx940_3
                 replace hx940_4 := zx_ HB hx940_4
                 replace hx940_5 := zx_ HB hx940_5
                 replace hx940_6 := zx_ HB hx940_6
                 replace hx940_7 := zx_ HB hx940_7
                 replace p940 := eq_true p940
                 replace q940 := eq_true q940
                 refine start_ (n := 32) (S := fun w' => w'.cell? ⟨gb938,0,none⟩ = some (.int .i64 ((rd_T73 l3 x12_2).f0)) ∧ w'.cell? ⟨gb938,1,none⟩ = some (.int .i64 ((rd_T73 l3 x12_2).f1)) ∧ w'.cell? ⟨gb938,2,none⟩ = some (.int .i64 ((rd_T73 l3 x12_2).f2)) ∧ w'.cell? ⟨gb938,3,none⟩ = some (.int .i64 ((rd_T73 l3 x12_2).f3.f0)) ∧ w'.cell? ⟨gb938,4,none⟩ = some (.int .i64 ((rd_T73 l3 x12_2).f3.f1)) ∧ w'.cell? ⟨gb938,5,none⟩ = some (.int .i64 ((rd_T73 l3 x12_2).f3.f2)) ∧ w'.cell? ⟨gb938,6,none⟩ = some (.int .i64 ((rd_T73 l3 x12_2).f3.f3)) ∧ w'.cell? ⟨gb938,7,none⟩ = some (.string ((rd_T73 l3 x12_2).f4)) ∧ w'.cell? (ad937.add ((x10_1).toNat * 8)) = some (.int .i64 ((rd_T73 l3 x10_1).f0)) ∧ w'.cell? ⟨(ad937.add ((x10_1).toNat * 8)).block,(ad937.add ((x10_1).toNat * 8)).off + 1,none⟩ = some (.int .i64 ((rd_T73 l3 x10_1).f1)) ∧ w'.cell? ⟨(ad937.add ((x10_1).toNat * 8)).block,(ad937.add ((x10_1).toNat * 8)).off + 2,none⟩ = some (.int .i64 ((rd_T73 l3 x10_1).f2)) ∧ w'.cell? ⟨(ad937.add ((x10_1).toNat * 8)).block,(ad937.add ((x10_1).toNat * 8)).off + 3,none⟩ = some (.int .i64 ((rd_T73 l3 x10_1).f3.f0)) ∧ w'.cell? ⟨(ad937.add ((x10_1).toNat * 8)).block,(ad937.add ((x10_1).toNat * 8)).off + 4,none⟩ = some (.int .i64 ((rd_T73 l3 x10_1).f3.f1)) ∧ w'.cell? ⟨(ad937.add ((x10_1).toNat * 8)).block,(ad937.add ((x10_1).toNat * 8)).off + 5,none⟩ = some (.int .i64 ((rd_T73 l3 x10_1).f3.f2)) ∧ w'.cell? ⟨(ad937.add ((x10_1).toNat * 8)).block,(ad937.add ((x10_1).toNat * 8)).off + 6,none⟩ = some (.int .i64 ((rd_T73 l3 x10_1).f3.f3)) ∧ w'.cell? ⟨(ad937.add ((x10_1).toNat * 8)).block,(ad937.add ((x10_1).toNat * 8)).off + 7,none⟩ = some (.string ((rd_T73 l3 x10_1).f4))) (ds := []) #[false,false,false,false,false,false,false,false,false,false,false,false,false,false,false,false,false,false,false,false,false,false,false,false,false,false,false,false,false,false,false,false] (by kernel_rfl) rfl rfl ⟨(blk_cell BK938.out 0).trans rfl,(blk_cell BK938.out 1).trans rfl,(blk_cell BK938.out 2).trans rfl,(blk_cell BK938.out 3).trans rfl,(blk_cell BK938.out 4).trans rfl,(blk_cell BK938.out 5).trans rfl,(blk_cell BK938.out 6).trans rfl,(blk_cell BK938.out 7).trans rfl,(zx_ HB hw940_0),(zx_ HB hw940_1),(zx_ HB hw940_2),(zx_ HB hw940_3),(zx_ HB hw940_4),(zx_ HB hw940_5),(zx_ HB hw940_6),(zx_ HB hw940_7)⟩ (fun hHeld => ?_);refine with_tabW spec_l11Count.tab9 spec_l11Count.bits9 (fun HT_ HW_ => ?_)
                 generalize w32.drew = w33 at HO_11 BK932 BK938 HB hx940_0 hx940_1 hx940_2 hx940_3 hx940_4 hx940_5 hx940_6 hx940_7 hHeld ⊢
                 refine zpu 0 (N := some 30) HT_ ?_
                 refine ztk 1 (N := some 31) HT_ HW_ hHeld ?_
                 refine zon 2 (N := some 32) HT_ (fun K hK => ?_)
                 refine zgo Tryd.func97 #[.int .i64 a0,.agg #[.int .i64 ((rd_T73 l3 x12_2).f0),.int .i64 ((rd_T73 l3 x12_2).f1),.int .i64 ((rd_T73 l3 x12_2).f2),.int .i64 ((rd_T73 l3 x12_2).f3.f0),.int .i64 ((rd_T73 l3 x12_2).f3.f1),.int .i64 ((rd_T73 l3 x12_2).f3.f2),.int .i64 ((rd_T73 l3 x12_2).f3.f3),.string ((rd_T73 l3 x12_2).f4)]] ?_
                 with_reducible refine (spec_l11OK.calls k2 a0 ((rd_T73 l3 x12_2).f0) ((rd_T73 l3 x12_2).f1) ((rd_T73 l3 x12_2).f2) ((rd_T73 l3 x12_2).f3.f0) ((rd_T73 l3 x12_2).f3.f1) ((rd_T73 l3 x12_2).f3.f2) ((rd_T73 l3 x12_2).f3.f3) ((rd_T73 l3 x12_2).f4) true _ A12.out).mono ?_
                 rintro e w34 ⟨rfl,hb⟩
                 refine ⟨_,rfl,?_⟩
                 replace HO_11 := zrb HO_11 hb
                 replace BK932 := zb BK932 hb
                 replace BK938 := zb BK938 hb
                 replace HB := zs_ HB hb
                 (try clear hb)
                 (try clear hb2)
                 (try clear hk)
                 (try clear hi)
                 obtain ⟨Ao35,co35,eo35⟩ := Kd.R_slice HO_11.out
                 (first | subst eo35 | (injection eo35 with f1_ f2_ f3_;have f4_ := f1_.symm;have f5_ := f3_.symm;clear f1_ f2_ f3_;subst f4_;subst f5_))
                 refine hK.out _ _ ⟨(blk_cell BK938.out 0).trans rfl,(blk_cell BK938.out 1).trans rfl,(blk_cell BK938.out 2).trans rfl,(blk_cell BK938.out 3).trans rfl,(blk_cell BK938.out 4).trans rfl,(blk_cell BK938.out 5).trans rfl,(blk_cell BK938.out 6).trans rfl,(blk_cell BK938.out 7).trans rfl,(zx_ HB hw940_0),(zx_ HB hw940_1),(zx_ HB hw940_2),(zx_ HB hw940_3),(zx_ HB hw940_4),(zx_ HB hw940_5),(zx_ HB hw940_6),(zx_ HB hw940_7)⟩ (fun hHeld => ?_)
                 clear hK K
                 refine norm_ (a' := ?_) ?_ ?_
                 rotate_left
                 ·show Act.put _ (some 32) _ = _
                  simp only [Act.put,p1_,p2_,p3_,i64_w,i32_w]
                  rfl
                 refine zpu 3 (N := some 33) HT_ ?_
                 refine zpu 4 (N := some 34) HT_ ?_
                 refine zpu 6 (N := some 36) HT_ ?_
                 refine ztk 5 (N := some 35) HT_ HW_ hHeld ?_
                 refine zpu 7 (N := some 37) HT_ ?_
                 refine zpu 8 (N := some 38) HT_ ?_
                 refine zpu 9 (N := some 39) HT_ ?_
                 refine zpu 10 (N := some 40) HT_ ?_
                 refine zpu 12 (N := some 42) HT_ ?_
                 refine ztk 11 (N := some 41) HT_ HW_ hHeld ?_
                 refine zpu 13 (N := some 43) HT_ ?_
                 refine zpu 14 (N := some 44) HT_ ?_
                 refine zpu 15 (N := some 45) HT_ ?_
                 refine zpu 16 (N := some 46) HT_ ?_
                 refine zpu 18 (N := some 48) HT_ ?_
                 refine zpu 19 (N := some 49) HT_ ?_
                 refine zpu 20 (N := some 50) HT_ ?_
                 refine zpu 21 (N := some 51) HT_ ?_
                 refine ztk 17 (N := some 47) HT_ HW_ hHeld ?_
                 refine ztk 22 (N := some 52) HT_ HW_ hHeld ?_
                 refine zpu 23 (N := some 53) HT_ ?_
                 refine zpu 24 (N := some 54) HT_ ?_
                 refine zpu 25 (N := some 55) HT_ ?_
                 refine zpu 26 (N := some 56) HT_ ?_
                 refine zpu 27 (N := some 57) HT_ ?_
                 refine ztk 28 (N := some 58) HT_ HW_ hHeld ?_
                 refine zon 29 (N := some 59) HT_ (fun K hK => ?_)
                 refine zgo Tryd.func138 #[.slice Ao35 x11_2.length co35,.int .i64 ((rd_T73 l3 x12_2).f0)] ?_
                 with_reducible refine (spec_l08Has.calls k2 _ _ x11_2 ((rd_T73 l3 x12_2).f0) false _ ?side1 ?side2 A19.out).mono ?_
                 (case side1 => repeat (first | exact (Kd.R_reads' HO_11.out).2.2 | (with_reducible refine Kd.C_alloc ?_ _) | (with_reducible refine Kd.C_drewN ?_ _) | (with_reducible refine Kd.C_drew ?_)))
                 (case side2 => exact (Kd.R_reads' HO_11.out).2.1)
                 rintro e w' ⟨rfl,⟨nd,rfl⟩⟩
                 refine ⟨_,rfl,?_⟩
                 refine hK.out _ _ ⟨(blk_cell BK938.out 0).trans rfl,(blk_cell BK938.out 1).trans rfl,(blk_cell BK938.out 2).trans rfl,(blk_cell BK938.out 3).trans rfl,(blk_cell BK938.out 4).trans rfl,(blk_cell BK938.out 5).trans rfl,(blk_cell BK938.out 6).trans rfl,(blk_cell BK938.out 7).trans rfl,(zx_ ⟨pw_below_drewN HB.out nd⟩ hw940_0),(zx_ ⟨pw_below_drewN HB.out nd⟩ hw940_1),(zx_ ⟨pw_below_drewN HB.out nd⟩ hw940_2),(zx_ ⟨pw_below_drewN HB.out nd⟩ hw940_3),(zx_ ⟨pw_below_drewN HB.out nd⟩ hw940_4),(zx_ ⟨pw_below_drewN HB.out nd⟩ hw940_5),(zx_ ⟨pw_below_drewN HB.out nd⟩ hw940_6),(zx_ ⟨pw_below_drewN HB.out nd⟩ hw940_7)⟩ (fun hHeld => ?_)
                 clear hK K
                 refine norm_ (a' := ?_) ?_ ?_
                 rotate_left
                 ·show Act.put _ (some 59) _ = _
                  simp only [Act.put,p1_,p2_,p3_,i64_w,i32_w]
                  rfl
                 refine zpu 30 (N := some 60) HT_ ?_
                 refine zpu 31 (N := some 61) HT_ ?_
                 refine done_ (done_of HT_.out (by kernel_rfl)) ?_
                 obtain ⟨hcz36_0,hcz36_1,hcz36_2,hcz36_3,hcz36_4,hcz36_5,hcz36_6,hcz36_7,hfz36_0,hfz36_1,hfz36_2,hfz36_3,hfz36_4,hfz36_5,hfz36_6,hfz36_7⟩ := zc8 BK938
                 try go_wp2_with (first | ((with_reducible refine gate_builtin (b := .append) (xs := #[.tmp 62,.tmp 65]) rfl ?_);at_builtin;refine Kd.R_append (Kd.int .i64) (w0 := w) w.heap.size rfl (.tmp 62) (.tmp 65) 24 3 (.int .i64 0) 8 rfl Tryd.underlying24 info3 rfl (by decide) (by omega) (.slice Ao35 x11_2.length co35) x11_2 ((rd_T73 l3 x12_2).f0) [.int .i64 ((rd_T73 l3 x12_2).f0)] (fun _ => True) (fun _ => False) rfl rfl ?aP (fun _ hk => hk.elim) ?aF ?aO ?aB ?aS ?aL ?_;(case aP => exact rfl);(case aB => exact (zl_ HB));(case aF => exact (fun _ _ => trivial));(case aO => exact (zr HO_11));(case aS => exact (below_size (zl_ HB)));(case aL => have := LMc28.out;omega);intro v943 w37 ho hb hg hat;rw [← Ny942.out] at ho;replace BK932 := am_ (blk_grown (g := gb932) (o := .cells #[.int .i64 x933000_1,.int .i64 x933001_1,.int .i64 x933002_1,.int .i64 x933003_1] 63 (0,0)) (zk BK932) hg (Kd.R_ne HO_11.out BK932.out (by decide)));replace HB := am_ (hb);have HO944 := am_ (ho);clear HO_11;clear ho hb hg hat))
                 go_roundg k2
                 case measure => have := HK1.out;have := HK2.out;omega
                 case rel => exact ⟨(y942),(wrap64 (x12_2 + 1)),(by first | rfl | (simp;done) | (simp [*];done)),H',⟨by have := HK1.out;have := HK2.out;omega⟩,⟨zr HO944⟩,⟨by (with_reducible repeat (first | apply k1_ | apply k2_ | apply k3_));exact BK932.out⟩,⟨zl_ HB⟩⟩
                ·rw [if_neg c28] at H
                 exact absurd H (by simp)
              ·rw [if_neg c18] at H
               have c18k := am_ c18
               have c18b0 : (((rd_T73 l3 x12_2).f3.f0) == ((rd_T73 l3 x10_1).f3.f0) && (((rd_T73 l3 x12_2).f3.f1) == ((rd_T73 l3 x10_1).f3.f1) && (((rd_T73 l3 x12_2).f3.f2) == ((rd_T73 l3 x10_1).f3.f2) && (((rd_T73 l3 x12_2).f3.f3) == ((rd_T73 l3 x10_1).f3.f3))))) = false := by simpa using c18k.out
               (try (have c18b1 : decide (((rd_T73 l3 x12_2).f3.f0) = ((rd_T73 l3 x10_1).f3.f0) && (((rd_T73 l3 x12_2).f3.f1) == ((rd_T73 l3 x10_1).f3.f1) && (((rd_T73 l3 x12_2).f3.f2) == ((rd_T73 l3 x10_1).f3.f2) && (((rd_T73 l3 x12_2).f3.f3) == ((rd_T73 l3 x10_1).f3.f3))))) = false := by simpa using c18k.out))
               (try (have c18b2 : (((rd_T73 l3 x12_2).f3.f0) == ((rd_T73 l3 x10_1).f3.f0) && (((rd_T73 l3 x12_2).f3.f1) == ((rd_T73 l3 x10_1).f3.f1) && (((rd_T73 l3 x12_2).f3.f2) == ((rd_T73 l3 x10_1).f3.f2) && (((rd_T73 l3 x12_2).f3.f3) == ((rd_T73 l3 x10_1).f3.f3))))) = false := by simpa using c18k.out))
               (try (have c18b3 : ¬ (((rd_T73 l3 x12_2).f3.f0) = ((rd_T73 l3 x10_1).f3.f0) && (((rd_T73 l3 x12_2).f3.f1) == ((rd_T73 l3 x10_1).f3.f1) && (((rd_T73 l3 x12_2).f3.f2) == ((rd_T73 l3 x10_1).f3.f2) && (((rd_T73 l3 x12_2).f3.f3) == ((rd_T73 l3 x10_1).f3.f3))))) := by simpa using c18k.out))
               (try simp only [*,Bool.not_true,Bool.not_false,Bool.false_or,Bool.true_or,Bool.or_false,Bool.or_true,Bool.true_and,Bool.and_true,Bool.false_and,Bool.and_false] at c18)
               have c18bs := c18
               clear c18k
               clear c18
               have H' := am_ H
               clear H
               have p937 : 0 ≤ (x12_2 : Int) := zo_
               have q937 : x12_2 < (l3.length : Int) := zo_
               obtain ⟨ad937,e937,hx937_0,hx937_1,hx937_2,hx937_3,hx937_4,hx937_5,hx937_6,hx937_7⟩ := at_T73 HR3.out x12_2 p937 q937
               cases e937
               replace hx937_0 := zx_ HB hx937_0
               replace hx937_1 := zx_ HB hx937_1
               replace hx937_2 := zx_ HB hx937_2
               replace hx937_3 := zx_ HB hx937_3
               replace hx937_4 := zx_ HB hx937_4
               replace hx937_5 := zx_ HB hx937_5
               replace hx937_6 := zx_ HB hx937_6
               replace hx937_7 := zx_ HB hx937_7
               replace p937 := eq_true p937
               replace q937 := eq_true q937
               try go_wp2_with (first | ((with_reducible refine gate_dst (N := 13) rfl ?_);refine zbx (N := 13) (cs := #[.int .i64 0,.int .i64 0,.int .i64 0,.int .i64 0,.int .i64 0,.int .i64 0,.int .i64 0,.string ⟨#[]⟩]) (t := 73) ?_;intro gb938 hg w38 hbox hb;replace HO_11 := zrb HO_11 hb;have BK938 := am_ (hbox);have GW938 := zw_ HB hg;have GE938 := zw_ HB hg;replace HB := zs_ HB hb;have NB932_938 := zl hg BK932;have NB938_932 := zg hg BK932;replace BK932 := zb BK932 hb;clear hb hbox hg;have hnb39 := NB938_932.out;have hnc39 := NB932_938.out;obtain ⟨hcz40_0,hcz40_1,hcz40_2,hcz40_3,hcz40_4,hcz40_5,hcz40_6,hcz40_7,hfz40_0,hfz40_1,hfz40_2,hfz40_3,hfz40_4,hfz40_5,hfz40_6,hfz40_7⟩ := zc8 BK938))
               have n0_ : Aside0 (Kd.R (Kd.int .i64) 3 ((((((((w38.setCell ⟨gb938,0,none⟩ (.int .i64 ((rd_T73 l3 x12_2).f0))).setCell ⟨gb938,1,none⟩ (.int .i64 ((rd_T73 l3 x12_2).f1))).setCell ⟨gb938,2,none⟩ (.int .i64 ((rd_T73 l3 x12_2).f2))).setCell ⟨gb938,3,none⟩ (.int .i64 ((rd_T73 l3 x12_2).f3.f0))).setCell ⟨gb938,4,none⟩ (.int .i64 ((rd_T73 l3 x12_2).f3.f1))).setCell ⟨gb938,5,none⟩ (.int .i64 ((rd_T73 l3 x12_2).f3.f2))).setCell ⟨gb938,6,none⟩ (.int .i64 ((rd_T73 l3 x12_2).f3.f3))).setCell ⟨gb938,7,none⟩ (.string ((rd_T73 l3 x12_2).f4))) w.heap.size (fun _ => True) u11 x11_2) := ⟨by (with_reducible repeat (first | apply r1_ | apply r2_ | apply r3_));exact Kd.R_mono (zrf (Kd.R_types HO_11.out BK938.out (by decide))) (fun _ hk => trivial)⟩
               have n1_ : Aside0 (((((((((w38.setCell ⟨gb938,0,none⟩ (.int .i64 ((rd_T73 l3 x12_2).f0))).setCell ⟨gb938,1,none⟩ (.int .i64 ((rd_T73 l3 x12_2).f1))).setCell ⟨gb938,2,none⟩ (.int .i64 ((rd_T73 l3 x12_2).f2))).setCell ⟨gb938,3,none⟩ (.int .i64 ((rd_T73 l3 x12_2).f3.f0))).setCell ⟨gb938,4,none⟩ (.int .i64 ((rd_T73 l3 x12_2).f3.f1))).setCell ⟨gb938,5,none⟩ (.int .i64 ((rd_T73 l3 x12_2).f3.f2))).setCell ⟨gb938,6,none⟩ (.int .i64 ((rd_T73 l3 x12_2).f3.f3))).setCell ⟨gb938,7,none⟩ (.string ((rd_T73 l3 x12_2).f4))).heap[gb932]? = some (.cells #[.int .i64 x933000_1,.int .i64 x933001_1,.int .i64 x933002_1,.int .i64 x933003_1] 63 (0,0))) := ⟨zq BK932⟩
               have n2_ : Aside0 (((((((((w38.setCell ⟨gb938,0,none⟩ (.int .i64 ((rd_T73 l3 x12_2).f0))).setCell ⟨gb938,1,none⟩ (.int .i64 ((rd_T73 l3 x12_2).f1))).setCell ⟨gb938,2,none⟩ (.int .i64 ((rd_T73 l3 x12_2).f2))).setCell ⟨gb938,3,none⟩ (.int .i64 ((rd_T73 l3 x12_2).f3.f0))).setCell ⟨gb938,4,none⟩ (.int .i64 ((rd_T73 l3 x12_2).f3.f1))).setCell ⟨gb938,5,none⟩ (.int .i64 ((rd_T73 l3 x12_2).f3.f2))).setCell ⟨gb938,6,none⟩ (.int .i64 ((rd_T73 l3 x12_2).f3.f3))).setCell ⟨gb938,7,none⟩ (.string ((rd_T73 l3 x12_2).f4))).heap[gb938]? = some (.cells #[.int .i64 ((rd_T73 l3 x12_2).f0),.int .i64 ((rd_T73 l3 x12_2).f1),.int .i64 ((rd_T73 l3 x12_2).f2),.int .i64 ((rd_T73 l3 x12_2).f3.f0),.int .i64 ((rd_T73 l3 x12_2).f3.f1),.int .i64 ((rd_T73 l3 x12_2).f3.f2),.int .i64 ((rd_T73 l3 x12_2).f3.f3),.string ((rd_T73 l3 x12_2).f4)] 73 (0,0))) := ⟨zq BK938⟩
               have n3_ : Aside0 (Below w.heap.size w ((((((((w38.setCell ⟨gb938,0,none⟩ (.int .i64 ((rd_T73 l3 x12_2).f0))).setCell ⟨gb938,1,none⟩ (.int .i64 ((rd_T73 l3 x12_2).f1))).setCell ⟨gb938,2,none⟩ (.int .i64 ((rd_T73 l3 x12_2).f2))).setCell ⟨gb938,3,none⟩ (.int .i64 ((rd_T73 l3 x12_2).f3.f0))).setCell ⟨gb938,4,none⟩ (.int .i64 ((rd_T73 l3 x12_2).f3.f1))).setCell ⟨gb938,5,none⟩ (.int .i64 ((rd_T73 l3 x12_2).f3.f2))).setCell ⟨gb938,6,none⟩ (.int .i64 ((rd_T73 l3 x12_2).f3.f3))).setCell ⟨gb938,7,none⟩ (.string ((rd_T73 l3 x12_2).f4)))) := ⟨zl_ HB⟩
               (try clear HO_11)
               (try clear BK932)
               (try clear BK938)
               (try clear HB)
               generalize ((((((((w38.setCell ⟨gb938,0,none⟩ (.int .i64 ((rd_T73 l3 x12_2).f0))).setCell ⟨gb938,1,none⟩ (.int .i64 ((rd_T73 l3 x12_2).f1))).setCell ⟨gb938,2,none⟩ (.int .i64 ((rd_T73 l3 x12_2).f2))).setCell ⟨gb938,3,none⟩ (.int .i64 ((rd_T73 l3 x12_2).f3.f0))).setCell ⟨gb938,4,none⟩ (.int .i64 ((rd_T73 l3 x12_2).f3.f1))).setCell ⟨gb938,5,none⟩ (.int .i64 ((rd_T73 l3 x12_2).f3.f2))).setCell ⟨gb938,6,none⟩ (.int .i64 ((rd_T73 l3 x12_2).f3.f3))).setCell ⟨gb938,7,none⟩ (.string ((rd_T73 l3 x12_2).f4))) = w41 at n0_ n1_ n2_ n3_ ⊢
               have HO_11 := n0_
               have BK932 := n1_
               have BK938 := n2_
               have HB := n3_
               clear n0_ n1_ n2_ n3_
               replace HO_11 := am_ (Kd.R_drew HO_11.out)
               replace BK932 := am_ (blk_drew BK932.out)
               replace BK938 := am_ (blk_drew BK938.out)
               replace HB := am_ (below_drew1 HB.out)
               have p940 : 0 ≤ (x10_1 : Int) := zo_
               have q940 : x10_1 < (l3.length : Int) := zo_
               obtain ⟨ad940,e940,hx940_0,hx940_1,hx940_2,hx940_3,hx940_4,hx940_5,hx940_6,hx940_7⟩ := at_T73 HR3.out x10_1 p940 q940
               have hw940_7 := hx940_7
               have hw940_6 := hx940_6
               have hw940_5 := hx940_5
               have hw940_4 := hx940_4
               have hw940_3 := hx940_3
               have hw940_2 := hx940_2
               have hw940_1 := hx940_1
               have hw940_0 := hx940_0
               obtain rfl : ad937 = ad940 := (by injection e940)
               replace hx940_0 := zx_ HB hx940_0
               replace hx940_1 := zx_ HB hx940_1
               replace hx940_2 := zx_ HB hx940_2
               replace hx940_3 := zx_ HB hx940_3
               replace hx940_4 := zx_ HB hx940_4
               replace hx940_5 := zx_ HB hx940_5
               replace hx940_6 := zx_ HB hx940_6
               replace hx940_7 := zx_ HB hx940_7
               replace p940 := eq_true p940
               replace q940 := eq_true q940
               refine start_ (n := 32) (S := fun w' => w'.cell? ⟨gb938,0,none⟩ = some (.int .i64 ((rd_T73 l3 x12_2).f0)) ∧ w'.cell? ⟨gb938,1,none⟩ = some (.int .i64 ((rd_T73 l3 x12_2).f1)) ∧ w'.cell? ⟨gb938,2,none⟩ = some (.int .i64 ((rd_T73 l3 x12_2).f2)) ∧ w'.cell? ⟨gb938,3,none⟩ = some (.int .i64 ((rd_T73 l3 x12_2).f3.f0)) ∧ w'.cell? ⟨gb938,4,none⟩ = some (.int .i64 ((rd_T73 l3 x12_2).f3.f1)) ∧ w'.cell? ⟨gb938,5,none⟩ = some (.int .i64 ((rd_T73 l3 x12_2).f3.f2)) ∧ w'.cell? ⟨gb938,6,none⟩ = some (.int .i64 ((rd_T73 l3 x12_2).f3.f3)) ∧ w'.cell? ⟨gb938,7,none⟩ = some (.string ((rd_T73 l3 x12_2).f4)) ∧ w'.cell? (ad937.add ((x10_1).toNat * 8)) = some (.int .i64 ((rd_T73 l3 x10_1).f0)) ∧ w'.cell? ⟨(ad937.add ((x10_1).toNat * 8)).block,(ad937.add ((x10_1).toNat * 8)).off + 1,none⟩ = some (.int .i64 ((rd_T73 l3 x10_1).f1)) ∧ w'.cell? ⟨(ad937.add ((x10_1).toNat * 8)).block,(ad937.add ((x10_1).toNat * 8)).off + 2,none⟩ = some (.int .i64 ((rd_T73 l3 x10_1).f2)) ∧ w'.cell? ⟨(ad937.add ((x10_1).toNat * 8)).block,(ad937.add ((x10_1).toNat * 8)).off + 3,none⟩ = some (.int .i64 ((rd_T73 l3 x10_1).f3.f0)) ∧ w'.cell? ⟨(ad937.add ((x10_1).toNat * 8)).block,(ad937.add ((x10_1).toNat * 8)).off + 4,none⟩ = some (.int .i64 ((rd_T73 l3 x10_1).f3.f1)) ∧ w'.cell? ⟨(ad937.add ((x10_1).toNat * 8)).block,(ad937.add ((x10_1).toNat * 8)).off + 5,none⟩ = some (.int .i64 ((rd_T73 l3 x10_1).f3.f2)) ∧ w'.cell? ⟨(ad937.add ((x10_1).toNat * 8)).block,(ad937.add ((x10_1).toNat * 8)).off + 6,none⟩ = some (.int .i64 ((rd_T73 l3 x10_1).f3.f3)) ∧ w'.cell? ⟨(ad937.add ((x10_1).toNat * 8)).block,(ad937.add ((x10_1).toNat * 8)).off + 7,none⟩ = some (.string ((rd_T73 l3 x10_1).f4))) (ds := []) #[false,false,false,false,false,false,false,false,false,false,false,false,false,false,false,false,false,false,false,false,false,false,false,false,false,false,false,false,false,false,false,false] (by kernel_rfl) rfl rfl ⟨(blk_cell BK938.out 0).trans rfl,(blk_cell BK938.out 1).trans rfl,(blk_cell BK938.out 2).trans rfl,(blk_cell BK938.out 3).trans rfl,(blk_cell BK938.out 4).trans rfl,(blk_cell BK938.out 5).trans rfl,(blk_cell BK938.out 6).trans rfl,(blk_cell BK938.out 7).trans rfl,(zx_ HB hw940_0),(zx_ HB hw940_1),(zx_ HB hw940_2),(zx_ HB hw940_3),(zx_ HB hw940_4),(zx_ HB hw940_5),(zx_ HB hw940_6),(zx_ HB hw940_7)⟩ (fun hHeld => ?_);refine with_tabW spec_l11Count.tab9 spec_l11Count.bits9 (fun HT_ HW_ => ?_)
               generalize w41.drew = w42 at HO_11 BK932 BK938 HB hx940_0 hx940_1 hx940_2 hx940_3 hx940_4 hx940_5 hx940_6 hx940_7 hHeld ⊢
               refine zpu 0 (N := some 30) HT_ ?_
               refine ztk 1 (N := some 31) HT_ HW_ hHeld ?_
               refine zon 2 (N := some 32) HT_ (fun K hK => ?_)
               refine zgo Tryd.func97 #[.int .i64 a0,.agg #[.int .i64 ((rd_T73 l3 x12_2).f0),.int .i64 ((rd_T73 l3 x12_2).f1),.int .i64 ((rd_T73 l3 x12_2).f2),.int .i64 ((rd_T73 l3 x12_2).f3.f0),.int .i64 ((rd_T73 l3 x12_2).f3.f1),.int .i64 ((rd_T73 l3 x12_2).f3.f2),.int .i64 ((rd_T73 l3 x12_2).f3.f3),.string ((rd_T73 l3 x12_2).f4)]] ?_
               with_reducible refine (spec_l11OK.calls k2 a0 ((rd_T73 l3 x12_2).f0) ((rd_T73 l3 x12_2).f1) ((rd_T73 l3 x12_2).f2) ((rd_T73 l3 x12_2).f3.f0) ((rd_T73 l3 x12_2).f3.f1) ((rd_T73 l3 x12_2).f3.f2) ((rd_T73 l3 x12_2).f3.f3) ((rd_T73 l3 x12_2).f4) true _ A12.out).mono ?_
               rintro e w43 ⟨rfl,hb⟩
               refine ⟨_,rfl,?_⟩
               replace HO_11 := zrb HO_11 hb
               replace BK932 := zb BK932 hb
               replace BK938 := zb BK938 hb
               replace HB := zs_ HB hb
               (try clear hb)
               (try clear hb2)
               (try clear hk)
               (try clear hi)
               refine hK.out _ _ ⟨(blk_cell BK938.out 0).trans rfl,(blk_cell BK938.out 1).trans rfl,(blk_cell BK938.out 2).trans rfl,(blk_cell BK938.out 3).trans rfl,(blk_cell BK938.out 4).trans rfl,(blk_cell BK938.out 5).trans rfl,(blk_cell BK938.out 6).trans rfl,(blk_cell BK938.out 7).trans rfl,(zx_ HB hw940_0),(zx_ HB hw940_1),(zx_ HB hw940_2),(zx_ HB hw940_3),(zx_ HB hw940_4),(zx_ HB hw940_5),(zx_ HB hw940_6),(zx_ HB hw940_7)⟩ (fun hHeld => ?_)
               clear hK K
               refine norm_ (a' := ?_) ?_ ?_
               rotate_left
               ·show Act.put _ (some 32) _ = _
                simp only [Act.put,p1_,p2_,p3_,i64_w,i32_w]
                rfl
               refine zpu 3 (N := some 33) HT_ ?_
               refine zpu 4 (N := some 34) HT_ ?_
               refine zpu 6 (N := some 36) HT_ ?_
               refine ztk 5 (N := some 35) HT_ HW_ hHeld ?_
               refine zpu 7 (N := some 37) HT_ ?_
               refine zpu 8 (N := some 38) HT_ ?_
               refine zpu 9 (N := some 39) HT_ ?_
               refine zpu 10 (N := some 40) HT_ ?_
               refine zpu 12 (N := some 42) HT_ ?_
               refine ztk 11 (N := some 41) HT_ HW_ hHeld ?_
               refine zpu 13 (N := some 43) HT_ ?_
               refine zpu 14 (N := some 44) HT_ ?_
               refine zpu 15 (N := some 45) HT_ ?_
               refine zpu 16 (N := some 46) HT_ ?_
               refine zpu 18 (N := some 48) HT_ ?_
               refine zpu 19 (N := some 49) HT_ ?_
               refine zpu 20 (N := some 50) HT_ ?_
               refine zpu 21 (N := some 51) HT_ ?_
               refine ztk 17 (N := some 47) HT_ HW_ hHeld ?_
               refine ztk 22 (N := some 52) HT_ HW_ hHeld ?_
               refine zpu 23 (N := some 53) HT_ ?_
               refine zpu 24 (N := some 54) HT_ ?_
               refine zpu 25 (N := some 55) HT_ ?_
               refine zpx 26 (N := some 56) HT_ ?_
               refine zpx 27 (N := some 57) HT_ ?_
               refine zpx 28 (N := some 58) HT_ ?_
               refine zpx 29 (N := some 59) HT_ ?_
               refine zpx 30 (N := some 60) HT_ ?_
               refine zpu 31 (N := some 61) HT_ ?_
               refine done_ (done_of HT_.out (by kernel_rfl)) ?_
               try go_wp2
               go_roundg k2
               case measure => have := HK1.out;have := HK2.out;omega
               case rel => exact ⟨(x11_2),(wrap64 (x12_2 + 1)),(by first | rfl | (simp;done) | (simp [*];done)),H',⟨by have := HK1.out;have := HK2.out;omega⟩,⟨zr HO_11⟩,⟨by (with_reducible repeat (first | apply k1_ | apply k2_ | apply k3_));exact BK932.out⟩,⟨zl_ HB⟩⟩
             ·rw [if_neg c17] at H
              exact absurd H (by simp)
            ·rw [if_neg c16] at H
             exact absurd H (by simp)
           ·rw [if_neg c15] at H
            have c15b0 : (((rd_T73 l3 x12_2).f2) == a2) = false := beq_eq_false_iff_ne.mpr c15
            have c15b1 : (((rd_T73 l3 x12_2).f2) != a2) = true := bne_iff_ne.mpr c15
            have H' := am_ H
            clear H
            have p937 : 0 ≤ (x12_2 : Int) := zo_
            have q937 : x12_2 < (l3.length : Int) := zo_
            obtain ⟨ad937,e937,hx937_0,hx937_1,hx937_2,hx937_3,hx937_4,hx937_5,hx937_6,hx937_7⟩ := at_T73 HR3.out x12_2 p937 q937
            cases e937
            replace hx937_0 := zx_ HB hx937_0
            replace hx937_1 := zx_ HB hx937_1
            replace hx937_2 := zx_ HB hx937_2
            replace hx937_3 := zx_ HB hx937_3
            replace hx937_4 := zx_ HB hx937_4
            replace hx937_5 := zx_ HB hx937_5
            replace hx937_6 := zx_ HB hx937_6
            replace hx937_7 := zx_ HB hx937_7
            replace p937 := eq_true p937
            replace q937 := eq_true q937
            try go_wp2_with (first | ((with_reducible refine gate_dst (N := 13) rfl ?_);refine zbx (N := 13) (cs := #[.int .i64 0,.int .i64 0,.int .i64 0,.int .i64 0,.int .i64 0,.int .i64 0,.int .i64 0,.string ⟨#[]⟩]) (t := 73) ?_;intro gb938 hg w44 hbox hb;replace HO_11 := zrb HO_11 hb;have BK938 := am_ (hbox);have GW938 := zw_ HB hg;have GE938 := zw_ HB hg;replace HB := zs_ HB hb;have NB932_938 := zl hg BK932;have NB938_932 := zg hg BK932;replace BK932 := zb BK932 hb;clear hb hbox hg;have hnb45 := NB938_932.out;have hnc45 := NB932_938.out;obtain ⟨hcz46_0,hcz46_1,hcz46_2,hcz46_3,hcz46_4,hcz46_5,hcz46_6,hcz46_7,hfz46_0,hfz46_1,hfz46_2,hfz46_3,hfz46_4,hfz46_5,hfz46_6,hfz46_7⟩ := zc8 BK938))
            have n0_ : Aside0 (Kd.R (Kd.int .i64) 3 ((((((((w44.setCell ⟨gb938,0,none⟩ (.int .i64 ((rd_T73 l3 x12_2).f0))).setCell ⟨gb938,1,none⟩ (.int .i64 ((rd_T73 l3 x12_2).f1))).setCell ⟨gb938,2,none⟩ (.int .i64 ((rd_T73 l3 x12_2).f2))).setCell ⟨gb938,3,none⟩ (.int .i64 ((rd_T73 l3 x12_2).f3.f0))).setCell ⟨gb938,4,none⟩ (.int .i64 ((rd_T73 l3 x12_2).f3.f1))).setCell ⟨gb938,5,none⟩ (.int .i64 ((rd_T73 l3 x12_2).f3.f2))).setCell ⟨gb938,6,none⟩ (.int .i64 ((rd_T73 l3 x12_2).f3.f3))).setCell ⟨gb938,7,none⟩ (.string ((rd_T73 l3 x12_2).f4))) w.heap.size (fun _ => True) u11 x11_2) := ⟨by (with_reducible repeat (first | apply r1_ | apply r2_ | apply r3_));exact Kd.R_mono (zrf (Kd.R_types HO_11.out BK938.out (by decide))) (fun _ hk => trivial)⟩
            have n1_ : Aside0 (((((((((w44.setCell ⟨gb938,0,none⟩ (.int .i64 ((rd_T73 l3 x12_2).f0))).setCell ⟨gb938,1,none⟩ (.int .i64 ((rd_T73 l3 x12_2).f1))).setCell ⟨gb938,2,none⟩ (.int .i64 ((rd_T73 l3 x12_2).f2))).setCell ⟨gb938,3,none⟩ (.int .i64 ((rd_T73 l3 x12_2).f3.f0))).setCell ⟨gb938,4,none⟩ (.int .i64 ((rd_T73 l3 x12_2).f3.f1))).setCell ⟨gb938,5,none⟩ (.int .i64 ((rd_T73 l3 x12_2).f3.f2))).setCell ⟨gb938,6,none⟩ (.int .i64 ((rd_T73 l3 x12_2).f3.f3))).setCell ⟨gb938,7,none⟩ (.string ((rd_T73 l3 x12_2).f4))).heap[gb932]? = some (.cells #[.int .i64 x933000_1,.int .i64 x933001_1,.int .i64 x933002_1,.int .i64 x933003_1] 63 (0,0))) := ⟨zq BK932⟩
            have n2_ : Aside0 (((((((((w44.setCell ⟨gb938,0,none⟩ (.int .i64 ((rd_T73 l3 x12_2).f0))).setCell ⟨gb938,1,none⟩ (.int .i64 ((rd_T73 l3 x12_2).f1))).setCell ⟨gb938,2,none⟩ (.int .i64 ((rd_T73 l3 x12_2).f2))).setCell ⟨gb938,3,none⟩ (.int .i64 ((rd_T73 l3 x12_2).f3.f0))).setCell ⟨gb938,4,none⟩ (.int .i64 ((rd_T73 l3 x12_2).f3.f1))).setCell ⟨gb938,5,none⟩ (.int .i64 ((rd_T73 l3 x12_2).f3.f2))).setCell ⟨gb938,6,none⟩ (.int .i64 ((rd_T73 l3 x12_2).f3.f3))).setCell ⟨gb938,7,none⟩ (.string ((rd_T73 l3 x12_2).f4))).heap[gb938]? = some (.cells #[.int .i64 ((rd_T73 l3 x12_2).f0),.int .i64 ((rd_T73 l3 x12_2).f1),.int .i64 ((rd_T73 l3 x12_2).f2),.int .i64 ((rd_T73 l3 x12_2).f3.f0),.int .i64 ((rd_T73 l3 x12_2).f3.f1),.int .i64 ((rd_T73 l3 x12_2).f3.f2),.int .i64 ((rd_T73 l3 x12_2).f3.f3),.string ((rd_T73 l3 x12_2).f4)] 73 (0,0))) := ⟨zq BK938⟩
            have n3_ : Aside0 (Below w.heap.size w ((((((((w44.setCell ⟨gb938,0,none⟩ (.int .i64 ((rd_T73 l3 x12_2).f0))).setCell ⟨gb938,1,none⟩ (.int .i64 ((rd_T73 l3 x12_2).f1))).setCell ⟨gb938,2,none⟩ (.int .i64 ((rd_T73 l3 x12_2).f2))).setCell ⟨gb938,3,none⟩ (.int .i64 ((rd_T73 l3 x12_2).f3.f0))).setCell ⟨gb938,4,none⟩ (.int .i64 ((rd_T73 l3 x12_2).f3.f1))).setCell ⟨gb938,5,none⟩ (.int .i64 ((rd_T73 l3 x12_2).f3.f2))).setCell ⟨gb938,6,none⟩ (.int .i64 ((rd_T73 l3 x12_2).f3.f3))).setCell ⟨gb938,7,none⟩ (.string ((rd_T73 l3 x12_2).f4)))) := ⟨zl_ HB⟩
            (try clear HO_11)
            (try clear BK932)
            (try clear BK938)
            (try clear HB)
            generalize ((((((((w44.setCell ⟨gb938,0,none⟩ (.int .i64 ((rd_T73 l3 x12_2).f0))).setCell ⟨gb938,1,none⟩ (.int .i64 ((rd_T73 l3 x12_2).f1))).setCell ⟨gb938,2,none⟩ (.int .i64 ((rd_T73 l3 x12_2).f2))).setCell ⟨gb938,3,none⟩ (.int .i64 ((rd_T73 l3 x12_2).f3.f0))).setCell ⟨gb938,4,none⟩ (.int .i64 ((rd_T73 l3 x12_2).f3.f1))).setCell ⟨gb938,5,none⟩ (.int .i64 ((rd_T73 l3 x12_2).f3.f2))).setCell ⟨gb938,6,none⟩ (.int .i64 ((rd_T73 l3 x12_2).f3.f3))).setCell ⟨gb938,7,none⟩ (.string ((rd_T73 l3 x12_2).f4))) = w47 at n0_ n1_ n2_ n3_ ⊢
            have HO_11 := n0_
            have BK932 := n1_
            have BK938 := n2_
            have HB := n3_
            clear n0_ n1_ n2_ n3_
            replace HO_11 := am_ (Kd.R_drew HO_11.out)
            replace BK932 := am_ (blk_drew BK932.out)
            replace BK938 := am_ (blk_drew BK938.out)
            replace HB := am_ (below_drew1 HB.out)
            refine start_ (n := 32) (S := fun w' => w'.cell? ⟨gb938,0,none⟩ = some (.int .i64 ((rd_T73 l3 x12_2).f0)) ∧ w'.cell? ⟨gb938,1,none⟩ = some (.int .i64 ((rd_T73 l3 x12_2).f1)) ∧ w'.cell? ⟨gb938,2,none⟩ = some (.int .i64 ((rd_T73 l3 x12_2).f2)) ∧ w'.cell? ⟨gb938,3,none⟩ = some (.int .i64 ((rd_T73 l3 x12_2).f3.f0)) ∧ w'.cell? ⟨gb938,4,none⟩ = some (.int .i64 ((rd_T73 l3 x12_2).f3.f1)) ∧ w'.cell? ⟨gb938,5,none⟩ = some (.int .i64 ((rd_T73 l3 x12_2).f3.f2)) ∧ w'.cell? ⟨gb938,6,none⟩ = some (.int .i64 ((rd_T73 l3 x12_2).f3.f3)) ∧ w'.cell? ⟨gb938,7,none⟩ = some (.string ((rd_T73 l3 x12_2).f4))) (ds := []) #[false,false,false,false,false,false,false,false,false,false,false,false,false,false,false,false,false,false,false,false,false,false,false,false,false,false,false,false,false,false,false,false] (by kernel_rfl) rfl rfl ⟨(blk_cell BK938.out 0).trans rfl,(blk_cell BK938.out 1).trans rfl,(blk_cell BK938.out 2).trans rfl,(blk_cell BK938.out 3).trans rfl,(blk_cell BK938.out 4).trans rfl,(blk_cell BK938.out 5).trans rfl,(blk_cell BK938.out 6).trans rfl,(blk_cell BK938.out 7).trans rfl⟩ (fun hHeld => ?_);refine with_tabW spec_l11Count.tab9 spec_l11Count.bits9 (fun HT_ HW_ => ?_)
            generalize w47.drew = w48 at HO_11 BK932 BK938 HB hHeld ⊢
            refine zpu 0 (N := some 30) HT_ ?_
            refine ztk 1 (N := some 31) HT_ HW_ hHeld ?_
            refine zon 2 (N := some 32) HT_ (fun K hK => ?_)
            refine zgo Tryd.func97 #[.int .i64 a0,.agg #[.int .i64 ((rd_T73 l3 x12_2).f0),.int .i64 ((rd_T73 l3 x12_2).f1),.int .i64 ((rd_T73 l3 x12_2).f2),.int .i64 ((rd_T73 l3 x12_2).f3.f0),.int .i64 ((rd_T73 l3 x12_2).f3.f1),.int .i64 ((rd_T73 l3 x12_2).f3.f2),.int .i64 ((rd_T73 l3 x12_2).f3.f3),.string ((rd_T73 l3 x12_2).f4)]] ?_
            with_reducible refine (spec_l11OK.calls k2 a0 ((rd_T73 l3 x12_2).f0) ((rd_T73 l3 x12_2).f1) ((rd_T73 l3 x12_2).f2) ((rd_T73 l3 x12_2).f3.f0) ((rd_T73 l3 x12_2).f3.f1) ((rd_T73 l3 x12_2).f3.f2) ((rd_T73 l3 x12_2).f3.f3) ((rd_T73 l3 x12_2).f4) true _ A12.out).mono ?_
            rintro e w49 ⟨rfl,hb⟩
            refine ⟨_,rfl,?_⟩
            replace HO_11 := zrb HO_11 hb
            replace BK932 := zb BK932 hb
            replace BK938 := zb BK938 hb
            replace HB := zs_ HB hb
            (try clear hb)
            (try clear hb2)
            (try clear hk)
            (try clear hi)
            refine hK.out _ _ ⟨(blk_cell BK938.out 0).trans rfl,(blk_cell BK938.out 1).trans rfl,(blk_cell BK938.out 2).trans rfl,(blk_cell BK938.out 3).trans rfl,(blk_cell BK938.out 4).trans rfl,(blk_cell BK938.out 5).trans rfl,(blk_cell BK938.out 6).trans rfl,(blk_cell BK938.out 7).trans rfl⟩ (fun hHeld => ?_)
            clear hK K
            refine norm_ (a' := ?_) ?_ ?_
            rotate_left
            ·show Act.put _ (some 32) _ = _
             simp only [Act.put,p1_,p2_,p3_,i64_w,i32_w]
             rfl
            refine zpu 3 (N := some 33) HT_ ?_
            refine zpu 4 (N := some 34) HT_ ?_
            refine zpu 6 (N := some 36) HT_ ?_
            refine ztk 5 (N := some 35) HT_ HW_ hHeld ?_
            refine zpu 7 (N := some 37) HT_ ?_
            refine zpu 8 (N := some 38) HT_ ?_
            refine zpu 9 (N := some 39) HT_ ?_
            refine zpu 10 (N := some 40) HT_ ?_
            refine zpu 12 (N := some 42) HT_ ?_
            refine ztk 11 (N := some 41) HT_ HW_ hHeld ?_
            refine zpu 13 (N := some 43) HT_ ?_
            refine zpu 14 (N := some 44) HT_ ?_
            refine zpu 15 (N := some 45) HT_ ?_
            refine zpx 16 (N := some 46) HT_ ?_
            refine zpx 17 (N := some 47) HT_ ?_
            refine zpx 18 (N := some 48) HT_ ?_
            refine zpx 19 (N := some 49) HT_ ?_
            refine zpx 20 (N := some 50) HT_ ?_
            refine zpx 21 (N := some 51) HT_ ?_
            refine zpx 22 (N := some 52) HT_ ?_
            refine zpx 23 (N := some 53) HT_ ?_
            refine zpu 24 (N := some 54) HT_ ?_
            refine zpu 25 (N := some 55) HT_ ?_
            refine zpx 26 (N := some 56) HT_ ?_
            refine zpx 27 (N := some 57) HT_ ?_
            refine zpx 28 (N := some 58) HT_ ?_
            refine zpx 29 (N := some 59) HT_ ?_
            refine zpx 30 (N := some 60) HT_ ?_
            refine zpu 31 (N := some 61) HT_ ?_
            refine done_ (done_of HT_.out (by kernel_rfl)) ?_
            try go_wp2
            go_roundg k2
            case measure => have := HK1.out;have := HK2.out;omega
            case rel => exact ⟨(x11_2),(wrap64 (x12_2 + 1)),(by first | rfl | (simp;done) | (simp [*];done)),H',⟨by have := HK1.out;have := HK2.out;omega⟩,⟨zr HO_11⟩,⟨by (with_reducible repeat (first | apply k1_ | apply k2_ | apply k3_));exact BK932.out⟩,⟨zl_ HB⟩⟩
          ·rw [if_neg c14] at H
           have c14b0 : (((rd_T73 l3 x12_2).f1) == a1) = false := beq_eq_false_iff_ne.mpr c14
           have c14b1 : (((rd_T73 l3 x12_2).f1) != a1) = true := bne_iff_ne.mpr c14
           have H' := am_ H
           clear H
           have p937 : 0 ≤ (x12_2 : Int) := zo_
           have q937 : x12_2 < (l3.length : Int) := zo_
           obtain ⟨ad937,e937,hx937_0,hx937_1,hx937_2,hx937_3,hx937_4,hx937_5,hx937_6,hx937_7⟩ := at_T73 HR3.out x12_2 p937 q937
           cases e937
           replace hx937_0 := zx_ HB hx937_0
           replace hx937_1 := zx_ HB hx937_1
           replace hx937_2 := zx_ HB hx937_2
           replace hx937_3 := zx_ HB hx937_3
           replace hx937_4 := zx_ HB hx937_4
           replace hx937_5 := zx_ HB hx937_5
           replace hx937_6 := zx_ HB hx937_6
           replace hx937_7 := zx_ HB hx937_7
           replace p937 := eq_true p937
           replace q937 := eq_true q937
           try go_wp2_with (first | ((with_reducible refine gate_dst (N := 13) rfl ?_);refine zbx (N := 13) (cs := #[.int .i64 0,.int .i64 0,.int .i64 0,.int .i64 0,.int .i64 0,.int .i64 0,.int .i64 0,.string ⟨#[]⟩]) (t := 73) ?_;intro gb938 hg w50 hbox hb;replace HO_11 := zrb HO_11 hb;have BK938 := am_ (hbox);have GW938 := zw_ HB hg;have GE938 := zw_ HB hg;replace HB := zs_ HB hb;have NB932_938 := zl hg BK932;have NB938_932 := zg hg BK932;replace BK932 := zb BK932 hb;clear hb hbox hg;have hnb51 := NB938_932.out;have hnc51 := NB932_938.out;obtain ⟨hcz52_0,hcz52_1,hcz52_2,hcz52_3,hcz52_4,hcz52_5,hcz52_6,hcz52_7,hfz52_0,hfz52_1,hfz52_2,hfz52_3,hfz52_4,hfz52_5,hfz52_6,hfz52_7⟩ := zc8 BK938))
           have n0_ : Aside0 (Kd.R (Kd.int .i64) 3 ((((((((w50.setCell ⟨gb938,0,none⟩ (.int .i64 ((rd_T73 l3 x12_2).f0))).setCell ⟨gb938,1,none⟩ (.int .i64 ((rd_T73 l3 x12_2).f1))).setCell ⟨gb938,2,none⟩ (.int .i64 ((rd_T73 l3 x12_2).f2))).setCell ⟨gb938,3,none⟩ (.int .i64 ((rd_T73 l3 x12_2).f3.f0))).setCell ⟨gb938,4,none⟩ (.int .i64 ((rd_T73 l3 x12_2).f3.f1))).setCell ⟨gb938,5,none⟩ (.int .i64 ((rd_T73 l3 x12_2).f3.f2))).setCell ⟨gb938,6,none⟩ (.int .i64 ((rd_T73 l3 x12_2).f3.f3))).setCell ⟨gb938,7,none⟩ (.string ((rd_T73 l3 x12_2).f4))) w.heap.size (fun _ => True) u11 x11_2) := ⟨by (with_reducible repeat (first | apply r1_ | apply r2_ | apply r3_));exact Kd.R_mono (zrf (Kd.R_types HO_11.out BK938.out (by decide))) (fun _ hk => trivial)⟩
           have n1_ : Aside0 (((((((((w50.setCell ⟨gb938,0,none⟩ (.int .i64 ((rd_T73 l3 x12_2).f0))).setCell ⟨gb938,1,none⟩ (.int .i64 ((rd_T73 l3 x12_2).f1))).setCell ⟨gb938,2,none⟩ (.int .i64 ((rd_T73 l3 x12_2).f2))).setCell ⟨gb938,3,none⟩ (.int .i64 ((rd_T73 l3 x12_2).f3.f0))).setCell ⟨gb938,4,none⟩ (.int .i64 ((rd_T73 l3 x12_2).f3.f1))).setCell ⟨gb938,5,none⟩ (.int .i64 ((rd_T73 l3 x12_2).f3.f2))).setCell ⟨gb938,6,none⟩ (.int .i64 ((rd_T73 l3 x12_2).f3.f3))).setCell ⟨gb938,7,none⟩ (.string ((rd_T73 l3 x12_2).f4))).heap[gb932]? = some (.cells #[.int .i64 x933000_1,.int .i64 x933001_1,.int .i64 x933002_1,.int .i64 x933003_1] 63 (0,0))) := ⟨zq BK932⟩
           have n2_ : Aside0 (((((((((w50.setCell ⟨gb938,0,none⟩ (.int .i64 ((rd_T73 l3 x12_2).f0))).setCell ⟨gb938,1,none⟩ (.int .i64 ((rd_T73 l3 x12_2).f1))).setCell ⟨gb938,2,none⟩ (.int .i64 ((rd_T73 l3 x12_2).f2))).setCell ⟨gb938,3,none⟩ (.int .i64 ((rd_T73 l3 x12_2).f3.f0))).setCell ⟨gb938,4,none⟩ (.int .i64 ((rd_T73 l3 x12_2).f3.f1))).setCell ⟨gb938,5,none⟩ (.int .i64 ((rd_T73 l3 x12_2).f3.f2))).setCell ⟨gb938,6,none⟩ (.int .i64 ((rd_T73 l3 x12_2).f3.f3))).setCell ⟨gb938,7,none⟩ (.string ((rd_T73 l3 x12_2).f4))).heap[gb938]? = some (.cells #[.int .i64 ((rd_T73 l3 x12_2).f0),.int .i64 ((rd_T73 l3 x12_2).f1),.int .i64 ((rd_T73 l3 x12_2).f2),.int .i64 ((rd_T73 l3 x12_2).f3.f0),.int .i64 ((rd_T73 l3 x12_2).f3.f1),.int .i64 ((rd_T73 l3 x12_2).f3.f2),.int .i64 ((rd_T73 l3 x12_2).f3.f3),.string ((rd_T73 l3 x12_2).f4)] 73 (0,0))) := ⟨zq BK938⟩
           have n3_ : Aside0 (Below w.heap.size w ((((((((w50.setCell ⟨gb938,0,none⟩ (.int .i64 ((rd_T73 l3 x12_2).f0))).setCell ⟨gb938,1,none⟩ (.int .i64 ((rd_T73 l3 x12_2).f1))).setCell ⟨gb938,2,none⟩ (.int .i64 ((rd_T73 l3 x12_2).f2))).setCell ⟨gb938,3,none⟩ (.int .i64 ((rd_T73 l3 x12_2).f3.f0))).setCell ⟨gb938,4,none⟩ (.int .i64 ((rd_T73 l3 x12_2).f3.f1))).setCell ⟨gb938,5,none⟩ (.int .i64 ((rd_T73 l3 x12_2).f3.f2))).setCell ⟨gb938,6,none⟩ (.int .i64 ((rd_T73 l3 x12_2).f3.f3))).setCell ⟨gb938,7,none⟩ (.string ((rd_T73 l3 x12_2).f4)))) := ⟨zl_ HB⟩
           (try clear HO_11)
           (try clear BK932)
           (try clear BK938)
           (try clear HB)
           generalize ((((((((w50.setCell ⟨gb938,0,none⟩ (.int .i64 ((rd_T73 l3 x12_2).f0))).setCell ⟨gb938,1,none⟩ (.int .i64 ((rd_T73 l3 x12_2).f1))).setCell ⟨gb938,2,none⟩ (.int .i64 ((rd_T73 l3 x12_2).f2))).setCell ⟨gb938,3,none⟩ (.int .i64 ((rd_T73 l3 x12_2).f3.f0))).setCell ⟨gb938,4,none⟩ (.int .i64 ((rd_T73 l3 x12_2).f3.f1))).setCell ⟨gb938,5,none⟩ (.int .i64 ((rd_T73 l3 x12_2).f3.f2))).setCell ⟨gb938,6,none⟩ (.int .i64 ((rd_T73 l3 x12_2).f3.f3))).setCell ⟨gb938,7,none⟩ (.string ((rd_T73 l3 x12_2).f4))) = w53 at n0_ n1_ n2_ n3_ ⊢
           have HO_11 := n0_
           have BK932 := n1_
           have BK938 := n2_
           have HB := n3_
           clear n0_ n1_ n2_ n3_
           replace HO_11 := am_ (Kd.R_drew HO_11.out)
           replace BK932 := am_ (blk_drew BK932.out)
           replace BK938 := am_ (blk_drew BK938.out)
           replace HB := am_ (below_drew1 HB.out)
           refine start_ (n := 32) (S := fun w' => w'.cell? ⟨gb938,0,none⟩ = some (.int .i64 ((rd_T73 l3 x12_2).f0)) ∧ w'.cell? ⟨gb938,1,none⟩ = some (.int .i64 ((rd_T73 l3 x12_2).f1)) ∧ w'.cell? ⟨gb938,2,none⟩ = some (.int .i64 ((rd_T73 l3 x12_2).f2)) ∧ w'.cell? ⟨gb938,3,none⟩ = some (.int .i64 ((rd_T73 l3 x12_2).f3.f0)) ∧ w'.cell? ⟨gb938,4,none⟩ = some (.int .i64 ((rd_T73 l3 x12_2).f3.f1)) ∧ w'.cell? ⟨gb938,5,none⟩ = some (.int .i64 ((rd_T73 l3 x12_2).f3.f2)) ∧ w'.cell? ⟨gb938,6,none⟩ = some (.int .i64 ((rd_T73 l3 x12_2).f3.f3)) ∧ w'.cell? ⟨gb938,7,none⟩ = some (.string ((rd_T73 l3 x12_2).f4))) (ds := []) #[false,false,false,false,false,false,false,false,false,false,false,false,false,false,false,false,false,false,false,false,false,false,false,false,false,false,false,false,false,false,false,false] (by kernel_rfl) rfl rfl ⟨(blk_cell BK938.out 0).trans rfl,(blk_cell BK938.out 1).trans rfl,(blk_cell BK938.out 2).trans rfl,(blk_cell BK938.out 3).trans rfl,(blk_cell BK938.out 4).trans rfl,(blk_cell BK938.out 5).trans rfl,(blk_cell BK938.out 6).trans rfl,(blk_cell BK938.out 7).trans rfl⟩ (fun hHeld => ?_);refine with_tabW spec_l11Count.tab9 spec_l11Count.bits9 (fun HT_ HW_ => ?_)
           generalize w53.drew = w54 at HO_11 BK932 BK938 HB hHeld ⊢
           refine zpu 0 (N := some 30) HT_ ?_
           refine ztk 1 (N := some 31) HT_ HW_ hHeld ?_
           refine zon 2 (N := some 32) HT_ (fun K hK => ?_)
           refine zgo Tryd.func97 #[.int .i64 a0,.agg #[.int .i64 ((rd_T73 l3 x12_2).f0),.int .i64 ((rd_T73 l3 x12_2).f1),.int .i64 ((rd_T73 l3 x12_2).f2),.int .i64 ((rd_T73 l3 x12_2).f3.f0),.int .i64 ((rd_T73 l3 x12_2).f3.f1),.int .i64 ((rd_T73 l3 x12_2).f3.f2),.int .i64 ((rd_T73 l3 x12_2).f3.f3),.string ((rd_T73 l3 x12_2).f4)]] ?_
           with_reducible refine (spec_l11OK.calls k2 a0 ((rd_T73 l3 x12_2).f0) ((rd_T73 l3 x12_2).f1) ((rd_T73 l3 x12_2).f2) ((rd_T73 l3 x12_2).f3.f0) ((rd_T73 l3 x12_2).f3.f1) ((rd_T73 l3 x12_2).f3.f2) ((rd_T73 l3 x12_2).f3.f3) ((rd_T73 l3 x12_2).f4) true _ A12.out).mono ?_
           rintro e w55 ⟨rfl,hb⟩
           refine ⟨_,rfl,?_⟩
           replace HO_11 := zrb HO_11 hb
           replace BK932 := zb BK932 hb
           replace BK938 := zb BK938 hb
           replace HB := zs_ HB hb
           (try clear hb)
           (try clear hb2)
           (try clear hk)
           (try clear hi)
           refine hK.out _ _ ⟨(blk_cell BK938.out 0).trans rfl,(blk_cell BK938.out 1).trans rfl,(blk_cell BK938.out 2).trans rfl,(blk_cell BK938.out 3).trans rfl,(blk_cell BK938.out 4).trans rfl,(blk_cell BK938.out 5).trans rfl,(blk_cell BK938.out 6).trans rfl,(blk_cell BK938.out 7).trans rfl⟩ (fun hHeld => ?_)
           clear hK K
           refine norm_ (a' := ?_) ?_ ?_
           rotate_left
           ·show Act.put _ (some 32) _ = _
            simp only [Act.put,p1_,p2_,p3_,i64_w,i32_w]
            rfl
           refine zpu 3 (N := some 33) HT_ ?_
           refine zpu 4 (N := some 34) HT_ ?_
           refine zpu 6 (N := some 36) HT_ ?_
           refine ztk 5 (N := some 35) HT_ HW_ hHeld ?_
           refine zpu 7 (N := some 37) HT_ ?_
           refine zpu 8 (N := some 38) HT_ ?_
           refine zpu 9 (N := some 39) HT_ ?_
           refine zpx 10 (N := some 40) HT_ ?_
           refine zpx 11 (N := some 41) HT_ ?_
           refine zpx 12 (N := some 42) HT_ ?_
           refine zpx 13 (N := some 43) HT_ ?_
           refine zpu 14 (N := some 44) HT_ ?_
           refine zpu 15 (N := some 45) HT_ ?_
           refine zpx 16 (N := some 46) HT_ ?_
           refine zpx 17 (N := some 47) HT_ ?_
           refine zpx 18 (N := some 48) HT_ ?_
           refine zpx 19 (N := some 49) HT_ ?_
           refine zpx 20 (N := some 50) HT_ ?_
           refine zpx 21 (N := some 51) HT_ ?_
           refine zpx 22 (N := some 52) HT_ ?_
           refine zpx 23 (N := some 53) HT_ ?_
           refine zpu 24 (N := some 54) HT_ ?_
           refine zpu 25 (N := some 55) HT_ ?_
           refine zpx 26 (N := some 56) HT_ ?_
           refine zpx 27 (N := some 57) HT_ ?_
           refine zpx 28 (N := some 58) HT_ ?_
           refine zpx 29 (N := some 59) HT_ ?_
           refine zpx 30 (N := some 60) HT_ ?_
           refine zpu 31 (N := some 61) HT_ ?_
           refine done_ (done_of HT_.out (by kernel_rfl)) ?_
           try go_wp2
           go_roundg k2
           case measure => have := HK1.out;have := HK2.out;omega
           case rel => exact ⟨(x11_2),(wrap64 (x12_2 + 1)),(by first | rfl | (simp;done) | (simp [*];done)),H',⟨by have := HK1.out;have := HK2.out;omega⟩,⟨zr HO_11⟩,⟨by (with_reducible repeat (first | apply k1_ | apply k2_ | apply k3_));exact BK932.out⟩,⟨zl_ HB⟩⟩
         ·replace c13 := Bool.eq_false_iff.mpr c13
          subst c13
          have H1 : (spec_l11Count.l1 k2 a0 a1 a2 l3 x10_1 x11_2 (wrap64 (x12_2 + 1))) = some (r1,r2,r3,r4,r5) := by rw [if_neg (show ¬ (false = true) by decide)] at H;exact H
          clear H
          have H := H1
          clear H1
          have H' := am_ H
          clear H
          have p937 : 0 ≤ (x12_2 : Int) := zo_
          have q937 : x12_2 < (l3.length : Int) := zo_
          obtain ⟨ad937,e937,hx937_0,hx937_1,hx937_2,hx937_3,hx937_4,hx937_5,hx937_6,hx937_7⟩ := at_T73 HR3.out x12_2 p937 q937
          cases e937
          replace hx937_0 := zx_ HB hx937_0
          replace hx937_1 := zx_ HB hx937_1
          replace hx937_2 := zx_ HB hx937_2
          replace hx937_3 := zx_ HB hx937_3
          replace hx937_4 := zx_ HB hx937_4
          replace hx937_5 := zx_ HB hx937_5
          replace hx937_6 := zx_ HB hx937_6
          replace hx937_7 := zx_ HB hx937_7
          replace p937 := eq_true p937
          replace q937 := eq_true q937
          try go_wp2_with (first | ((with_reducible refine gate_dst (N := 13) rfl ?_);refine zbx (N := 13) (cs := #[.int .i64 0,.int .i64 0,.int .i64 0,.int .i64 0,.int .i64 0,.int .i64 0,.int .i64 0,.string ⟨#[]⟩]) (t := 73) ?_;intro gb938 hg w56 hbox hb;replace HO_11 := zrb HO_11 hb;have BK938 := am_ (hbox);have GW938 := zw_ HB hg;have GE938 := zw_ HB hg;replace HB := zs_ HB hb;have NB932_938 := zl hg BK932;have NB938_932 := zg hg BK932;replace BK932 := zb BK932 hb;clear hb hbox hg;have hnb57 := NB938_932.out;have hnc57 := NB932_938.out;obtain ⟨hcz58_0,hcz58_1,hcz58_2,hcz58_3,hcz58_4,hcz58_5,hcz58_6,hcz58_7,hfz58_0,hfz58_1,hfz58_2,hfz58_3,hfz58_4,hfz58_5,hfz58_6,hfz58_7⟩ := zc8 BK938))
          have n0_ : Aside0 (Kd.R (Kd.int .i64) 3 ((((((((w56.setCell ⟨gb938,0,none⟩ (.int .i64 ((rd_T73 l3 x12_2).f0))).setCell ⟨gb938,1,none⟩ (.int .i64 ((rd_T73 l3 x12_2).f1))).setCell ⟨gb938,2,none⟩ (.int .i64 ((rd_T73 l3 x12_2).f2))).setCell ⟨gb938,3,none⟩ (.int .i64 ((rd_T73 l3 x12_2).f3.f0))).setCell ⟨gb938,4,none⟩ (.int .i64 ((rd_T73 l3 x12_2).f3.f1))).setCell ⟨gb938,5,none⟩ (.int .i64 ((rd_T73 l3 x12_2).f3.f2))).setCell ⟨gb938,6,none⟩ (.int .i64 ((rd_T73 l3 x12_2).f3.f3))).setCell ⟨gb938,7,none⟩ (.string ((rd_T73 l3 x12_2).f4))) w.heap.size (fun _ => True) u11 x11_2) := ⟨by (with_reducible repeat (first | apply r1_ | apply r2_ | apply r3_));exact Kd.R_mono (zrf (Kd.R_types HO_11.out BK938.out (by decide))) (fun _ hk => trivial)⟩
          have n1_ : Aside0 (((((((((w56.setCell ⟨gb938,0,none⟩ (.int .i64 ((rd_T73 l3 x12_2).f0))).setCell ⟨gb938,1,none⟩ (.int .i64 ((rd_T73 l3 x12_2).f1))).setCell ⟨gb938,2,none⟩ (.int .i64 ((rd_T73 l3 x12_2).f2))).setCell ⟨gb938,3,none⟩ (.int .i64 ((rd_T73 l3 x12_2).f3.f0))).setCell ⟨gb938,4,none⟩ (.int .i64 ((rd_T73 l3 x12_2).f3.f1))).setCell ⟨gb938,5,none⟩ (.int .i64 ((rd_T73 l3 x12_2).f3.f2))).setCell ⟨gb938,6,none⟩ (.int .i64 ((rd_T73 l3 x12_2).f3.f3))).setCell ⟨gb938,7,none⟩ (.string ((rd_T73 l3 x12_2).f4))).heap[gb932]? = some (.cells #[.int .i64 x933000_1,.int .i64 x933001_1,.int .i64 x933002_1,.int .i64 x933003_1] 63 (0,0))) := ⟨zq BK932⟩
          have n2_ : Aside0 (((((((((w56.setCell ⟨gb938,0,none⟩ (.int .i64 ((rd_T73 l3 x12_2).f0))).setCell ⟨gb938,1,none⟩ (.int .i64 ((rd_T73 l3 x12_2).f1))).setCell ⟨gb938,2,none⟩ (.int .i64 ((rd_T73 l3 x12_2).f2))).setCell ⟨gb938,3,none⟩ (.int .i64 ((rd_T73 l3 x12_2).f3.f0))).setCell ⟨gb938,4,none⟩ (.int .i64 ((rd_T73 l3 x12_2).f3.f1))).setCell ⟨gb938,5,none⟩ (.int .i64 ((rd_T73 l3 x12_2).f3.f2))).setCell ⟨gb938,6,none⟩ (.int .i64 ((rd_T73 l3 x12_2).f3.f3))).setCell ⟨gb938,7,none⟩ (.string ((rd_T73 l3 x12_2).f4))).heap[gb938]? = some (.cells #[.int .i64 ((rd_T73 l3 x12_2).f0),.int .i64 ((rd_T73 l3 x12_2).f1),.int .i64 ((rd_T73 l3 x12_2).f2),.int .i64 ((rd_T73 l3 x12_2).f3.f0),.int .i64 ((rd_T73 l3 x12_2).f3.f1),.int .i64 ((rd_T73 l3 x12_2).f3.f2),.int .i64 ((rd_T73 l3 x12_2).f3.f3),.string ((rd_T73 l3 x12_2).f4)] 73 (0,0))) := ⟨zq BK938⟩
          have n3_ : Aside0 (Below w.heap.size w ((((((((w56.setCell ⟨gb938,0,none⟩ (.int .i64 ((rd_T73 l3 x12_2).f0))).setCell ⟨gb938,1,none⟩ (.int .i64 ((rd_T73 l3 x12_2).f1))).setCell ⟨gb938,2,none⟩ (.int .i64 ((rd_T73 l3 x12_2).f2))).setCell ⟨gb938,3,none⟩ (.int .i64 ((rd_T73 l3 x12_2).f3.f0))).setCell ⟨gb938,4,none⟩ (.int .i64 ((rd_T73 l3 x12_2).f3.f1))).setCell ⟨gb938,5,none⟩ (.int .i64 ((rd_T73 l3 x12_2).f3.f2))).setCell ⟨gb938,6,none⟩ (.int .i64 ((rd_T73 l3 x12_2).f3.f3))).setCell ⟨gb938,7,none⟩ (.string ((rd_T73 l3 x12_2).f4)))) := ⟨zl_ HB⟩
          (try clear HO_11)
          (try clear BK932)
          (try clear BK938)
          (try clear HB)
          generalize ((((((((w56.setCell ⟨gb938,0,none⟩ (.int .i64 ((rd_T73 l3 x12_2).f0))).setCell ⟨gb938,1,none⟩ (.int .i64 ((rd_T73 l3 x12_2).f1))).setCell ⟨gb938,2,none⟩ (.int .i64 ((rd_T73 l3 x12_2).f2))).setCell ⟨gb938,3,none⟩ (.int .i64 ((rd_T73 l3 x12_2).f3.f0))).setCell ⟨gb938,4,none⟩ (.int .i64 ((rd_T73 l3 x12_2).f3.f1))).setCell ⟨gb938,5,none⟩ (.int .i64 ((rd_T73 l3 x12_2).f3.f2))).setCell ⟨gb938,6,none⟩ (.int .i64 ((rd_T73 l3 x12_2).f3.f3))).setCell ⟨gb938,7,none⟩ (.string ((rd_T73 l3 x12_2).f4))) = w59 at n0_ n1_ n2_ n3_ ⊢
          have HO_11 := n0_
          have BK932 := n1_
          have BK938 := n2_
          have HB := n3_
          clear n0_ n1_ n2_ n3_
          replace HO_11 := am_ (Kd.R_drew HO_11.out)
          replace BK932 := am_ (blk_drew BK932.out)
          replace BK938 := am_ (blk_drew BK938.out)
          replace HB := am_ (below_drew1 HB.out)
          refine start_ (n := 32) (S := fun w' => w'.cell? ⟨gb938,0,none⟩ = some (.int .i64 ((rd_T73 l3 x12_2).f0)) ∧ w'.cell? ⟨gb938,1,none⟩ = some (.int .i64 ((rd_T73 l3 x12_2).f1)) ∧ w'.cell? ⟨gb938,2,none⟩ = some (.int .i64 ((rd_T73 l3 x12_2).f2)) ∧ w'.cell? ⟨gb938,3,none⟩ = some (.int .i64 ((rd_T73 l3 x12_2).f3.f0)) ∧ w'.cell? ⟨gb938,4,none⟩ = some (.int .i64 ((rd_T73 l3 x12_2).f3.f1)) ∧ w'.cell? ⟨gb938,5,none⟩ = some (.int .i64 ((rd_T73 l3 x12_2).f3.f2)) ∧ w'.cell? ⟨gb938,6,none⟩ = some (.int .i64 ((rd_T73 l3 x12_2).f3.f3)) ∧ w'.cell? ⟨gb938,7,none⟩ = some (.string ((rd_T73 l3 x12_2).f4))) (ds := []) #[false,false,false,false,false,false,false,false,false,false,false,false,false,false,false,false,false,false,false,false,false,false,false,false,false,false,false,false,false,false,false,false] (by kernel_rfl) rfl rfl ⟨(blk_cell BK938.out 0).trans rfl,(blk_cell BK938.out 1).trans rfl,(blk_cell BK938.out 2).trans rfl,(blk_cell BK938.out 3).trans rfl,(blk_cell BK938.out 4).trans rfl,(blk_cell BK938.out 5).trans rfl,(blk_cell BK938.out 6).trans rfl,(blk_cell BK938.out 7).trans rfl⟩ (fun hHeld => ?_);refine with_tabW spec_l11Count.tab9 spec_l11Count.bits9 (fun HT_ HW_ => ?_)
          generalize w59.drew = w60 at HO_11 BK932 BK938 HB hHeld ⊢
          refine zpu 0 (N := some 30) HT_ ?_
          refine ztk 1 (N := some 31) HT_ HW_ hHeld ?_
          refine zon 2 (N := some 32) HT_ (fun K hK => ?_)
          refine zgo Tryd.func97 #[.int .i64 a0,.agg #[.int .i64 ((rd_T73 l3 x12_2).f0),.int .i64 ((rd_T73 l3 x12_2).f1),.int .i64 ((rd_T73 l3 x12_2).f2),.int .i64 ((rd_T73 l3 x12_2).f3.f0),.int .i64 ((rd_T73 l3 x12_2).f3.f1),.int .i64 ((rd_T73 l3 x12_2).f3.f2),.int .i64 ((rd_T73 l3 x12_2).f3.f3),.string ((rd_T73 l3 x12_2).f4)]] ?_
          with_reducible refine (spec_l11OK.calls k2 a0 ((rd_T73 l3 x12_2).f0) ((rd_T73 l3 x12_2).f1) ((rd_T73 l3 x12_2).f2) ((rd_T73 l3 x12_2).f3.f0) ((rd_T73 l3 x12_2).f3.f1) ((rd_T73 l3 x12_2).f3.f2) ((rd_T73 l3 x12_2).f3.f3) ((rd_T73 l3 x12_2).f4) false _ A12.out).mono ?_
          rintro e w61 ⟨rfl,hb⟩
          refine ⟨_,rfl,?_⟩
          replace HO_11 := zrb HO_11 hb
          replace BK932 := zb BK932 hb
          replace BK938 := zb BK938 hb
          replace HB := zs_ HB hb
          (try clear hb)
          (try clear hb2)
          (try clear hk)
          (try clear hi)
          refine hK.out _ _ ⟨(blk_cell BK938.out 0).trans rfl,(blk_cell BK938.out 1).trans rfl,(blk_cell BK938.out 2).trans rfl,(blk_cell BK938.out 3).trans rfl,(blk_cell BK938.out 4).trans rfl,(blk_cell BK938.out 5).trans rfl,(blk_cell BK938.out 6).trans rfl,(blk_cell BK938.out 7).trans rfl⟩ (fun hHeld => ?_)
          clear hK K
          refine norm_ (a' := ?_) ?_ ?_
          rotate_left
          ·show Act.put _ (some 32) _ = _
           simp only [Act.put,p1_,p2_,p3_,i64_w,i32_w]
           rfl
          refine zpu 3 (N := some 33) HT_ ?_
          refine zpx 4 (N := some 34) HT_ ?_
          refine zpx 5 (N := some 35) HT_ ?_
          refine zpx 6 (N := some 36) HT_ ?_
          refine zpx 7 (N := some 37) HT_ ?_
          refine zpu 8 (N := some 38) HT_ ?_
          refine zpu 9 (N := some 39) HT_ ?_
          refine zpx 10 (N := some 40) HT_ ?_
          refine zpx 11 (N := some 41) HT_ ?_
          refine zpx 12 (N := some 42) HT_ ?_
          refine zpx 13 (N := some 43) HT_ ?_
          refine zpu 14 (N := some 44) HT_ ?_
          refine zpu 15 (N := some 45) HT_ ?_
          refine zpx 16 (N := some 46) HT_ ?_
          refine zpx 17 (N := some 47) HT_ ?_
          refine zpx 18 (N := some 48) HT_ ?_
          refine zpx 19 (N := some 49) HT_ ?_
          refine zpx 20 (N := some 50) HT_ ?_
          refine zpx 21 (N := some 51) HT_ ?_
          refine zpx 22 (N := some 52) HT_ ?_
          refine zpx 23 (N := some 53) HT_ ?_
          refine zpu 24 (N := some 54) HT_ ?_
          refine zpu 25 (N := some 55) HT_ ?_
          refine zpx 26 (N := some 56) HT_ ?_
          refine zpx 27 (N := some 57) HT_ ?_
          refine zpx 28 (N := some 58) HT_ ?_
          refine zpx 29 (N := some 59) HT_ ?_
          refine zpx 30 (N := some 60) HT_ ?_
          refine zpu 31 (N := some 61) HT_ ?_
          refine done_ (done_of HT_.out (by kernel_rfl)) ?_
          try go_wp2
          go_roundg k2
          case measure => have := HK1.out;have := HK2.out;omega
          case rel => exact ⟨(x11_2),(wrap64 (x12_2 + 1)),(by first | rfl | (simp;done) | (simp [*];done)),H',⟨by have := HK1.out;have := HK2.out;omega⟩,⟨zr HO_11⟩,⟨by (with_reducible repeat (first | apply k1_ | apply k2_ | apply k3_));exact BK932.out⟩,⟨zl_ HB⟩⟩
        ·rw [if_neg c11] at H
         exact absurd H (by simp)
       ·rw [if_neg c10] at H
        exact absurd H (by simp)
      ·rw [if_neg c9] at H
       have c9b0 : decide (x12_2 ≤ x10_1) = false := decide_eq_false c9
       clear c9
       by_cases c62 : (x11_2.length : Int) > (wrap64 (Int.tdiv (wrap64 (a0 - 1)) 3))
       ·rw [if_pos c62] at H
        have c62b0 : decide ((wrap64 (Int.tdiv (wrap64 (a0 - 1)) 3)) < (x11_2.length : Int)) = true := decide_eq_true c62
        clear c62
        by_cases c63 : 0 ≤ x10_1
        ·rw [if_pos c63] at H
         have c63b0 : decide (0 ≤ x10_1) = true := decide_eq_true c63
         clear c63
         by_cases c64 : x10_1 < (l3.length : Int)
         ·rw [if_pos c64] at H
          have c64b0 : decide (x10_1 < (l3.length : Int)) = true := decide_eq_true c64
          clear c64
          simp only [Option.some.injEq,Prod.mk.injEq] at H
          obtain ⟨rfl,rfl,rfl,rfl,rfl⟩ := H
          obtain ⟨Ao65,co65,eo65⟩ := Kd.R_slice HO_11.out
          subst eo65
          have p936 : 0 ≤ (x10_1 : Int) := zo_
          have q936 : x10_1 < (l3.length : Int) := zo_
          obtain ⟨ad936,e936,hx936_0,hx936_1,hx936_2,hx936_3,hx936_4,hx936_5,hx936_6,hx936_7⟩ := at_T73 HR3.out x10_1 p936 q936
          cases e936
          replace hx936_0 := zx_ HB hx936_0
          replace hx936_1 := zx_ HB hx936_1
          replace hx936_2 := zx_ HB hx936_2
          replace hx936_3 := zx_ HB hx936_3
          replace hx936_4 := zx_ HB hx936_4
          replace hx936_5 := zx_ HB hx936_5
          replace hx936_6 := zx_ HB hx936_6
          replace hx936_7 := zx_ HB hx936_7
          replace p936 := eq_true p936
          replace q936 := eq_true q936
          obtain ⟨hcz66_0,hcz66_1,hcz66_2,hcz66_3,hfz66_0,hfz66_1,hfz66_2,hfz66_3⟩ := zc4 BK932
          go_wp2
          refine bodyPost_ret (results_ct rfl _ _ gb932 63 #[.int .i64 ((rd_T73 l3 x10_1).f3.f0),.int .i64 ((rd_T73 l3 x10_1).f3.f1),.int .i64 ((rd_T73 l3 x10_1).f3.f2),.int .i64 ((rd_T73 l3 x10_1).f3.f3)] (0,0) _ rfl (zq BK932) Tryd.underlying63 rfl (by kernel_rfl)) rfl ?_
          exact ⟨zt_,zl_ HB⟩
         ·rw [if_neg c64] at H
          exact absurd H (by simp)
        ·rw [if_neg c63] at H
         exact absurd H (by simp)
       ·rw [if_neg c62] at H
        have c62b0 : decide ((wrap64 (Int.tdiv (wrap64 (a0 - 1)) 3)) < (x11_2.length : Int)) = false := decide_eq_false c62
        clear c62
        have H' := am_ H
        clear H
        obtain ⟨Ao67,co67,eo67⟩ := Kd.R_slice HO_11.out
        subst eo67
        go_wp2
        go_roundg k2
        case measure => have := HK1.out;have := HK2.out;omega
        case rel => exact ⟨(wrap64 (x10_1 + 1)),(x933000_1),(x933001_1),(x933002_1),(x933003_1),(by first | rfl | (simp;done) | (simp [*];done)),H',⟨by have := HK1.out;have := HK2.out;omega⟩,⟨by (with_reducible repeat (first | apply k1_ | apply k2_ | apply k3_));exact BK932.out⟩,⟨zl_ HB⟩⟩
   ·rw [if_neg c6] at H
    have c6b0 : decide (x10_1 < (l3.length : Int)) = false := decide_eq_false c6
    clear c6
    simp only [Option.some.injEq,Prod.mk.injEq] at H
    obtain ⟨rfl,rfl,rfl,rfl,rfl⟩ := H
    obtain ⟨hcz68_0,hcz68_1,hcz68_2,hcz68_3,hfz68_0,hfz68_1,hfz68_2,hfz68_3⟩ := zc4 BK932
    go_wp2
    refine bodyPost_ret (results_ct rfl _ _ gb932 63 #[.int .i64 0,.int .i64 0,.int .i64 0,.int .i64 0] (0,0) _ rfl (zq BK932) Tryd.underlying63 rfl (by kernel_rfl)) rfl ?_
    exact ⟨zt_,zl_ HB⟩
end Go.Proofs.YtlifdodphkimpaaDoor.B
end

section
namespace Go.Proofs.YtlifdodphkimpaaDoor.B
open Go.RowKit Go.Proofs.YtlifdodphkimpaaDoorW.PrintWords Go.Proofs.YtlifdodphkimpaaDoorW.PrintLast Go.Proofs.YtlifdodphkimpaaDoorW.PrintMore
attribute [local go_sem] max2_int min2_int max_two min_two max_three min_three max_four min_four
attribute [local go_sem high] eqA85
set_option maxHeartbeats 8000000 in
set_option maxRecDepth 100000 in
theorem spec_ClientOK.calls (k : Nat) (a0 : Int) (a1_0 : Int) (a1_1 : Int) (a1_2 : Bool) (a1_3 : Int) (a1_4 : Int) (a1_5 : Int) (a1_6 : Int) (a1_7 : ByteArray) (A1_8 : Option Addr) (c1_8 : Nat) (l1_8 : List (S73)) (A1_9 : Option Addr) (c1_9 : Nat) (l1_9 : List (S63)) (r : Bool) (w : World) (hr1_8 : Kd.C k73 w A1_8 l1_8.length l1_8) (hc1_8 : l1_8.length ≤ c1_8) (hr1_9 : Kd.C k63 w A1_9 l1_9.length l1_9) (hc1_9 : l1_9.length ≤ c1_9) (h : spec_ClientOK.f k a0 a1_0 a1_1 a1_2 a1_3 a1_4 a1_5 a1_6 a1_7 l1_8 l1_9 = some r) :
  Calls Tryd.prog 43 #[.int .i64 a0,.agg #[.int .i64 a1_0,.int .i64 a1_1,.bool a1_2,.int .i64 a1_3,.int .i64 a1_4,.int .i64 a1_5,.int .i64 a1_6,.string a1_7,.slice A1_8 l1_8.length c1_8,.slice A1_9 l1_9.length c1_9]] w fun e w' => e = .returned (.bool r) ∧ Below w.heap.size w w' := by
 have hu88 := Tryd.underlying88
 have hu63 := Tryd.underlying63
 have hu85 := Tryd.underlying85
 have hu73 := Tryd.underlying73
 have HR1_8 := am_ hr1_8
 have HC1_8 := am_ hc1_8
 clear hr1_8 hc1_8
 have HR1_9 := am_ hr1_9
 have HC1_9 := am_ hc1_9
 clear hr1_9 hc1_9
 have HB := am_ (Below.refl w.heap.size w)
 have H : ((spec_l04Nodes.f a0).bind fun t1181 => (if t1181 = true then ((spec_l01In.f a1_0 0 255).bind fun t1182 => (if t1182 = true then ((spec_l01In.f a1_1 0 65535).bind fun t1183 => (if t1183 = true then (spec_ClientOK.j0 k a0 (decide ((l1_8.length : Int) > 40)) a1_0 a1_1 a1_2 a1_3 a1_4 a1_5 a1_6 a1_7 l1_8 l1_9) else (spec_ClientOK.j0 k a0 true a1_0 a1_1 a1_2 a1_3 a1_4 a1_5 a1_6 a1_7 l1_8 l1_9))) else (spec_ClientOK.j0 k a0 true a1_0 a1_1 a1_2 a1_3 a1_4 a1_5 a1_6 a1_7 l1_8 l1_9))) else (spec_ClientOK.j0 k a0 true a1_0 a1_1 a1_2 a1_3 a1_4 a1_5 a1_6 a1_7 l1_8 l1_9))) = some r := h
 clear h
 have HC3 := am_ H
 clear H
 go_enter Tryd.func43,Tryd.ntmps43
 go_upto_region 1 with (first | ((with_reducible refine gate_dst (N := 3) rfl ?_);(try (refine gate_guard (by rfl) ?_;dsimp only));refine zbx (N := 3) (cs := #[.int .i64 a1_0,.int .i64 a1_1,.bool a1_2,.int .i64 a1_3,.int .i64 a1_4,.int .i64 a1_5,.int .i64 a1_6,.string a1_7,.slice A1_8 l1_8.length c1_8,.slice A1_9 l1_9.length c1_9]) (t := 88) ?_;intro gb1180 hg w4 hbox hb;have BK1180 := am_ (hbox);have GW1180 := zw_ HB hg;have GE1180 := zw_ HB hg;replace HB := zs_ HB hb;clear hb hbox hg))
 (try simp only [Act.put,p1_,p2_,p3_])
 go_cut [30] (fun v30 wc => ∃ (kq : Nat) (x30_2 : Bool),v30 = .bool x30_2 ∧ Aside0 (spec_ClientOK.j0 kq a0 x30_2 a1_0 a1_1 a1_2 a1_3 a1_4 a1_5 a1_6 a1_7 l1_8 l1_9 = some r) ∧ Aside0 (kq ≤ k) ∧ Aside0 (wc.heap[gb1180]? = some (.cells #[.int .i64 a1_0,.int .i64 a1_1,.bool a1_2,.int .i64 a1_3,.int .i64 a1_4,.int .i64 a1_5,.int .i64 a1_6,.string a1_7,(.slice A1_8 l1_8.length c1_8),(.slice A1_9 l1_9.length c1_9)] 88 (0,0))) ∧ Aside0 (Below w.heap.size w wc))
 case first =>
  have H := HC3.out
  clear HC3
  replace H := Option.bind_eq_some_iff.mp H
  obtain ⟨t1181,A50,H⟩ := H
  try dsimp only at H
  have A5 := am_ A50
  clear A50
  by_cases c6 : t1181 = true
  ·subst c6
   have H1 : ((spec_l01In.f a1_0 0 255).bind fun t1182 => (if t1182 = true then ((spec_l01In.f a1_1 0 65535).bind fun t1183 => (if t1183 = true then (spec_ClientOK.j0 k a0 (decide ((l1_8.length : Int) > 40)) a1_0 a1_1 a1_2 a1_3 a1_4 a1_5 a1_6 a1_7 l1_8 l1_9) else (spec_ClientOK.j0 k a0 true a1_0 a1_1 a1_2 a1_3 a1_4 a1_5 a1_6 a1_7 l1_8 l1_9))) else (spec_ClientOK.j0 k a0 true a1_0 a1_1 a1_2 a1_3 a1_4 a1_5 a1_6 a1_7 l1_8 l1_9))) = some r := by rw [if_pos rfl] at H;exact H
   clear H
   have H := H1
   clear H1
   replace H := Option.bind_eq_some_iff.mp H
   obtain ⟨t1182,A70,H⟩ := H
   try dsimp only at H
   have A7 := am_ A70
   clear A70
   by_cases c8 : t1182 = true
   ·subst c8
    have H1 : ((spec_l01In.f a1_1 0 65535).bind fun t1183 => (if t1183 = true then (spec_ClientOK.j0 k a0 (decide ((l1_8.length : Int) > 40)) a1_0 a1_1 a1_2 a1_3 a1_4 a1_5 a1_6 a1_7 l1_8 l1_9) else (spec_ClientOK.j0 k a0 true a1_0 a1_1 a1_2 a1_3 a1_4 a1_5 a1_6 a1_7 l1_8 l1_9))) = some r := by rw [if_pos rfl] at H;exact H
    clear H
    have H := H1
    clear H1
    replace H := Option.bind_eq_some_iff.mp H
    obtain ⟨t1183,A90,H⟩ := H
    try dsimp only at H
    have A9 := am_ A90
    clear A90
    by_cases c10 : t1183 = true
    ·subst c10
     have H1 : (spec_ClientOK.j0 k a0 (decide ((l1_8.length : Int) > 40)) a1_0 a1_1 a1_2 a1_3 a1_4 a1_5 a1_6 a1_7 l1_8 l1_9) = some r := by rw [if_pos rfl] at H;exact H
     clear H
     have H := H1
     clear H1
     have H' := am_ H
     clear H
     go_wp2_with (first | ((with_reducible refine gate_callee (f := 52) rfl ?_);refine zgl (some 11) Tryd.func52 #[.int .i64 a0] ?_;(with_reducible refine (spec_l04Nodes.calls a0 true _ A5.out).mono ?_);rintro e w' ⟨rfl,⟨nd,rfl⟩⟩;refine ⟨_,rfl,?_⟩;obtain ⟨hcz11_0,hcz11_1,hcz11_2,hcz11_3,hcz11_4,hcz11_5,hcz11_6,hcz11_7,hcz11_8,hcz11_9,hfz11_0,hfz11_1,hfz11_2,hfz11_3,hfz11_4,hfz11_5,hfz11_6,hfz11_7,hfz11_8,hfz11_9⟩ := zc10 BK1180) | (go_at_call 69;(with_reducible refine (spec_l01In.calls a1_0 0 255 true _ A7.out).mono ?_);rintro e w' ⟨rfl,⟨nd,rfl⟩⟩) | (go_at_call 69;(with_reducible refine (spec_l01In.calls a1_1 0 65535 true _ A9.out).mono ?_);rintro e w' ⟨rfl,⟨nd,rfl⟩⟩))
     go_meet
     case rel => exact ⟨_,(decide ((l1_8.length : Int) > 40)),(by first | rfl | (simp;done) | (simp [*];done)),H',⟨by first | omega | exact Nat.le_refl _⟩,⟨by (with_reducible repeat (first | apply k1_ | apply k2_ | apply k3_));exact BK1180.out⟩,⟨zl_ HB⟩⟩
    ·replace c10 := Bool.eq_false_iff.mpr c10
     subst c10
     have H1 : (spec_ClientOK.j0 k a0 true a1_0 a1_1 a1_2 a1_3 a1_4 a1_5 a1_6 a1_7 l1_8 l1_9) = some r := by rw [if_neg (show ¬ (false = true) by decide)] at H;exact H
     clear H
     have H := H1
     clear H1
     have H' := am_ H
     clear H
     go_wp2_with (first | ((with_reducible refine gate_callee (f := 52) rfl ?_);refine zgl (some 11) Tryd.func52 #[.int .i64 a0] ?_;(with_reducible refine (spec_l04Nodes.calls a0 true _ A5.out).mono ?_);rintro e w' ⟨rfl,⟨nd,rfl⟩⟩;refine ⟨_,rfl,?_⟩;obtain ⟨hcz12_0,hcz12_1,hcz12_2,hcz12_3,hcz12_4,hcz12_5,hcz12_6,hcz12_7,hcz12_8,hcz12_9,hfz12_0,hfz12_1,hfz12_2,hfz12_3,hfz12_4,hfz12_5,hfz12_6,hfz12_7,hfz12_8,hfz12_9⟩ := zc10 BK1180) | (go_at_call 69;(with_reducible refine (spec_l01In.calls a1_0 0 255 true _ A7.out).mono ?_);rintro e w' ⟨rfl,⟨nd,rfl⟩⟩) | (go_at_call 69;(with_reducible refine (spec_l01In.calls a1_1 0 65535 false _ A9.out).mono ?_);rintro e w' ⟨rfl,⟨nd,rfl⟩⟩))
     go_meet
     case rel => exact ⟨_,(true),(by first | rfl | (simp;done) | (simp [*];done)),H',⟨by first | omega | exact Nat.le_refl _⟩,⟨by (with_reducible repeat (first | apply k1_ | apply k2_ | apply k3_));exact BK1180.out⟩,⟨zl_ HB⟩⟩
   ·replace c8 := Bool.eq_false_iff.mpr c8
    subst c8
    have H1 : (spec_ClientOK.j0 k a0 true a1_0 a1_1 a1_2 a1_3 a1_4 a1_5 a1_6 a1_7 l1_8 l1_9) = some r := by rw [if_neg (show ¬ (false = true) by decide)] at H;exact H
    clear H
    have H := H1
    clear H1
    have H' := am_ H
    clear H
    go_wp2_with (first | ((with_reducible refine gate_callee (f := 52) rfl ?_);refine zgl (some 11) Tryd.func52 #[.int .i64 a0] ?_;(with_reducible refine (spec_l04Nodes.calls a0 true _ A5.out).mono ?_);rintro e w' ⟨rfl,⟨nd,rfl⟩⟩;refine ⟨_,rfl,?_⟩;obtain ⟨hcz13_0,hcz13_1,hcz13_2,hcz13_3,hcz13_4,hcz13_5,hcz13_6,hcz13_7,hcz13_8,hcz13_9,hfz13_0,hfz13_1,hfz13_2,hfz13_3,hfz13_4,hfz13_5,hfz13_6,hfz13_7,hfz13_8,hfz13_9⟩ := zc10 BK1180) | (go_at_call 69;(with_reducible refine (spec_l01In.calls a1_0 0 255 false _ A7.out).mono ?_);rintro e w' ⟨rfl,⟨nd,rfl⟩⟩))
    go_meet
    case rel => exact ⟨_,(true),(by first | rfl | (simp;done) | (simp [*];done)),H',⟨by first | omega | exact Nat.le_refl _⟩,⟨by (with_reducible repeat (first | apply k1_ | apply k2_ | apply k3_));exact BK1180.out⟩,⟨zl_ HB⟩⟩
  ·replace c6 := Bool.eq_false_iff.mpr c6
   subst c6
   have H1 : (spec_ClientOK.j0 k a0 true a1_0 a1_1 a1_2 a1_3 a1_4 a1_5 a1_6 a1_7 l1_8 l1_9) = some r := by rw [if_neg (show ¬ (false = true) by decide)] at H;exact H
   clear H
   have H := H1
   clear H1
   have H' := am_ H
   clear H
   go_wp2_with (first | ((with_reducible refine gate_callee (f := 52) rfl ?_);refine zgl (some 11) Tryd.func52 #[.int .i64 a0] ?_;(with_reducible refine (spec_l04Nodes.calls a0 false _ A5.out).mono ?_);rintro e w' ⟨rfl,⟨nd,rfl⟩⟩;refine ⟨_,rfl,?_⟩))
   go_meet
   case rel => exact ⟨_,(true),(by first | rfl | (simp;done) | (simp [*];done)),H',⟨by first | omega | exact Nat.le_refl _⟩,⟨by (with_reducible repeat (first | apply k1_ | apply k2_ | apply k3_));exact BK1180.out⟩,⟨zl_ HB⟩⟩
 case rest =>
  clear HC3
  try clear c1
  try clear p2
  try clear c4
  try clear c5
  try clear c6
  try clear c8
  try clear c10
  try clear hcz11_0
  try clear hcz11_1
  try clear hcz11_2
  try clear hcz11_3
  try clear hcz11_4
  try clear hcz11_5
  try clear hcz11_6
  try clear hcz11_7
  try clear hcz11_8
  try clear hcz11_9
  try clear hcz12_0
  try clear hcz12_1
  try clear hcz12_2
  try clear hcz12_3
  try clear hcz12_4
  try clear hcz12_5
  try clear hcz12_6
  try clear hcz12_7
  try clear hcz12_8
  try clear hcz12_9
  try clear hcz13_0
  try clear hcz13_1
  try clear hcz13_2
  try clear hcz13_3
  try clear hcz13_4
  try clear hcz13_5
  try clear hcz13_6
  try clear hcz13_7
  try clear hcz13_8
  try clear hcz13_9
  try clear hfz11_0
  try clear hfz11_1
  try clear hfz11_2
  try clear hfz11_3
  try clear hfz11_4
  try clear hfz11_5
  try clear hfz11_6
  try clear hfz11_7
  try clear hfz11_8
  try clear hfz11_9
  try clear hfz12_0
  try clear hfz12_1
  try clear hfz12_2
  try clear hfz12_3
  try clear hfz12_4
  try clear hfz12_5
  try clear hfz12_6
  try clear hfz12_7
  try clear hfz12_8
  try clear hfz12_9
  try clear hfz13_0
  try clear hfz13_1
  try clear hfz13_2
  try clear hfz13_3
  try clear hfz13_4
  try clear hfz13_5
  try clear hfz13_6
  try clear hfz13_7
  try clear hfz13_8
  try clear hfz13_9
  obtain ⟨kq,x30_2,rfl,HA,HJ2,BK1180,HB⟩ := hcut
  cases kq with
  | zero => exact absurd HA.out (by simp [spec_ClientOK.j0])
  | succ kj2 =>
   have H := HA.out
   clear HA
   simp only [spec_ClientOK.j0] at H
   by_cases c14 : x30_2 = true
   ·subst c14
    have H1 : (some false) = some r := by rw [if_pos rfl] at H;exact H
    clear H
    have H := H1
    clear H1
    obtain rfl := Option.some.inj H
    go_wp2
    go_ret
    exact ⟨zt_,zl_ HB⟩
   ·replace c14 := Bool.eq_false_iff.mpr c14
    subst c14
    have H1 : (spec_ClientOK.l0 kj2 a0 0 a1_0 a1_1 a1_2 a1_3 a1_4 a1_5 a1_6 a1_7 l1_8 l1_9) = some r := by rw [if_neg (show ¬ (false = true) by decide)] at H;exact H
    clear H
    have H := H1
    clear H1
    have H' := am_ H
    clear H
    go_wp2
    go_loopg [5] kj2 (fun kq v5 w' => ∃ (x5_2 : Int),v5 = .int .i64 x5_2 ∧ Aside0 (spec_ClientOK.l0 kq a0 x5_2 a1_0 a1_1 a1_2 a1_3 a1_4 a1_5 a1_6 a1_7 l1_8 l1_9 = some r) ∧ Aside0 (kq ≤ kj2) ∧ Aside0 (w'.heap[gb1180]? = some (.cells #[.int .i64 a1_0,.int .i64 a1_1,.bool a1_2,.int .i64 a1_3,.int .i64 a1_4,.int .i64 a1_5,.int .i64 a1_6,.string a1_7,(.slice A1_8 l1_8.length c1_8),(.slice A1_9 l1_9.length c1_9)] 88 (0,0))) ∧ Aside0 (Below w.heap.size w w'))
    case atStart => exact ⟨(0),(by first | rfl | (simp;done) | (simp [*];done)),H',⟨Nat.le_refl _⟩,⟨by (with_reducible repeat (first | apply k1_ | apply k2_ | apply k3_));exact BK1180.out⟩,⟨zl_ HB⟩⟩
    case round =>
     clear H'
     try clear c1
     try clear p2
     try clear c4
     try clear c5
     try clear c6
     try clear c8
     try clear c10
     try clear c14
     try clear hcz11_0
     try clear hcz11_1
     try clear hcz11_2
     try clear hcz11_3
     try clear hcz11_4
     try clear hcz11_5
     try clear hcz11_6
     try clear hcz11_7
     try clear hcz11_8
     try clear hcz11_9
     try clear hcz12_0
     try clear hcz12_1
     try clear hcz12_2
     try clear hcz12_3
     try clear hcz12_4
     try clear hcz12_5
     try clear hcz12_6
     try clear hcz12_7
     try clear hcz12_8
     try clear hcz12_9
     try clear hcz13_0
     try clear hcz13_1
     try clear hcz13_2
     try clear hcz13_3
     try clear hcz13_4
     try clear hcz13_5
     try clear hcz13_6
     try clear hcz13_7
     try clear hcz13_8
     try clear hcz13_9
     try clear hfz11_0
     try clear hfz11_1
     try clear hfz11_2
     try clear hfz11_3
     try clear hfz11_4
     try clear hfz11_5
     try clear hfz11_6
     try clear hfz11_7
     try clear hfz11_8
     try clear hfz11_9
     try clear hfz12_0
     try clear hfz12_1
     try clear hfz12_2
     try clear hfz12_3
     try clear hfz12_4
     try clear hfz12_5
     try clear hfz12_6
     try clear hfz12_7
     try clear hfz12_8
     try clear hfz12_9
     try clear hfz13_0
     try clear hfz13_1
     try clear hfz13_2
     try clear hfz13_3
     try clear hfz13_4
     try clear hfz13_5
     try clear hfz13_6
     try clear hfz13_7
     try clear hfz13_8
     try clear hfz13_9
     try clear p2
     obtain ⟨x5_2,rfl,HA,HK2,BK1180,HB⟩ := hrel
     cases gk with
     | zero => exact absurd HA.out (by simp [spec_ClientOK.l0])
     | succ k2 =>
      have H := HA.out
      clear HA
      simp only [spec_ClientOK.l0] at H
      by_cases c15 : x5_2 < (l1_9.length : Int)
      ·rw [if_pos c15] at H
       have c15b0 : decide (x5_2 < (l1_9.length : Int)) = true := decide_eq_true c15
       clear c15
       by_cases c16 : 0 ≤ x5_2
       ·rw [if_pos c16] at H
        have c16b0 : decide (0 ≤ x5_2) = true := decide_eq_true c16
        clear c16
        replace H := Option.bind_eq_some_iff.mp H
        obtain ⟨t1185,A170,H⟩ := H
        try dsimp only at H
        have A17 := am_ A170
        clear A170
        by_cases c18 : t1185 = true
        ·subst c18
         have H1 : (spec_ClientOK.l0 k2 a0 (wrap64 (x5_2 + 1)) a1_0 a1_1 a1_2 a1_3 a1_4 a1_5 a1_6 a1_7 l1_8 l1_9) = some r := by rw [if_pos rfl] at H;exact H
         clear H
         have H := H1
         clear H1
         have H' := am_ H
         clear H
         obtain ⟨hcz19_0,hcz19_1,hcz19_2,hcz19_3,hcz19_4,hcz19_5,hcz19_6,hcz19_7,hcz19_8,hcz19_9,hfz19_0,hfz19_1,hfz19_2,hfz19_3,hfz19_4,hfz19_5,hfz19_6,hfz19_7,hfz19_8,hfz19_9⟩ := zc10 BK1180
         have p1184 : 0 ≤ (x5_2 : Int) := zo_
         have q1184 : x5_2 < (l1_9.length : Int) := zo_
         obtain ⟨ad1184,e1184,hx1184_0,hx1184_1,hx1184_2,hx1184_3⟩ := at_T63 HR1_9.out x5_2 p1184 q1184
         cases e1184
         replace hx1184_0 := zx_ HB hx1184_0
         replace hx1184_1 := zx_ HB hx1184_1
         replace hx1184_2 := zx_ HB hx1184_2
         replace hx1184_3 := zx_ HB hx1184_3
         replace p1184 := eq_true p1184
         replace q1184 := eq_true q1184
         go_wp2_with (first | ((with_reducible refine gate_callee (f := 95) rfl ?_);refine zgl (some 43) Tryd.func95 #[.agg #[.int .i64 ((rd_T63 l1_9 x5_2).f0),.int .i64 ((rd_T63 l1_9 x5_2).f1),.int .i64 ((rd_T63 l1_9 x5_2).f2),.int .i64 ((rd_T63 l1_9 x5_2).f3)]] ?_;(with_reducible refine (spec_l05Answer.calls ((rd_T63 l1_9 x5_2).f0) ((rd_T63 l1_9 x5_2).f1) ((rd_T63 l1_9 x5_2).f2) ((rd_T63 l1_9 x5_2).f3) true _ A17.out).mono ?_);rintro e w20 ⟨rfl,hb⟩;refine ⟨_,rfl,?_⟩;replace BK1180 := zb BK1180 hb;replace HB := zs_ HB hb;(try clear hb);(try clear hb2);(try clear hk);(try clear hi)))
         go_roundg k2
         case measure => have := HJ2.out;have := HK2.out;omega
         case rel => exact ⟨(wrap64 (x5_2 + 1)),(by first | rfl | (simp;done) | (simp [*];done)),H',⟨by have := HJ2.out;have := HK2.out;omega⟩,⟨by (with_reducible repeat (first | apply k1_ | apply k2_ | apply k3_));exact BK1180.out⟩,⟨zl_ HB⟩⟩
        ·replace c18 := Bool.eq_false_iff.mpr c18
         subst c18
         have H1 : (some false) = some r := by rw [if_neg (show ¬ (false = true) by decide)] at H;exact H
         clear H
         have H := H1
         clear H1
         obtain rfl := Option.some.inj H
         obtain ⟨hcz21_0,hcz21_1,hcz21_2,hcz21_3,hcz21_4,hcz21_5,hcz21_6,hcz21_7,hcz21_8,hcz21_9,hfz21_0,hfz21_1,hfz21_2,hfz21_3,hfz21_4,hfz21_5,hfz21_6,hfz21_7,hfz21_8,hfz21_9⟩ := zc10 BK1180
         have p1184 : 0 ≤ (x5_2 : Int) := zo_
         have q1184 : x5_2 < (l1_9.length : Int) := zo_
         obtain ⟨ad1184,e1184,hx1184_0,hx1184_1,hx1184_2,hx1184_3⟩ := at_T63 HR1_9.out x5_2 p1184 q1184
         cases e1184
         replace hx1184_0 := zx_ HB hx1184_0
         replace hx1184_1 := zx_ HB hx1184_1
         replace hx1184_2 := zx_ HB hx1184_2
         replace hx1184_3 := zx_ HB hx1184_3
         replace p1184 := eq_true p1184
         replace q1184 := eq_true q1184
         go_wp2_with (first | ((with_reducible refine gate_callee (f := 95) rfl ?_);refine zgl (some 43) Tryd.func95 #[.agg #[.int .i64 ((rd_T63 l1_9 x5_2).f0),.int .i64 ((rd_T63 l1_9 x5_2).f1),.int .i64 ((rd_T63 l1_9 x5_2).f2),.int .i64 ((rd_T63 l1_9 x5_2).f3)]] ?_;(with_reducible refine (spec_l05Answer.calls ((rd_T63 l1_9 x5_2).f0) ((rd_T63 l1_9 x5_2).f1) ((rd_T63 l1_9 x5_2).f2) ((rd_T63 l1_9 x5_2).f3) false _ A17.out).mono ?_);rintro e w22 ⟨rfl,hb⟩;refine ⟨_,rfl,?_⟩;replace HB := zs_ HB hb;(try clear hb);(try clear hb2);(try clear hk);(try clear hi)))
         go_ret
         exact ⟨zt_,zl_ HB⟩
       ·rw [if_neg c16] at H
        exact absurd H (by simp)
      ·rw [if_neg c15] at H
       have c15b0 : decide (x5_2 < (l1_9.length : Int)) = false := decide_eq_false c15
       clear c15
       by_cases c23 : a1_2 = true
       ·subst c23
        have H1 : ((spec_RequestOK.f k2 a1_3 a1_4 a1_5 a1_6 a1_7).bind fun t1186 => (if t1186 = true then (if a1_3 = a1_0 then (if a1_4 = a1_1 then (spec_ClientOK.j2 k2 a0 ((l1_9.length : Int) != (wrap64 (a1_1 - 1))) a1_0 a1_1 true a1_3 a1_4 a1_5 a1_6 a1_7 l1_8 l1_9) else (spec_ClientOK.j2 k2 a0 true a1_0 a1_1 true a1_3 a1_4 a1_5 a1_6 a1_7 l1_8 l1_9)) else (spec_ClientOK.j2 k2 a0 true a1_0 a1_1 true a1_3 a1_4 a1_5 a1_6 a1_7 l1_8 l1_9)) else (spec_ClientOK.j2 k2 a0 true a1_0 a1_1 true a1_3 a1_4 a1_5 a1_6 a1_7 l1_8 l1_9))) = some r := by rw [if_pos rfl] at H;exact H
        clear H
        have H := H1
        clear H1
        have HC24 := am_ H
        clear H
        obtain ⟨hcz25_0,hcz25_1,hcz25_2,hcz25_3,hcz25_4,hcz25_5,hcz25_6,hcz25_7,hcz25_8,hcz25_9,hfz25_0,hfz25_1,hfz25_2,hfz25_3,hfz25_4,hfz25_5,hfz25_6,hfz25_7,hfz25_8,hfz25_9⟩ := zc10 BK1180
        go_upto_region 10 with (fail)
        go_cut [94] (fun v94 wc => ∃ (kq : Nat) (x94_23 : Bool),v94 = .bool x94_23 ∧ Aside0 (spec_ClientOK.j2 kq a0 x94_23 a1_0 a1_1 true a1_3 a1_4 a1_5 a1_6 a1_7 l1_8 l1_9 = some r) ∧ Aside0 (kq ≤ k2) ∧ Aside0 (wc.heap[gb1180]? = some (.cells #[.int .i64 a1_0,.int .i64 a1_1,.bool true,.int .i64 a1_3,.int .i64 a1_4,.int .i64 a1_5,.int .i64 a1_6,.string a1_7,(.slice A1_8 l1_8.length c1_8),(.slice A1_9 l1_9.length c1_9)] 88 (0,0))) ∧ Aside0 (Below w.heap.size w wc))
        case first =>
         have H := HC24.out
         clear HC24
         replace H := Option.bind_eq_some_iff.mp H
         obtain ⟨t1186,A260,H⟩ := H
         try dsimp only at H
         have A26 := am_ A260
         clear A260
         by_cases c27 : t1186 = true
         ·subst c27
          have H1 : (if a1_3 = a1_0 then (if a1_4 = a1_1 then (spec_ClientOK.j2 k2 a0 ((l1_9.length : Int) != (wrap64 (a1_1 - 1))) a1_0 a1_1 true a1_3 a1_4 a1_5 a1_6 a1_7 l1_8 l1_9) else (spec_ClientOK.j2 k2 a0 true a1_0 a1_1 true a1_3 a1_4 a1_5 a1_6 a1_7 l1_8 l1_9)) else (spec_ClientOK.j2 k2 a0 true a1_0 a1_1 true a1_3 a1_4 a1_5 a1_6 a1_7 l1_8 l1_9)) = some r := by rw [if_pos rfl] at H;exact H
          clear H
          have H := H1
          clear H1
          by_cases c28 : a1_3 = a1_0
          ·rw [if_pos c28] at H
           have c28b0 : (a1_3 == a1_0) = true := beq_iff_eq.mpr c28
           have c28b1 : (a1_3 != a1_0) = false := bne_eq_false_iff_eq.mpr c28
           clear c28
           (first | rw [c28b0] | (simp only [i64_w,i32_w];rw [c28b0]) | skip)
           by_cases c29 : a1_4 = a1_1
           ·rw [if_pos c29] at H
            have c29b0 : (a1_4 == a1_1) = true := beq_iff_eq.mpr c29
            have c29b1 : (a1_4 != a1_1) = false := bne_eq_false_iff_eq.mpr c29
            clear c29
            have H' := am_ H
            clear H
            obtain ⟨hcz30_0,hcz30_1,hcz30_2,hcz30_3,hcz30_4,hcz30_5,hcz30_6,hcz30_7,hcz30_8,hcz30_9,hfz30_0,hfz30_1,hfz30_2,hfz30_3,hfz30_4,hfz30_5,hfz30_6,hfz30_7,hfz30_8,hfz30_9⟩ := zc10 BK1180
            go_wp2_with (first | ((with_reducible refine gate_callee (f := 96) rfl ?_);refine zgl (some 68) Tryd.func96 #[.agg #[.int .i64 a1_3,.int .i64 a1_4,.int .i64 a1_5,.int .i64 a1_6,.string a1_7]] ?_;(with_reducible refine (spec_RequestOK.calls k2 a1_3 a1_4 a1_5 a1_6 a1_7 true _ A26.out).mono ?_);rintro e w31 ⟨rfl,hb⟩;refine ⟨_,rfl,?_⟩;replace BK1180 := zb BK1180 hb;replace HB := zs_ HB hb;(try clear hb);(try clear hb2);(try clear hk);(try clear hi);obtain ⟨hcz32_0,hcz32_1,hcz32_2,hcz32_3,hcz32_4,hcz32_5,hcz32_6,hcz32_7,hcz32_8,hcz32_9,hfz32_0,hfz32_1,hfz32_2,hfz32_3,hfz32_4,hfz32_5,hfz32_6,hfz32_7,hfz32_8,hfz32_9⟩ := zc10 BK1180))
            go_meet
            case rel => exact ⟨_,(((l1_9.length : Int) != (wrap64 (a1_1 - 1)))),(by first | rfl | (simp;done) | (simp [*];done)),H',⟨by have := HJ2.out;have := HK2.out;first | omega | exact Nat.le_refl _⟩,⟨by (with_reducible repeat (first | apply k1_ | apply k2_ | apply k3_));exact BK1180.out⟩,⟨zl_ HB⟩⟩
           ·rw [if_neg c29] at H
            have c29b0 : (a1_4 == a1_1) = false := beq_eq_false_iff_ne.mpr c29
            have c29b1 : (a1_4 != a1_1) = true := bne_iff_ne.mpr c29
            have H' := am_ H
            clear H
            obtain ⟨hcz33_0,hcz33_1,hcz33_2,hcz33_3,hcz33_4,hcz33_5,hcz33_6,hcz33_7,hcz33_8,hcz33_9,hfz33_0,hfz33_1,hfz33_2,hfz33_3,hfz33_4,hfz33_5,hfz33_6,hfz33_7,hfz33_8,hfz33_9⟩ := zc10 BK1180
            go_wp2_with (first | ((with_reducible refine gate_callee (f := 96) rfl ?_);refine zgl (some 68) Tryd.func96 #[.agg #[.int .i64 a1_3,.int .i64 a1_4,.int .i64 a1_5,.int .i64 a1_6,.string a1_7]] ?_;(with_reducible refine (spec_RequestOK.calls k2 a1_3 a1_4 a1_5 a1_6 a1_7 true _ A26.out).mono ?_);rintro e w34 ⟨rfl,hb⟩;refine ⟨_,rfl,?_⟩;replace BK1180 := zb BK1180 hb;replace HB := zs_ HB hb;(try clear hb);(try clear hb2);(try clear hk);(try clear hi);obtain ⟨hcz35_0,hcz35_1,hcz35_2,hcz35_3,hcz35_4,hcz35_5,hcz35_6,hcz35_7,hcz35_8,hcz35_9,hfz35_0,hfz35_1,hfz35_2,hfz35_3,hfz35_4,hfz35_5,hfz35_6,hfz35_7,hfz35_8,hfz35_9⟩ := zc10 BK1180))
            go_meet
            case rel => exact ⟨_,(true),(by first | rfl | (simp;done) | (simp [*];done)),H',⟨by have := HJ2.out;have := HK2.out;first | omega | exact Nat.le_refl _⟩,⟨by (with_reducible repeat (first | apply k1_ | apply k2_ | apply k3_));exact BK1180.out⟩,⟨zl_ HB⟩⟩
          ·rw [if_neg c28] at H
           have c28b0 : (a1_3 == a1_0) = false := beq_eq_false_iff_ne.mpr c28
           have c28b1 : (a1_3 != a1_0) = true := bne_iff_ne.mpr c28
           (first | rw [c28b0] | (simp only [i64_w,i32_w];rw [c28b0]) | skip)
           have H' := am_ H
           clear H
           obtain ⟨hcz36_0,hcz36_1,hcz36_2,hcz36_3,hcz36_4,hcz36_5,hcz36_6,hcz36_7,hcz36_8,hcz36_9,hfz36_0,hfz36_1,hfz36_2,hfz36_3,hfz36_4,hfz36_5,hfz36_6,hfz36_7,hfz36_8,hfz36_9⟩ := zc10 BK1180
           go_wp2_with (first | ((with_reducible refine gate_callee (f := 96) rfl ?_);refine zgl (some 68) Tryd.func96 #[.agg #[.int .i64 a1_3,.int .i64 a1_4,.int .i64 a1_5,.int .i64 a1_6,.string a1_7]] ?_;(with_reducible refine (spec_RequestOK.calls k2 a1_3 a1_4 a1_5 a1_6 a1_7 true _ A26.out).mono ?_);rintro e w37 ⟨rfl,hb⟩;refine ⟨_,rfl,?_⟩;replace BK1180 := zb BK1180 hb;replace HB := zs_ HB hb;(try clear hb);(try clear hb2);(try clear hk);(try clear hi);obtain ⟨hcz38_0,hcz38_1,hcz38_2,hcz38_3,hcz38_4,hcz38_5,hcz38_6,hcz38_7,hcz38_8,hcz38_9,hfz38_0,hfz38_1,hfz38_2,hfz38_3,hfz38_4,hfz38_5,hfz38_6,hfz38_7,hfz38_8,hfz38_9⟩ := zc10 BK1180))
           go_meet
           case rel => exact ⟨_,(true),(by first | rfl | (simp;done) | (simp [*];done)),H',⟨by have := HJ2.out;have := HK2.out;first | omega | exact Nat.le_refl _⟩,⟨by (with_reducible repeat (first | apply k1_ | apply k2_ | apply k3_));exact BK1180.out⟩,⟨zl_ HB⟩⟩
         ·replace c27 := Bool.eq_false_iff.mpr c27
          subst c27
          have H1 : (spec_ClientOK.j2 k2 a0 true a1_0 a1_1 true a1_3 a1_4 a1_5 a1_6 a1_7 l1_8 l1_9) = some r := by rw [if_neg (show ¬ (false = true) by decide)] at H;exact H
          clear H
          have H := H1
          clear H1
          have H' := am_ H
          clear H
          obtain ⟨hcz39_0,hcz39_1,hcz39_2,hcz39_3,hcz39_4,hcz39_5,hcz39_6,hcz39_7,hcz39_8,hcz39_9,hfz39_0,hfz39_1,hfz39_2,hfz39_3,hfz39_4,hfz39_5,hfz39_6,hfz39_7,hfz39_8,hfz39_9⟩ := zc10 BK1180
          go_wp2_with (first | ((with_reducible refine gate_callee (f := 96) rfl ?_);refine zgl (some 68) Tryd.func96 #[.agg #[.int .i64 a1_3,.int .i64 a1_4,.int .i64 a1_5,.int .i64 a1_6,.string a1_7]] ?_;(with_reducible refine (spec_RequestOK.calls k2 a1_3 a1_4 a1_5 a1_6 a1_7 false _ A26.out).mono ?_);rintro e w40 ⟨rfl,hb⟩;refine ⟨_,rfl,?_⟩;replace BK1180 := zb BK1180 hb;replace HB := zs_ HB hb;(try clear hb);(try clear hb2);(try clear hk);(try clear hi)))
          go_meet
          case rel => exact ⟨_,(true),(by first | rfl | (simp;done) | (simp [*];done)),H',⟨by have := HJ2.out;have := HK2.out;first | omega | exact Nat.le_refl _⟩,⟨by (with_reducible repeat (first | apply k1_ | apply k2_ | apply k3_));exact BK1180.out⟩,⟨zl_ HB⟩⟩
        case rest =>
         clear HC24
         try clear c1
         try clear p1
         try clear q1
         try clear hx1
         try clear c2
         try clear p2
         try clear c4
         try clear c5
         try clear c6
         try clear p6
         try clear c8
         try clear c9
         try clear c10
         try clear p11
         try clear q11
         try clear hx11
         try clear c14
         try clear c15
         try clear c15b0
         try clear c16
         try clear c16b0
         try clear c18
         try clear c23
         try clear c27
         try clear c28
         try clear c28b0
         try clear c28b1
         try clear c29
         try clear c29b0
         try clear c29b1
         try clear hcz11_0
         try clear hcz11_1
         try clear hcz11_2
         try clear hcz11_3
         try clear hcz11_4
         try clear hcz11_5
         try clear hcz11_6
         try clear hcz11_7
         try clear hcz11_8
         try clear hcz11_9
         try clear hcz12_0
         try clear hcz12_1
         try clear hcz12_2
         try clear hcz12_3
         try clear hcz12_4
         try clear hcz12_5
         try clear hcz12_6
         try clear hcz12_7
         try clear hcz12_8
         try clear hcz12_9
         try clear hcz13_0
         try clear hcz13_1
         try clear hcz13_2
         try clear hcz13_3
         try clear hcz13_4
         try clear hcz13_5
         try clear hcz13_6
         try clear hcz13_7
         try clear hcz13_8
         try clear hcz13_9
         try clear hcz19_0
         try clear hcz19_1
         try clear hcz19_2
         try clear hcz19_3
         try clear hcz19_4
         try clear hcz19_5
         try clear hcz19_6
         try clear hcz19_7
         try clear hcz19_8
         try clear hcz19_9
         try clear hcz21_0
         try clear hcz21_1
         try clear hcz21_2
         try clear hcz21_3
         try clear hcz21_4
         try clear hcz21_5
         try clear hcz21_6
         try clear hcz21_7
         try clear hcz21_8
         try clear hcz21_9
         try clear hcz25_0
         try clear hcz25_1
         try clear hcz25_2
         try clear hcz25_3
         try clear hcz25_4
         try clear hcz25_5
         try clear hcz25_6
         try clear hcz25_7
         try clear hcz25_8
         try clear hcz25_9
         try clear hcz30_0
         try clear hcz30_1
         try clear hcz30_2
         try clear hcz30_3
         try clear hcz30_4
         try clear hcz30_5
         try clear hcz30_6
         try clear hcz30_7
         try clear hcz30_8
         try clear hcz30_9
         try clear hcz32_0
         try clear hcz32_1
         try clear hcz32_2
         try clear hcz32_3
         try clear hcz32_4
         try clear hcz32_5
         try clear hcz32_6
         try clear hcz32_7
         try clear hcz32_8
         try clear hcz32_9
         try clear hcz33_0
         try clear hcz33_1
         try clear hcz33_2
         try clear hcz33_3
         try clear hcz33_4
         try clear hcz33_5
         try clear hcz33_6
         try clear hcz33_7
         try clear hcz33_8
         try clear hcz33_9
         try clear hcz35_0
         try clear hcz35_1
         try clear hcz35_2
         try clear hcz35_3
         try clear hcz35_4
         try clear hcz35_5
         try clear hcz35_6
         try clear hcz35_7
         try clear hcz35_8
         try clear hcz35_9
         try clear hcz36_0
         try clear hcz36_1
         try clear hcz36_2
         try clear hcz36_3
         try clear hcz36_4
         try clear hcz36_5
         try clear hcz36_6
         try clear hcz36_7
         try clear hcz36_8
         try clear hcz36_9
         try clear hcz38_0
         try clear hcz38_1
         try clear hcz38_2
         try clear hcz38_3
         try clear hcz38_4
         try clear hcz38_5
         try clear hcz38_6
         try clear hcz38_7
         try clear hcz38_8
         try clear hcz38_9
         try clear hcz39_0
         try clear hcz39_1
         try clear hcz39_2
         try clear hcz39_3
         try clear hcz39_4
         try clear hcz39_5
         try clear hcz39_6
         try clear hcz39_7
         try clear hcz39_8
         try clear hcz39_9
         try clear hfz11_0
         try clear hfz11_1
         try clear hfz11_2
         try clear hfz11_3
         try clear hfz11_4
         try clear hfz11_5
         try clear hfz11_6
         try clear hfz11_7
         try clear hfz11_8
         try clear hfz11_9
         try clear hfz12_0
         try clear hfz12_1
         try clear hfz12_2
         try clear hfz12_3
         try clear hfz12_4
         try clear hfz12_5
         try clear hfz12_6
         try clear hfz12_7
         try clear hfz12_8
         try clear hfz12_9
         try clear hfz13_0
         try clear hfz13_1
         try clear hfz13_2
         try clear hfz13_3
         try clear hfz13_4
         try clear hfz13_5
         try clear hfz13_6
         try clear hfz13_7
         try clear hfz13_8
         try clear hfz13_9
         try clear hfz19_0
         try clear hfz19_1
         try clear hfz19_2
         try clear hfz19_3
         try clear hfz19_4
         try clear hfz19_5
         try clear hfz19_6
         try clear hfz19_7
         try clear hfz19_8
         try clear hfz19_9
         try clear hfz21_0
         try clear hfz21_1
         try clear hfz21_2
         try clear hfz21_3
         try clear hfz21_4
         try clear hfz21_5
         try clear hfz21_6
         try clear hfz21_7
         try clear hfz21_8
         try clear hfz21_9
         try clear hfz25_0
         try clear hfz25_1
         try clear hfz25_2
         try clear hfz25_3
         try clear hfz25_4
         try clear hfz25_5
         try clear hfz25_6
         try clear hfz25_7
         try clear hfz25_8
         try clear hfz25_9
         try clear hfz30_0
         try clear hfz30_1
         try clear hfz30_2
         try clear hfz30_3
         try clear hfz30_4
         try clear hfz30_5
         try clear hfz30_6
         try clear hfz30_7
         try clear hfz30_8
         try clear hfz30_9
         try clear hfz32_0
         try clear hfz32_1
         try clear hfz32_2
         try clear hfz32_3
         try clear hfz32_4
         try clear hfz32_5
         try clear hfz32_6
         try clear hfz32_7
         try clear hfz32_8
         try clear hfz32_9
         try clear hfz33_0
         try clear hfz33_1
         try clear hfz33_2
         try clear hfz33_3
         try clear hfz33_4
         try clear hfz33_5
         try clear hfz33_6
         try clear hfz33_7
         try clear hfz33_8
         try clear hfz33_9
         try clear hfz35_0
         try clear hfz35_1
         try clear hfz35_2
         try clear hfz35_3
         try clear hfz35_4
         try clear hfz35_5
         try clear hfz35_6
         try clear hfz35_7
         try clear hfz35_8
         try clear hfz35_9
         try clear hfz36_0
         try clear hfz36_1
         try clear hfz36_2
         try clear hfz36_3
         try clear hfz36_4
         try clear hfz36_5
         try clear hfz36_6
         try clear hfz36_7
         try clear hfz36_8
         try clear hfz36_9
         try clear hfz38_0
         try clear hfz38_1
         try clear hfz38_2
         try clear hfz38_3
         try clear hfz38_4
         try clear hfz38_5
         try clear hfz38_6
         try clear hfz38_7
         try clear hfz38_8
         try clear hfz38_9
         try clear hfz39_0
         try clear hfz39_1
         try clear hfz39_2
         try clear hfz39_3
         try clear hfz39_4
         try clear hfz39_5
         try clear hfz39_6
         try clear hfz39_7
         try clear hfz39_8
         try clear hfz39_9
         try clear hx1184_0
         try clear hx1184_1
         try clear hx1184_2
         try clear hx1184_3
         try clear p1184
         try clear p2
         try clear q1184
         obtain ⟨kq,x94_23,rfl,HA,HJ23,BK1180,HB⟩ := hcut
         cases kq with
         | zero => exact absurd HA.out (by simp [spec_ClientOK.j2])
         | succ kj23 =>
          have H := HA.out
          clear HA
          simp only [spec_ClientOK.j2] at H
          by_cases c41 : x94_23 = true
          ·subst c41
           have H1 : (some false) = some r := by rw [if_pos rfl] at H;exact H
           clear H
           have H := H1
           clear H1
           obtain rfl := Option.some.inj H
           go_wp2
           go_ret
           exact ⟨zt_,zl_ HB⟩
          ·replace c41 := Bool.eq_false_iff.mpr c41
           subst c41
           have H1 : (spec_ClientOK.l1 kj23 a0 0 a1_0 a1_1 true a1_3 a1_4 a1_5 a1_6 a1_7 l1_8 l1_9) = some r := by rw [if_neg (show ¬ (false = true) by decide)] at H;exact H
           clear H
           have H := H1
           clear H1
           have H' := am_ H
           clear H
           go_wp2
           go_loopg [6] kj23 (fun kq v6 w' => ∃ (x6_4 : Int),v6 = .int .i64 x6_4 ∧ Aside0 (spec_ClientOK.l1 kq a0 x6_4 a1_0 a1_1 true a1_3 a1_4 a1_5 a1_6 a1_7 l1_8 l1_9 = some r) ∧ Aside0 (kq ≤ kj23) ∧ Aside0 (w'.heap[gb1180]? = some (.cells #[.int .i64 a1_0,.int .i64 a1_1,.bool true,.int .i64 a1_3,.int .i64 a1_4,.int .i64 a1_5,.int .i64 a1_6,.string a1_7,(.slice A1_8 l1_8.length c1_8),(.slice A1_9 l1_9.length c1_9)] 88 (0,0))) ∧ Aside0 (Below w.heap.size w w'))
           case atStart => exact ⟨(0),(by first | rfl | (simp;done) | (simp [*];done)),H',⟨Nat.le_refl _⟩,⟨by (with_reducible repeat (first | apply k1_ | apply k2_ | apply k3_));exact BK1180.out⟩,⟨zl_ HB⟩⟩
           case round =>
            clear H'
            try clear c1
            try clear p1
            try clear q1
            try clear hx1
            try clear c2
            try clear p2
            try clear c4
            try clear c5
            try clear c6
            try clear p6
            try clear c8
            try clear c9
            try clear c10
            try clear p11
            try clear q11
            try clear hx11
            try clear c14
            try clear c15
            try clear c15b0
            try clear c16
            try clear c16b0
            try clear c18
            try clear c23
            try clear c27
            try clear c28
            try clear c28b0
            try clear c28b1
            try clear c29
            try clear c29b0
            try clear c29b1
            try clear c41
            try clear hcz11_0
            try clear hcz11_1
            try clear hcz11_2
            try clear hcz11_3
            try clear hcz11_4
            try clear hcz11_5
            try clear hcz11_6
            try clear hcz11_7
            try clear hcz11_8
            try clear hcz11_9
            try clear hcz12_0
            try clear hcz12_1
            try clear hcz12_2
            try clear hcz12_3
            try clear hcz12_4
            try clear hcz12_5
            try clear hcz12_6
            try clear hcz12_7
            try clear hcz12_8
            try clear hcz12_9
            try clear hcz13_0
            try clear hcz13_1
            try clear hcz13_2
            try clear hcz13_3
            try clear hcz13_4
            try clear hcz13_5
            try clear hcz13_6
            try clear hcz13_7
            try clear hcz13_8
            try clear hcz13_9
            try clear hcz19_0
            try clear hcz19_1
            try clear hcz19_2
            try clear hcz19_3
            try clear hcz19_4
            try clear hcz19_5
            try clear hcz19_6
            try clear hcz19_7
            try clear hcz19_8
            try clear hcz19_9
            try clear hcz21_0
            try clear hcz21_1
            try clear hcz21_2
            try clear hcz21_3
            try clear hcz21_4
            try clear hcz21_5
            try clear hcz21_6
            try clear hcz21_7
            try clear hcz21_8
            try clear hcz21_9
            try clear hcz25_0
            try clear hcz25_1
            try clear hcz25_2
            try clear hcz25_3
            try clear hcz25_4
            try clear hcz25_5
            try clear hcz25_6
            try clear hcz25_7
            try clear hcz25_8
            try clear hcz25_9
            try clear hcz30_0
            try clear hcz30_1
            try clear hcz30_2
            try clear hcz30_3
            try clear hcz30_4
            try clear hcz30_5
            try clear hcz30_6
            try clear hcz30_7
            try clear hcz30_8
            try clear hcz30_9
            try clear hcz32_0
            try clear hcz32_1
            try clear hcz32_2
            try clear hcz32_3
            try clear hcz32_4
            try clear hcz32_5
            try clear hcz32_6
            try clear hcz32_7
            try clear hcz32_8
            try clear hcz32_9
            try clear hcz33_0
            try clear hcz33_1
            try clear hcz33_2
            try clear hcz33_3
            try clear hcz33_4
            try clear hcz33_5
            try clear hcz33_6
            try clear hcz33_7
            try clear hcz33_8
            try clear hcz33_9
            try clear hcz35_0
            try clear hcz35_1
            try clear hcz35_2
            try clear hcz35_3
            try clear hcz35_4
            try clear hcz35_5
            try clear hcz35_6
            try clear hcz35_7
            try clear hcz35_8
            try clear hcz35_9
            try clear hcz36_0
            try clear hcz36_1
            try clear hcz36_2
            try clear hcz36_3
            try clear hcz36_4
            try clear hcz36_5
            try clear hcz36_6
            try clear hcz36_7
            try clear hcz36_8
            try clear hcz36_9
            try clear hcz38_0
            try clear hcz38_1
            try clear hcz38_2
            try clear hcz38_3
            try clear hcz38_4
            try clear hcz38_5
            try clear hcz38_6
            try clear hcz38_7
            try clear hcz38_8
            try clear hcz38_9
            try clear hcz39_0
            try clear hcz39_1
            try clear hcz39_2
            try clear hcz39_3
            try clear hcz39_4
            try clear hcz39_5
            try clear hcz39_6
            try clear hcz39_7
            try clear hcz39_8
            try clear hcz39_9
            try clear hfz11_0
            try clear hfz11_1
            try clear hfz11_2
            try clear hfz11_3
            try clear hfz11_4
            try clear hfz11_5
            try clear hfz11_6
            try clear hfz11_7
            try clear hfz11_8
            try clear hfz11_9
            try clear hfz12_0
            try clear hfz12_1
            try clear hfz12_2
            try clear hfz12_3
            try clear hfz12_4
            try clear hfz12_5
            try clear hfz12_6
            try clear hfz12_7
            try clear hfz12_8
            try clear hfz12_9
            try clear hfz13_0
            try clear hfz13_1
            try clear hfz13_2
            try clear hfz13_3
            try clear hfz13_4
            try clear hfz13_5
            try clear hfz13_6
            try clear hfz13_7
            try clear hfz13_8
            try clear hfz13_9
            try clear hfz19_0
            try clear hfz19_1
            try clear hfz19_2
            try clear hfz19_3
            try clear hfz19_4
            try clear hfz19_5
            try clear hfz19_6
            try clear hfz19_7
            try clear hfz19_8
            try clear hfz19_9
            try clear hfz21_0
            try clear hfz21_1
            try clear hfz21_2
            try clear hfz21_3
            try clear hfz21_4
            try clear hfz21_5
            try clear hfz21_6
            try clear hfz21_7
            try clear hfz21_8
            try clear hfz21_9
            try clear hfz25_0
            try clear hfz25_1
            try clear hfz25_2
            try clear hfz25_3
            try clear hfz25_4
            try clear hfz25_5
            try clear hfz25_6
            try clear hfz25_7
            try clear hfz25_8
            try clear hfz25_9
            try clear hfz30_0
            try clear hfz30_1
            try clear hfz30_2
            try clear hfz30_3
            try clear hfz30_4
            try clear hfz30_5
            try clear hfz30_6
            try clear hfz30_7
            try clear hfz30_8
            try clear hfz30_9
            try clear hfz32_0
            try clear hfz32_1
            try clear hfz32_2
            try clear hfz32_3
            try clear hfz32_4
            try clear hfz32_5
            try clear hfz32_6
            try clear hfz32_7
            try clear hfz32_8
            try clear hfz32_9
            try clear hfz33_0
            try clear hfz33_1
            try clear hfz33_2
            try clear hfz33_3
            try clear hfz33_4
            try clear hfz33_5
            try clear hfz33_6
            try clear hfz33_7
            try clear hfz33_8
            try clear hfz33_9
            try clear hfz35_0
            try clear hfz35_1
            try clear hfz35_2
            try clear hfz35_3
            try clear hfz35_4
            try clear hfz35_5
            try clear hfz35_6
            try clear hfz35_7
            try clear hfz35_8
            try clear hfz35_9
            try clear hfz36_0
            try clear hfz36_1
            try clear hfz36_2
            try clear hfz36_3
            try clear hfz36_4
            try clear hfz36_5
            try clear hfz36_6
            try clear hfz36_7
            try clear hfz36_8
            try clear hfz36_9
            try clear hfz38_0
            try clear hfz38_1
            try clear hfz38_2
            try clear hfz38_3
            try clear hfz38_4
            try clear hfz38_5
            try clear hfz38_6
            try clear hfz38_7
            try clear hfz38_8
            try clear hfz38_9
            try clear hfz39_0
            try clear hfz39_1
            try clear hfz39_2
            try clear hfz39_3
            try clear hfz39_4
            try clear hfz39_5
            try clear hfz39_6
            try clear hfz39_7
            try clear hfz39_8
            try clear hfz39_9
            try clear hx1184_0
            try clear hx1184_1
            try clear hx1184_2
            try clear hx1184_3
            try clear p1
            try clear p11
            try clear p1184
            try clear p2
            try clear p6
            try clear q1
            try clear q11
            try clear q1184
            obtain ⟨x6_4,rfl,HA,HK4,BK1180,HB⟩ := hrel
            cases gk with
            | zero => exact absurd HA.out (by simp [spec_ClientOK.l1])
            | succ k4 =>
             have H := HA.out
             clear HA
             simp only [spec_ClientOK.l1] at H
             by_cases c42 : x6_4 < (l1_8.length : Int)
             ·rw [if_pos c42] at H
              have c42b0 : decide (x6_4 < (l1_8.length : Int)) = true := decide_eq_true c42
              clear c42
              by_cases c43 : 0 ≤ x6_4
              ·rw [if_pos c43] at H
               have c43b0 : decide (0 ≤ x6_4) = true := decide_eq_true c43
               clear c43
               replace H := Option.bind_eq_some_iff.mp H
               obtain ⟨t1189,A440,H⟩ := H
               try dsimp only at H
               have A44 := am_ A440
               clear A440
               by_cases c45 : t1189 = true
               ·subst c45
                have H1 : (if ((rd_T73 l1_8 x6_4).f1) = a1_0 then (if ((rd_T73 l1_8 x6_4).f2) = a1_1 then (spec_ClientOK.l1 k4 a0 (wrap64 (x6_4 + 1)) a1_0 a1_1 true a1_3 a1_4 a1_5 a1_6 a1_7 l1_8 l1_9) else (some false)) else (some false)) = some r := by rw [if_pos rfl] at H;exact H
                clear H
                have H := H1
                clear H1
                by_cases c46 : ((rd_T73 l1_8 x6_4).f1) = a1_0
                ·rw [if_pos c46] at H
                 have c46b0 : (((rd_T73 l1_8 x6_4).f1) == a1_0) = true := beq_iff_eq.mpr c46
                 have c46b1 : (((rd_T73 l1_8 x6_4).f1) != a1_0) = false := bne_eq_false_iff_eq.mpr c46
                 clear c46
                 by_cases c47 : ((rd_T73 l1_8 x6_4).f2) = a1_1
                 ·rw [if_pos c47] at H
                  have c47b0 : (((rd_T73 l1_8 x6_4).f2) == a1_1) = true := beq_iff_eq.mpr c47
                  have c47b1 : (((rd_T73 l1_8 x6_4).f2) != a1_1) = false := bne_eq_false_iff_eq.mpr c47
                  clear c47
                  have H' := am_ H
                  clear H
                  obtain ⟨hcz48_0,hcz48_1,hcz48_2,hcz48_3,hcz48_4,hcz48_5,hcz48_6,hcz48_7,hcz48_8,hcz48_9,hfz48_0,hfz48_1,hfz48_2,hfz48_3,hfz48_4,hfz48_5,hfz48_6,hfz48_7,hfz48_8,hfz48_9⟩ := zc10 BK1180
                  have p1187 : 0 ≤ (x6_4 : Int) := zo_
                  have q1187 : x6_4 < (l1_8.length : Int) := zo_
                  obtain ⟨ad1187,e1187,hx1187_0,hx1187_1,hx1187_2,hx1187_3,hx1187_4,hx1187_5,hx1187_6,hx1187_7⟩ := at_T73 HR1_8.out x6_4 p1187 q1187
                  cases e1187
                  replace hx1187_0 := zx_ HB hx1187_0
                  replace hx1187_1 := zx_ HB hx1187_1
                  replace hx1187_2 := zx_ HB hx1187_2
                  replace hx1187_3 := zx_ HB hx1187_3
                  replace hx1187_4 := zx_ HB hx1187_4
                  replace hx1187_5 := zx_ HB hx1187_5
                  replace hx1187_6 := zx_ HB hx1187_6
                  replace hx1187_7 := zx_ HB hx1187_7
                  replace p1187 := eq_true p1187
                  replace q1187 := eq_true q1187
                  go_wp2_with (first | ((with_reducible refine gate_dst (N := 7) rfl ?_);(try (refine gate_guard (by rfl) ?_;dsimp only));refine zbx (N := 7) (cs := #[.int .i64 0,.int .i64 0,.int .i64 0,.int .i64 0,.int .i64 0,.int .i64 0,.int .i64 0,.string ⟨#[]⟩]) (t := 73) ?_;intro gb1188 hg w49 hbox hb;have BK1188 := am_ (hbox);have GW1188 := zw_ HB hg;have GE1188 := zw_ HB hg;replace HB := zs_ HB hb;have NB1180_1188 := zl hg BK1180;have NB1188_1180 := zg hg BK1180;replace BK1180 := zb BK1180 hb;clear hb hbox hg;have hnb50 := NB1188_1180.out;have hnc50 := NB1180_1188.out;obtain ⟨hcz51_0,hcz51_1,hcz51_2,hcz51_3,hcz51_4,hcz51_5,hcz51_6,hcz51_7,hfz51_0,hfz51_1,hfz51_2,hfz51_3,hfz51_4,hfz51_5,hfz51_6,hfz51_7⟩ := zc8 BK1188) | ((with_reducible refine gate_callee (f := 97) rfl ?_);refine zgl (some 109) Tryd.func97 #[.int .i64 a0,.agg #[.int .i64 ((rd_T73 l1_8 x6_4).f0),.int .i64 ((rd_T73 l1_8 x6_4).f1),.int .i64 ((rd_T73 l1_8 x6_4).f2),.int .i64 ((rd_T73 l1_8 x6_4).f3.f0),.int .i64 ((rd_T73 l1_8 x6_4).f3.f1),.int .i64 ((rd_T73 l1_8 x6_4).f3.f2),.int .i64 ((rd_T73 l1_8 x6_4).f3.f3),.string ((rd_T73 l1_8 x6_4).f4)]] ?_;(with_reducible refine (spec_l11OK.calls k4 a0 ((rd_T73 l1_8 x6_4).f0) ((rd_T73 l1_8 x6_4).f1) ((rd_T73 l1_8 x6_4).f2) ((rd_T73 l1_8 x6_4).f3.f0) ((rd_T73 l1_8 x6_4).f3.f1) ((rd_T73 l1_8 x6_4).f3.f2) ((rd_T73 l1_8 x6_4).f3.f3) ((rd_T73 l1_8 x6_4).f4) true _ A44.out).mono ?_);rintro e w52 ⟨rfl,hb⟩;refine ⟨_,rfl,?_⟩;replace BK1180 := am_ (blk_below (g := gb1180) (o := .cells #[.int .i64 a1_0,.int .i64 a1_1,.bool true,.int .i64 a1_3,.int .i64 a1_4,.int .i64 a1_5,.int .i64 a1_6,.string a1_7,.slice (some ad1187) l1_8.length c1_8,.slice A1_9 l1_9.length c1_9] 88 (0,0)) (zq BK1180) hb);replace BK1188 := am_ (blk_below (g := gb1188) (o := .cells #[.int .i64 ((rd_T73 l1_8 x6_4).f0),.int .i64 ((rd_T73 l1_8 x6_4).f1),.int .i64 ((rd_T73 l1_8 x6_4).f2),.int .i64 ((rd_T73 l1_8 x6_4).f3.f0),.int .i64 ((rd_T73 l1_8 x6_4).f3.f1),.int .i64 ((rd_T73 l1_8 x6_4).f3.f2),.int .i64 ((rd_T73 l1_8 x6_4).f3.f3),.string ((rd_T73 l1_8 x6_4).f4)] 73 (0,0)) (zq BK1188) hb);replace HB := zs_ HB hb;(try clear hb);(try clear hb2);(try clear hk);(try clear hi);obtain ⟨hcz53_0,hcz53_1,hcz53_2,hcz53_3,hcz53_4,hcz53_5,hcz53_6,hcz53_7,hfz53_0,hfz53_1,hfz53_2,hfz53_3,hfz53_4,hfz53_5,hfz53_6,hfz53_7⟩ := zc8 BK1188;obtain ⟨hcz54_0,hcz54_1,hcz54_2,hcz54_3,hcz54_4,hcz54_5,hcz54_6,hcz54_7,hcz54_8,hcz54_9,hfz54_0,hfz54_1,hfz54_2,hfz54_3,hfz54_4,hfz54_5,hfz54_6,hfz54_7,hfz54_8,hfz54_9⟩ := zc10 BK1180))
                  go_roundg k4
                  case measure => have := HJ2.out;have := HK2.out;have := HJ23.out;have := HK4.out;omega
                  case rel => exact ⟨(wrap64 (x6_4 + 1)),(by first | rfl | (simp;done) | (simp [*];done)),H',⟨by have := HJ2.out;have := HK2.out;have := HJ23.out;have := HK4.out;omega⟩,⟨by (with_reducible repeat (first | apply k1_ | apply k2_ | apply k3_));exact BK1180.out⟩,⟨zl_ HB⟩⟩
                 ·rw [if_neg c47] at H
                  have c47b0 : (((rd_T73 l1_8 x6_4).f2) == a1_1) = false := beq_eq_false_iff_ne.mpr c47
                  have c47b1 : (((rd_T73 l1_8 x6_4).f2) != a1_1) = true := bne_iff_ne.mpr c47
                  obtain rfl := Option.some.inj H
                  obtain ⟨hcz55_0,hcz55_1,hcz55_2,hcz55_3,hcz55_4,hcz55_5,hcz55_6,hcz55_7,hcz55_8,hcz55_9,hfz55_0,hfz55_1,hfz55_2,hfz55_3,hfz55_4,hfz55_5,hfz55_6,hfz55_7,hfz55_8,hfz55_9⟩ := zc10 BK1180
                  have p1187 : 0 ≤ (x6_4 : Int) := zo_
                  have q1187 : x6_4 < (l1_8.length : Int) := zo_
                  obtain ⟨ad1187,e1187,hx1187_0,hx1187_1,hx1187_2,hx1187_3,hx1187_4,hx1187_5,hx1187_6,hx1187_7⟩ := at_T73 HR1_8.out x6_4 p1187 q1187
                  cases e1187
                  replace hx1187_0 := zx_ HB hx1187_0
                  replace hx1187_1 := zx_ HB hx1187_1
                  replace hx1187_2 := zx_ HB hx1187_2
                  replace hx1187_3 := zx_ HB hx1187_3
                  replace hx1187_4 := zx_ HB hx1187_4
                  replace hx1187_5 := zx_ HB hx1187_5
                  replace hx1187_6 := zx_ HB hx1187_6
                  replace hx1187_7 := zx_ HB hx1187_7
                  replace p1187 := eq_true p1187
                  replace q1187 := eq_true q1187
                  go_wp2_with (first | ((with_reducible refine gate_dst (N := 7) rfl ?_);(try (refine gate_guard (by rfl) ?_;dsimp only));refine zbx (N := 7) (cs := #[.int .i64 0,.int .i64 0,.int .i64 0,.int .i64 0,.int .i64 0,.int .i64 0,.int .i64 0,.string ⟨#[]⟩]) (t := 73) ?_;intro gb1188 hg w56 hbox hb;have BK1188 := am_ (hbox);have GW1188 := zw_ HB hg;have GE1188 := zw_ HB hg;replace HB := zs_ HB hb;have NB1180_1188 := zl hg BK1180;have NB1188_1180 := zg hg BK1180;replace BK1180 := zb BK1180 hb;clear hb hbox hg;have hnb57 := NB1188_1180.out;have hnc57 := NB1180_1188.out;obtain ⟨hcz58_0,hcz58_1,hcz58_2,hcz58_3,hcz58_4,hcz58_5,hcz58_6,hcz58_7,hfz58_0,hfz58_1,hfz58_2,hfz58_3,hfz58_4,hfz58_5,hfz58_6,hfz58_7⟩ := zc8 BK1188) | ((with_reducible refine gate_callee (f := 97) rfl ?_);refine zgl (some 109) Tryd.func97 #[.int .i64 a0,.agg #[.int .i64 ((rd_T73 l1_8 x6_4).f0),.int .i64 ((rd_T73 l1_8 x6_4).f1),.int .i64 ((rd_T73 l1_8 x6_4).f2),.int .i64 ((rd_T73 l1_8 x6_4).f3.f0),.int .i64 ((rd_T73 l1_8 x6_4).f3.f1),.int .i64 ((rd_T73 l1_8 x6_4).f3.f2),.int .i64 ((rd_T73 l1_8 x6_4).f3.f3),.string ((rd_T73 l1_8 x6_4).f4)]] ?_;(with_reducible refine (spec_l11OK.calls k4 a0 ((rd_T73 l1_8 x6_4).f0) ((rd_T73 l1_8 x6_4).f1) ((rd_T73 l1_8 x6_4).f2) ((rd_T73 l1_8 x6_4).f3.f0) ((rd_T73 l1_8 x6_4).f3.f1) ((rd_T73 l1_8 x6_4).f3.f2) ((rd_T73 l1_8 x6_4).f3.f3) ((rd_T73 l1_8 x6_4).f4) true _ A44.out).mono ?_);rintro e w59 ⟨rfl,hb⟩;refine ⟨_,rfl,?_⟩;replace BK1180 := am_ (blk_below (g := gb1180) (o := .cells #[.int .i64 a1_0,.int .i64 a1_1,.bool true,.int .i64 a1_3,.int .i64 a1_4,.int .i64 a1_5,.int .i64 a1_6,.string a1_7,.slice (some ad1187) l1_8.length c1_8,.slice A1_9 l1_9.length c1_9] 88 (0,0)) (zq BK1180) hb);replace BK1188 := am_ (blk_below (g := gb1188) (o := .cells #[.int .i64 ((rd_T73 l1_8 x6_4).f0),.int .i64 ((rd_T73 l1_8 x6_4).f1),.int .i64 ((rd_T73 l1_8 x6_4).f2),.int .i64 ((rd_T73 l1_8 x6_4).f3.f0),.int .i64 ((rd_T73 l1_8 x6_4).f3.f1),.int .i64 ((rd_T73 l1_8 x6_4).f3.f2),.int .i64 ((rd_T73 l1_8 x6_4).f3.f3),.string ((rd_T73 l1_8 x6_4).f4)] 73 (0,0)) (zq BK1188) hb);replace HB := zs_ HB hb;(try clear hb);(try clear hb2);(try clear hk);(try clear hi);obtain ⟨hcz60_0,hcz60_1,hcz60_2,hcz60_3,hcz60_4,hcz60_5,hcz60_6,hcz60_7,hfz60_0,hfz60_1,hfz60_2,hfz60_3,hfz60_4,hfz60_5,hfz60_6,hfz60_7⟩ := zc8 BK1188;obtain ⟨hcz61_0,hcz61_1,hcz61_2,hcz61_3,hcz61_4,hcz61_5,hcz61_6,hcz61_7,hcz61_8,hcz61_9,hfz61_0,hfz61_1,hfz61_2,hfz61_3,hfz61_4,hfz61_5,hfz61_6,hfz61_7,hfz61_8,hfz61_9⟩ := zc10 BK1180))
                  go_ret
                  exact ⟨zt_,zl_ HB⟩
                ·rw [if_neg c46] at H
                 have c46b0 : (((rd_T73 l1_8 x6_4).f1) == a1_0) = false := beq_eq_false_iff_ne.mpr c46
                 have c46b1 : (((rd_T73 l1_8 x6_4).f1) != a1_0) = true := bne_iff_ne.mpr c46
                 obtain rfl := Option.some.inj H
                 obtain ⟨hcz62_0,hcz62_1,hcz62_2,hcz62_3,hcz62_4,hcz62_5,hcz62_6,hcz62_7,hcz62_8,hcz62_9,hfz62_0,hfz62_1,hfz62_2,hfz62_3,hfz62_4,hfz62_5,hfz62_6,hfz62_7,hfz62_8,hfz62_9⟩ := zc10 BK1180
                 have p1187 : 0 ≤ (x6_4 : Int) := zo_
                 have q1187 : x6_4 < (l1_8.length : Int) := zo_
                 obtain ⟨ad1187,e1187,hx1187_0,hx1187_1,hx1187_2,hx1187_3,hx1187_4,hx1187_5,hx1187_6,hx1187_7⟩ := at_T73 HR1_8.out x6_4 p1187 q1187
                 cases e1187
                 replace hx1187_0 := zx_ HB hx1187_0
                 replace hx1187_1 := zx_ HB hx1187_1
                 replace hx1187_2 := zx_ HB hx1187_2
                 replace hx1187_3 := zx_ HB hx1187_3
                 replace hx1187_4 := zx_ HB hx1187_4
                 replace hx1187_5 := zx_ HB hx1187_5
                 replace hx1187_6 := zx_ HB hx1187_6
                 replace hx1187_7 := zx_ HB hx1187_7
                 replace p1187 := eq_true p1187
                 replace q1187 := eq_true q1187
                 go_wp2_with (first | ((with_reducible refine gate_dst (N := 7) rfl ?_);(try (refine gate_guard (by rfl) ?_;dsimp only));refine zbx (N := 7) (cs := #[.int .i64 0,.int .i64 0,.int .i64 0,.int .i64 0,.int .i64 0,.int .i64 0,.int .i64 0,.string ⟨#[]⟩]) (t := 73) ?_;intro gb1188 hg w63 hbox hb;have BK1188 := am_ (hbox);have GW1188 := zw_ HB hg;have GE1188 := zw_ HB hg;replace HB := zs_ HB hb;have NB1180_1188 := zl hg BK1180;have NB1188_1180 := zg hg BK1180;replace BK1180 := zb BK1180 hb;clear hb hbox hg;have hnb64 := NB1188_1180.out;have hnc64 := NB1180_1188.out;obtain ⟨hcz65_0,hcz65_1,hcz65_2,hcz65_3,hcz65_4,hcz65_5,hcz65_6,hcz65_7,hfz65_0,hfz65_1,hfz65_2,hfz65_3,hfz65_4,hfz65_5,hfz65_6,hfz65_7⟩ := zc8 BK1188) | ((with_reducible refine gate_callee (f := 97) rfl ?_);refine zgl (some 109) Tryd.func97 #[.int .i64 a0,.agg #[.int .i64 ((rd_T73 l1_8 x6_4).f0),.int .i64 ((rd_T73 l1_8 x6_4).f1),.int .i64 ((rd_T73 l1_8 x6_4).f2),.int .i64 ((rd_T73 l1_8 x6_4).f3.f0),.int .i64 ((rd_T73 l1_8 x6_4).f3.f1),.int .i64 ((rd_T73 l1_8 x6_4).f3.f2),.int .i64 ((rd_T73 l1_8 x6_4).f3.f3),.string ((rd_T73 l1_8 x6_4).f4)]] ?_;(with_reducible refine (spec_l11OK.calls k4 a0 ((rd_T73 l1_8 x6_4).f0) ((rd_T73 l1_8 x6_4).f1) ((rd_T73 l1_8 x6_4).f2) ((rd_T73 l1_8 x6_4).f3.f0) ((rd_T73 l1_8 x6_4).f3.f1) ((rd_T73 l1_8 x6_4).f3.f2) ((rd_T73 l1_8 x6_4).f3.f3) ((rd_T73 l1_8 x6_4).f4) true _ A44.out).mono ?_);rintro e w66 ⟨rfl,hb⟩;refine ⟨_,rfl,?_⟩;replace BK1180 := am_ (blk_below (g := gb1180) (o := .cells #[.int .i64 a1_0,.int .i64 a1_1,.bool true,.int .i64 a1_3,.int .i64 a1_4,.int .i64 a1_5,.int .i64 a1_6,.string a1_7,.slice (some ad1187) l1_8.length c1_8,.slice A1_9 l1_9.length c1_9] 88 (0,0)) (zq BK1180) hb);replace BK1188 := am_ (blk_below (g := gb1188) (o := .cells #[.int .i64 ((rd_T73 l1_8 x6_4).f0),.int .i64 ((rd_T73 l1_8 x6_4).f1),.int .i64 ((rd_T73 l1_8 x6_4).f2),.int .i64 ((rd_T73 l1_8 x6_4).f3.f0),.int .i64 ((rd_T73 l1_8 x6_4).f3.f1),.int .i64 ((rd_T73 l1_8 x6_4).f3.f2),.int .i64 ((rd_T73 l1_8 x6_4).f3.f3),.string ((rd_T73 l1_8 x6_4).f4)] 73 (0,0)) (zq BK1188) hb);replace HB := zs_ HB hb;(try clear hb);(try clear hb2);(try clear hk);(try clear hi);obtain ⟨hcz67_0,hcz67_1,hcz67_2,hcz67_3,hcz67_4,hcz67_5,hcz67_6,hcz67_7,hfz67_0,hfz67_1,hfz67_2,hfz67_3,hfz67_4,hfz67_5,hfz67_6,hfz67_7⟩ := zc8 BK1188;obtain ⟨hcz68_0,hcz68_1,hcz68_2,hcz68_3,hcz68_4,hcz68_5,hcz68_6,hcz68_7,hcz68_8,hcz68_9,hfz68_0,hfz68_1,hfz68_2,hfz68_3,hfz68_4,hfz68_5,hfz68_6,hfz68_7,hfz68_8,hfz68_9⟩ := zc10 BK1180))
                 go_ret
                 exact ⟨zt_,zl_ HB⟩
               ·replace c45 := Bool.eq_false_iff.mpr c45
                subst c45
                have H1 : (some false) = some r := by rw [if_neg (show ¬ (false = true) by decide)] at H;exact H
                clear H
                have H := H1
                clear H1
                obtain rfl := Option.some.inj H
                obtain ⟨hcz69_0,hcz69_1,hcz69_2,hcz69_3,hcz69_4,hcz69_5,hcz69_6,hcz69_7,hcz69_8,hcz69_9,hfz69_0,hfz69_1,hfz69_2,hfz69_3,hfz69_4,hfz69_5,hfz69_6,hfz69_7,hfz69_8,hfz69_9⟩ := zc10 BK1180
                have p1187 : 0 ≤ (x6_4 : Int) := zo_
                have q1187 : x6_4 < (l1_8.length : Int) := zo_
                obtain ⟨ad1187,e1187,hx1187_0,hx1187_1,hx1187_2,hx1187_3,hx1187_4,hx1187_5,hx1187_6,hx1187_7⟩ := at_T73 HR1_8.out x6_4 p1187 q1187
                cases e1187
                replace hx1187_0 := zx_ HB hx1187_0
                replace hx1187_1 := zx_ HB hx1187_1
                replace hx1187_2 := zx_ HB hx1187_2
                replace hx1187_3 := zx_ HB hx1187_3
                replace hx1187_4 := zx_ HB hx1187_4
                replace hx1187_5 := zx_ HB hx1187_5
                replace hx1187_6 := zx_ HB hx1187_6
                replace hx1187_7 := zx_ HB hx1187_7
                replace p1187 := eq_true p1187
                replace q1187 := eq_true q1187
                go_wp2_with (first | ((with_reducible refine gate_dst (N := 7) rfl ?_);(try (refine gate_guard (by rfl) ?_;dsimp only));refine zbx (N := 7) (cs := #[.int .i64 0,.int .i64 0,.int .i64 0,.int .i64 0,.int .i64 0,.int .i64 0,.int .i64 0,.string ⟨#[]⟩]) (t := 73) ?_;intro gb1188 hg w70 hbox hb;have BK1188 := am_ (hbox);have GW1188 := zw_ HB hg;have GE1188 := zw_ HB hg;replace HB := zs_ HB hb;have NB1180_1188 := zl hg BK1180;have NB1188_1180 := zg hg BK1180;clear hb hbox hg;have hnb71 := NB1188_1180.out;have hnc71 := NB1180_1188.out;obtain ⟨hcz72_0,hcz72_1,hcz72_2,hcz72_3,hcz72_4,hcz72_5,hcz72_6,hcz72_7,hfz72_0,hfz72_1,hfz72_2,hfz72_3,hfz72_4,hfz72_5,hfz72_6,hfz72_7⟩ := zc8 BK1188) | ((with_reducible refine gate_callee (f := 97) rfl ?_);refine zgl (some 109) Tryd.func97 #[.int .i64 a0,.agg #[.int .i64 ((rd_T73 l1_8 x6_4).f0),.int .i64 ((rd_T73 l1_8 x6_4).f1),.int .i64 ((rd_T73 l1_8 x6_4).f2),.int .i64 ((rd_T73 l1_8 x6_4).f3.f0),.int .i64 ((rd_T73 l1_8 x6_4).f3.f1),.int .i64 ((rd_T73 l1_8 x6_4).f3.f2),.int .i64 ((rd_T73 l1_8 x6_4).f3.f3),.string ((rd_T73 l1_8 x6_4).f4)]] ?_;(with_reducible refine (spec_l11OK.calls k4 a0 ((rd_T73 l1_8 x6_4).f0) ((rd_T73 l1_8 x6_4).f1) ((rd_T73 l1_8 x6_4).f2) ((rd_T73 l1_8 x6_4).f3.f0) ((rd_T73 l1_8 x6_4).f3.f1) ((rd_T73 l1_8 x6_4).f3.f2) ((rd_T73 l1_8 x6_4).f3.f3) ((rd_T73 l1_8 x6_4).f4) false _ A44.out).mono ?_);rintro e w73 ⟨rfl,hb⟩;refine ⟨_,rfl,?_⟩;replace HB := zs_ HB hb;(try clear hb);(try clear hb2);(try clear hk);(try clear hi)))
                go_ret
                exact ⟨zt_,zl_ HB⟩
              ·rw [if_neg c43] at H
               exact absurd H (by simp)
             ·rw [if_neg c42] at H
              have c42b0 : decide (x6_4 < (l1_8.length : Int)) = false := decide_eq_false c42
              clear c42
              replace H := Option.bind_eq_some_iff.mp H
              obtain ⟨⟨t1190,t1191,t1192,t1193,t1194⟩,A740,H⟩ := H
              try dsimp only at H
              have A74 := am_ A740
              clear A740
              obtain rfl := Option.some.inj H
              obtain ⟨hcz75_0,hcz75_1,hcz75_2,hcz75_3,hcz75_4,hcz75_5,hcz75_6,hcz75_7,hcz75_8,hcz75_9,hfz75_0,hfz75_1,hfz75_2,hfz75_3,hfz75_4,hfz75_5,hfz75_6,hfz75_7,hfz75_8,hfz75_9⟩ := zc10 BK1180
              go_wp2_with (first | ((with_reducible refine gate_callee (f := 83) rfl ?_);refine zgl (some 133) Tryd.func83 #[.int .i64 a0,.int .i64 a1_0,.int .i64 a1_1,.slice A1_8 l1_8.length c1_8] ?_;(with_reducible refine (spec_l11Count.calls k4 a0 a1_0 a1_1 _ _ l1_8 t1190 t1191 t1192 t1193 t1194 _ ?side1 ?side2 A74.out).mono ?_);(case side1 => exact zc_ HR1_8 HB);(case side2 => exact HC1_8.out);rintro e w76 ⟨rfl,hb⟩;refine ⟨_,rfl,?_⟩;replace BK1180 := zb BK1180 hb;replace HB := zs_ HB hb;(try clear hb);(try clear hb2);(try clear hk);(try clear hi)) | ((with_reducible refine gate_dst (N := 8) rfl ?_);(try (refine gate_guard (by rfl) ?_;dsimp only));refine zbx (N := 8) (cs := #[.int .i64 0,.int .i64 0,.int .i64 0,.int .i64 0]) (t := 63) ?_;intro gb1195 hg w77 hbox hb;have BK1195 := am_ (hbox);have GW1195 := zw_ HB hg;have GE1195 := zw_ HB hg;replace HB := zs_ HB hb;have NB1180_1195 := zl hg BK1180;have NB1195_1180 := zg hg BK1180;clear hb hbox hg;have hnb78 := NB1195_1180.out;have hnc78 := NB1180_1195.out;obtain ⟨hcz79_0,hcz79_1,hcz79_2,hcz79_3,hfz79_0,hfz79_1,hfz79_2,hfz79_3⟩ := zc4 BK1195))
              go_ret
              exact ⟨zt_,zl_ HB⟩
       ·replace c23 := Bool.eq_false_iff.mpr c23
        subst c23
        have H1 : (if (a1_3 == 0 && (a1_4 == 0 && (a1_5 == 0 && (a1_6 == 0 && (a1_7.toList == ([] : List UInt8)))))) = true then (if (l1_8.length : Int) = 0 then (some ((l1_9.length : Int) == a1_1)) else (some false)) else (some false)) = some r := by rw [if_neg (show ¬ (false = true) by decide)] at H;exact H
        clear H
        have H := H1
        clear H1
        by_cases c80 : (a1_3 == 0 && (a1_4 == 0 && (a1_5 == 0 && (a1_6 == 0 && (a1_7.toList == ([] : List UInt8)))))) = true
        ·rw [if_pos c80] at H
         have c80k := am_ c80
         have c80b0 : (a1_3 == 0 && (a1_4 == 0 && (a1_5 == 0 && (a1_6 == 0 && (a1_7.toList == ([] : List UInt8)))))) = true := c80k.out
         (try (have c80b1 : decide (a1_3 = 0 && (a1_4 == 0 && (a1_5 == 0 && (a1_6 == 0 && (a1_7.toList == ([] : List UInt8)))))) = true := by simpa using c80k.out))
         (try (have c80b2 : (a1_3 == 0 && (a1_4 == 0 && (a1_5 == 0 && (a1_6 == 0 && (a1_7.toList == ([] : List UInt8)))))) = true := by simpa using c80k.out))
         (try have c80e0 := c80b0;simp only [e3_,e4_] at c80e0)
         (try have c80e1 := c80b1;simp only [e3_,e4_] at c80e1)
         (try have c80e2 := c80b2;simp only [e3_,e4_] at c80e2)
         (try simp only [*,Bool.not_true,Bool.not_false,Bool.false_or,Bool.true_or,Bool.or_false,Bool.or_true,Bool.true_and,Bool.and_true,Bool.false_and,Bool.and_false] at c80)
         have c80bs := c80
         clear c80k
         clear c80
         by_cases c81 : (l1_8.length : Int) = 0
         ·rw [if_pos c81] at H
          have c81b0 : ((l1_8.length : Int) == 0) = true := beq_iff_eq.mpr c81
          have c81b1 : ((l1_8.length : Int) != 0) = false := bne_eq_false_iff_eq.mpr c81
          clear c81
          obtain rfl := Option.some.inj H
          obtain ⟨hcz82_0,hcz82_1,hcz82_2,hcz82_3,hcz82_4,hcz82_5,hcz82_6,hcz82_7,hcz82_8,hcz82_9,hfz82_0,hfz82_1,hfz82_2,hfz82_3,hfz82_4,hfz82_5,hfz82_6,hfz82_7,hfz82_8,hfz82_9⟩ := zc10 BK1180
          go_wp2
          go_ret
          exact ⟨zt_,zl_ HB⟩
         ·rw [if_neg c81] at H
          have c81b0 : ((l1_8.length : Int) == 0) = false := beq_eq_false_iff_ne.mpr c81
          have c81b1 : ((l1_8.length : Int) != 0) = true := bne_iff_ne.mpr c81
          have c81b2 : ¬ (l1_8 = []) := fun h_ => c81 (by rw [h_];rfl)
          obtain rfl := Option.some.inj H
          obtain ⟨hcz83_0,hcz83_1,hcz83_2,hcz83_3,hcz83_4,hcz83_5,hcz83_6,hcz83_7,hcz83_8,hcz83_9,hfz83_0,hfz83_1,hfz83_2,hfz83_3,hfz83_4,hfz83_5,hfz83_6,hfz83_7,hfz83_8,hfz83_9⟩ := zc10 BK1180
          go_wp2
          go_ret
          exact ⟨zt_,zl_ HB⟩
        ·rw [if_neg c80] at H
         have c80k := am_ c80
         have c80b0 : (a1_3 == 0 && (a1_4 == 0 && (a1_5 == 0 && (a1_6 == 0 && (a1_7.toList == ([] : List UInt8)))))) = false := by simpa using c80k.out
         (try (have c80b1 : decide (a1_3 = 0 && (a1_4 == 0 && (a1_5 == 0 && (a1_6 == 0 && (a1_7.toList == ([] : List UInt8)))))) = false := by simpa using c80k.out))
         (try (have c80b2 : (a1_3 == 0 && (a1_4 == 0 && (a1_5 == 0 && (a1_6 == 0 && (a1_7.toList == ([] : List UInt8)))))) = false := by simpa using c80k.out))
         (try (have c80b3 : ¬ (a1_3 = 0 && (a1_4 == 0 && (a1_5 == 0 && (a1_6 == 0 && (a1_7.toList == ([] : List UInt8)))))) := by simpa using c80k.out))
         (try have c80e0 := c80b0;simp only [e3_,e4_] at c80e0)
         (try have c80e1 := c80b1;simp only [e3_,e4_] at c80e1)
         (try have c80e2 := c80b2;simp only [e3_,e4_] at c80e2)
         (try have c80e3 := c80b3;simp only [e3_,e4_] at c80e3)
         (try simp only [*,Bool.not_true,Bool.not_false,Bool.false_or,Bool.true_or,Bool.or_false,Bool.or_true,Bool.true_and,Bool.and_true,Bool.false_and,Bool.and_false] at c80)
         have c80bs := c80
         clear c80k
         clear c80
         obtain rfl := Option.some.inj H
         obtain ⟨hcz84_0,hcz84_1,hcz84_2,hcz84_3,hcz84_4,hcz84_5,hcz84_6,hcz84_7,hcz84_8,hcz84_9,hfz84_0,hfz84_1,hfz84_2,hfz84_3,hfz84_4,hfz84_5,hfz84_6,hfz84_7,hfz84_8,hfz84_9⟩ := zc10 BK1180
         go_wp2
         go_ret
         exact ⟨zt_,zl_ HB⟩
end Go.Proofs.YtlifdodphkimpaaDoor.B
end

section
namespace Go.Proofs.YtlifdodphkimpaaDoor.B
open Go.RowKit Go.Proofs.YtlifdodphkimpaaDoorW.PrintWords Go.Proofs.YtlifdodphkimpaaDoorW.PrintLast Go.Proofs.YtlifdodphkimpaaDoorW.PrintMore
attribute [local go_sem] max2_int min2_int max_two min_two max_three min_three max_four min_four
set_option maxHeartbeats 64000000 in
set_option maxRecDepth 100000 in
theorem laws_FnExactClientOK.calls (k : Nat) (a0 : Int) (a1_0 : Int) (a1_1 : Int) (a1_2 : Bool) (a1_3 : Int) (a1_4 : Int) (a1_5 : Int) (a1_6 : Int) (a1_7 : ByteArray) (A1_8 : Option Addr) (c1_8 : Nat) (l1_8 : List (S117)) (A1_9 : Option Addr) (c1_9 : Nat) (l1_9 : List (S115)) (r : Bool) (w : World) (hr1_8 : Kd.C k117 w A1_8 l1_8.length l1_8) (hc1_8 : l1_8.length ≤ c1_8) (hr1_9 : Kd.C k115 w A1_9 l1_9.length l1_9) (hc1_9 : l1_9.length ≤ c1_9) (hL : Laid w) (h : laws_FnExactClientOK.f k a0 a1_0 a1_1 a1_2 a1_3 a1_4 a1_5 a1_6 a1_7 l1_8 l1_9 = some r) :
  Calls Tryd.prog 8 #[.int .i64 a0,.agg #[.int .i64 a1_0,.int .i64 a1_1,.bool a1_2,.int .i64 a1_3,.int .i64 a1_4,.int .i64 a1_5,.int .i64 a1_6,.string a1_7,.slice A1_8 l1_8.length c1_8,.slice A1_9 l1_9.length c1_9]] w fun e w' => e = .returned (.bool r) ∧ Below w.heap.size w w' := by
 have hu82 := Tryd.underlying82
 have hu88 := Tryd.underlying88
 have HR1_8 := am_ hr1_8
 have HC1_8 := am_ hc1_8
 clear hr1_8 hc1_8
 have HR1_9 := am_ hr1_9
 have HC1_9 := am_ hc1_9
 clear hr1_9 hc1_9
 have HLD := am_ hL
 clear hL
 have HB := am_ (Below.refl w.heap.size w)
 have H : ((laws_szClient.f k a1_0 a1_1 a1_2 a1_3 a1_4 a1_5 a1_6 a1_7 l1_8 l1_9 1048576).bind fun t1258 => (if t1258 < 0 then (some true) else ((laws_toClient.f k a1_0 a1_1 a1_2 a1_3 a1_4 a1_5 a1_6 a1_7 l1_8 l1_9).bind fun bt1259 => ((spec_ClientOK.f k a0 bt1259.1 bt1259.2.1 bt1259.2.2.1 bt1259.2.2.2.1 bt1259.2.2.2.2.1 bt1259.2.2.2.2.2.1 bt1259.2.2.2.2.2.2.1 bt1259.2.2.2.2.2.2.2.1 bt1259.2.2.2.2.2.2.2.2.1 bt1259.2.2.2.2.2.2.2.2.2).bind fun t1273 => ((laws_toClient.f k a1_0 a1_1 a1_2 a1_3 a1_4 a1_5 a1_6 a1_7 l1_8 l1_9).bind fun bt1274 => ((impl_ClientOK.f k a0 bt1274.1 bt1274.2.1 bt1274.2.2.1 bt1274.2.2.2.1 bt1274.2.2.2.2.1 bt1274.2.2.2.2.2.1 bt1274.2.2.2.2.2.2.1 bt1274.2.2.2.2.2.2.2.1 bt1274.2.2.2.2.2.2.2.2.1 bt1274.2.2.2.2.2.2.2.2.2).bind fun t1289 => (if (t1289 != t1273) = true then (some false) else ((laws_toClient.f k a1_0 a1_1 a1_2 a1_3 a1_4 a1_5 a1_6 a1_7 l1_8 l1_9).bind fun bt1290 => ((laws_eqClient.f k bt1274.1 bt1274.2.1 bt1274.2.2.1 bt1274.2.2.2.1 bt1274.2.2.2.2.1 bt1274.2.2.2.2.2.1 bt1274.2.2.2.2.2.2.1 bt1274.2.2.2.2.2.2.2.1 bt1274.2.2.2.2.2.2.2.2.1 bt1274.2.2.2.2.2.2.2.2.2 bt1290.1 bt1290.2.1 bt1290.2.2.1 bt1290.2.2.2.1 bt1290.2.2.2.2.1 bt1290.2.2.2.2.2.1 bt1290.2.2.2.2.2.2.1 bt1290.2.2.2.2.2.2.2.1 bt1290.2.2.2.2.2.2.2.2.1 bt1290.2.2.2.2.2.2.2.2.2).bind fun t1304 => (if t1304 = true then (some true) else (some false))))))))))) = some r := h
 clear h
 replace H := Option.bind_eq_some_iff.mp H
 obtain ⟨t1258,A30,H⟩ := H
 try dsimp only at H
 have A3 := am_ A30
 clear A30
 by_cases c4 : t1258 < 0
 ·rw [if_pos c4] at H
  have c4b0 : decide (t1258 < 0) = true := decide_eq_true c4
  clear c4
  obtain rfl := Option.some.inj H
  go_enter Tryd.func8,Tryd.ntmps8
  go_wp2_with (first | ((with_reducible refine gate_dst (N := 3) rfl ?_);refine zbx (N := 3) (cs := #[.int .i64 a1_0,.int .i64 a1_1,.bool a1_2,.int .i64 a1_3,.int .i64 a1_4,.int .i64 a1_5,.int .i64 a1_6,.string a1_7,.slice A1_8 l1_8.length c1_8,.slice A1_9 l1_9.length c1_9]) (t := 82) ?_;intro gb1257 hg w5 hbox hb;have BK1257 := am_ (hbox);have GW1257 := zw_ HB hg;have GE1257 := zw_ HB hg;replace HB := zs_ HB hb;clear hb hbox hg;obtain ⟨hcz6_0,hcz6_1,hcz6_2,hcz6_3,hcz6_4,hcz6_5,hcz6_6,hcz6_7,hcz6_8,hcz6_9,hfz6_0,hfz6_1,hfz6_2,hfz6_3,hfz6_4,hfz6_5,hfz6_6,hfz6_7,hfz6_8,hfz6_9⟩ := zc10 BK1257) | ((with_reducible refine gate_callee (f := 42) rfl ?_);refine zgl (some 11) Tryd.func42 #[.agg #[.int .i64 a1_0,.int .i64 a1_1,.bool a1_2,.int .i64 a1_3,.int .i64 a1_4,.int .i64 a1_5,.int .i64 a1_6,.string a1_7,.slice A1_8 l1_8.length c1_8,.slice A1_9 l1_9.length c1_9],.int .i64 1048576] ?_;(with_reducible refine (laws_szClient.calls k a1_0 a1_1 a1_2 a1_3 a1_4 a1_5 a1_6 a1_7 _ _ l1_8 _ _ l1_9 1048576 t1258 _ ?side1 ?side2 ?side3 ?side4 A3.out).mono ?_);(case side1 => exact zc_ HR1_8 HB);(case side2 => exact HC1_8.out);(case side3 => exact zc_ HR1_9 HB);(case side4 => exact HC1_9.out);rintro e w7 ⟨rfl,hb⟩;refine ⟨_,rfl,?_⟩;replace BK1257 := zb BK1257 hb;replace HB := zs_ HB hb;(try clear hb);(try clear hb2);(try clear hk);(try clear hi)))
  go_ret
  exact ⟨zt_,zl_ HB⟩
 ·rw [if_neg c4] at H
  have c4b0 : decide (t1258 < 0) = false := decide_eq_false c4
  clear c4
  replace H := Option.bind_eq_some_iff.mp H
  obtain ⟨⟨t1259,t1260,t1261,t1262,t1263,t1264,t1265,t1266,t1267,t1270⟩,A80,H⟩ := H
  try dsimp only at H
  have A8 := am_ A80
  clear A80
  replace H := Option.bind_eq_some_iff.mp H
  obtain ⟨t1273,A90,H⟩ := H
  try dsimp only at H
  have A9 := am_ A90
  clear A90
  replace H := Option.bind_eq_some_iff.mp H
  obtain ⟨⟨t1274,t1275,t1276,t1277,t1278,t1279,t1280,t1281,t1282,t1285⟩,A100,H⟩ := H
  try dsimp only at H
  have A10 := am_ A100
  clear A100
  replace H := Option.bind_eq_some_iff.mp H
  obtain ⟨t1289,A110,H⟩ := H
  try dsimp only at H
  have A11 := am_ A110
  clear A110
  by_cases c12 : (t1289 != t1273) = true
  ·rw [if_pos c12] at H
   have c12b0 : (t1289 != t1273) = true := c12
   (try (have c12b1 : decide (t1289 = t1273) = false := by simpa using c12))
   (try (have c12b2 : (t1289 == t1273) = false := by simpa using c12))
   (try (have c12b3 : ¬ (t1289 = t1273) := by simpa using c12))
   clear c12
   obtain rfl := Option.some.inj H
   go_enter Tryd.func8,Tryd.ntmps8
   go_wp2_with (first | ((with_reducible refine gate_dst (N := 3) rfl ?_);refine zbx (N := 3) (cs := #[.int .i64 a1_0,.int .i64 a1_1,.bool a1_2,.int .i64 a1_3,.int .i64 a1_4,.int .i64 a1_5,.int .i64 a1_6,.string a1_7,.slice A1_8 l1_8.length c1_8,.slice A1_9 l1_9.length c1_9]) (t := 82) ?_;intro gb1257 hg w13 hbox hb;have BK1257 := am_ (hbox);have GW1257 := zw_ HB hg;have GE1257 := zw_ HB hg;replace HB := zs_ HB hb;clear hb hbox hg;obtain ⟨hcz14_0,hcz14_1,hcz14_2,hcz14_3,hcz14_4,hcz14_5,hcz14_6,hcz14_7,hcz14_8,hcz14_9,hfz14_0,hfz14_1,hfz14_2,hfz14_3,hfz14_4,hfz14_5,hfz14_6,hfz14_7,hfz14_8,hfz14_9⟩ := zc10 BK1257) | ((with_reducible refine gate_callee (f := 42) rfl ?_);refine zgl (some 11) Tryd.func42 #[.agg #[.int .i64 a1_0,.int .i64 a1_1,.bool a1_2,.int .i64 a1_3,.int .i64 a1_4,.int .i64 a1_5,.int .i64 a1_6,.string a1_7,.slice A1_8 l1_8.length c1_8,.slice A1_9 l1_9.length c1_9],.int .i64 1048576] ?_;(with_reducible refine (laws_szClient.calls k a1_0 a1_1 a1_2 a1_3 a1_4 a1_5 a1_6 a1_7 _ _ l1_8 _ _ l1_9 1048576 t1258 _ ?side1 ?side2 ?side3 ?side4 A3.out).mono ?_);(case side1 => exact zc_ HR1_8 HB);(case side2 => exact HC1_8.out);(case side3 => exact zc_ HR1_9 HB);(case side4 => exact HC1_9.out);rintro e w15 ⟨rfl,hb⟩;refine ⟨_,rfl,?_⟩;replace BK1257 := zb BK1257 hb;replace HB := zs_ HB hb;(try clear hb);(try clear hb2);(try clear hk);(try clear hi);obtain ⟨hcz16_0,hcz16_1,hcz16_2,hcz16_3,hcz16_4,hcz16_5,hcz16_6,hcz16_7,hcz16_8,hcz16_9,hfz16_0,hfz16_1,hfz16_2,hfz16_3,hfz16_4,hfz16_5,hfz16_6,hfz16_7,hfz16_8,hfz16_9⟩ := zc10 BK1257) | ((with_reducible refine gate_callee (f := 44) rfl ?_);refine zgl (some 16) Tryd.func44 #[.agg #[.int .i64 a1_0,.int .i64 a1_1,.bool a1_2,.int .i64 a1_3,.int .i64 a1_4,.int .i64 a1_5,.int .i64 a1_6,.string a1_7,.slice A1_8 l1_8.length c1_8,.slice A1_9 l1_9.length c1_9]] ?_;(with_reducible refine (laws_toClient.calls k a1_0 a1_1 a1_2 a1_3 a1_4 a1_5 a1_6 a1_7 _ _ l1_8 _ _ l1_9 t1259 t1260 t1261 t1262 t1263 t1264 t1265 t1266 t1267 t1270 _ ?side1 ?side2 ?side3 ?side4 A8.out).mono ?_);(case side1 => exact zc_ HR1_8 HB);(case side2 => exact HC1_8.out);(case side3 => exact zc_ HR1_9 HB);(case side4 => exact HC1_9.out);rintro e w17 ⟨v1268,v1271,rfl,ho0,ho1,hb⟩;refine ⟨_,rfl,?_⟩;have HO1269 := am_ (Kd.R_lower ho0 (below_size (zl_ HB)));have HO1272 := am_ (Kd.R_lower ho1 (below_size (zl_ HB)));replace BK1257 := zb BK1257 hb;replace HB := zs_ HB hb;(try clear hb);(try clear hb2);(try clear hk);(try clear hi);(try clear ho0);(try clear ho1);obtain ⟨Ao18,co18,eo18⟩ := Kd.R_slice HO1269.out;subst eo18;obtain ⟨Ao19,co19,eo19⟩ := Kd.R_slice HO1272.out;subst eo19) | ((with_reducible refine gate_callee (f := 43) rfl ?_);refine zgl (some 17) Tryd.func43 #[.int .i64 a0,.agg #[.int .i64 t1259,.int .i64 t1260,.bool t1261,.int .i64 t1262,.int .i64 t1263,.int .i64 t1264,.int .i64 t1265,.string t1266,.slice Ao18 t1267.length co18,.slice Ao19 t1270.length co19]] ?_;(with_reducible refine (spec_ClientOK.calls k a0 t1259 t1260 t1261 t1262 t1263 t1264 t1265 t1266 _ _ t1267 _ _ t1270 t1273 _ ?side1 ?side2 ?side3 ?side4 A9.out).mono ?_);(case side1 => repeat (first | exact (Kd.R_reads' HO1269.out).2.2 | (with_reducible refine Kd.C_alloc ?_ _) | (with_reducible refine Kd.C_drewN ?_ _) | (with_reducible refine Kd.C_drew ?_)));(case side2 => exact (Kd.R_reads' HO1269.out).2.1);(case side3 => repeat (first | exact (Kd.R_reads' HO1272.out).2.2 | (with_reducible refine Kd.C_alloc ?_ _) | (with_reducible refine Kd.C_drewN ?_ _) | (with_reducible refine Kd.C_drew ?_)));(case side4 => exact (Kd.R_reads' HO1272.out).2.1);rintro e w20 ⟨rfl,hb⟩;refine ⟨_,rfl,?_⟩;replace HO1269 := zrb HO1269 hb;replace HO1272 := zrb HO1272 hb;replace BK1257 := zb BK1257 hb;replace HB := zs_ HB hb;(try clear hb);(try clear hb2);(try clear hk);(try clear hi);obtain ⟨hcz21_0,hcz21_1,hcz21_2,hcz21_3,hcz21_4,hcz21_5,hcz21_6,hcz21_7,hcz21_8,hcz21_9,hfz21_0,hfz21_1,hfz21_2,hfz21_3,hfz21_4,hfz21_5,hfz21_6,hfz21_7,hfz21_8,hfz21_9⟩ := zc10 BK1257) | ((with_reducible refine gate_callee (f := 44) rfl ?_);refine zgl (some 19) Tryd.func44 #[.agg #[.int .i64 a1_0,.int .i64 a1_1,.bool a1_2,.int .i64 a1_3,.int .i64 a1_4,.int .i64 a1_5,.int .i64 a1_6,.string a1_7,.slice A1_8 l1_8.length c1_8,.slice A1_9 l1_9.length c1_9]] ?_;(with_reducible refine (laws_toClient.calls k a1_0 a1_1 a1_2 a1_3 a1_4 a1_5 a1_6 a1_7 _ _ l1_8 _ _ l1_9 t1274 t1275 t1276 t1277 t1278 t1279 t1280 t1281 t1282 t1285 _ ?side1 ?side2 ?side3 ?side4 A10.out).mono ?_);(case side1 => exact zc_ HR1_8 HB);(case side2 => exact HC1_8.out);(case side3 => exact zc_ HR1_9 HB);(case side4 => exact HC1_9.out);rintro e w22 ⟨v1283,v1286,rfl,ho0,ho1,hb⟩;refine ⟨_,rfl,?_⟩;have HO1284 := am_ (Kd.R_lower (Kd.R_new' ho0 (Kd.R_lt (zr HO1269))) (below_size (zl_ HB)));replace HO1269 := am_ (Kd.R_elder' (zr HO1269) (Kd.R_base ho0) hb);have HO1287 := am_ (Kd.R_lower (Kd.R_new' ho1 (Kd.R_lt (zr HO1272))) (below_size (zl_ HB)));replace HO1272 := am_ (Kd.R_elder' (zr HO1272) (Kd.R_base ho1) hb);replace BK1257 := zb BK1257 hb;replace HB := zs_ HB hb;(try clear hb);(try clear hb2);(try clear hk);(try clear hi);(try clear ho0);(try clear ho1)) | ((with_reducible refine gate_dst (N := 7) rfl ?_);refine zbx (N := 7) (cs := #[.int .i64 0,.int .i64 0,.bool false,.int .i64 0,.int .i64 0,.int .i64 0,.int .i64 0,.string ⟨#[]⟩,.slice none 0 0,.slice none 0 0]) (t := 88) ?_;intro gb1288 hg w23 hbox hb;replace HO1269 := zrb HO1269 hb;replace HO1272 := zrb HO1272 hb;replace HO1284 := zrb HO1284 hb;replace HO1287 := zrb HO1287 hb;have BK1288 := am_ (hbox);have GW1288 := zw_ HB hg;have GE1288 := zw_ HB hg;replace HB := zs_ HB hb;have NB1257_1288 := zl hg BK1257;have NB1288_1257 := zg hg BK1257;replace BK1257 := zb BK1257 hb;clear hb hbox hg;have hnb24 := NB1288_1257.out;have hnc24 := NB1257_1288.out;obtain ⟨hcz25_0,hcz25_1,hcz25_2,hcz25_3,hcz25_4,hcz25_5,hcz25_6,hcz25_7,hcz25_8,hcz25_9,hfz25_0,hfz25_1,hfz25_2,hfz25_3,hfz25_4,hfz25_5,hfz25_6,hfz25_7,hfz25_8,hfz25_9⟩ := zc10 BK1288;obtain ⟨Ao26,co26,eo26⟩ := Kd.R_slice HO1284.out;subst eo26;obtain ⟨Ao27,co27,eo27⟩ := Kd.R_slice HO1287.out;subst eo27) | ((with_reducible refine gate_callee (f := 45) rfl ?_);refine zgl (some 22) Tryd.func45 #[.int .i64 a0,.agg #[.int .i64 t1274,.int .i64 t1275,.bool t1276,.int .i64 t1277,.int .i64 t1278,.int .i64 t1279,.int .i64 t1280,.string t1281,.slice Ao26 t1282.length co26,.slice Ao27 t1285.length co27]] ?_;(with_reducible refine (impl_ClientOK.calls k a0 t1274 t1275 t1276 t1277 t1278 t1279 t1280 t1281 _ _ t1282 _ _ t1285 t1289 _ ?side1 ?side2 ?side3 ?side4 ?side5 A11.out).mono ?_);(case side1 => refine (Kd.R_reads' (e := 73) (base := w.heap.size) (ok := fun k_ => (True ∧ some k_ ≠ (.slice Ao18 t1267.length co18 : Value).ownBlock)) (n := t1282.length) (c := co26) ?_).2.2;exact (by (with_reducible repeat (first | apply r1_ | apply r2_ | apply r3_));exact (Kd.R_mono (zrf (Kd.R_types HO1284.out BK1288.out (by decide))) (fun _ h_ => h_.1))));(case side2 => exact (Kd.R_reads' HO1284.out).2.1);(case side3 => refine (Kd.R_reads' (e := 63) (base := w.heap.size) (ok := fun k_ => (True ∧ some k_ ≠ (.slice Ao19 t1270.length co19 : Value).ownBlock)) (n := t1285.length) (c := co27) ?_).2.2;exact (by (with_reducible repeat (first | apply r1_ | apply r2_ | apply r3_));exact (Kd.R_mono (zrf (Kd.R_types HO1287.out BK1288.out (by decide))) (fun _ h_ => h_.1))));(case side4 => exact (Kd.R_reads' HO1287.out).2.1);(case side5 => exact HLD.out.on (zl_ HB));rintro e w28 ⟨rfl,hb⟩;refine ⟨_,rfl,?_⟩;replace HO1269 := am_ (Kd.R_below (by (with_reducible repeat (first | apply r1_ | apply r2_ | apply r3_));exact (Kd.R_mono (zrf (Kd.R_types HO1269.out BK1288.out (by decide))) (fun _ h_ => h_.1))) hb);replace HO1272 := am_ (Kd.R_below (by (with_reducible repeat (first | apply r1_ | apply r2_ | apply r3_));exact (Kd.R_mono (zrf (Kd.R_types HO1272.out BK1288.out (by decide))) (fun _ h_ => h_.1))) hb);replace HO1284 := am_ (Kd.R_below (by (with_reducible repeat (first | apply r1_ | apply r2_ | apply r3_));exact (Kd.R_mono (zrf (Kd.R_types HO1284.out BK1288.out (by decide))) (fun _ h_ => h_.1))) hb);replace HO1287 := am_ (Kd.R_below (by (with_reducible repeat (first | apply r1_ | apply r2_ | apply r3_));exact (Kd.R_mono (zrf (Kd.R_types HO1287.out BK1288.out (by decide))) (fun _ h_ => h_.1))) hb);replace BK1257 := am_ (blk_below (g := gb1257) (o := .cells #[.int .i64 a1_0,.int .i64 a1_1,.bool a1_2,.int .i64 a1_3,.int .i64 a1_4,.int .i64 a1_5,.int .i64 a1_6,.string a1_7,.slice A1_8 l1_8.length c1_8,.slice A1_9 l1_9.length c1_9] 82 (0,0)) (zq BK1257) hb);replace BK1288 := am_ (blk_below (g := gb1288) (o := .cells #[.int .i64 t1274,.int .i64 t1275,.bool t1276,.int .i64 t1277,.int .i64 t1278,.int .i64 t1279,.int .i64 t1280,.string t1281,.slice Ao26 t1282.length co26,.slice Ao27 t1285.length co27] 88 (0,0)) (zq BK1288) hb);replace HB := zs_ HB hb;(try clear hb);(try clear hb2);(try clear hk);(try clear hi)))
   go_ret
   exact ⟨zt_,zl_ HB⟩
  ·rw [if_neg c12] at H
   have c12b0 : (t1289 != t1273) = false := by simpa using c12
   (try (have c12b1 : decide (t1289 = t1273) = true := by simpa using c12))
   (try (have c12b2 : (t1289 == t1273) = true := by simpa using c12))
   clear c12
   replace H := Option.bind_eq_some_iff.mp H
   obtain ⟨⟨t1290,t1291,t1292,t1293,t1294,t1295,t1296,t1297,t1298,t1301⟩,A290,H⟩ := H
   try dsimp only at H
   have A29 := am_ A290
   clear A290
   replace H := Option.bind_eq_some_iff.mp H
   obtain ⟨t1304,A300,H⟩ := H
   try dsimp only at H
   have A30 := am_ A300
   clear A300
   by_cases c31 : t1304 = true
   ·subst c31
    have H1 : (some true) = some r := by rw [if_pos rfl] at H;exact H
    clear H
    have H := H1
    clear H1
    obtain rfl := Option.some.inj H
    go_enter Tryd.func8,Tryd.ntmps8
    try go_wp2_with (first | ((with_reducible refine gate_dst (N := 3) rfl ?_);refine zbx (N := 3) (cs := #[.int .i64 a1_0,.int .i64 a1_1,.bool a1_2,.int .i64 a1_3,.int .i64 a1_4,.int .i64 a1_5,.int .i64 a1_6,.string a1_7,.slice A1_8 l1_8.length c1_8,.slice A1_9 l1_9.length c1_9]) (t := 82) ?_;intro gb1257 hg w32 hbox hb;have BK1257 := am_ (hbox);have GW1257 := zw_ HB hg;have GE1257 := zw_ HB hg;replace HB := zs_ HB hb;clear hb hbox hg;obtain ⟨hcz33_0,hcz33_1,hcz33_2,hcz33_3,hcz33_4,hcz33_5,hcz33_6,hcz33_7,hcz33_8,hcz33_9,hfz33_0,hfz33_1,hfz33_2,hfz33_3,hfz33_4,hfz33_5,hfz33_6,hfz33_7,hfz33_8,hfz33_9⟩ := zc10 BK1257) | ((with_reducible refine gate_callee (f := 42) rfl ?_);refine zgl (some 11) Tryd.func42 #[.agg #[.int .i64 a1_0,.int .i64 a1_1,.bool a1_2,.int .i64 a1_3,.int .i64 a1_4,.int .i64 a1_5,.int .i64 a1_6,.string a1_7,.slice A1_8 l1_8.length c1_8,.slice A1_9 l1_9.length c1_9],.int .i64 1048576] ?_;(with_reducible refine (laws_szClient.calls k a1_0 a1_1 a1_2 a1_3 a1_4 a1_5 a1_6 a1_7 _ _ l1_8 _ _ l1_9 1048576 t1258 _ ?side1 ?side2 ?side3 ?side4 A3.out).mono ?_);(case side1 => exact zc_ HR1_8 HB);(case side2 => exact HC1_8.out);(case side3 => exact zc_ HR1_9 HB);(case side4 => exact HC1_9.out);rintro e w34 ⟨rfl,hb⟩;refine ⟨_,rfl,?_⟩;replace BK1257 := zb BK1257 hb;replace HB := zs_ HB hb;(try clear hb);(try clear hb2);(try clear hk);(try clear hi);obtain ⟨hcz35_0,hcz35_1,hcz35_2,hcz35_3,hcz35_4,hcz35_5,hcz35_6,hcz35_7,hcz35_8,hcz35_9,hfz35_0,hfz35_1,hfz35_2,hfz35_3,hfz35_4,hfz35_5,hfz35_6,hfz35_7,hfz35_8,hfz35_9⟩ := zc10 BK1257) | ((with_reducible refine gate_callee (f := 44) rfl ?_);refine zgl (some 16) Tryd.func44 #[.agg #[.int .i64 a1_0,.int .i64 a1_1,.bool a1_2,.int .i64 a1_3,.int .i64 a1_4,.int .i64 a1_5,.int .i64 a1_6,.string a1_7,.slice A1_8 l1_8.length c1_8,.slice A1_9 l1_9.length c1_9]] ?_;(with_reducible refine (laws_toClient.calls k a1_0 a1_1 a1_2 a1_3 a1_4 a1_5 a1_6 a1_7 _ _ l1_8 _ _ l1_9 t1259 t1260 t1261 t1262 t1263 t1264 t1265 t1266 t1267 t1270 _ ?side1 ?side2 ?side3 ?side4 A8.out).mono ?_);(case side1 => exact zc_ HR1_8 HB);(case side2 => exact HC1_8.out);(case side3 => exact zc_ HR1_9 HB);(case side4 => exact HC1_9.out);rintro e w36 ⟨v1268,v1271,rfl,ho0,ho1,hb⟩;refine ⟨_,rfl,?_⟩;have HO1269 := am_ (Kd.R_lower ho0 (below_size (zl_ HB)));have HO1272 := am_ (Kd.R_lower ho1 (below_size (zl_ HB)));replace BK1257 := zb BK1257 hb;replace HB := zs_ HB hb;(try clear hb);(try clear hb2);(try clear hk);(try clear hi);(try clear ho0);(try clear ho1);obtain ⟨Ao37,co37,eo37⟩ := Kd.R_slice HO1269.out;subst eo37;obtain ⟨Ao38,co38,eo38⟩ := Kd.R_slice HO1272.out;subst eo38) | ((with_reducible refine gate_callee (f := 43) rfl ?_);refine zgl (some 17) Tryd.func43 #[.int .i64 a0,.agg #[.int .i64 t1259,.int .i64 t1260,.bool t1261,.int .i64 t1262,.int .i64 t1263,.int .i64 t1264,.int .i64 t1265,.string t1266,.slice Ao37 t1267.length co37,.slice Ao38 t1270.length co38]] ?_;(with_reducible refine (spec_ClientOK.calls k a0 t1259 t1260 t1261 t1262 t1263 t1264 t1265 t1266 _ _ t1267 _ _ t1270 t1273 _ ?side1 ?side2 ?side3 ?side4 A9.out).mono ?_);(case side1 => repeat (first | exact (Kd.R_reads' HO1269.out).2.2 | (with_reducible refine Kd.C_alloc ?_ _) | (with_reducible refine Kd.C_drewN ?_ _) | (with_reducible refine Kd.C_drew ?_)));(case side2 => exact (Kd.R_reads' HO1269.out).2.1);(case side3 => repeat (first | exact (Kd.R_reads' HO1272.out).2.2 | (with_reducible refine Kd.C_alloc ?_ _) | (with_reducible refine Kd.C_drewN ?_ _) | (with_reducible refine Kd.C_drew ?_)));(case side4 => exact (Kd.R_reads' HO1272.out).2.1);rintro e w39 ⟨rfl,hb⟩;refine ⟨_,rfl,?_⟩;replace HO1269 := zrb HO1269 hb;replace HO1272 := zrb HO1272 hb;replace BK1257 := zb BK1257 hb;replace HB := zs_ HB hb;(try clear hb);(try clear hb2);(try clear hk);(try clear hi);obtain ⟨hcz40_0,hcz40_1,hcz40_2,hcz40_3,hcz40_4,hcz40_5,hcz40_6,hcz40_7,hcz40_8,hcz40_9,hfz40_0,hfz40_1,hfz40_2,hfz40_3,hfz40_4,hfz40_5,hfz40_6,hfz40_7,hfz40_8,hfz40_9⟩ := zc10 BK1257) | ((with_reducible refine gate_callee (f := 44) rfl ?_);refine zgl (some 19) Tryd.func44 #[.agg #[.int .i64 a1_0,.int .i64 a1_1,.bool a1_2,.int .i64 a1_3,.int .i64 a1_4,.int .i64 a1_5,.int .i64 a1_6,.string a1_7,.slice A1_8 l1_8.length c1_8,.slice A1_9 l1_9.length c1_9]] ?_;(with_reducible refine (laws_toClient.calls k a1_0 a1_1 a1_2 a1_3 a1_4 a1_5 a1_6 a1_7 _ _ l1_8 _ _ l1_9 t1274 t1275 t1276 t1277 t1278 t1279 t1280 t1281 t1282 t1285 _ ?side1 ?side2 ?side3 ?side4 A10.out).mono ?_);(case side1 => exact zc_ HR1_8 HB);(case side2 => exact HC1_8.out);(case side3 => exact zc_ HR1_9 HB);(case side4 => exact HC1_9.out);rintro e w41 ⟨v1283,v1286,rfl,ho0,ho1,hb⟩;refine ⟨_,rfl,?_⟩;have HO1284 := am_ (Kd.R_lower (Kd.R_new' ho0 (Kd.R_lt (zr HO1269))) (below_size (zl_ HB)));replace HO1269 := am_ (Kd.R_elder' (zr HO1269) (Kd.R_base ho0) hb);have HO1287 := am_ (Kd.R_lower (Kd.R_new' ho1 (Kd.R_lt (zr HO1272))) (below_size (zl_ HB)));replace HO1272 := am_ (Kd.R_elder' (zr HO1272) (Kd.R_base ho1) hb);replace BK1257 := zb BK1257 hb;replace HB := zs_ HB hb;(try clear hb);(try clear hb2);(try clear hk);(try clear hi);(try clear ho0);(try clear ho1)) | ((with_reducible refine gate_dst (N := 7) rfl ?_);refine zbx (N := 7) (cs := #[.int .i64 0,.int .i64 0,.bool false,.int .i64 0,.int .i64 0,.int .i64 0,.int .i64 0,.string ⟨#[]⟩,.slice none 0 0,.slice none 0 0]) (t := 88) ?_;intro gb1288 hg w42 hbox hb;replace HO1269 := zrb HO1269 hb;replace HO1272 := zrb HO1272 hb;replace HO1284 := zrb HO1284 hb;replace HO1287 := zrb HO1287 hb;have BK1288 := am_ (hbox);have GW1288 := zw_ HB hg;have GE1288 := zw_ HB hg;replace HB := zs_ HB hb;have NB1257_1288 := zl hg BK1257;have NB1288_1257 := zg hg BK1257;replace BK1257 := zb BK1257 hb;clear hb hbox hg;have hnb43 := NB1288_1257.out;have hnc43 := NB1257_1288.out;obtain ⟨hcz44_0,hcz44_1,hcz44_2,hcz44_3,hcz44_4,hcz44_5,hcz44_6,hcz44_7,hcz44_8,hcz44_9,hfz44_0,hfz44_1,hfz44_2,hfz44_3,hfz44_4,hfz44_5,hfz44_6,hfz44_7,hfz44_8,hfz44_9⟩ := zc10 BK1288;obtain ⟨Ao45,co45,eo45⟩ := Kd.R_slice HO1284.out;subst eo45;obtain ⟨Ao46,co46,eo46⟩ := Kd.R_slice HO1287.out;subst eo46) | ((with_reducible refine gate_callee (f := 45) rfl ?_);refine zgl (some 22) Tryd.func45 #[.int .i64 a0,.agg #[.int .i64 t1274,.int .i64 t1275,.bool t1276,.int .i64 t1277,.int .i64 t1278,.int .i64 t1279,.int .i64 t1280,.string t1281,.slice Ao45 t1282.length co45,.slice Ao46 t1285.length co46]] ?_;(with_reducible refine (impl_ClientOK.calls k a0 t1274 t1275 t1276 t1277 t1278 t1279 t1280 t1281 _ _ t1282 _ _ t1285 t1289 _ ?side1 ?side2 ?side3 ?side4 ?side5 A11.out).mono ?_);(case side1 => refine (Kd.R_reads' (e := 73) (base := w.heap.size) (ok := fun k_ => (True ∧ some k_ ≠ (.slice Ao37 t1267.length co37 : Value).ownBlock)) (n := t1282.length) (c := co45) ?_).2.2;exact (by (with_reducible repeat (first | apply r1_ | apply r2_ | apply r3_));exact (Kd.R_mono (zrf (Kd.R_types HO1284.out BK1288.out (by decide))) (fun _ h_ => h_.1))));(case side2 => exact (Kd.R_reads' HO1284.out).2.1);(case side3 => refine (Kd.R_reads' (e := 63) (base := w.heap.size) (ok := fun k_ => (True ∧ some k_ ≠ (.slice Ao38 t1270.length co38 : Value).ownBlock)) (n := t1285.length) (c := co46) ?_).2.2;exact (by (with_reducible repeat (first | apply r1_ | apply r2_ | apply r3_));exact (Kd.R_mono (zrf (Kd.R_types HO1287.out BK1288.out (by decide))) (fun _ h_ => h_.1))));(case side4 => exact (Kd.R_reads' HO1287.out).2.1);(case side5 => exact HLD.out.on (zl_ HB));rintro e w47 ⟨rfl,hb⟩;refine ⟨_,rfl,?_⟩;replace HO1269 := am_ (Kd.R_below (by (with_reducible repeat (first | apply r1_ | apply r2_ | apply r3_));exact (Kd.R_mono (zrf (Kd.R_types HO1269.out BK1288.out (by decide))) (fun _ h_ => h_.1))) hb);replace HO1272 := am_ (Kd.R_below (by (with_reducible repeat (first | apply r1_ | apply r2_ | apply r3_));exact (Kd.R_mono (zrf (Kd.R_types HO1272.out BK1288.out (by decide))) (fun _ h_ => h_.1))) hb);replace HO1284 := am_ (Kd.R_below (by (with_reducible repeat (first | apply r1_ | apply r2_ | apply r3_));exact (Kd.R_mono (zrf (Kd.R_types HO1284.out BK1288.out (by decide))) (fun _ h_ => h_.1))) hb);replace HO1287 := am_ (Kd.R_below (by (with_reducible repeat (first | apply r1_ | apply r2_ | apply r3_));exact (Kd.R_mono (zrf (Kd.R_types HO1287.out BK1288.out (by decide))) (fun _ h_ => h_.1))) hb);replace BK1257 := am_ (blk_below (g := gb1257) (o := .cells #[.int .i64 a1_0,.int .i64 a1_1,.bool a1_2,.int .i64 a1_3,.int .i64 a1_4,.int .i64 a1_5,.int .i64 a1_6,.string a1_7,.slice A1_8 l1_8.length c1_8,.slice A1_9 l1_9.length c1_9] 82 (0,0)) (zq BK1257) hb);replace BK1288 := am_ (blk_below (g := gb1288) (o := .cells #[.int .i64 t1274,.int .i64 t1275,.bool t1276,.int .i64 t1277,.int .i64 t1278,.int .i64 t1279,.int .i64 t1280,.string t1281,.slice Ao45 t1282.length co45,.slice Ao46 t1285.length co46] 88 (0,0)) (zq BK1288) hb);replace HB := zs_ HB hb;(try clear hb);(try clear hb2);(try clear hk);(try clear hi)))
    replace HO1269 := am_ (Kd.R_drew HO1269.out)
    replace HO1272 := am_ (Kd.R_drew HO1272.out)
    replace HO1284 := am_ (Kd.R_drew HO1284.out)
    replace HO1287 := am_ (Kd.R_drew HO1287.out)
    replace BK1257 := am_ (blk_drew BK1257.out)
    replace BK1288 := am_ (blk_drew BK1288.out)
    replace HB := am_ (below_drew1 HB.out)
    refine start_ (n := 5) (S := fun w' => w'.cell? ⟨gb1288,0,none⟩ = some (.int .i64 t1274) ∧ w'.cell? ⟨gb1288,1,none⟩ = some (.int .i64 t1275) ∧ w'.cell? ⟨gb1288,2,none⟩ = some (.bool t1276) ∧ w'.cell? ⟨gb1288,3,none⟩ = some (.int .i64 t1277) ∧ w'.cell? ⟨gb1288,4,none⟩ = some (.int .i64 t1278) ∧ w'.cell? ⟨gb1288,5,none⟩ = some (.int .i64 t1279) ∧ w'.cell? ⟨gb1288,6,none⟩ = some (.int .i64 t1280) ∧ w'.cell? ⟨gb1288,7,none⟩ = some (.string t1281) ∧ w'.cell? ⟨gb1288,8,none⟩ = some (.slice Ao45 t1282.length co45) ∧ w'.cell? ⟨gb1288,9,none⟩ = some (.slice Ao46 t1285.length co46) ∧ w'.cell? ⟨gb1257,0,none⟩ = some (.int .i64 a1_0) ∧ w'.cell? ⟨gb1257,1,none⟩ = some (.int .i64 a1_1) ∧ w'.cell? ⟨gb1257,2,none⟩ = some (.bool a1_2) ∧ w'.cell? ⟨gb1257,3,none⟩ = some (.int .i64 a1_3) ∧ w'.cell? ⟨gb1257,4,none⟩ = some (.int .i64 a1_4) ∧ w'.cell? ⟨gb1257,5,none⟩ = some (.int .i64 a1_5) ∧ w'.cell? ⟨gb1257,6,none⟩ = some (.int .i64 a1_6) ∧ w'.cell? ⟨gb1257,7,none⟩ = some (.string a1_7) ∧ w'.cell? ⟨gb1257,8,none⟩ = some (.slice A1_8 l1_8.length c1_8) ∧ w'.cell? ⟨gb1257,9,none⟩ = some (.slice A1_9 l1_9.length c1_9)) (ds := []) #[false,false,false,false,false] (by kernel_rfl) rfl rfl ⟨(blk_cell BK1288.out 0).trans rfl,(blk_cell BK1288.out 1).trans rfl,(blk_cell BK1288.out 2).trans rfl,(blk_cell BK1288.out 3).trans rfl,(blk_cell BK1288.out 4).trans rfl,(blk_cell BK1288.out 5).trans rfl,(blk_cell BK1288.out 6).trans rfl,(blk_cell BK1288.out 7).trans rfl,(blk_cell BK1288.out 8).trans rfl,(blk_cell BK1288.out 9).trans rfl,(blk_cell BK1257.out 0).trans rfl,(blk_cell BK1257.out 1).trans rfl,(blk_cell BK1257.out 2).trans rfl,(blk_cell BK1257.out 3).trans rfl,(blk_cell BK1257.out 4).trans rfl,(blk_cell BK1257.out 5).trans rfl,(blk_cell BK1257.out 6).trans rfl,(blk_cell BK1257.out 7).trans rfl,(blk_cell BK1257.out 8).trans rfl,(blk_cell BK1257.out 9).trans rfl⟩ (fun hHeld => ?_)
    generalize w47.drew = w48 at HO1269 HO1272 HO1284 HO1287 BK1257 BK1288 HB hHeld ⊢
    refine take_ (i := 0) (N := some 26) (v := ?_) (a' := ?_) #[true,false,false,false,false] rfl rfl (by kernel_rfl) (fun _ _ _ h => h) (Or.inl ⟨by rfl,?_⟩) hHeld ?_ ?_
    rotate_left
    ·rintro w' ⟨s0,s1,s2,s3,s4,s5,s6,s7,s8,s9,s10,s11,s12,s13,s14,s15,s16,s17,s18,s19⟩
     go_simp
     with_reducible rfl
    rotate_left
    ·simp only [Act.put,p1_,p2_,p3_,i64_w,i32_w]
     rfl
    refine take_ (i := 1) (N := some 27) (v := ?_) (a' := ?_) #[true,true,false,false,false] rfl rfl (by kernel_rfl) (fun _ _ _ h => h) (Or.inl ⟨by rfl,?_⟩) hHeld ?_ ?_
    rotate_left
    ·rintro w' ⟨s0,s1,s2,s3,s4,s5,s6,s7,s8,s9,s10,s11,s12,s13,s14,s15,s16,s17,s18,s19⟩
     go_simp
     with_reducible rfl
    rotate_left
    ·simp only [Act.put,p1_,p2_,p3_,i64_w,i32_w]
     rfl
    refine one_ (i := 2) (N := some 28) #[true,true,true,false,false] rfl rfl (by kernel_rfl) (by decide) (fun K hK => ?_)
    refine zgo Tryd.func44 #[.agg #[.int .i64 a1_0,.int .i64 a1_1,.bool a1_2,.int .i64 a1_3,.int .i64 a1_4,.int .i64 a1_5,.int .i64 a1_6,.string a1_7,.slice A1_8 l1_8.length c1_8,.slice A1_9 l1_9.length c1_9]] ?_
    with_reducible refine (laws_toClient.calls k a1_0 a1_1 a1_2 a1_3 a1_4 a1_5 a1_6 a1_7 _ _ l1_8 _ _ l1_9 t1290 t1291 t1292 t1293 t1294 t1295 t1296 t1297 t1298 t1301 _ ?side1 ?side2 ?side3 ?side4 A29.out).mono ?_
    (case side1 => exact zc_ HR1_8 HB)
    (case side2 => exact HC1_8.out)
    (case side3 => exact zc_ HR1_9 HB)
    (case side4 => exact HC1_9.out)
    rintro e w49 ⟨v1299,v1302,rfl,ho0,ho1,hb⟩
    refine ⟨_,rfl,?_⟩
    have HO1300 := am_ (Kd.R_lower (Kd.R_new' (Kd.R_new' ho0 (Kd.R_lt (zr HO1269))) (Kd.R_lt (zr HO1284))) (below_size (zl_ HB)))
    replace HO1269 := am_ (Kd.R_elder' (zr HO1269) (Kd.R_base ho0) hb)
    replace HO1284 := am_ (Kd.R_elder' (zr HO1284) (Kd.R_base ho0) hb)
    have HO1303 := am_ (Kd.R_lower (Kd.R_new' (Kd.R_new' ho1 (Kd.R_lt (zr HO1272))) (Kd.R_lt (zr HO1287))) (below_size (zl_ HB)))
    replace HO1272 := am_ (Kd.R_elder' (zr HO1272) (Kd.R_base ho1) hb)
    replace HO1287 := am_ (Kd.R_elder' (zr HO1287) (Kd.R_base ho1) hb)
    replace BK1257 := zb BK1257 hb
    replace BK1288 := zb BK1288 hb
    replace HB := zs_ HB hb
    (try clear hb)
    (try clear hb2)
    (try clear hk)
    (try clear hi)
    (try clear ho0)
    (try clear ho1)
    obtain ⟨Ao50,co50,eo50⟩ := Kd.R_slice HO1300.out
    (first | subst eo50 | (injection eo50 with f1_ f2_ f3_;have f4_ := f1_.symm;have f5_ := f3_.symm;clear f1_ f2_ f3_;subst f4_;subst f5_))
    obtain ⟨Ao51,co51,eo51⟩ := Kd.R_slice HO1303.out
    (first | subst eo51 | (injection eo51 with f1_ f2_ f3_;have f4_ := f1_.symm;have f5_ := f3_.symm;clear f1_ f2_ f3_;subst f4_;subst f5_))
    refine hK.out _ _ ⟨(blk_cell BK1288.out 0).trans rfl,(blk_cell BK1288.out 1).trans rfl,(blk_cell BK1288.out 2).trans rfl,(blk_cell BK1288.out 3).trans rfl,(blk_cell BK1288.out 4).trans rfl,(blk_cell BK1288.out 5).trans rfl,(blk_cell BK1288.out 6).trans rfl,(blk_cell BK1288.out 7).trans rfl,(blk_cell BK1288.out 8).trans rfl,(blk_cell BK1288.out 9).trans rfl,(blk_cell BK1257.out 0).trans rfl,(blk_cell BK1257.out 1).trans rfl,(blk_cell BK1257.out 2).trans rfl,(blk_cell BK1257.out 3).trans rfl,(blk_cell BK1257.out 4).trans rfl,(blk_cell BK1257.out 5).trans rfl,(blk_cell BK1257.out 6).trans rfl,(blk_cell BK1257.out 7).trans rfl,(blk_cell BK1257.out 8).trans rfl,(blk_cell BK1257.out 9).trans rfl⟩ (fun hHeld => ?_)
    clear hK K
    refine norm_ (a' := ?_) ?_ ?_
    rotate_left
    ·show Act.put _ (some 28) _ = _
     simp only [Act.put,p1_,p2_,p3_,i64_w,i32_w]
     rfl
    refine one_ (i := 3) (N := some 29) #[true,true,true,true,false] rfl rfl (by kernel_rfl) (by decide) (fun K hK => ?_)
    refine zgo Tryd.func46 #[.agg #[.int .i64 t1274,.int .i64 t1275,.bool t1276,.int .i64 t1277,.int .i64 t1278,.int .i64 t1279,.int .i64 t1280,.string t1281,.slice Ao45 t1282.length co45,.slice Ao46 t1285.length co46],.agg #[.int .i64 t1290,.int .i64 t1291,.bool t1292,.int .i64 t1293,.int .i64 t1294,.int .i64 t1295,.int .i64 t1296,.string t1297,.slice Ao50 t1298.length co50,.slice Ao51 t1301.length co51]] ?_
    with_reducible refine (laws_eqClient.calls k t1274 t1275 t1276 t1277 t1278 t1279 t1280 t1281 _ _ t1282 _ _ t1285 t1290 t1291 t1292 t1293 t1294 t1295 t1296 t1297 _ _ t1298 _ _ t1301 true _ ?side1 ?side2 ?side3 ?side4 ?side5 ?side6 ?side7 ?side8 A30.out).mono ?_
    (case side1 => repeat (first | exact (Kd.R_reads' HO1284.out).2.2 | (with_reducible refine Kd.C_alloc ?_ _) | (with_reducible refine Kd.C_drewN ?_ _) | (with_reducible refine Kd.C_drew ?_)))
    (case side2 => exact (Kd.R_reads' HO1284.out).2.1)
    (case side3 => repeat (first | exact (Kd.R_reads' HO1287.out).2.2 | (with_reducible refine Kd.C_alloc ?_ _) | (with_reducible refine Kd.C_drewN ?_ _) | (with_reducible refine Kd.C_drew ?_)))
    (case side4 => exact (Kd.R_reads' HO1287.out).2.1)
    (case side5 => repeat (first | exact (Kd.R_reads' HO1300.out).2.2 | (with_reducible refine Kd.C_alloc ?_ _) | (with_reducible refine Kd.C_drewN ?_ _) | (with_reducible refine Kd.C_drew ?_)))
    (case side6 => exact (Kd.R_reads' HO1300.out).2.1)
    (case side7 => repeat (first | exact (Kd.R_reads' HO1303.out).2.2 | (with_reducible refine Kd.C_alloc ?_ _) | (with_reducible refine Kd.C_drewN ?_ _) | (with_reducible refine Kd.C_drew ?_)))
    (case side8 => exact (Kd.R_reads' HO1303.out).2.1)
    rintro e w52 ⟨rfl,hb⟩
    refine ⟨_,rfl,?_⟩
    replace HO1269 := zrb HO1269 hb
    replace HO1272 := zrb HO1272 hb
    replace HO1284 := zrb HO1284 hb
    replace HO1287 := zrb HO1287 hb
    replace HO1300 := zrb HO1300 hb
    replace HO1303 := zrb HO1303 hb
    replace BK1257 := zb BK1257 hb
    replace BK1288 := zb BK1288 hb
    replace HB := zs_ HB hb
    (try clear hb)
    (try clear hb2)
    (try clear hk)
    (try clear hi)
    refine hK.out _ _ ⟨(blk_cell BK1288.out 0).trans rfl,(blk_cell BK1288.out 1).trans rfl,(blk_cell BK1288.out 2).trans rfl,(blk_cell BK1288.out 3).trans rfl,(blk_cell BK1288.out 4).trans rfl,(blk_cell BK1288.out 5).trans rfl,(blk_cell BK1288.out 6).trans rfl,(blk_cell BK1288.out 7).trans rfl,(blk_cell BK1288.out 8).trans rfl,(blk_cell BK1288.out 9).trans rfl,(blk_cell BK1257.out 0).trans rfl,(blk_cell BK1257.out 1).trans rfl,(blk_cell BK1257.out 2).trans rfl,(blk_cell BK1257.out 3).trans rfl,(blk_cell BK1257.out 4).trans rfl,(blk_cell BK1257.out 5).trans rfl,(blk_cell BK1257.out 6).trans rfl,(blk_cell BK1257.out 7).trans rfl,(blk_cell BK1257.out 8).trans rfl,(blk_cell BK1257.out 9).trans rfl⟩ (fun hHeld => ?_)
    clear hK K
    refine norm_ (a' := ?_) ?_ ?_
    rotate_left
    ·show Act.put _ (some 29) _ = _
     simp only [Act.put,p1_,p2_,p3_,i64_w,i32_w]
     rfl
    refine pure_ (i := 4) (N := some 30) (v := ?_) (a' := ?_) #[true,true,true,true,true] rfl rfl (by kernel_rfl) (fun _ _ _ h => h) (Or.inl ⟨by rfl,?_⟩) ?_ ?_
    rotate_left
    ·intro w'
     go_simp
     with_reducible rfl
    rotate_left
    ·simp only [Act.put,p1_,p2_,p3_,i64_w,i32_w]
     rfl
    refine done_ (by kernel_rfl) ?_
    try go_wp2
    go_ret
    exact ⟨zt_,zl_ HB⟩
   ·replace c31 := Bool.eq_false_iff.mpr c31
    subst c31
    have H1 : (some false) = some r := by rw [if_neg (show ¬ (false = true) by decide)] at H;exact H
    clear H
    have H := H1
    clear H1
    obtain rfl := Option.some.inj H
    go_enter Tryd.func8,Tryd.ntmps8
    try go_wp2_with (first | ((with_reducible refine gate_dst (N := 3) rfl ?_);refine zbx (N := 3) (cs := #[.int .i64 a1_0,.int .i64 a1_1,.bool a1_2,.int .i64 a1_3,.int .i64 a1_4,.int .i64 a1_5,.int .i64 a1_6,.string a1_7,.slice A1_8 l1_8.length c1_8,.slice A1_9 l1_9.length c1_9]) (t := 82) ?_;intro gb1257 hg w53 hbox hb;have BK1257 := am_ (hbox);have GW1257 := zw_ HB hg;have GE1257 := zw_ HB hg;replace HB := zs_ HB hb;clear hb hbox hg;obtain ⟨hcz54_0,hcz54_1,hcz54_2,hcz54_3,hcz54_4,hcz54_5,hcz54_6,hcz54_7,hcz54_8,hcz54_9,hfz54_0,hfz54_1,hfz54_2,hfz54_3,hfz54_4,hfz54_5,hfz54_6,hfz54_7,hfz54_8,hfz54_9⟩ := zc10 BK1257) | ((with_reducible refine gate_callee (f := 42) rfl ?_);refine zgl (some 11) Tryd.func42 #[.agg #[.int .i64 a1_0,.int .i64 a1_1,.bool a1_2,.int .i64 a1_3,.int .i64 a1_4,.int .i64 a1_5,.int .i64 a1_6,.string a1_7,.slice A1_8 l1_8.length c1_8,.slice A1_9 l1_9.length c1_9],.int .i64 1048576] ?_;(with_reducible refine (laws_szClient.calls k a1_0 a1_1 a1_2 a1_3 a1_4 a1_5 a1_6 a1_7 _ _ l1_8 _ _ l1_9 1048576 t1258 _ ?side1 ?side2 ?side3 ?side4 A3.out).mono ?_);(case side1 => exact zc_ HR1_8 HB);(case side2 => exact HC1_8.out);(case side3 => exact zc_ HR1_9 HB);(case side4 => exact HC1_9.out);rintro e w55 ⟨rfl,hb⟩;refine ⟨_,rfl,?_⟩;replace BK1257 := zb BK1257 hb;replace HB := zs_ HB hb;(try clear hb);(try clear hb2);(try clear hk);(try clear hi);obtain ⟨hcz56_0,hcz56_1,hcz56_2,hcz56_3,hcz56_4,hcz56_5,hcz56_6,hcz56_7,hcz56_8,hcz56_9,hfz56_0,hfz56_1,hfz56_2,hfz56_3,hfz56_4,hfz56_5,hfz56_6,hfz56_7,hfz56_8,hfz56_9⟩ := zc10 BK1257) | ((with_reducible refine gate_callee (f := 44) rfl ?_);refine zgl (some 16) Tryd.func44 #[.agg #[.int .i64 a1_0,.int .i64 a1_1,.bool a1_2,.int .i64 a1_3,.int .i64 a1_4,.int .i64 a1_5,.int .i64 a1_6,.string a1_7,.slice A1_8 l1_8.length c1_8,.slice A1_9 l1_9.length c1_9]] ?_;(with_reducible refine (laws_toClient.calls k a1_0 a1_1 a1_2 a1_3 a1_4 a1_5 a1_6 a1_7 _ _ l1_8 _ _ l1_9 t1259 t1260 t1261 t1262 t1263 t1264 t1265 t1266 t1267 t1270 _ ?side1 ?side2 ?side3 ?side4 A8.out).mono ?_);(case side1 => exact zc_ HR1_8 HB);(case side2 => exact HC1_8.out);(case side3 => exact zc_ HR1_9 HB);(case side4 => exact HC1_9.out);rintro e w57 ⟨v1268,v1271,rfl,ho0,ho1,hb⟩;refine ⟨_,rfl,?_⟩;have HO1269 := am_ (Kd.R_lower ho0 (below_size (zl_ HB)));have HO1272 := am_ (Kd.R_lower ho1 (below_size (zl_ HB)));replace BK1257 := zb BK1257 hb;replace HB := zs_ HB hb;(try clear hb);(try clear hb2);(try clear hk);(try clear hi);(try clear ho0);(try clear ho1);obtain ⟨Ao58,co58,eo58⟩ := Kd.R_slice HO1269.out;subst eo58;obtain ⟨Ao59,co59,eo59⟩ := Kd.R_slice HO1272.out;subst eo59) | ((with_reducible refine gate_callee (f := 43) rfl ?_);refine zgl (some 17) Tryd.func43 #[.int .i64 a0,.agg #[.int .i64 t1259,.int .i64 t1260,.bool t1261,.int .i64 t1262,.int .i64 t1263,.int .i64 t1264,.int .i64 t1265,.string t1266,.slice Ao58 t1267.length co58,.slice Ao59 t1270.length co59]] ?_;(with_reducible refine (spec_ClientOK.calls k a0 t1259 t1260 t1261 t1262 t1263 t1264 t1265 t1266 _ _ t1267 _ _ t1270 t1273 _ ?side1 ?side2 ?side3 ?side4 A9.out).mono ?_);(case side1 => repeat (first | exact (Kd.R_reads' HO1269.out).2.2 | (with_reducible refine Kd.C_alloc ?_ _) | (with_reducible refine Kd.C_drewN ?_ _) | (with_reducible refine Kd.C_drew ?_)));(case side2 => exact (Kd.R_reads' HO1269.out).2.1);(case side3 => repeat (first | exact (Kd.R_reads' HO1272.out).2.2 | (with_reducible refine Kd.C_alloc ?_ _) | (with_reducible refine Kd.C_drewN ?_ _) | (with_reducible refine Kd.C_drew ?_)));(case side4 => exact (Kd.R_reads' HO1272.out).2.1);rintro e w60 ⟨rfl,hb⟩;refine ⟨_,rfl,?_⟩;replace HO1269 := zrb HO1269 hb;replace HO1272 := zrb HO1272 hb;replace BK1257 := zb BK1257 hb;replace HB := zs_ HB hb;(try clear hb);(try clear hb2);(try clear hk);(try clear hi);obtain ⟨hcz61_0,hcz61_1,hcz61_2,hcz61_3,hcz61_4,hcz61_5,hcz61_6,hcz61_7,hcz61_8,hcz61_9,hfz61_0,hfz61_1,hfz61_2,hfz61_3,hfz61_4,hfz61_5,hfz61_6,hfz61_7,hfz61_8,hfz61_9⟩ := zc10 BK1257) | ((with_reducible refine gate_callee (f := 44) rfl ?_);refine zgl (some 19) Tryd.func44 #[.agg #[.int .i64 a1_0,.int .i64 a1_1,.bool a1_2,.int .i64 a1_3,.int .i64 a1_4,.int .i64 a1_5,.int .i64 a1_6,.string a1_7,.slice A1_8 l1_8.length c1_8,.slice A1_9 l1_9.length c1_9]] ?_;(with_reducible refine (laws_toClient.calls k a1_0 a1_1 a1_2 a1_3 a1_4 a1_5 a1_6 a1_7 _ _ l1_8 _ _ l1_9 t1274 t1275 t1276 t1277 t1278 t1279 t1280 t1281 t1282 t1285 _ ?side1 ?side2 ?side3 ?side4 A10.out).mono ?_);(case side1 => exact zc_ HR1_8 HB);(case side2 => exact HC1_8.out);(case side3 => exact zc_ HR1_9 HB);(case side4 => exact HC1_9.out);rintro e w62 ⟨v1283,v1286,rfl,ho0,ho1,hb⟩;refine ⟨_,rfl,?_⟩;have HO1284 := am_ (Kd.R_lower (Kd.R_new' ho0 (Kd.R_lt (zr HO1269))) (below_size (zl_ HB)));replace HO1269 := am_ (Kd.R_elder' (zr HO1269) (Kd.R_base ho0) hb);have HO1287 := am_ (Kd.R_lower (Kd.R_new' ho1 (Kd.R_lt (zr HO1272))) (below_size (zl_ HB)));replace HO1272 := am_ (Kd.R_elder' (zr HO1272) (Kd.R_base ho1) hb);replace BK1257 := zb BK1257 hb;replace HB := zs_ HB hb;(try clear hb);(try clear hb2);(try clear hk);(try clear hi);(try clear ho0);(try clear ho1)) | ((with_reducible refine gate_dst (N := 7) rfl ?_);refine zbx (N := 7) (cs := #[.int .i64 0,.int .i64 0,.bool false,.int .i64 0,.int .i64 0,.int .i64 0,.int .i64 0,.string ⟨#[]⟩,.slice none 0 0,.slice none 0 0]) (t := 88) ?_;intro gb1288 hg w63 hbox hb;replace HO1269 := zrb HO1269 hb;replace HO1272 := zrb HO1272 hb;replace HO1284 := zrb HO1284 hb;replace HO1287 := zrb HO1287 hb;have BK1288 := am_ (hbox);have GW1288 := zw_ HB hg;have GE1288 := zw_ HB hg;replace HB := zs_ HB hb;have NB1257_1288 := zl hg BK1257;have NB1288_1257 := zg hg BK1257;replace BK1257 := zb BK1257 hb;clear hb hbox hg;have hnb64 := NB1288_1257.out;have hnc64 := NB1257_1288.out;obtain ⟨hcz65_0,hcz65_1,hcz65_2,hcz65_3,hcz65_4,hcz65_5,hcz65_6,hcz65_7,hcz65_8,hcz65_9,hfz65_0,hfz65_1,hfz65_2,hfz65_3,hfz65_4,hfz65_5,hfz65_6,hfz65_7,hfz65_8,hfz65_9⟩ := zc10 BK1288;obtain ⟨Ao66,co66,eo66⟩ := Kd.R_slice HO1284.out;subst eo66;obtain ⟨Ao67,co67,eo67⟩ := Kd.R_slice HO1287.out;subst eo67) | ((with_reducible refine gate_callee (f := 45) rfl ?_);refine zgl (some 22) Tryd.func45 #[.int .i64 a0,.agg #[.int .i64 t1274,.int .i64 t1275,.bool t1276,.int .i64 t1277,.int .i64 t1278,.int .i64 t1279,.int .i64 t1280,.string t1281,.slice Ao66 t1282.length co66,.slice Ao67 t1285.length co67]] ?_;(with_reducible refine (impl_ClientOK.calls k a0 t1274 t1275 t1276 t1277 t1278 t1279 t1280 t1281 _ _ t1282 _ _ t1285 t1289 _ ?side1 ?side2 ?side3 ?side4 ?side5 A11.out).mono ?_);(case side1 => refine (Kd.R_reads' (e := 73) (base := w.heap.size) (ok := fun k_ => (True ∧ some k_ ≠ (.slice Ao58 t1267.length co58 : Value).ownBlock)) (n := t1282.length) (c := co66) ?_).2.2;exact (by (with_reducible repeat (first | apply r1_ | apply r2_ | apply r3_));exact (Kd.R_mono (zrf (Kd.R_types HO1284.out BK1288.out (by decide))) (fun _ h_ => h_.1))));(case side2 => exact (Kd.R_reads' HO1284.out).2.1);(case side3 => refine (Kd.R_reads' (e := 63) (base := w.heap.size) (ok := fun k_ => (True ∧ some k_ ≠ (.slice Ao59 t1270.length co59 : Value).ownBlock)) (n := t1285.length) (c := co67) ?_).2.2;exact (by (with_reducible repeat (first | apply r1_ | apply r2_ | apply r3_));exact (Kd.R_mono (zrf (Kd.R_types HO1287.out BK1288.out (by decide))) (fun _ h_ => h_.1))));(case side4 => exact (Kd.R_reads' HO1287.out).2.1);(case side5 => exact HLD.out.on (zl_ HB));rintro e w68 ⟨rfl,hb⟩;refine ⟨_,rfl,?_⟩;replace HO1269 := am_ (Kd.R_below (by (with_reducible repeat (first | apply r1_ | apply r2_ | apply r3_));exact (Kd.R_mono (zrf (Kd.R_types HO1269.out BK1288.out (by decide))) (fun _ h_ => h_.1))) hb);replace HO1272 := am_ (Kd.R_below (by (with_reducible repeat (first | apply r1_ | apply r2_ | apply r3_));exact (Kd.R_mono (zrf (Kd.R_types HO1272.out BK1288.out (by decide))) (fun _ h_ => h_.1))) hb);replace HO1284 := am_ (Kd.R_below (by (with_reducible repeat (first | apply r1_ | apply r2_ | apply r3_));exact (Kd.R_mono (zrf (Kd.R_types HO1284.out BK1288.out (by decide))) (fun _ h_ => h_.1))) hb);replace HO1287 := am_ (Kd.R_below (by (with_reducible repeat (first | apply r1_ | apply r2_ | apply r3_));exact (Kd.R_mono (zrf (Kd.R_types HO1287.out BK1288.out (by decide))) (fun _ h_ => h_.1))) hb);replace BK1257 := am_ (blk_below (g := gb1257) (o := .cells #[.int .i64 a1_0,.int .i64 a1_1,.bool a1_2,.int .i64 a1_3,.int .i64 a1_4,.int .i64 a1_5,.int .i64 a1_6,.string a1_7,.slice A1_8 l1_8.length c1_8,.slice A1_9 l1_9.length c1_9] 82 (0,0)) (zq BK1257) hb);replace BK1288 := am_ (blk_below (g := gb1288) (o := .cells #[.int .i64 t1274,.int .i64 t1275,.bool t1276,.int .i64 t1277,.int .i64 t1278,.int .i64 t1279,.int .i64 t1280,.string t1281,.slice Ao66 t1282.length co66,.slice Ao67 t1285.length co67] 88 (0,0)) (zq BK1288) hb);replace HB := zs_ HB hb;(try clear hb);(try clear hb2);(try clear hk);(try clear hi)))
    replace HO1269 := am_ (Kd.R_drew HO1269.out)
    replace HO1272 := am_ (Kd.R_drew HO1272.out)
    replace HO1284 := am_ (Kd.R_drew HO1284.out)
    replace HO1287 := am_ (Kd.R_drew HO1287.out)
    replace BK1257 := am_ (blk_drew BK1257.out)
    replace BK1288 := am_ (blk_drew BK1288.out)
    replace HB := am_ (below_drew1 HB.out)
    refine start_ (n := 5) (S := fun w' => w'.cell? ⟨gb1288,0,none⟩ = some (.int .i64 t1274) ∧ w'.cell? ⟨gb1288,1,none⟩ = some (.int .i64 t1275) ∧ w'.cell? ⟨gb1288,2,none⟩ = some (.bool t1276) ∧ w'.cell? ⟨gb1288,3,none⟩ = some (.int .i64 t1277) ∧ w'.cell? ⟨gb1288,4,none⟩ = some (.int .i64 t1278) ∧ w'.cell? ⟨gb1288,5,none⟩ = some (.int .i64 t1279) ∧ w'.cell? ⟨gb1288,6,none⟩ = some (.int .i64 t1280) ∧ w'.cell? ⟨gb1288,7,none⟩ = some (.string t1281) ∧ w'.cell? ⟨gb1288,8,none⟩ = some (.slice Ao66 t1282.length co66) ∧ w'.cell? ⟨gb1288,9,none⟩ = some (.slice Ao67 t1285.length co67) ∧ w'.cell? ⟨gb1257,0,none⟩ = some (.int .i64 a1_0) ∧ w'.cell? ⟨gb1257,1,none⟩ = some (.int .i64 a1_1) ∧ w'.cell? ⟨gb1257,2,none⟩ = some (.bool a1_2) ∧ w'.cell? ⟨gb1257,3,none⟩ = some (.int .i64 a1_3) ∧ w'.cell? ⟨gb1257,4,none⟩ = some (.int .i64 a1_4) ∧ w'.cell? ⟨gb1257,5,none⟩ = some (.int .i64 a1_5) ∧ w'.cell? ⟨gb1257,6,none⟩ = some (.int .i64 a1_6) ∧ w'.cell? ⟨gb1257,7,none⟩ = some (.string a1_7) ∧ w'.cell? ⟨gb1257,8,none⟩ = some (.slice A1_8 l1_8.length c1_8) ∧ w'.cell? ⟨gb1257,9,none⟩ = some (.slice A1_9 l1_9.length c1_9)) (ds := []) #[false,false,false,false,false] (by kernel_rfl) rfl rfl ⟨(blk_cell BK1288.out 0).trans rfl,(blk_cell BK1288.out 1).trans rfl,(blk_cell BK1288.out 2).trans rfl,(blk_cell BK1288.out 3).trans rfl,(blk_cell BK1288.out 4).trans rfl,(blk_cell BK1288.out 5).trans rfl,(blk_cell BK1288.out 6).trans rfl,(blk_cell BK1288.out 7).trans rfl,(blk_cell BK1288.out 8).trans rfl,(blk_cell BK1288.out 9).trans rfl,(blk_cell BK1257.out 0).trans rfl,(blk_cell BK1257.out 1).trans rfl,(blk_cell BK1257.out 2).trans rfl,(blk_cell BK1257.out 3).trans rfl,(blk_cell BK1257.out 4).trans rfl,(blk_cell BK1257.out 5).trans rfl,(blk_cell BK1257.out 6).trans rfl,(blk_cell BK1257.out 7).trans rfl,(blk_cell BK1257.out 8).trans rfl,(blk_cell BK1257.out 9).trans rfl⟩ (fun hHeld => ?_)
    generalize w68.drew = w69 at HO1269 HO1272 HO1284 HO1287 BK1257 BK1288 HB hHeld ⊢
    refine take_ (i := 0) (N := some 26) (v := ?_) (a' := ?_) #[true,false,false,false,false] rfl rfl (by kernel_rfl) (fun _ _ _ h => h) (Or.inl ⟨by rfl,?_⟩) hHeld ?_ ?_
    rotate_left
    ·rintro w' ⟨s0,s1,s2,s3,s4,s5,s6,s7,s8,s9,s10,s11,s12,s13,s14,s15,s16,s17,s18,s19⟩
     go_simp
     with_reducible rfl
    rotate_left
    ·simp only [Act.put,p1_,p2_,p3_,i64_w,i32_w]
     rfl
    refine take_ (i := 1) (N := some 27) (v := ?_) (a' := ?_) #[true,true,false,false,false] rfl rfl (by kernel_rfl) (fun _ _ _ h => h) (Or.inl ⟨by rfl,?_⟩) hHeld ?_ ?_
    rotate_left
    ·rintro w' ⟨s0,s1,s2,s3,s4,s5,s6,s7,s8,s9,s10,s11,s12,s13,s14,s15,s16,s17,s18,s19⟩
     go_simp
     with_reducible rfl
    rotate_left
    ·simp only [Act.put,p1_,p2_,p3_,i64_w,i32_w]
     rfl
    refine one_ (i := 2) (N := some 28) #[true,true,true,false,false] rfl rfl (by kernel_rfl) (by decide) (fun K hK => ?_)
    refine zgo Tryd.func44 #[.agg #[.int .i64 a1_0,.int .i64 a1_1,.bool a1_2,.int .i64 a1_3,.int .i64 a1_4,.int .i64 a1_5,.int .i64 a1_6,.string a1_7,.slice A1_8 l1_8.length c1_8,.slice A1_9 l1_9.length c1_9]] ?_
    with_reducible refine (laws_toClient.calls k a1_0 a1_1 a1_2 a1_3 a1_4 a1_5 a1_6 a1_7 _ _ l1_8 _ _ l1_9 t1290 t1291 t1292 t1293 t1294 t1295 t1296 t1297 t1298 t1301 _ ?side1 ?side2 ?side3 ?side4 A29.out).mono ?_
    (case side1 => exact zc_ HR1_8 HB)
    (case side2 => exact HC1_8.out)
    (case side3 => exact zc_ HR1_9 HB)
    (case side4 => exact HC1_9.out)
    rintro e w70 ⟨v1299,v1302,rfl,ho0,ho1,hb⟩
    refine ⟨_,rfl,?_⟩
    have HO1300 := am_ (Kd.R_lower (Kd.R_new' (Kd.R_new' ho0 (Kd.R_lt (zr HO1269))) (Kd.R_lt (zr HO1284))) (below_size (zl_ HB)))
    replace HO1284 := am_ (Kd.R_elder' (zr HO1284) (Kd.R_base ho0) hb)
    have HO1303 := am_ (Kd.R_lower (Kd.R_new' (Kd.R_new' ho1 (Kd.R_lt (zr HO1272))) (Kd.R_lt (zr HO1287))) (below_size (zl_ HB)))
    replace HO1287 := am_ (Kd.R_elder' (zr HO1287) (Kd.R_base ho1) hb)
    replace BK1257 := zb BK1257 hb
    replace BK1288 := zb BK1288 hb
    replace HB := zs_ HB hb
    (try clear hb)
    (try clear hb2)
    (try clear hk)
    (try clear hi)
    (try clear ho0)
    (try clear ho1)
    obtain ⟨Ao71,co71,eo71⟩ := Kd.R_slice HO1300.out
    (first | subst eo71 | (injection eo71 with f1_ f2_ f3_;have f4_ := f1_.symm;have f5_ := f3_.symm;clear f1_ f2_ f3_;subst f4_;subst f5_))
    obtain ⟨Ao72,co72,eo72⟩ := Kd.R_slice HO1303.out
    (first | subst eo72 | (injection eo72 with f1_ f2_ f3_;have f4_ := f1_.symm;have f5_ := f3_.symm;clear f1_ f2_ f3_;subst f4_;subst f5_))
    refine hK.out _ _ ⟨(blk_cell BK1288.out 0).trans rfl,(blk_cell BK1288.out 1).trans rfl,(blk_cell BK1288.out 2).trans rfl,(blk_cell BK1288.out 3).trans rfl,(blk_cell BK1288.out 4).trans rfl,(blk_cell BK1288.out 5).trans rfl,(blk_cell BK1288.out 6).trans rfl,(blk_cell BK1288.out 7).trans rfl,(blk_cell BK1288.out 8).trans rfl,(blk_cell BK1288.out 9).trans rfl,(blk_cell BK1257.out 0).trans rfl,(blk_cell BK1257.out 1).trans rfl,(blk_cell BK1257.out 2).trans rfl,(blk_cell BK1257.out 3).trans rfl,(blk_cell BK1257.out 4).trans rfl,(blk_cell BK1257.out 5).trans rfl,(blk_cell BK1257.out 6).trans rfl,(blk_cell BK1257.out 7).trans rfl,(blk_cell BK1257.out 8).trans rfl,(blk_cell BK1257.out 9).trans rfl⟩ (fun hHeld => ?_)
    clear hK K
    refine norm_ (a' := ?_) ?_ ?_
    rotate_left
    ·show Act.put _ (some 28) _ = _
     simp only [Act.put,p1_,p2_,p3_,i64_w,i32_w]
     rfl
    refine one_ (i := 3) (N := some 29) #[true,true,true,true,false] rfl rfl (by kernel_rfl) (by decide) (fun K hK => ?_)
    refine zgo Tryd.func46 #[.agg #[.int .i64 t1274,.int .i64 t1275,.bool t1276,.int .i64 t1277,.int .i64 t1278,.int .i64 t1279,.int .i64 t1280,.string t1281,.slice Ao66 t1282.length co66,.slice Ao67 t1285.length co67],.agg #[.int .i64 t1290,.int .i64 t1291,.bool t1292,.int .i64 t1293,.int .i64 t1294,.int .i64 t1295,.int .i64 t1296,.string t1297,.slice Ao71 t1298.length co71,.slice Ao72 t1301.length co72]] ?_
    with_reducible refine (laws_eqClient.calls k t1274 t1275 t1276 t1277 t1278 t1279 t1280 t1281 _ _ t1282 _ _ t1285 t1290 t1291 t1292 t1293 t1294 t1295 t1296 t1297 _ _ t1298 _ _ t1301 false _ ?side1 ?side2 ?side3 ?side4 ?side5 ?side6 ?side7 ?side8 A30.out).mono ?_
    (case side1 => repeat (first | exact (Kd.R_reads' HO1284.out).2.2 | (with_reducible refine Kd.C_alloc ?_ _) | (with_reducible refine Kd.C_drewN ?_ _) | (with_reducible refine Kd.C_drew ?_)))
    (case side2 => exact (Kd.R_reads' HO1284.out).2.1)
    (case side3 => repeat (first | exact (Kd.R_reads' HO1287.out).2.2 | (with_reducible refine Kd.C_alloc ?_ _) | (with_reducible refine Kd.C_drewN ?_ _) | (with_reducible refine Kd.C_drew ?_)))
    (case side4 => exact (Kd.R_reads' HO1287.out).2.1)
    (case side5 => repeat (first | exact (Kd.R_reads' HO1300.out).2.2 | (with_reducible refine Kd.C_alloc ?_ _) | (with_reducible refine Kd.C_drewN ?_ _) | (with_reducible refine Kd.C_drew ?_)))
    (case side6 => exact (Kd.R_reads' HO1300.out).2.1)
    (case side7 => repeat (first | exact (Kd.R_reads' HO1303.out).2.2 | (with_reducible refine Kd.C_alloc ?_ _) | (with_reducible refine Kd.C_drewN ?_ _) | (with_reducible refine Kd.C_drew ?_)))
    (case side8 => exact (Kd.R_reads' HO1303.out).2.1)
    rintro e w73 ⟨rfl,hb⟩
    refine ⟨_,rfl,?_⟩
    replace BK1257 := zb BK1257 hb
    replace BK1288 := zb BK1288 hb
    replace HB := zs_ HB hb
    (try clear hb)
    (try clear hb2)
    (try clear hk)
    (try clear hi)
    refine hK.out _ _ ⟨(blk_cell BK1288.out 0).trans rfl,(blk_cell BK1288.out 1).trans rfl,(blk_cell BK1288.out 2).trans rfl,(blk_cell BK1288.out 3).trans rfl,(blk_cell BK1288.out 4).trans rfl,(blk_cell BK1288.out 5).trans rfl,(blk_cell BK1288.out 6).trans rfl,(blk_cell BK1288.out 7).trans rfl,(blk_cell BK1288.out 8).trans rfl,(blk_cell BK1288.out 9).trans rfl,(blk_cell BK1257.out 0).trans rfl,(blk_cell BK1257.out 1).trans rfl,(blk_cell BK1257.out 2).trans rfl,(blk_cell BK1257.out 3).trans rfl,(blk_cell BK1257.out 4).trans rfl,(blk_cell BK1257.out 5).trans rfl,(blk_cell BK1257.out 6).trans rfl,(blk_cell BK1257.out 7).trans rfl,(blk_cell BK1257.out 8).trans rfl,(blk_cell BK1257.out 9).trans rfl⟩ (fun hHeld => ?_)
    clear hK K
    refine norm_ (a' := ?_) ?_ ?_
    rotate_left
    ·show Act.put _ (some 29) _ = _
     simp only [Act.put,p1_,p2_,p3_,i64_w,i32_w]
     rfl
    refine pure_ (i := 4) (N := some 30) (v := ?_) (a' := ?_) #[true,true,true,true,true] rfl rfl (by kernel_rfl) (fun _ _ _ h => h) (Or.inl ⟨by rfl,?_⟩) ?_ ?_
    rotate_left
    ·intro w'
     go_simp
     with_reducible rfl
    rotate_left
    ·simp only [Act.put,p1_,p2_,p3_,i64_w,i32_w]
     rfl
    refine done_ (by kernel_rfl) ?_
    try go_wp2
    go_ret
    exact ⟨zt_,zl_ HB⟩
end Go.Proofs.YtlifdodphkimpaaDoor.B
end
