/- A part of the proof that FnExactCountReplies returns true at every input: plain functions, contracts and lemmas. No conditions. -/
import Derived.Test.YtlifdodphkimpaaDoorQCountRepliesd
set_option linter.unusedVariables false
set_option linter.unusedSimpArgs false
set_option linter.unusedSectionVars false
section
namespace Go.Proofs.YtlifdodphkimpaaDoor.B
open Go.RowKit Go.Proofs.YtlifdodphkimpaaDoorW.PrintWords Go.Proofs.YtlifdodphkimpaaDoorW.PrintLast Go.Proofs.YtlifdodphkimpaaDoorW.PrintMore
attribute [local go_sem] max2_int min2_int max_two min_two max_three min_three max_four min_four
attribute [local go_sem high] eqA63
def spec_l11Count.T9 : Bool × List (List Nat × List Nat) := (true,[([],[]),([],[]),([0,1],[0,1]),([2,2],[2]),([3],[3]),([4,3],[3,4]),([3],[3]),([5,6,3],[3,5,6]),([3,7],[3,7]),([8,3],[8]),([9],[9]),([10,9],[9,10]),([9],[9]),([11,12,9],[9,11,12]),([9,13],[9,13]),([14,9],[14]),([15],[15]),([16,15],[15,16]),([15],[15]),([15],[15]),([18,19,15],[15,18,19]),([20,15],[15,20]),([21,15],[15,21]),([17,22,15],[15,17,22]),([15,23],[15,23]),([24,15],[24]),([25],[25]),([25],[25]),([27,25],[25,27]),([26,28,25,25],[25,26,28]),([29,25],[25,29]),([25,30],[25,30])])
def spec_l11Count.B9 : List Nat := [0,0,3,7,15,31,15,127,255,511,1023,2047,1023,8191,16383,32767,65535,131071,65535,65535,851967,1900543,3997695,8388607,16777215,33554431,67108863,67108863,201326591,536870911,1073741823,2147483647]
theorem spec_l11Count.tab9 : rtab .any (opsOf Tryd.f83 9) = spec_l11Count.T9 := by kernel_rfl
theorem spec_l11Count.bits9 : waitsOk spec_l11Count.T9.2 spec_l11Count.B9 = true := by kernel_rfl
set_option maxHeartbeats 8000000 in
set_option maxRecDepth 100000 in
theorem spec_l11Count.calls (k : Nat) (a0 : Int) (a1 : Int) (a2 : Int) (A3 : Option Addr) (c3 : Nat) (l3 : List (S73)) (r1 : Int) (r2 : Int) (r3 : Int) (r4 : Int) (r5 : Bool) (w : World) (hr3 : Kd.C k73 w A3 l3.length l3) (hc3 : l3.length ≤ c3) (h : spec_l11Count.f k a0 a1 a2 l3 = some (r1,r2,r3,r4,r5)) :
  Calls Tryd.prog 83 #[.int .i64 a0,.int .i64 a1,.int .i64 a2,.slice A3 l3.length c3] w fun e w' => e = .returned (.tuple #[.agg #[.int .i64 r1,.int .i64 r2,.int .i64 r3,.int .i64 r4],.bool r5]) ∧ Below w.heap.size w w' := by
 have hu63 := Tryd.underlying63
 have hu73 := Tryd.underlying73
 have HR3 := am_ hr3
 have HC3 := am_ hc3
 clear hr3 hc3
 have HB := am_ (Below.refl w.heap.size w)
 have H : (spec_l11Count.l0 k a0 a1 a2 l3 0) = some (r1,r2,r3,r4,r5) := h
 clear h
 have H' := am_ H
 clear H
 go_enter Tryd.func83,Tryd.ntmps83
 go_wp2_with (first | ((with_reducible refine gate_dst (N := 8) rfl ?_);refine zbx (N := 8) (cs := #[.int .i64 0,.int .i64 0,.int .i64 0,.int .i64 0]) (t := 63) ?_;intro gb932 hg w5 hbox hb;have BK932 := am_ (hbox);have GW932 := zw_ HB hg;have GE932 := zw_ HB hg;replace HB := zs_ HB hb;clear hb hbox hg))
 go_loopg [10] k (fun kq v10 w' => ∃ (x10_1 : Int) (x933000_1 : Int) (x933001_1 : Int) (x933002_1 : Int) (x933003_1 : Int),v10 = .int .i64 x10_1 ∧ Aside0 (spec_l11Count.l0 kq a0 a1 a2 l3 x10_1 = some (r1,r2,r3,r4,r5)) ∧ Aside0 (kq ≤ k) ∧ Aside0 (w'.heap[gb932]? = some (.cells #[.int .i64 x933000_1,.int .i64 x933001_1,.int .i64 x933002_1,.int .i64 x933003_1] 63 (0,0))) ∧ Aside0 (Below w.heap.size w w'))
 case atStart => exact ⟨(0),(0),(0),(0),(0),(by first | rfl | (simp;done) | (simp [*];done)),H',⟨Nat.le_refl _⟩,⟨by (with_reducible repeat (first | apply k1_ | apply k2_ | apply k3_));exact BK932.out⟩,⟨zl_ HB⟩⟩
 case round =>
  clear H'
  try clear p2
  try clear c3
  obtain ⟨x10_1,x933000_1,x933001_1,x933002_1,x933003_1,rfl,HA,HK1,BK932,HB⟩ := hrel
  cases gk with
  | zero => exact absurd HA.out (by simp [spec_l11Count.l0])
  | succ k1 =>
   have H := HA.out
   clear HA
   simp only [spec_l11Count.l0] at H
   by_cases c6 : x10_1 < (l3.length : Int)
   ·rw [if_pos c6] at H
    have c6b0 : decide (x10_1 < (l3.length : Int)) = true := decide_eq_true c6
    clear c6
    obtain ⟨y933,hy933⟩ : ∃ y_ : List Int,y_ = (([] : List Int)) := ⟨_,rfl⟩
    replace H : (spec_l11Count.l1 k1 a0 a1 a2 l3 x10_1 y933 0) = some (r1,r2,r3,r4,r5) := by first | (rw [hy933];with_reducible exact H) | (have H2_ := (Option.bind_some _ _).symm.trans H;rw [hy933];with_reducible exact H2_) | (have H2_ := (Option.bind_some _ _).symm.trans H;with_reducible exact H2_) | with_reducible exact H | (rw [hy933];exact H) | exact H
    have Ny933 := am_ hy933
    clear hy933
    have H' := am_ H
    clear H
    go_wp2_with (first | ((with_reducible refine gate_dst (N := 20) rfl ?_);refine Kd.R_lit (Kd.int .i64) _ 3 ?hg (N := 20) ?hd (xs := ([] : List Int)) (inner := []) (ok := fun _ => True) (okp := fun _ => True) ?hr ?hp (fun _ hk => hk) trivial (Below.refl _ _) (Nat.le_refl _) (by simp) ?_;(case hd => rfl);(case hg => rfl);(case hr => first | (go_simp;done) | (go_simp;rfl));(case hp => exact (Reps.none _ _));intro v934 w7 ho8 hb hg_ hnew_;clear hg_ hnew_;(first | rw [← Ny933.out] at ho8 | (simp only [Int.reduceToNat] at ho8;rw [← Ny933.out] at ho8));have HO935 := am_ (Kd.R_lower ho8 (below_size (zl_ HB)));replace BK932 := zb BK932 hb;replace HB := zs_ HB hb;clear hb ho8))
    go_loopg [11,12] k1 (fun kq v11 v12 w' => ∃ (x11_2 : List Int) (x12_2 : Int),v12 = .int .i64 x12_2 ∧ Aside0 (spec_l11Count.l1 kq a0 a1 a2 l3 x10_1 x11_2 x12_2 = some (r1,r2,r3,r4,r5)) ∧ Aside0 (kq ≤ k1) ∧ Aside0 (Kd.R (Kd.int .i64) 3 w' w.heap.size (fun _ => True) v11 x11_2) ∧ Aside0 (w'.heap[gb932]? = some (.cells #[.int .i64 x933000_1,.int .i64 x933001_1,.int .i64 x933002_1,.int .i64 x933003_1] 63 (0,0))) ∧ Aside0 (Below w.heap.size w w'))
    case atStart => exact ⟨(y933),(0),(by first | rfl | (simp;done) | (simp [*];done)),H',⟨Nat.le_refl _⟩,⟨zr HO935⟩,⟨by (with_reducible repeat (first | apply k1_ | apply k2_ | apply k3_));exact BK932.out⟩,⟨zl_ HB⟩⟩
    case round =>
     clear H'
     try clear p2
     try clear c3
     try clear c6
     try clear c6b0
     try clear c8
     try clear p2
     obtain ⟨x11_2,x12_2,rfl,HA,HK2,HO_11,BK932,HB⟩ := hrel
     cases gk with
     | zero => exact absurd HA.out (by simp [spec_l11Count.l1])
     | succ k2 =>
      have H := HA.out
      clear HA
      simp only [spec_l11Count.l1] at H
      by_cases c9 : x12_2 ≤ x10_1
      ·rw [if_pos c9] at H
       have c9b0 : decide (x12_2 ≤ x10_1) = true := decide_eq_true c9
       clear c9
       by_cases c10 : 0 ≤ x12_2
       ·rw [if_pos c10] at H
        have c10b0 : decide (0 ≤ x12_2) = true := decide_eq_true c10
        clear c10
        by_cases c11 : x12_2 < (l3.length : Int)
        ·rw [if_pos c11] at H
         have c11b0 : decide (x12_2 < (l3.length : Int)) = true := decide_eq_true c11
         clear c11
         replace H := Option.bind_eq_some_iff.mp H
         obtain ⟨t939,A120,H⟩ := H
         try dsimp only at H
         have A12 := am_ A120
         clear A120
         by_cases c13 : t939 = true
         ·subst c13
          have H1 : (if ((rd_T73 l3 x12_2).f1) = a1 then (if ((rd_T73 l3 x12_2).f2) = a2 then (if 0 ≤ x10_1 then (if x10_1 < (l3.length : Int) then (if (((rd_T73 l3 x12_2).f3.f0) == ((rd_T73 l3 x10_1).f3.f0) && (((rd_T73 l3 x12_2).f3.f1) == ((rd_T73 l3 x10_1).f3.f1) && (((rd_T73 l3 x12_2).f3.f2) == ((rd_T73 l3 x10_1).f3.f2) && (((rd_T73 l3 x12_2).f3.f3) == ((rd_T73 l3 x10_1).f3.f3))))) = true then ((spec_l08Has.f k2 x11_2 ((rd_T73 l3 x12_2).f0)).bind fun t941 => (if t941 = true then (spec_l11Count.l1 k2 a0 a1 a2 l3 x10_1 x11_2 (wrap64 (x12_2 + 1))) else (if x11_2.length < 17592186044416 then (spec_l11Count.l1 k2 a0 a1 a2 l3 x10_1 (x11_2 ++ [(rd_T73 l3 x12_2).f0]) (wrap64 (x12_2 + 1))) else (none)))) else (spec_l11Count.l1 k2 a0 a1 a2 l3 x10_1 x11_2 (wrap64 (x12_2 + 1)))) else (none)) else (none)) else (spec_l11Count.l1 k2 a0 a1 a2 l3 x10_1 x11_2 (wrap64 (x12_2 + 1)))) else (spec_l11Count.l1 k2 a0 a1 a2 l3 x10_1 x11_2 (wrap64 (x12_2 + 1)))) = some (r1,r2,r3,r4,r5) := by rw [if_pos rfl] at H;exact H
          clear H
          have H := H1
          clear H1
          by_cases c14 : ((rd_T73 l3 x12_2).f1) = a1
          ·rw [if_pos c14] at H
           have c14b0 : (((rd_T73 l3 x12_2).f1) == a1) = true := beq_iff_eq.mpr c14
           have c14b1 : (((rd_T73 l3 x12_2).f1) != a1) = false := bne_eq_false_iff_eq.mpr c14
           clear c14
           by_cases c15 : ((rd_T73 l3 x12_2).f2) = a2
           ·rw [if_pos c15] at H
            have c15b0 : (((rd_T73 l3 x12_2).f2) == a2) = true := beq_iff_eq.mpr c15
            have c15b1 : (((rd_T73 l3 x12_2).f2) != a2) = false := bne_eq_false_iff_eq.mpr c15
            clear c15
            by_cases c16 : 0 ≤ x10_1
            ·rw [if_pos c16] at H
             have c16b0 : decide (0 ≤ x10_1) = true := decide_eq_true c16
             clear c16
             by_cases c17 : x10_1 < (l3.length : Int)
             ·rw [if_pos c17] at H
              have c17b0 : decide (x10_1 < (l3.length : Int)) = true := decide_eq_true c17
              clear c17
              by_cases c18 : (((rd_T73 l3 x12_2).f3.f0) == ((rd_T73 l3 x10_1).f3.f0) && (((rd_T73 l3 x12_2).f3.f1) == ((rd_T73 l3 x10_1).f3.f1) && (((rd_T73 l3 x12_2).f3.f2) == ((rd_T73 l3 x10_1).f3.f2) && (((rd_T73 l3 x12_2).f3.f3) == ((rd_T73 l3 x10_1).f3.f3))))) = true
              ·rw [if_pos c18] at H
               have c18k := am_ c18
               have c18b0 : (((rd_T73 l3 x12_2).f3.f0) == ((rd_T73 l3 x10_1).f3.f0) && (((rd_T73 l3 x12_2).f3.f1) == ((rd_T73 l3 x10_1).f3.f1) && (((rd_T73 l3 x12_2).f3.f2) == ((rd_T73 l3 x10_1).f3.f2) && (((rd_T73 l3 x12_2).f3.f3) == ((rd_T73 l3 x10_1).f3.f3))))) = true := c18k.out
               (try (have c18b1 : decide (((rd_T73 l3 x12_2).f3.f0) = ((rd_T73 l3 x10_1).f3.f0) && (((rd_T73 l3 x12_2).f3.f1) == ((rd_T73 l3 x10_1).f3.f1) && (((rd_T73 l3 x12_2).f3.f2) == ((rd_T73 l3 x10_1).f3.f2) && (((rd_T73 l3 x12_2).f3.f3) == ((rd_T73 l3 x10_1).f3.f3))))) = true := by simpa using c18k.out))
               (try (have c18b2 : (((rd_T73 l3 x12_2).f3.f0) == ((rd_T73 l3 x10_1).f3.f0) && (((rd_T73 l3 x12_2).f3.f1) == ((rd_T73 l3 x10_1).f3.f1) && (((rd_T73 l3 x12_2).f3.f2) == ((rd_T73 l3 x10_1).f3.f2) && (((rd_T73 l3 x12_2).f3.f3) == ((rd_T73 l3 x10_1).f3.f3))))) = true := by simpa using c18k.out))
               (try simp only [*,Bool.not_true,Bool.not_false,Bool.false_or,Bool.true_or,Bool.or_false,Bool.or_true,Bool.true_and,Bool.and_true,Bool.false_and,Bool.and_false] at c18)
               have c18bs := c18
               clear c18k
               clear c18
               replace H := Option.bind_eq_some_iff.mp H
               obtain ⟨t941,A190,H⟩ := H
               try dsimp only at H
               have A19 := am_ A190
               clear A190
               by_cases c20 : t941 = true
               ·subst c20
                have H1 : (spec_l11Count.l1 k2 a0 a1 a2 l3 x10_1 x11_2 (wrap64 (x12_2 + 1))) = some (r1,r2,r3,r4,r5) := by rw [if_pos rfl] at H;exact H
                clear H
                have H := H1
                clear H1
                have H' := am_ H
                clear H
                have p937 : 0 ≤ (x12_2 : Int) := zo_
                have q937 : x12_2 < (l3.length : Int) := zo_
                obtain ⟨ad937,e937,hx937_0,hx937_1,hx937_2,hx937_3,hx937_4,hx937_5,hx937_6,hx937_7⟩ := at_T73 HR3.out x12_2 p937 q937
                cases e937
                replace hx937_0 := zx_ HB hx937_0
                replace hx937_1 := zx_ HB hx937_1
                replace hx937_2 := zx_ HB hx937_2
                replace hx937_3 := zx_ HB hx937_3
                replace hx937_4 := zx_ HB hx937_4
                replace hx937_5 := zx_ HB hx937_5
                replace hx937_6 := zx_ HB hx937_6
                replace hx937_7 := zx_ HB hx937_7
                replace p937 := eq_true p937
                replace q937 := eq_true q937
                try go_wp2_with (first | ((with_reducible refine gate_dst (N := 13) rfl ?_);refine zbx (N := 13) (cs := #[.int .i64 0,.int .i64 0,.int .i64 0,.int .i64 0,.int .i64 0,.int .i64 0,.int .i64 0,.string ⟨#[]⟩]) (t := 73) ?_;intro gb938 hg w21 hbox hb;replace HO_11 := zrb HO_11 hb;have BK938 := am_ (hbox);have GW938 := zw_ HB hg;have GE938 := zw_ HB hg;replace HB := zs_ HB hb;have NB932_938 := zl hg BK932;have NB938_932 := zg hg BK932;replace BK932 := zb BK932 hb;clear hb hbox hg;have hnb22 := NB938_932.out;have hnc22 := NB932_938.out;obtain ⟨hcz23_0,hcz23_1,hcz23_2,hcz23_3,hcz23_4,hcz23_5,hcz23_6,hcz23_7,hfz23_0,hfz23_1,hfz23_2,hfz23_3,hfz23_4,hfz23_5,hfz23_6,hfz23_7⟩ := zc8 BK938))
                have n0_ : Aside0 (Kd.R (Kd.int .i64) 3 ((((((((w21.setCell ⟨gb938,0,none⟩ (.int .i64 ((rd_T73 l3 x12_2).f0))).setCell ⟨gb938,1,none⟩ (.int .i64 ((rd_T73 l3 x12_2).f1))).setCell ⟨gb938,2,none⟩ (.int .i64 ((rd_T73 l3 x12_2).f2))).setCell ⟨gb938,3,none⟩ (.int .i64 ((rd_T73 l3 x12_2).f3.f0))).setCell ⟨gb938,4,none⟩ (.int .i64 ((rd_T73 l3 x12_2).f3.f1))).setCell ⟨gb938,5,none⟩ (.int .i64 ((rd_T73 l3 x12_2).f3.f2))).setCell ⟨gb938,6,none⟩ (.int .i64 ((rd_T73 l3 x12_2).f3.f3))).setCell ⟨gb938,7,none⟩ (.string ((rd_T73 l3 x12_2).f4))) w.heap.size (fun _ => True) u11 x11_2) := ⟨by (with_reducible repeat (first | apply r1_ | apply r2_ | apply r3_));exact Kd.R_mono (zrf (Kd.R_types HO_11.out BK938.out (by decide))) (fun _ hk => trivial)⟩
                have n1_ : Aside0 (((((((((w21.setCell ⟨gb938,0,none⟩ (.int .i64 ((rd_T73 l3 x12_2).f0))).setCell ⟨gb938,1,none⟩ (.int .i64 ((rd_T73 l3 x12_2).f1))).setCell ⟨gb938,2,none⟩ (.int .i64 ((rd_T73 l3 x12_2).f2))).setCell ⟨gb938,3,none⟩ (.int .i64 ((rd_T73 l3 x12_2).f3.f0))).setCell ⟨gb938,4,none⟩ (.int .i64 ((rd_T73 l3 x12_2).f3.f1))).setCell ⟨gb938,5,none⟩ (.int .i64 ((rd_T73 l3 x12_2).f3.f2))).setCell ⟨gb938,6,none⟩ (.int .i64 ((rd_T73 l3 x12_2).f3.f3))).setCell ⟨gb938,7,none⟩ (.string ((rd_T73 l3 x12_2).f4))).heap[gb932]? = some (.cells #[.int .i64 x933000_1,.int .i64 x933001_1,.int .i64 x933002_1,.int .i64 x933003_1] 63 (0,0))) := ⟨zq BK932⟩
                have n2_ : Aside0 (((((((((w21.setCell ⟨gb938,0,none⟩ (.int .i64 ((rd_T73 l3 x12_2).f0))).setCell ⟨gb938,1,none⟩ (.int .i64 ((rd_T73 l3 x12_2).f1))).setCell ⟨gb938,2,none⟩ (.int .i64 ((rd_T73 l3 x12_2).f2))).setCell ⟨gb938,3,none⟩ (.int .i64 ((rd_T73 l3 x12_2).f3.f0))).setCell ⟨gb938,4,none⟩ (.int .i64 ((rd_T73 l3 x12_2).f3.f1))).setCell ⟨gb938,5,none⟩ (.int .i64 ((rd_T73 l3 x12_2).f3.f2))).setCell ⟨gb938,6,none⟩ (.int .i64 ((rd_T73 l3 x12_2).f3.f3))).setCell ⟨gb938,7,none⟩ (.string ((rd_T73 l3 x12_2).f4))).heap[gb938]? = some (.cells #[.int .i64 ((rd_T73 l3 x12_2).f0),.int .i64 ((rd_T73 l3 x12_2).f1),.int .i64 ((rd_T73 l3 x12_2).f2),.int .i64 ((rd_T73 l3 x12_2).f3.f0),.int .i64 ((rd_T73 l3 x12_2).f3.f1),.int .i64 ((rd_T73 l3 x12_2).f3.f2),.int .i64 ((rd_T73 l3 x12_2).f3.f3),.string ((rd_T73 l3 x12_2).f4)] 73 (0,0))) := ⟨zq BK938⟩
                have n3_ : Aside0 (Below w.heap.size w ((((((((w21.setCell ⟨gb938,0,none⟩ (.int .i64 ((rd_T73 l3 x12_2).f0))).setCell ⟨gb938,1,none⟩ (.int .i64 ((rd_T73 l3 x12_2).f1))).setCell ⟨gb938,2,none⟩ (.int .i64 ((rd_T73 l3 x12_2).f2))).setCell ⟨gb938,3,none⟩ (.int .i64 ((rd_T73 l3 x12_2).f3.f0))).setCell ⟨gb938,4,none⟩ (.int .i64 ((rd_T73 l3 x12_2).f3.f1))).setCell ⟨gb938,5,none⟩ (.int .i64 ((rd_T73 l3 x12_2).f3.f2))).setCell ⟨gb938,6,none⟩ (.int .i64 ((rd_T73 l3 x12_2).f3.f3))).setCell ⟨gb938,7,none⟩ (.string ((rd_T73 l3 x12_2).f4)))) := ⟨zl_ HB⟩
                (try clear HO_11)
                (try clear BK932)
                (try clear BK938)
                (try clear HB)
                generalize ((((((((w21.setCell ⟨gb938,0,none⟩ (.int .i64 ((rd_T73 l3 x12_2).f0))).setCell ⟨gb938,1,none⟩ (.int .i64 ((rd_T73 l3 x12_2).f1))).setCell ⟨gb938,2,none⟩ (.int .i64 ((rd_T73 l3 x12_2).f2))).setCell ⟨gb938,3,none⟩ (.int .i64 ((rd_T73 l3 x12_2).f3.f0))).setCell ⟨gb938,4,none⟩ (.int .i64 ((rd_T73 l3 x12_2).f3.f1))).setCell ⟨gb938,5,none⟩ (.int .i64 ((rd_T73 l3 x12_2).f3.f2))).setCell ⟨gb938,6,none⟩ (.int .i64 ((rd_T73 l3 x12_2).f3.f3))).setCell ⟨gb938,7,none⟩ (.string ((rd_T73 l3 x12_2).f4))) = w24 at n0_ n1_ n2_ n3_ ⊢
                have HO_11 := n0_
                have BK932 := n1_
                have BK938 := n2_
                have HB := n3_
                clear n0_ n1_ n2_ n3_
                replace HO_11 := am_ (Kd.R_drew HO_11.out)
                replace BK932 := am_ (blk_drew BK932.out)
                replace BK938 := am_ (blk_drew BK938.out)
                replace HB := am_ (below_drew1 HB.out)
                have p940 : 0 ≤ (x10_1 : Int) := zo_
                have q940 : x10_1 < (l3.length : Int) := zo_
                obtain ⟨ad940,e940,hx940_0,hx940_1,hx940_2,hx940_3,hx940_4,hx940_5,hx940_6,hx940_7⟩ := at_T73 HR3.out x10_1 p940 q940
                have hw940_7 := hx940_7
                have hw940_6 := hx940_6
                have hw940_5 := hx940_5
                have hw940_4 := hx940_4
                have hw940_3 := hx940_3
                have hw940_2 := hx940_2
                have hw940_1 := hx940_1
                have hw940_0 := hx940_0
                obtain rfl : ad937 = ad940 := (by injection e940)
                replace hx940_0 := zx_ HB hx940_0
                replace hx940_1 := zx_ HB hx940_1
                replace hx940_2 := zx_ HB hx940_2
                replace hx940_3 := zx_ HB hx940_3
                replace hx940_4 := zx_ HB hx940_4
                replace hx940_5 := zx_ HB hx940_5
                replace hx940_6 := zx_ HB hx940_6
                replace hx940_7 := zx_ HB hx940_7
                replace p940 := eq_true p940
                replace q940 := eq_true q940
                refine start_ (n := 32) (S := fun w' => w'.cell? ⟨gb938,0,none⟩ = some (.int .i64 ((rd_T73 l3 x12_2).f0)) ∧ w'.cell? ⟨gb938,1,none⟩ = some (.int .i64 ((rd_T73 l3 x12_2).f1)) ∧ w'.cell? ⟨gb938,2,none⟩ = some (.int .i64 ((rd_T73 l3 x12_2).f2)) ∧ w'.cell? ⟨gb938,3,none⟩ = some (.int .i64 ((rd_T73 l3 x12_2).f3.f0)) ∧ w'.cell? ⟨gb938,4,none⟩ = some (.int .i64 ((rd_T73 l3 x12_2).f3.f1)) ∧ w'.cell? ⟨gb938,5,none⟩ = some (.int .i64 ((rd_T73 l3 x12_2).f3.f2)) ∧ w'.cell? ⟨gb938,6,none⟩ = some (.int .i64 ((rd_T73 l3 x12_2).f3.f3)) ∧ w'.cell? ⟨gb938,7,none⟩ = some (.string ((rd_T73 l3 x12_2).f4)) ∧ w'.cell? (ad937.add ((x10_1).toNat * 8)) = some (.int .i64 ((rd_T73 l3 x10_1).f0)) ∧ w'.cell? ⟨(ad937.add ((x10_1).toNat * 8)).block,(ad937.add ((x10_1).toNat * 8)).off + 1,none⟩ = some (.int .i64 ((rd_T73 l3 x10_1).f1)) ∧ w'.cell? ⟨(ad937.add ((x10_1).toNat * 8)).block,(ad937.add ((x10_1).toNat * 8)).off + 2,none⟩ = some (.int .i64 ((rd_T73 l3 x10_1).f2)) ∧ w'.cell? ⟨(ad937.add ((x10_1).toNat * 8)).block,(ad937.add ((x10_1).toNat * 8)).off + 3,none⟩ = some (.int .i64 ((rd_T73 l3 x10_1).f3.f0)) ∧ w'.cell? ⟨(ad937.add ((x10_1).toNat * 8)).block,(ad937.add ((x10_1).toNat * 8)).off + 4,none⟩ = some (.int .i64 ((rd_T73 l3 x10_1).f3.f1)) ∧ w'.cell? ⟨(ad937.add ((x10_1).toNat * 8)).block,(ad937.add ((x10_1).toNat * 8)).off + 5,none⟩ = some (.int .i64 ((rd_T73 l3 x10_1).f3.f2)) ∧ w'.cell? ⟨(ad937.add ((x10_1).toNat * 8)).block,(ad937.add ((x10_1).toNat * 8)).off + 6,none⟩ = some (.int .i64 ((rd_T73 l3 x10_1).f3.f3)) ∧ w'.cell? ⟨(ad937.add ((x10_1).toNat * 8)).block,(ad937.add ((x10_1).toNat * 8)).off + 7,none⟩ = some (.string ((rd_T73 l3 x10_1).f4))) (ds := []) #[false,false,false,false,false,false,false,false,false,false,false,false,false,false,false,false,false,false,false,false,false,false,false,false,false,false,false,false,false,false,false,false] (by kernel_rfl) rfl rfl ⟨(blk_cell BK938.out 0).trans rfl,(blk_cell BK938.out 1).trans rfl,(blk_cell BK938.out 2).trans rfl,(blk_cell BK938.out 3).trans rfl,(blk_cell BK938.out 4).trans rfl,(blk_cell BK938.out 5).trans rfl,(blk_cell BK938.out 6).trans rfl,(blk_cell BK938.out 7).trans rfl,(zx_ HB hw940_0),(zx_ HB hw940_1),(zx_ HB hw940_2),(zx_ HB hw940_3),(zx_ HB hw940_4),(zx_ HB hw940_5),(zx_ HB hw940_6),(zx_ HB hw940_7)⟩ (fun hHeld => ?_);refine with_tabW spec_l11Count.tab9 spec_l11Count.bits9 (fun HT_ HW_ => ?_)
                generalize w24.drew = w25 at HO_11 BK932 BK938 HB hx940_0 hx940_1 hx940_2 hx940_3 hx940_4 hx940_5 hx940_6 hx940_7 hHeld ⊢
                refine zpu 0 (N := some 30) HT_ ?_
                refine ztk 1 (N := some 31) HT_ HW_ hHeld ?_
                refine zon 2 (N := some 32) HT_ (fun K hK => ?_)
                refine zgo Tryd.func97 #[.int .i64 a0,.agg #[.int .i64 ((rd_T73 l3 x12_2).f0),.int .i64 ((rd_T73 l3 x12_2).f1),.int .i64 ((rd_T73 l3 x12_2).f2),.int .i64 ((rd_T73 l3 x12_2).f3.f0),.int .i64 ((rd_T73 l3 x12_2).f3.f1),.int .i64 ((rd_T73 l3 x12_2).f3.f2),.int .i64 ((rd_T73 l3 x12_2).f3.f3),.string ((rd_T73 l3 x12_2).f4)]] ?_
                with_reducible refine (spec_l11OK.calls k2 a0 ((rd_T73 l3 x12_2).f0) ((rd_T73 l3 x12_2).f1) ((rd_T73 l3 x12_2).f2) ((rd_T73 l3 x12_2).f3.f0) ((rd_T73 l3 x12_2).f3.f1) ((rd_T73 l3 x12_2).f3.f2) ((rd_T73 l3 x12_2).f3.f3) ((rd_T73 l3 x12_2).f4) true _ A12.out).mono ?_
                rintro e w26 ⟨rfl,hb⟩
                refine ⟨_,rfl,?_⟩
                replace HO_11 := zrb HO_11 hb
                replace BK932 := zb BK932 hb
                replace BK938 := zb BK938 hb
                replace HB := zs_ HB hb
                (try clear hb)
                (try clear hb2)
                (try clear hk)
                (try clear hi)
                obtain ⟨Ao27,co27,eo27⟩ := Kd.R_slice HO_11.out
                (first | subst eo27 | (injection eo27 with f1_ f2_ f3_;have f4_ := f1_.symm;have f5_ := f3_.symm;clear f1_ f2_ f3_;subst f4_;subst f5_))
                refine hK.out _ _ ⟨(blk_cell BK938.out 0).trans rfl,(blk_cell BK938.out 1).trans rfl,(blk_cell BK938.out 2).trans rfl,(blk_cell BK938.out 3).trans rfl,(blk_cell BK938.out 4).trans rfl,(blk_cell BK938.out 5).trans rfl,(blk_cell BK938.out 6).trans rfl,(blk_cell BK938.out 7).trans rfl,(zx_ HB hw940_0),(zx_ HB hw940_1),(zx_ HB hw940_2),(zx_ HB hw940_3),(zx_ HB hw940_4),(zx_ HB hw940_5),(zx_ HB hw940_6),(zx_ HB hw940_7)⟩ (fun hHeld => ?_)
                clear hK K
                refine norm_ (a' := ?_) ?_ ?_
                rotate_left
                ·show Act.put _ (some 32) _ = _
                 simp only [Act.put,p1_,p2_,p3_,i64_w,i32_w]
                 rfl
                refine zpu 3 (N := some 33) HT_ ?_
                refine zpu 4 (N := some 34) HT_ ?_
                refine zpu 6 (N := some 36) HT_ ?_
                refine ztk 5 (N := some 35) HT_ HW_ hHeld ?_
                refine zpu 7 (N := some 37) HT_ ?_
                refine zpu 8 (N := some 38) HT_ ?_
                refine zpu 9 (N := some 39) HT_ ?_
                refine zpu 10 (N := some 40) HT_ ?_
                refine zpu 12 (N := some 42) HT_ ?_
                refine ztk 11 (N := some 41) HT_ HW_ hHeld ?_
                refine zpu 13 (N := some 43) HT_ ?_
                refine zpu 14 (N := some 44) HT_ ?_
                refine zpu 15 (N := some 45) HT_ ?_
                refine zpu 16 (N := some 46) HT_ ?_
                refine zpu 18 (N := some 48) HT_ ?_
                refine zpu 19 (N := some 49) HT_ ?_
                refine zpu 20 (N := some 50) HT_ ?_
                refine zpu 21 (N := some 51) HT_ ?_
                refine ztk 17 (N := some 47) HT_ HW_ hHeld ?_
                refine ztk 22 (N := some 52) HT_ HW_ hHeld ?_
                refine zpu 23 (N := some 53) HT_ ?_
                refine zpu 24 (N := some 54) HT_ ?_
                refine zpu 25 (N := some 55) HT_ ?_
                refine zpu 26 (N := some 56) HT_ ?_
                refine zpu 27 (N := some 57) HT_ ?_
                refine ztk 28 (N := some 58) HT_ HW_ hHeld ?_
                refine zon 29 (N := some 59) HT_ (fun K hK => ?_)
                refine zgo Tryd.func138 #[.slice Ao27 x11_2.length co27,.int .i64 ((rd_T73 l3 x12_2).f0)] ?_
                with_reducible refine (spec_l08Has.calls k2 _ _ x11_2 ((rd_T73 l3 x12_2).f0) true _ ?side1 ?side2 A19.out).mono ?_
                (case side1 => repeat (first | exact (Kd.R_reads' HO_11.out).2.2 | (with_reducible refine Kd.C_alloc ?_ _) | (with_reducible refine Kd.C_drewN ?_ _) | (with_reducible refine Kd.C_drew ?_)))
                (case side2 => exact (Kd.R_reads' HO_11.out).2.1)
                rintro e w' ⟨rfl,⟨nd,rfl⟩⟩
                refine ⟨_,rfl,?_⟩
                refine hK.out _ _ ⟨(blk_cell BK938.out 0).trans rfl,(blk_cell BK938.out 1).trans rfl,(blk_cell BK938.out 2).trans rfl,(blk_cell BK938.out 3).trans rfl,(blk_cell BK938.out 4).trans rfl,(blk_cell BK938.out 5).trans rfl,(blk_cell BK938.out 6).trans rfl,(blk_cell BK938.out 7).trans rfl,(zx_ ⟨pw_below_drewN HB.out nd⟩ hw940_0),(zx_ ⟨pw_below_drewN HB.out nd⟩ hw940_1),(zx_ ⟨pw_below_drewN HB.out nd⟩ hw940_2),(zx_ ⟨pw_below_drewN HB.out nd⟩ hw940_3),(zx_ ⟨pw_below_drewN HB.out nd⟩ hw940_4),(zx_ ⟨pw_below_drewN HB.out nd⟩ hw940_5),(zx_ ⟨pw_below_drewN HB.out nd⟩ hw940_6),(zx_ ⟨pw_below_drewN HB.out nd⟩ hw940_7)⟩ (fun hHeld => ?_)
                clear hK K
                refine norm_ (a' := ?_) ?_ ?_
                rotate_left
                ·show Act.put _ (some 59) _ = _
                 simp only [Act.put,p1_,p2_,p3_,i64_w,i32_w]
                 rfl
                refine zpu 30 (N := some 60) HT_ ?_
                refine zpu 31 (N := some 61) HT_ ?_
                refine done_ (done_of HT_.out (by kernel_rfl)) ?_
                try go_wp2
                go_roundg k2
                case measure => have := HK1.out;have := HK2.out;omega
                case rel => exact ⟨(x11_2),(wrap64 (x12_2 + 1)),(by first | rfl | (simp;done) | (simp [*];done)),H',⟨by have := HK1.out;have := HK2.out;omega⟩,⟨zr HO_11⟩,⟨by (with_reducible repeat (first | apply k1_ | apply k2_ | apply k3_));exact BK932.out⟩,⟨zl_ HB⟩⟩
               ·replace c20 := Bool.eq_false_iff.mpr c20
                subst c20
                have H1 : (if x11_2.length < 17592186044416 then (spec_l11Count.l1 k2 a0 a1 a2 l3 x10_1 (x11_2 ++ [(rd_T73 l3 x12_2).f0]) (wrap64 (x12_2 + 1))) else (none)) = some (r1,r2,r3,r4,r5) := by rw [if_neg (show ¬ (false = true) by decide)] at H;exact H
                clear H
                have H := H1
                clear H1
                by_cases c28 : x11_2.length < 17592186044416
                ·rw [if_pos c28] at H
                 have LMc28 := am_ c28
                 clear c28
                 obtain ⟨y942,hy942⟩ : ∃ y_ : List Int,y_ = (x11_2 ++ [(rd_T73 l3 x12_2).f0]) := ⟨_,rfl⟩
                 replace H : (spec_l11Count.l1 k2 a0 a1 a2 l3 x10_1 y942 (wrap64 (x12_2 + 1))) = some (r1,r2,r3,r4,r5) := by first | (rw [hy942];with_reducible exact H) | (have H2_ := (Option.bind_some _ _).symm.trans H;rw [hy942];with_reducible exact H2_) | (have H2_ := (Option.bind_some _ _).symm.trans H;with_reducible exact H2_) | with_reducible exact H | (rw [hy942];exact H) | exact H
                 have Ny942 := am_ hy942
                 clear hy942
                 have H' := am_ H
                 clear H
                 have p937 : 0 ≤ (x12_2 : Int) := zo_
                 have q937 : x12_2 < (l3.length : Int) := zo_
                 obtain ⟨ad937,e937,hx937_0,hx937_1,hx937_2,hx937_3,hx937_4,hx937_5,hx937_6,hx937_7⟩ := at_T73 HR3.out x12_2 p937 q937
                 cases e937
                 replace hx937_0 := zx_ HB hx937_0
                 replace hx937_1 := zx_ HB hx937_1
                 replace hx937_2 := zx_ HB hx937_2
                 replace hx937_3 := zx_ HB hx937_3
                 replace hx937_4 := zx_ HB hx937_4
                 replace hx937_5 := zx_ HB hx937_5
                 replace hx937_6 := zx_ HB hx937_6
                 replace hx937_7 := zx_ HB hx937_7
                 replace p937 := eq_true p937
                 replace q937 := eq_true q937
                 try go_wp2_with (first | ((with_reducible refine gate_dst (N := 13) rfl ?_);refine zbx (N := 13) (cs := #[.int .i64 0,.int .i64 0,.int .i64 0,.int .i64 0,.int .i64 0,.int .i64 0,.int .i64 0,.string ⟨#[]⟩]) (t := 73) ?_;intro gb938 hg w29 hbox hb;replace HO_11 := zrb HO_11 hb;have BK938 := am_ (hbox);have GW938 := zw_ HB hg;have GE938 := zw_ HB hg;replace HB := zs_ HB hb;have NB932_938 := zl hg BK932;have NB938_932 := zg hg BK932;replace BK932 := zb BK932 hb;clear hb hbox hg;have hnb30 := NB938_932.out;have hnc30 := NB932_938.out;obtain ⟨hcz31_0,hcz31_1,hcz31_2,hcz31_3,hcz31_4,hcz31_5,hcz31_6,hcz31_7,hfz31_0,hfz31_1,hfz31_2,hfz31_3,hfz31_4,hfz31_5,hfz31_6,hfz31_7⟩ := zc8 BK938))
                 have n0_ : Aside0 (Kd.R (Kd.int .i64) 3 ((((((((w29.setCell ⟨gb938,0,none⟩ (.int .i64 ((rd_T73 l3 x12_2).f0))).setCell ⟨gb938,1,none⟩ (.int .i64 ((rd_T73 l3 x12_2).f1))).setCell ⟨gb938,2,none⟩ (.int .i64 ((rd_T73 l3 x12_2).f2))).setCell ⟨gb938,3,none⟩ (.int .i64 ((rd_T73 l3 x12_2).f3.f0))).setCell ⟨gb938,4,none⟩ (.int .i64 ((rd_T73 l3 x12_2).f3.f1))).setCell ⟨gb938,5,none⟩ (.int .i64 ((rd_T73 l3 x12_2).f3.f2))).setCell ⟨gb938,6,none⟩ (.int .i64 ((rd_T73 l3 x12_2).f3.f3))).setCell ⟨gb938,7,none⟩ (.string ((rd_T73 l3 x12_2).f4))) w.heap.size (fun _ => True) u11 x11_2) := ⟨by (with_reducible repeat (first | apply r1_ | apply r2_ | apply r3_));exact Kd.R_mono (zrf (Kd.R_types HO_11.out BK938.out (by decide))) (fun _ hk => trivial)⟩
                 have n1_ : Aside0 (((((((((w29.setCell ⟨gb938,0,none⟩ (.int .i64 ((rd_T73 l3 x12_2).f0))).setCell ⟨gb938,1,none⟩ (.int .i64 ((rd_T73 l3 x12_2).f1))).setCell ⟨gb938,2,none⟩ (.int .i64 ((rd_T73 l3 x12_2).f2))).setCell ⟨gb938,3,none⟩ (.int .i64 ((rd_T73 l3 x12_2).f3.f0))).setCell ⟨gb938,4,none⟩ (.int .i64 ((rd_T73 l3 x12_2).f3.f1))).setCell ⟨gb938,5,none⟩ (.int .i64 ((rd_T73 l3 x12_2).f3.f2))).setCell ⟨gb938,6,none⟩ (.int .i64 ((rd_T73 l3 x12_2).f3.f3))).setCell ⟨gb938,7,none⟩ (.string ((rd_T73 l3 x12_2).f4))).heap[gb932]? = some (.cells #[.int .i64 x933000_1,.int .i64 x933001_1,.int .i64 x933002_1,.int .i64 x933003_1] 63 (0,0))) := ⟨zq BK932⟩
                 have n2_ : Aside0 (((((((((w29.setCell ⟨gb938,0,none⟩ (.int .i64 ((rd_T73 l3 x12_2).f0))).setCell ⟨gb938,1,none⟩ (.int .i64 ((rd_T73 l3 x12_2).f1))).setCell ⟨gb938,2,none⟩ (.int .i64 ((rd_T73 l3 x12_2).f2))).setCell ⟨gb938,3,none⟩ (.int .i64 ((rd_T73 l3 x12_2).f3.f0))).setCell ⟨gb938,4,none⟩ (.int .i64 ((rd_T73 l3 x12_2).f3.f1))).setCell ⟨gb938,5,none⟩ (.int .i64 ((rd_T73 l3 x12_2).f3.f2))).setCell ⟨gb938,6,none⟩ (.int .i64 ((rd_T73 l3 x12_2).f3.f3))).setCell ⟨gb938,7,none⟩ (.string ((rd_T73 l3 x12_2).f4))).heap[gb938]? = some (.cells #[.int .i64 ((rd_T73 l3 x12_2).f0),.int .i64 ((rd_T73 l3 x12_2).f1),.int .i64 ((rd_T73 l3 x12_2).f2),.int .i64 ((rd_T73 l3 x12_2).f3.f0),.int .i64 ((rd_T73 l3 x12_2).f3.f1),.int .i64 ((rd_T73 l3 x12_2).f3.f2),.int .i64 ((rd_T73 l3 x12_2).f3.f3),.string ((rd_T73 l3 x12_2).f4)] 73 (0,0))) := ⟨zq BK938⟩
                 have n3_ : Aside0 (Below w.heap.size w ((((((((w29.setCell ⟨gb938,0,none⟩ (.int .i64 ((rd_T73 l3 x12_2).f0))).setCell ⟨gb938,1,none⟩ (.int .i64 ((rd_T73 l3 x12_2).f1))).setCell ⟨gb938,2,none⟩ (.int .i64 ((rd_T73 l3 x12_2).f2))).setCell ⟨gb938,3,none⟩ (.int .i64 ((rd_T73 l3 x12_2).f3.f0))).setCell ⟨gb938,4,none⟩ (.int .i64 ((rd_T73 l3 x12_2).f3.f1))).setCell ⟨gb938,5,none⟩ (.int .i64 ((rd_T73 l3 x12_2).f3.f2))).setCell ⟨gb938,6,none⟩ (.int .i64 ((rd_T73 l3 x12_2).f3.f3))).setCell ⟨gb938,7,none⟩ (.string ((rd_T73 l3 x12_2).f4)))) := ⟨zl_ HB⟩
                 (try clear HO_11)
                 (try clear BK932)
                 (try clear BK938)
                 (try clear HB)
                 generalize ((((((((w29.setCell ⟨gb938,0,none⟩ (.int .i64 ((rd_T73 l3 x12_2).f0))).setCell ⟨gb938,1,none⟩ (.int .i64 ((rd_T73 l3 x12_2).f1))).setCell ⟨gb938,2,none⟩ (.int .i64 ((rd_T73 l3 x12_2).f2))).setCell ⟨gb938,3,none⟩ (.int .i64 ((rd_T73 l3 x12_2).f3.f0))).setCell ⟨gb938,4,none⟩ (.int .i64 ((rd_T73 l3 x12_2).f3.f1))).setCell ⟨gb938,5,none⟩ (.int .i64 ((rd_T73 l3 x12_2).f3.f2))).setCell ⟨gb938,6,none⟩ (.int .i64 ((rd_T73 l3 x12_2).f3.f3))).setCell ⟨gb938,7,none⟩ (.string ((rd_T73 l3 x12_2).f4))) = w32 at n0_ n1_ n2_ n3_ ⊢
                 have HO_11 := n0_
                 have BK932 := n1_
                 have BK938 := n2_
                 have HB := n3_
                 clear n0_ n1_ n2_ n3_
                 replace HO_11 := am_ (Kd.R_drew HO_11.out)
                 replace BK932 := am_ (blk_drew BK932.out)
                 replace BK938 := am_ (blk_drew BK938.out)
                 replace HB := am_ (below_drew1 HB.out)
                 have p940 : 0 ≤ (x10_1 : Int) := zo_
                 have q940 : x10_1 < (l3.length : Int) := zo_
                 obtain ⟨ad940,e940,hx940_0,hx940_1,hx940_2,hx940_3,hx940_4,hx940_5,hx940_6,hx940_7⟩ := at_T73 HR3.out x10_1 p940 q940
                 have hw940_7 := hx940_7
                 have hw940_6 := hx940_6
                 have hw940_5 := hx940_5
                 have hw940_4 := hx940_4
                 have hw940_3 := hx940_3
                 have hw940_2 := hx940_2
                 have hw940_1 := hx940_1
                 have hw940_0 := hx940_0
                 obtain rfl : ad937 = ad940 := (by injection e940)
                 replace hx940_0 := zx_ HB hx940_0
                 replace hx940_1 := zx_ HB hx940_1
                 replace hx940_2 := zx_ HB hx940_2
                 replace hx940_3 := zx_ HB hx940_3
                 replace hx940_4 := zx_ HB hx940_4
                 replace hx940_5 := zx_ HB hx940_5
                 replace hx940_6 := zx_ HB hx940_6
                 replace hx940_7 := zx_ HB hx940_7
                 replace p940 := eq_true p940
                 replace q940 := eq_true q940
                 refine start_ (n := 32) (S := fun w' => w'.cell? ⟨gb938,0,none⟩ = some (.int .i64 ((rd_T73 l3 x12_2).f0)) ∧ w'.cell? ⟨gb938,1,none⟩ = some (.int .i64 ((rd_T73 l3 x12_2).f1)) ∧ w'.cell? ⟨gb938,2,none⟩ = some (.int .i64 ((rd_T73 l3 x12_2).f2)) ∧ w'.cell? ⟨gb938,3,none⟩ = some (.int .i64 ((rd_T73 l3 x12_2).f3.f0)) ∧ w'.cell? ⟨gb938,4,none⟩ = some (.int .i64 ((rd_T73 l3 x12_2).f3.f1)) ∧ w'.cell? ⟨gb938,5,none⟩ = some (.int .i64 ((rd_T73 l3 x12_2).f3.f2)) ∧ w'.cell? ⟨gb938,6,none⟩ = some (.int .i64 ((rd_T73 l3 x12_2).f3.f3)) ∧ w'.cell? ⟨gb938,7,none⟩ = some (.string ((rd_T73 l3 x12_2).f4)) ∧ w'.cell? (ad937.add ((x10_1).toNat * 8)) = some (.int .i64 ((rd_T73 l3 x10_1).f0)) ∧ w'.cell? ⟨(ad937.add ((x10_1).toNat * 8)).block,(ad937.add ((x10_1).toNat * 8)).off + 1,none⟩ = some (.int .i64 ((rd_T73 l3 x10_1).f1)) ∧ w'.cell? ⟨(ad937.add ((x10_1).toNat * 8)).block,(ad937.add ((x10_1).toNat * 8)).off + 2,none⟩ = some (.int .i64 ((rd_T73 l3 x10_1).f2)) ∧ w'.cell? ⟨(ad937.add ((x10_1).toNat * 8)).block,(ad937.add ((x10_1).toNat * 8)).off + 3,none⟩ = some (.int .i64 ((rd_T73 l3 x10_1).f3.f0)) ∧ w'.cell? ⟨(ad937.add ((x10_1).toNat * 8)).block,(ad937.add ((x10_1).toNat * 8)).off + 4,none⟩ = some (.int .i64 ((rd_T73 l3 x10_1).f3.f1)) ∧ w'.cell? ⟨(ad937.add ((x10_1).toNat * 8)).block,(ad937.add ((x10_1).toNat * 8)).off + 5,none⟩ = some (.int .i64 ((rd_T73 l3 x10_1).f3.f2)) ∧ w'.cell? ⟨(ad937.add ((x10_1).toNat * 8)).block,(ad937.add ((x10_1).toNat * 8)).off + 6,none⟩ = some (.int .i64 ((rd_T73 l3 x10_1).f3.f3)) ∧ w'.cell? ⟨(ad937.add ((x10_1).toNat * 8)).block,(ad937.add ((x10_1).toNat * 8)).off + 7,none⟩ = some (.string ((rd_T73 l3 x10_1).f4))) (ds := []) #[false,false,false,false,false,false,false,false,false,false,false,false,false,false,false,false,false,false,false,false,false,false,false,false,false,false,false,false,false,false,false,false] (by kernel_rfl) rfl rfl ⟨(blk_cell BK938.out 0).trans rfl,(blk_cell BK938.out 1).trans rfl,(blk_cell BK938.out 2).trans rfl,(blk_cell BK938.out 3).trans rfl,(blk_cell BK938.out 4).trans rfl,(blk_cell BK938.out 5).trans rfl,(blk_cell BK938.out 6).trans rfl,(blk_cell BK938.out 7).trans rfl,(zx_ HB hw940_0),(zx_ HB hw940_1),(zx_ HB hw940_2),(zx_ HB hw940_3),(zx_ HB hw940_4),(zx_ HB hw940_5),(zx_ HB hw940_6),(zx_ HB hw940_7)⟩ (fun hHeld => ?_);refine with_tabW spec_l11Count.tab9 spec_l11Count.bits9 (fun HT_ HW_ => ?_)
                 generalize w32.drew = w33 at HO_11 BK932 BK938 HB hx940_0 hx940_1 hx940_2 hx940_3 hx940_4 hx940_5 hx940_6 hx940_7 hHeld ⊢
                 refine zpu 0 (N := some 30) HT_ ?_
                 refine ztk 1 (N := some 31) HT_ HW_ hHeld ?_
                 refine zon 2 (N := some 32) HT_ (fun K hK => ?_)
                 refine zgo Tryd.func97 #[.int .i64 a0,.agg #[.int .i64 ((rd_T73 l3 x12_2).f0),.int .i64 ((rd_T73 l3 x12_2).f1),.int .i64 ((rd_T73 l3 x12_2).f2),.int .i64 ((rd_T73 l3 x12_2).f3.f0),.int .i64 ((rd_T73 l3 x12_2).f3.f1),.int .i64 ((rd_T73 l3 x12_2).f3.f2),.int .i64 ((rd_T73 l3 x12_2).f3.f3),.string ((rd_T73 l3 x12_2).f4)]] ?_
                 with_reducible refine (spec_l11OK.calls k2 a0 ((rd_T73 l3 x12_2).f0) ((rd_T73 l3 x12_2).f1) ((rd_T73 l3 x12_2).f2) ((rd_T73 l3 x12_2).f3.f0) ((rd_T73 l3 x12_2).f3.f1) ((rd_T73 l3 x12_2).f3.f2) ((rd_T73 l3 x12_2).f3.f3) ((rd_T73 l3 x12_2).f4) true _ A12.out).mono ?_
                 rintro e w34 ⟨rfl,hb⟩
                 refine ⟨_,rfl,?_⟩
                 replace HO_11 := zrb HO_11 hb
                 replace BK932 := zb BK932 hb
                 replace BK938 := zb BK938 hb
                 replace HB := zs_ HB hb
                 (try clear hb)
                 (try clear hb2)
                 (try clear hk)
                 (try clear hi)
                 obtain ⟨Ao35,co35,eo35⟩ := Kd.R_slice HO_11.out
                 (first | subst eo35 | (injection eo35 with f1_ f2_ f3_;have f4_ := f1_.symm;have f5_ := f3_.symm;clear f1_ f2_ f3_;subst f4_;subst f5_))
                 refine hK.out _ _ ⟨(blk_cell BK938.out 0).trans rfl,(blk_cell BK938.out 1).trans rfl,(blk_cell BK938.out 2).trans rfl,(blk_cell BK938.out 3).trans rfl,(blk_cell BK938.out 4).trans rfl,(blk_cell BK938.out 5).trans rfl,(blk_cell BK938.out 6).trans rfl,(blk_cell BK938.out 7).trans rfl,(zx_ HB hw940_0),(zx_ HB hw940_1),(zx_ HB hw940_2),(zx_ HB hw940_3),(zx_ HB hw940_4),(zx_ HB hw940_5),(zx_ HB hw940_6),(zx_ HB hw940_7)⟩ (fun hHeld => ?_)
                 clear hK K
                 refine norm_ (a' := ?_) ?_ ?_
                 rotate_left
                 ·show Act.put _ (some 32) _ = _
                  simp only [Act.put,p1_,p2_,p3_,i64_w,i32_w]
                  rfl
                 refine zpu 3 (N := some 33) HT_ ?_
                 refine zpu 4 (N := some 34) HT_ ?_
                 refine zpu 6 (N := some 36) HT_ ?_
                 refine ztk 5 (N := some 35) HT_ HW_ hHeld ?_
                 refine zpu 7 (N := some 37) HT_ ?_
                 refine zpu 8 (N := some 38) HT_ ?_
                 refine zpu 9 (N := some 39) HT_ ?_
                 refine zpu 10 (N := some 40) HT_ ?_
                 refine zpu 12 (N := some 42) HT_ ?_
                 refine ztk 11 (N := some 41) HT_ HW_ hHeld ?_
                 refine zpu 13 (N := some 43) HT_ ?_
                 refine zpu 14 (N := some 44) HT_ ?_
                 refine zpu 15 (N := some 45) HT_ ?_
                 refine zpu 16 (N := some 46) HT_ ?_
                 refine zpu 18 (N := some 48) HT_ ?_
                 refine zpu 19 (N := some 49) HT_ ?_
                 refine zpu 20 (N := some 50) HT_ ?_
                 refine zpu 21 (N := some 51) HT_ ?_
                 refine ztk 17 (N := some 47) HT_ HW_ hHeld ?_
                 refine ztk 22 (N := some 52) HT_ HW_ hHeld ?_
                 refine zpu 23 (N := some 53) HT_ ?_
                 refine zpu 24 (N := some 54) HT_ ?_
                 refine zpu 25 (N := some 55) HT_ ?_
                 refine zpu 26 (N := some 56) HT_ ?_
                 refine zpu 27 (N := some 57) HT_ ?_
                 refine ztk 28 (N := some 58) HT_ HW_ hHeld ?_
                 refine zon 29 (N := some 59) HT_ (fun K hK => ?_)
                 refine zgo Tryd.func138 #[.slice Ao35 x11_2.length co35,.int .i64 ((rd_T73 l3 x12_2).f0)] ?_
                 with_reducible refine (spec_l08Has.calls k2 _ _ x11_2 ((rd_T73 l3 x12_2).f0) false _ ?side1 ?side2 A19.out).mono ?_
                 (case side1 => repeat (first | exact (Kd.R_reads' HO_11.out).2.2 | (with_reducible refine Kd.C_alloc ?_ _) | (with_reducible refine Kd.C_drewN ?_ _) | (with_reducible refine Kd.C_drew ?_)))
                 (case side2 => exact (Kd.R_reads' HO_11.out).2.1)
                 rintro e w' ⟨rfl,⟨nd,rfl⟩⟩
                 refine ⟨_,rfl,?_⟩
                 refine hK.out _ _ ⟨(blk_cell BK938.out 0).trans rfl,(blk_cell BK938.out 1).trans rfl,(blk_cell BK938.out 2).trans rfl,(blk_cell BK938.out 3).trans rfl,(blk_cell BK938.out 4).trans rfl,(blk_cell BK938.out 5).trans rfl,(blk_cell BK938.out 6).trans rfl,(blk_cell BK938.out 7).trans rfl,(zx_ ⟨pw_below_drewN HB.out nd⟩ hw940_0),(zx_ ⟨pw_below_drewN HB.out nd⟩ hw940_1),(zx_ ⟨pw_below_drewN HB.out nd⟩ hw940_2),(zx_ ⟨pw_below_drewN HB.out nd⟩ hw940_3),(zx_ ⟨pw_below_drewN HB.out nd⟩ hw940_4),(zx_ ⟨pw_below_drewN HB.out nd⟩ hw940_5),(zx_ ⟨pw_below_drewN HB.out nd⟩ hw940_6),(zx_ ⟨pw_below_drewN HB.out nd⟩ hw940_7)⟩ (fun hHeld => ?_)
                 clear hK K
                 refine norm_ (a' := ?_) ?_ ?_
                 rotate_left
                 ·show Act.put _ (some 59) _ = _
                  simp only [Act.put,p1_,p2_,p3_,i64_w,i32_w]
                  rfl
                 refine zpu 30 (N := some 60) HT_ ?_
                 refine zpu 31 (N := some 61) HT_ ?_
                 refine done_ (done_of HT_.out (by kernel_rfl)) ?_
                 obtain ⟨hcz36_0,hcz36_1,hcz36_2,hcz36_3,hcz36_4,hcz36_5,hcz36_6,hcz36_7,hfz36_0,hfz36_1,hfz36_2,hfz36_3,hfz36_4,hfz36_5,hfz36_6,hfz36_7⟩ := zc8 BK938
                 try go_wp2_with (first | ((with_reducible refine gate_builtin (b := .append) (xs := #[.tmp 62,.tmp 65]) rfl ?_);at_builtin;refine Kd.R_append (Kd.int .i64) (w0 := w) w.heap.size rfl (.tmp 62) (.tmp 65) 24 3 (.int .i64 0) 8 rfl Tryd.underlying24 info3 rfl (by decide) (by omega) (.slice Ao35 x11_2.length co35) x11_2 ((rd_T73 l3 x12_2).f0) [.int .i64 ((rd_T73 l3 x12_2).f0)] (fun _ => True) (fun _ => False) rfl rfl ?aP (fun _ hk => hk.elim) ?aF ?aO ?aB ?aS ?aL ?_;(case aP => exact rfl);(case aB => exact (zl_ HB));(case aF => exact (fun _ _ => trivial));(case aO => exact (zr HO_11));(case aS => exact (below_size (zl_ HB)));(case aL => have := LMc28.out;omega);intro v943 w37 ho hb hg hat;rw [← Ny942.out] at ho;replace BK932 := am_ (blk_grown (g := gb932) (o := .cells #[.int .i64 x933000_1,.int .i64 x933001_1,.int .i64 x933002_1,.int .i64 x933003_1] 63 (0,0)) (zk BK932) hg (Kd.R_ne HO_11.out BK932.out (by decide)));replace HB := am_ (hb);have HO944 := am_ (ho);clear HO_11;clear ho hb hg hat))
                 go_roundg k2
                 case measure => have := HK1.out;have := HK2.out;omega
                 case rel => exact ⟨(y942),(wrap64 (x12_2 + 1)),(by first | rfl | (simp;done) | (simp [*];done)),H',⟨by have := HK1.out;have := HK2.out;omega⟩,⟨zr HO944⟩,⟨by (with_reducible repeat (first | apply k1_ | apply k2_ | apply k3_));exact BK932.out⟩,⟨zl_ HB⟩⟩
                ·rw [if_neg c28] at H
                 exact absurd H (by simp)
              ·rw [if_neg c18] at H
               have c18k := am_ c18
               have c18b0 : (((rd_T73 l3 x12_2).f3.f0) == ((rd_T73 l3 x10_1).f3.f0) && (((rd_T73 l3 x12_2).f3.f1) == ((rd_T73 l3 x10_1).f3.f1) && (((rd_T73 l3 x12_2).f3.f2) == ((rd_T73 l3 x10_1).f3.f2) && (((rd_T73 l3 x12_2).f3.f3) == ((rd_T73 l3 x10_1).f3.f3))))) = false := by simpa using c18k.out
               (try (have c18b1 : decide (((rd_T73 l3 x12_2).f3.f0) = ((rd_T73 l3 x10_1).f3.f0) && (((rd_T73 l3 x12_2).f3.f1) == ((rd_T73 l3 x10_1).f3.f1) && (((rd_T73 l3 x12_2).f3.f2) == ((rd_T73 l3 x10_1).f3.f2) && (((rd_T73 l3 x12_2).f3.f3) == ((rd_T73 l3 x10_1).f3.f3))))) = false := by simpa using c18k.out))
               (try (have c18b2 : (((rd_T73 l3 x12_2).f3.f0) == ((rd_T73 l3 x10_1).f3.f0) && (((rd_T73 l3 x12_2).f3.f1) == ((rd_T73 l3 x10_1).f3.f1) && (((rd_T73 l3 x12_2).f3.f2) == ((rd_T73 l3 x10_1).f3.f2) && (((rd_T73 l3 x12_2).f3.f3) == ((rd_T73 l3 x10_1).f3.f3))))) = false := by simpa using c18k.out))
               (try (have c18b3 : ¬ (((rd_T73 l3 x12_2).f3.f0) = ((rd_T73 l3 x10_1).f3.f0) && (((rd_T73 l3 x12_2).f3.f1) == ((rd_T73 l3 x10_1).f3.f1) && (((rd_T73 l3 x12_2).f3.f2) == ((rd_T73 l3 x10_1).f3.f2) && (((rd_T73 l3 x12_2).f3.f3) == ((rd_T73 l3 x10_1).f3.f3))))) := by simpa using c18k.out))
               (try simp only [*,Bool.not_true,Bool.not_false,Bool.false_or,Bool.true_or,Bool.or_false,Bool.or_true,Bool.true_and,Bool.and_true,Bool.false_and,Bool.and_false] at c18)
               have c18bs := c18
               clear c18k
               clear c18
               have H' := am_ H
               clear H
               have p937 : 0 ≤ (x12_2 : Int) := zo_
               have q937 : x12_2 < (l3.length : Int) := zo_
               obtain ⟨ad937,e937,hx937_0,hx937_1,hx937_2,hx937_3,hx937_4,hx937_5,hx937_6,hx937_7⟩ := at_T73 HR3.out x12_2 p937 q937
               cases e937
               replace hx937_0 := zx_ HB hx937_0
               replace hx937_1 := zx_ HB hx937_1
               replace hx937_2 := zx_ HB hx937_2
               replace hx937_3 := zx_ HB hx937_3
               replace hx937_4 := zx_ HB hx937_4
               replace hx937_5 := zx_ HB hx937_5
               replace hx937_6 := zx_ HB hx937_6
               replace hx937_7 := zx_ HB hx937_7
               replace p937 := eq_true p937
               replace q937 := eq_true q937
               try go_wp2_with (first | ((with_reducible refine gate_dst (N := 13) rfl ?_);refine zbx (N := 13) (cs := #[.int .i64 0,.int .i64 0,.int .i64 0,.int .i64 0,.int .i64 0,.int .i64 0,.int .i64 0,.string ⟨#[]⟩]) (t := 73) ?_;intro gb938 hg w38 hbox hb;replace HO_11 := zrb HO_11 hb;have BK938 := am_ (hbox);have GW938 := zw_ HB hg;have GE938 := zw_ HB hg;replace HB := zs_ HB hb;have NB932_938 := zl hg BK932;have NB938_932 := zg hg BK932;replace BK932 := zb BK932 hb;clear hb hbox hg;have hnb39 := NB938_932.out;have hnc39 := NB932_938.out;obtain ⟨hcz40_0,hcz40_1,hcz40_2,hcz40_3,hcz40_4,hcz40_5,hcz40_6,hcz40_7,hfz40_0,hfz40_1,hfz40_2,hfz40_3,hfz40_4,hfz40_5,hfz40_6,hfz40_7⟩ := zc8 BK938))
               have n0_ : Aside0 (Kd.R (Kd.int .i64) 3 ((((((((w38.setCell ⟨gb938,0,none⟩ (.int .i64 ((rd_T73 l3 x12_2).f0))).setCell ⟨gb938,1,none⟩ (.int .i64 ((rd_T73 l3 x12_2).f1))).setCell ⟨gb938,2,none⟩ (.int .i64 ((rd_T73 l3 x12_2).f2))).setCell ⟨gb938,3,none⟩ (.int .i64 ((rd_T73 l3 x12_2).f3.f0))).setCell ⟨gb938,4,none⟩ (.int .i64 ((rd_T73 l3 x12_2).f3.f1))).setCell ⟨gb938,5,none⟩ (.int .i64 ((rd_T73 l3 x12_2).f3.f2))).setCell ⟨gb938,6,none⟩ (.int .i64 ((rd_T73 l3 x12_2).f3.f3))).setCell ⟨gb938,7,none⟩ (.string ((rd_T73 l3 x12_2).f4))) w.heap.size (fun _ => True) u11 x11_2) := ⟨by (with_reducible repeat (first | apply r1_ | apply r2_ | apply r3_));exact Kd.R_mono (zrf (Kd.R_types HO_11.out BK938.out (by decide))) (fun _ hk => trivial)⟩
               have n1_ : Aside0 (((((((((w38.setCell ⟨gb938,0,none⟩ (.int .i64 ((rd_T73 l3 x12_2).f0))).setCell ⟨gb938,1,none⟩ (.int .i64 ((rd_T73 l3 x12_2).f1))).setCell ⟨gb938,2,none⟩ (.int .i64 ((rd_T73 l3 x12_2).f2))).setCell ⟨gb938,3,none⟩ (.int .i64 ((rd_T73 l3 x12_2).f3.f0))).setCell ⟨gb938,4,none⟩ (.int .i64 ((rd_T73 l3 x12_2).f3.f1))).setCell ⟨gb938,5,none⟩ (.int .i64 ((rd_T73 l3 x12_2).f3.f2))).setCell ⟨gb938,6,none⟩ (.int .i64 ((rd_T73 l3 x12_2).f3.f3))).setCell ⟨gb938,7,none⟩ (.string ((rd_T73 l3 x12_2).f4))).heap[gb932]? = some (.cells #[.int .i64 x933000_1,.int .i64 x933001_1,.int .i64 x933002_1,.int .i64 x933003_1] 63 (0,0))) := ⟨zq BK932⟩
               have n2_ : Aside0 (((((((((w38.setCell ⟨gb938,0,none⟩ (.int .i64 ((rd_T73 l3 x12_2).f0))).setCell ⟨gb938,1,none⟩ (.int .i64 ((rd_T73 l3 x12_2).f1))).setCell ⟨gb938,2,none⟩ (.int .i64 ((rd_T73 l3 x12_2).f2))).setCell ⟨gb938,3,none⟩ (.int .i64 ((rd_T73 l3 x12_2).f3.f0))).setCell ⟨gb938,4,none⟩ (.int .i64 ((rd_T73 l3 x12_2).f3.f1))).setCell ⟨gb938,5,none⟩ (.int .i64 ((rd_T73 l3 x12_2).f3.f2))).setCell ⟨gb938,6,none⟩ (.int .i64 ((rd_T73 l3 x12_2).f3.f3))).setCell ⟨gb938,7,none⟩ (.string ((rd_T73 l3 x12_2).f4))).heap[gb938]? = some (.cells #[.int .i64 ((rd_T73 l3 x12_2).f0),.int .i64 ((rd_T73 l3 x12_2).f1),.int .i64 ((rd_T73 l3 x12_2).f2),.int .i64 ((rd_T73 l3 x12_2).f3.f0),.int .i64 ((rd_T73 l3 x12_2).f3.f1),.int .i64 ((rd_T73 l3 x12_2).f3.f2),.int .i64 ((rd_T73 l3 x12_2).f3.f3),.string ((rd_T73 l3 x12_2).f4)] 73 (0,0))) := ⟨zq BK938⟩
               have n3_ : Aside0 (Below w.heap.size w ((((((((w38.setCell ⟨gb938,0,none⟩ (.int .i64 ((rd_T73 l3 x12_2).f0))).setCell ⟨gb938,1,none⟩ (.int .i64 ((rd_T73 l3 x12_2).f1))).setCell ⟨gb938,2,none⟩ (.int .i64 ((rd_T73 l3 x12_2).f2))).setCell ⟨gb938,3,none⟩ (.int .i64 ((rd_T73 l3 x12_2).f3.f0))).setCell ⟨gb938,4,none⟩ (.int .i64 ((rd_T73 l3 x12_2).f3.f1))).setCell ⟨gb938,5,none⟩ (.int .i64 ((rd_T73 l3 x12_2).f3.f2))).setCell ⟨gb938,6,none⟩ (.int .i64 ((rd_T73 l3 x12_2).f3.f3))).setCell ⟨gb938,7,none⟩ (.string ((rd_T73 l3 x12_2).f4)))) := ⟨zl_ HB⟩
               (try clear HO_11)
               (try clear BK932)
               (try clear BK938)
               (try clear HB)
               generalize ((((((((w38.setCell ⟨gb938,0,none⟩ (.int .i64 ((rd_T73 l3 x12_2).f0))).setCell ⟨gb938,1,none⟩ (.int .i64 ((rd_T73 l3 x12_2).f1))).setCell ⟨gb938,2,none⟩ (.int .i64 ((rd_T73 l3 x12_2).f2))).setCell ⟨gb938,3,none⟩ (.int .i64 ((rd_T73 l3 x12_2).f3.f0))).setCell ⟨gb938,4,none⟩ (.int .i64 ((rd_T73 l3 x12_2).f3.f1))).setCell ⟨gb938,5,none⟩ (.int .i64 ((rd_T73 l3 x12_2).f3.f2))).setCell ⟨gb938,6,none⟩ (.int .i64 ((rd_T73 l3 x12_2).f3.f3))).setCell ⟨gb938,7,none⟩ (.string ((rd_T73 l3 x12_2).f4))) = w41 at n0_ n1_ n2_ n3_ ⊢
               have HO_11 := n0_
               have BK932 := n1_
               have BK938 := n2_
               have HB := n3_
               clear n0_ n1_ n2_ n3_
               replace HO_11 := am_ (Kd.R_drew HO_11.out)
               replace BK932 := am_ (blk_drew BK932.out)
               replace BK938 := am_ (blk_drew BK938.out)
               replace HB := am_ (below_drew1 HB.out)
               have p940 : 0 ≤ (x10_1 : Int) := zo_
               have q940 : x10_1 < (l3.length : Int) := zo_
               obtain ⟨ad940,e940,hx940_0,hx940_1,hx940_2,hx940_3,hx940_4,hx940_5,hx940_6,hx940_7⟩ := at_T73 HR3.out x10_1 p940 q940
               have hw940_7 := hx940_7
               have hw940_6 := hx940_6
               have hw940_5 := hx940_5
               have hw940_4 := hx940_4
               have hw940_3 := hx940_3
               have hw940_2 := hx940_2
               have hw940_1 := hx940_1
               have hw940_0 := hx940_0
               obtain rfl : ad937 = ad940 := (by injection e940)
               replace hx940_0 := zx_ HB hx940_0
               replace hx940_1 := zx_ HB hx940_1
               replace hx940_2 := zx_ HB hx940_2
               replace hx940_3 := zx_ HB hx940_3
               replace hx940_4 := zx_ HB hx940_4
               replace hx940_5 := zx_ HB hx940_5
               replace hx940_6 := zx_ HB hx940_6
               replace hx940_7 := zx_ HB hx940_7
               replace p940 := eq_true p940
               replace q940 := eq_true q940
               refine start_ (n := 32) (S := fun w' => w'.cell? ⟨gb938,0,none⟩ = some (.int .i64 ((rd_T73 l3 x12_2).f0)) ∧ w'.cell? ⟨gb938,1,none⟩ = some (.int .i64 ((rd_T73 l3 x12_2).f1)) ∧ w'.cell? ⟨gb938,2,none⟩ = some (.int .i64 ((rd_T73 l3 x12_2).f2)) ∧ w'.cell? ⟨gb938,3,none⟩ = some (.int .i64 ((rd_T73 l3 x12_2).f3.f0)) ∧ w'.cell? ⟨gb938,4,none⟩ = some (.int .i64 ((rd_T73 l3 x12_2).f3.f1)) ∧ w'.cell? ⟨gb938,5,none⟩ = some (.int .i64 ((rd_T73 l3 x12_2).f3.f2)) ∧ w'.cell? ⟨gb938,6,none⟩ = some (.int .i64 ((rd_T73 l3 x12_2).f3.f3)) ∧ w'.cell? ⟨gb938,7,none⟩ = some (.string ((rd_T73 l3 x12_2).f4)) ∧ w'.cell? (ad937.add ((x10_1).toNat * 8)) = some (.int .i64 ((rd_T73 l3 x10_1).f0)) ∧ w'.cell? ⟨(ad937.add ((x10_1).toNat * 8)).block,(ad937.add ((x10_1).toNat * 8)).off + 1,none⟩ = some (.int .i64 ((rd_T73 l3 x10_1).f1)) ∧ w'.cell? ⟨(ad937.add ((x10_1).toNat * 8)).block,(ad937.add ((x10_1).toNat * 8)).off + 2,none⟩ = some (.int .i64 ((rd_T73 l3 x10_1).f2)) ∧ w'.cell? ⟨(ad937.add ((x10_1).toNat * 8)).block,(ad937.add ((x10_1).toNat * 8)).off + 3,none⟩ = some (.int .i64 ((rd_T73 l3 x10_1).f3.f0)) ∧ w'.cell? ⟨(ad937.add ((x10_1).toNat * 8)).block,(ad937.add ((x10_1).toNat * 8)).off + 4,none⟩ = some (.int .i64 ((rd_T73 l3 x10_1).f3.f1)) ∧ w'.cell? ⟨(ad937.add ((x10_1).toNat * 8)).block,(ad937.add ((x10_1).toNat * 8)).off + 5,none⟩ = some (.int .i64 ((rd_T73 l3 x10_1).f3.f2)) ∧ w'.cell? ⟨(ad937.add ((x10_1).toNat * 8)).block,(ad937.add ((x10_1).toNat * 8)).off + 6,none⟩ = some (.int .i64 ((rd_T73 l3 x10_1).f3.f3)) ∧ w'.cell? ⟨(ad937.add ((x10_1).toNat * 8)).block,(ad937.add ((x10_1).toNat * 8)).off + 7,none⟩ = some (.string ((rd_T73 l3 x10_1).f4))) (ds := []) #[false,false,false,false,false,false,false,false,false,false,false,false,false,false,false,false,false,false,false,false,false,false,false,false,false,false,false,false,false,false,false,false] (by kernel_rfl) rfl rfl ⟨(blk_cell BK938.out 0).trans rfl,(blk_cell BK938.out 1).trans rfl,(blk_cell BK938.out 2).trans rfl,(blk_cell BK938.out 3).trans rfl,(blk_cell BK938.out 4).trans rfl,(blk_cell BK938.out 5).trans rfl,(blk_cell BK938.out 6).trans rfl,(blk_cell BK938.out 7).trans rfl,(zx_ HB hw940_0),(zx_ HB hw940_1),(zx_ HB hw940_2),(zx_ HB hw940_3),(zx_ HB hw940_4),(zx_ HB hw940_5),(zx_ HB hw940_6),(zx_ HB hw940_7)⟩ (fun hHeld => ?_);refine with_tabW spec_l11Count.tab9 spec_l11Count.bits9 (fun HT_ HW_ => ?_)
               generalize w41.drew = w42 at HO_11 BK932 BK938 HB hx940_0 hx940_1 hx940_2 hx940_3 hx940_4 hx940_5 hx940_6 hx940_7 hHeld ⊢
               refine zpu 0 (N := some 30) HT_ ?_
               refine ztk 1 (N := some 31) HT_ HW_ hHeld ?_
               refine zon 2 (N := some 32) HT_ (fun K hK => ?_)
               refine zgo Tryd.func97 #[.int .i64 a0,.agg #[.int .i64 ((rd_T73 l3 x12_2).f0),.int .i64 ((rd_T73 l3 x12_2).f1),.int .i64 ((rd_T73 l3 x12_2).f2),.int .i64 ((rd_T73 l3 x12_2).f3.f0),.int .i64 ((rd_T73 l3 x12_2).f3.f1),.int .i64 ((rd_T73 l3 x12_2).f3.f2),.int .i64 ((rd_T73 l3 x12_2).f3.f3),.string ((rd_T73 l3 x12_2).f4)]] ?_
               with_reducible refine (spec_l11OK.calls k2 a0 ((rd_T73 l3 x12_2).f0) ((rd_T73 l3 x12_2).f1) ((rd_T73 l3 x12_2).f2) ((rd_T73 l3 x12_2).f3.f0) ((rd_T73 l3 x12_2).f3.f1) ((rd_T73 l3 x12_2).f3.f2) ((rd_T73 l3 x12_2).f3.f3) ((rd_T73 l3 x12_2).f4) true _ A12.out).mono ?_
               rintro e w43 ⟨rfl,hb⟩
               refine ⟨_,rfl,?_⟩
               replace HO_11 := zrb HO_11 hb
               replace BK932 := zb BK932 hb
               replace BK938 := zb BK938 hb
               replace HB := zs_ HB hb
               (try clear hb)
               (try clear hb2)
               (try clear hk)
               (try clear hi)
               refine hK.out _ _ ⟨(blk_cell BK938.out 0).trans rfl,(blk_cell BK938.out 1).trans rfl,(blk_cell BK938.out 2).trans rfl,(blk_cell BK938.out 3).trans rfl,(blk_cell BK938.out 4).trans rfl,(blk_cell BK938.out 5).trans rfl,(blk_cell BK938.out 6).trans rfl,(blk_cell BK938.out 7).trans rfl,(zx_ HB hw940_0),(zx_ HB hw940_1),(zx_ HB hw940_2),(zx_ HB hw940_3),(zx_ HB hw940_4),(zx_ HB hw940_5),(zx_ HB hw940_6),(zx_ HB hw940_7)⟩ (fun hHeld => ?_)
               clear hK K
               refine norm_ (a' := ?_) ?_ ?_
               rotate_left
               ·show Act.put _ (some 32) _ = _
                simp only [Act.put,p1_,p2_,p3_,i64_w,i32_w]
                rfl
               refine zpu 3 (N := some 33) HT_ ?_
               refine zpu 4 (N := some 34) HT_ ?_
               refine zpu 6 (N := some 36) HT_ ?_
               refine ztk 5 (N := some 35) HT_ HW_ hHeld ?_
               refine zpu 7 (N := some 37) HT_ ?_
               refine zpu 8 (N := some 38) HT_ ?_
               refine zpu 9 (N := some 39) HT_ ?_
               refine zpu 10 (N := some 40) HT_ ?_
               refine zpu 12 (N := some 42) HT_ ?_
               refine ztk 11 (N := some 41) HT_ HW_ hHeld ?_
               refine zpu 13 (N := some 43) HT_ ?_
               refine zpu 14 (N := some 44) HT_ ?_
               refine zpu 15 (N := some 45) HT_ ?_
               refine zpu 16 (N := some 46) HT_ ?_
               refine zpu 18 (N := some 48) HT_ ?_
               refine zpu 19 (N := some 49) HT_ ?_
               refine zpu 20 (N := some 50) HT_ ?_
               refine zpu 21 (N := some 51) HT_ ?_
               refine ztk 17 (N := some 47) HT_ HW_ hHeld ?_
               refine ztk 22 (N := some 52) HT_ HW_ hHeld ?_
               refine zpu 23 (N := some 53) HT_ ?_
               refine zpu 24 (N := some 54) HT_ ?_
               refine zpu 25 (N := some 55) HT_ ?_
               refine zpx 26 (N := some 56) HT_ ?_
               refine zpx 27 (N := some 57) HT_ ?_
               refine zpx 28 (N := some 58) HT_ ?_
               refine zpx 29 (N := some 59) HT_ ?_
               refine zpx 30 (N := some 60) HT_ ?_
               refine zpu 31 (N := some 61) HT_ ?_
               refine done_ (done_of HT_.out (by kernel_rfl)) ?_
               try go_wp2
               go_roundg k2
               case measure => have := HK1.out;have := HK2.out;omega
               case rel => exact ⟨(x11_2),(wrap64 (x12_2 + 1)),(by first | rfl | (simp;done) | (simp [*];done)),H',⟨by have := HK1.out;have := HK2.out;omega⟩,⟨zr HO_11⟩,⟨by (with_reducible repeat (first | apply k1_ | apply k2_ | apply k3_));exact BK932.out⟩,⟨zl_ HB⟩⟩
             ·rw [if_neg c17] at H
              exact absurd H (by simp)
            ·rw [if_neg c16] at H
             exact absurd H (by simp)
           ·rw [if_neg c15] at H
            have c15b0 : (((rd_T73 l3 x12_2).f2) == a2) = false := beq_eq_false_iff_ne.mpr c15
            have c15b1 : (((rd_T73 l3 x12_2).f2) != a2) = true := bne_iff_ne.mpr c15
            have H' := am_ H
            clear H
            have p937 : 0 ≤ (x12_2 : Int) := zo_
            have q937 : x12_2 < (l3.length : Int) := zo_
            obtain ⟨ad937,e937,hx937_0,hx937_1,hx937_2,hx937_3,hx937_4,hx937_5,hx937_6,hx937_7⟩ := at_T73 HR3.out x12_2 p937 q937
            cases e937
            replace hx937_0 := zx_ HB hx937_0
            replace hx937_1 := zx_ HB hx937_1
            replace hx937_2 := zx_ HB hx937_2
            replace hx937_3 := zx_ HB hx937_3
            replace hx937_4 := zx_ HB hx937_4
            replace hx937_5 := zx_ HB hx937_5
            replace hx937_6 := zx_ HB hx937_6
            replace hx937_7 := zx_ HB hx937_7
            replace p937 := eq_true p937
            replace q937 := eq_true q937
            try go_wp2_with (first | ((with_reducible refine gate_dst (N := 13) rfl ?_);refine zbx (N := 13) (cs := #[.int .i64 0,.int .i64 0,.int .i64 0,.int .i64 0,.int .i64 0,.int .i64 0,.int .i64 0,.string ⟨#[]⟩]) (t := 73) ?_;intro gb938 hg w44 hbox hb;replace HO_11 := zrb HO_11 hb;have BK938 := am_ (hbox);have GW938 := zw_ HB hg;have GE938 := zw_ HB hg;replace HB := zs_ HB hb;have NB932_938 := zl hg BK932;have NB938_932 := zg hg BK932;replace BK932 := zb BK932 hb;clear hb hbox hg;have hnb45 := NB938_932.out;have hnc45 := NB932_938.out;obtain ⟨hcz46_0,hcz46_1,hcz46_2,hcz46_3,hcz46_4,hcz46_5,hcz46_6,hcz46_7,hfz46_0,hfz46_1,hfz46_2,hfz46_3,hfz46_4,hfz46_5,hfz46_6,hfz46_7⟩ := zc8 BK938))
            have n0_ : Aside0 (Kd.R (Kd.int .i64) 3 ((((((((w44.setCell ⟨gb938,0,none⟩ (.int .i64 ((rd_T73 l3 x12_2).f0))).setCell ⟨gb938,1,none⟩ (.int .i64 ((rd_T73 l3 x12_2).f1))).setCell ⟨gb938,2,none⟩ (.int .i64 ((rd_T73 l3 x12_2).f2))).setCell ⟨gb938,3,none⟩ (.int .i64 ((rd_T73 l3 x12_2).f3.f0))).setCell ⟨gb938,4,none⟩ (.int .i64 ((rd_T73 l3 x12_2).f3.f1))).setCell ⟨gb938,5,none⟩ (.int .i64 ((rd_T73 l3 x12_2).f3.f2))).setCell ⟨gb938,6,none⟩ (.int .i64 ((rd_T73 l3 x12_2).f3.f3))).setCell ⟨gb938,7,none⟩ (.string ((rd_T73 l3 x12_2).f4))) w.heap.size (fun _ => True) u11 x11_2) := ⟨by (with_reducible repeat (first | apply r1_ | apply r2_ | apply r3_));exact Kd.R_mono (zrf (Kd.R_types HO_11.out BK938.out (by decide))) (fun _ hk => trivial)⟩
            have n1_ : Aside0 (((((((((w44.setCell ⟨gb938,0,none⟩ (.int .i64 ((rd_T73 l3 x12_2).f0))).setCell ⟨gb938,1,none⟩ (.int .i64 ((rd_T73 l3 x12_2).f1))).setCell ⟨gb938,2,none⟩ (.int .i64 ((rd_T73 l3 x12_2).f2))).setCell ⟨gb938,3,none⟩ (.int .i64 ((rd_T73 l3 x12_2).f3.f0))).setCell ⟨gb938,4,none⟩ (.int .i64 ((rd_T73 l3 x12_2).f3.f1))).setCell ⟨gb938,5,none⟩ (.int .i64 ((rd_T73 l3 x12_2).f3.f2))).setCell ⟨gb938,6,none⟩ (.int .i64 ((rd_T73 l3 x12_2).f3.f3))).setCell ⟨gb938,7,none⟩ (.string ((rd_T73 l3 x12_2).f4))).heap[gb932]? = some (.cells #[.int .i64 x933000_1,.int .i64 x933001_1,.int .i64 x933002_1,.int .i64 x933003_1] 63 (0,0))) := ⟨zq BK932⟩
            have n2_ : Aside0 (((((((((w44.setCell ⟨gb938,0,none⟩ (.int .i64 ((rd_T73 l3 x12_2).f0))).setCell ⟨gb938,1,none⟩ (.int .i64 ((rd_T73 l3 x12_2).f1))).setCell ⟨gb938,2,none⟩ (.int .i64 ((rd_T73 l3 x12_2).f2))).setCell ⟨gb938,3,none⟩ (.int .i64 ((rd_T73 l3 x12_2).f3.f0))).setCell ⟨gb938,4,none⟩ (.int .i64 ((rd_T73 l3 x12_2).f3.f1))).setCell ⟨gb938,5,none⟩ (.int .i64 ((rd_T73 l3 x12_2).f3.f2))).setCell ⟨gb938,6,none⟩ (.int .i64 ((rd_T73 l3 x12_2).f3.f3))).setCell ⟨gb938,7,none⟩ (.string ((rd_T73 l3 x12_2).f4))).heap[gb938]? = some (.cells #[.int .i64 ((rd_T73 l3 x12_2).f0),.int .i64 ((rd_T73 l3 x12_2).f1),.int .i64 ((rd_T73 l3 x12_2).f2),.int .i64 ((rd_T73 l3 x12_2).f3.f0),.int .i64 ((rd_T73 l3 x12_2).f3.f1),.int .i64 ((rd_T73 l3 x12_2).f3.f2),.int .i64 ((rd_T73 l3 x12_2).f3.f3),.string ((rd_T73 l3 x12_2).f4)] 73 (0,0))) := ⟨zq BK938⟩
            have n3_ : Aside0 (Below w.heap.size w ((((((((w44.setCell ⟨gb938,0,none⟩ (.int .i64 ((rd_T73 l3 x12_2).f0))).setCell ⟨gb938,1,none⟩ (.int .i64 ((rd_T73 l3 x12_2).f1))).setCell ⟨gb938,2,none⟩ (.int .i64 ((rd_T73 l3 x12_2).f2))).setCell ⟨gb938,3,none⟩ (.int .i64 ((rd_T73 l3 x12_2).f3.f0))).setCell ⟨gb938,4,none⟩ (.int .i64 ((rd_T73 l3 x12_2).f3.f1))).setCell ⟨gb938,5,none⟩ (.int .i64 ((rd_T73 l3 x12_2).f3.f2))).setCell ⟨gb938,6,none⟩ (.int .i64 ((rd_T73 l3 x12_2).f3.f3))).setCell ⟨gb938,7,none⟩ (.string ((rd_T73 l3 x12_2).f4)))) := ⟨zl_ HB⟩
            (try clear HO_11)
            (try clear BK932)
            (try clear BK938)
            (try clear HB)
            generalize ((((((((w44.setCell ⟨gb938,0,none⟩ (.int .i64 ((rd_T73 l3 x12_2).f0))).setCell ⟨gb938,1,none⟩ (.int .i64 ((rd_T73 l3 x12_2).f1))).setCell ⟨gb938,2,none⟩ (.int .i64 ((rd_T73 l3 x12_2).f2))).setCell ⟨gb938,3,none⟩ (.int .i64 ((rd_T73 l3 x12_2).f3.f0))).setCell ⟨gb938,4,none⟩ (.int .i64 ((rd_T73 l3 x12_2).f3.f1))).setCell ⟨gb938,5,none⟩ (.int .i64 ((rd_T73 l3 x12_2).f3.f2))).setCell ⟨gb938,6,none⟩ (.int .i64 ((rd_T73 l3 x12_2).f3.f3))).setCell ⟨gb938,7,none⟩ (.string ((rd_T73 l3 x12_2).f4))) = w47 at n0_ n1_ n2_ n3_ ⊢
            have HO_11 := n0_
            have BK932 := n1_
            have BK938 := n2_
            have HB := n3_
            clear n0_ n1_ n2_ n3_
            replace HO_11 := am_ (Kd.R_drew HO_11.out)
            replace BK932 := am_ (blk_drew BK932.out)
            replace BK938 := am_ (blk_drew BK938.out)
            replace HB := am_ (below_drew1 HB.out)
            refine start_ (n := 32) (S := fun w' => w'.cell? ⟨gb938,0,none⟩ = some (.int .i64 ((rd_T73 l3 x12_2).f0)) ∧ w'.cell? ⟨gb938,1,none⟩ = some (.int .i64 ((rd_T73 l3 x12_2).f1)) ∧ w'.cell? ⟨gb938,2,none⟩ = some (.int .i64 ((rd_T73 l3 x12_2).f2)) ∧ w'.cell? ⟨gb938,3,none⟩ = some (.int .i64 ((rd_T73 l3 x12_2).f3.f0)) ∧ w'.cell? ⟨gb938,4,none⟩ = some (.int .i64 ((rd_T73 l3 x12_2).f3.f1)) ∧ w'.cell? ⟨gb938,5,none⟩ = some (.int .i64 ((rd_T73 l3 x12_2).f3.f2)) ∧ w'.cell? ⟨gb938,6,none⟩ = some (.int .i64 ((rd_T73 l3 x12_2).f3.f3)) ∧ w'.cell? ⟨gb938,7,none⟩ = some (.string ((rd_T73 l3 x12_2).f4))) (ds := []) #[false,false,false,false,false,false,false,false,false,false,false,false,false,false,false,false,false,false,false,false,false,false,false,false,false,false,false,false,false,false,false,false] (by kernel_rfl) rfl rfl ⟨(blk_cell BK938.out 0).trans rfl,(blk_cell BK938.out 1).trans rfl,(blk_cell BK938.out 2).trans rfl,(blk_cell BK938.out 3).trans rfl,(blk_cell BK938.out 4).trans rfl,(blk_cell BK938.out 5).trans rfl,(blk_cell BK938.out 6).trans rfl,(blk_cell BK938.out 7).trans rfl⟩ (fun hHeld => ?_);refine with_tabW spec_l11Count.tab9 spec_l11Count.bits9 (fun HT_ HW_ => ?_)
            generalize w47.drew = w48 at HO_11 BK932 BK938 HB hHeld ⊢
            refine zpu 0 (N := some 30) HT_ ?_
            refine ztk 1 (N := some 31) HT_ HW_ hHeld ?_
            refine zon 2 (N := some 32) HT_ (fun K hK => ?_)
            refine zgo Tryd.func97 #[.int .i64 a0,.agg #[.int .i64 ((rd_T73 l3 x12_2).f0),.int .i64 ((rd_T73 l3 x12_2).f1),.int .i64 ((rd_T73 l3 x12_2).f2),.int .i64 ((rd_T73 l3 x12_2).f3.f0),.int .i64 ((rd_T73 l3 x12_2).f3.f1),.int .i64 ((rd_T73 l3 x12_2).f3.f2),.int .i64 ((rd_T73 l3 x12_2).f3.f3),.string ((rd_T73 l3 x12_2).f4)]] ?_
            with_reducible refine (spec_l11OK.calls k2 a0 ((rd_T73 l3 x12_2).f0) ((rd_T73 l3 x12_2).f1) ((rd_T73 l3 x12_2).f2) ((rd_T73 l3 x12_2).f3.f0) ((rd_T73 l3 x12_2).f3.f1) ((rd_T73 l3 x12_2).f3.f2) ((rd_T73 l3 x12_2).f3.f3) ((rd_T73 l3 x12_2).f4) true _ A12.out).mono ?_
            rintro e w49 ⟨rfl,hb⟩
            refine ⟨_,rfl,?_⟩
            replace HO_11 := zrb HO_11 hb
            replace BK932 := zb BK932 hb
            replace BK938 := zb BK938 hb
            replace HB := zs_ HB hb
            (try clear hb)
            (try clear hb2)
            (try clear hk)
            (try clear hi)
            refine hK.out _ _ ⟨(blk_cell BK938.out 0).trans rfl,(blk_cell BK938.out 1).trans rfl,(blk_cell BK938.out 2).trans rfl,(blk_cell BK938.out 3).trans rfl,(blk_cell BK938.out 4).trans rfl,(blk_cell BK938.out 5).trans rfl,(blk_cell BK938.out 6).trans rfl,(blk_cell BK938.out 7).trans rfl⟩ (fun hHeld => ?_)
            clear hK K
            refine norm_ (a' := ?_) ?_ ?_
            rotate_left
            ·show Act.put _ (some 32) _ = _
             simp only [Act.put,p1_,p2_,p3_,i64_w,i32_w]
             rfl
            refine zpu 3 (N := some 33) HT_ ?_
            refine zpu 4 (N := some 34) HT_ ?_
            refine zpu 6 (N := some 36) HT_ ?_
            refine ztk 5 (N := some 35) HT_ HW_ hHeld ?_
            refine zpu 7 (N := some 37) HT_ ?_
            refine zpu 8 (N := some 38) HT_ ?_
            refine zpu 9 (N := some 39) HT_ ?_
            refine zpu 10 (N := some 40) HT_ ?_
            refine zpu 12 (N := some 42) HT_ ?_
            refine ztk 11 (N := some 41) HT_ HW_ hHeld ?_
            refine zpu 13 (N := some 43) HT_ ?_
            refine zpu 14 (N := some 44) HT_ ?_
            refine zpu 15 (N := some 45) HT_ ?_
            refine zpx 16 (N := some 46) HT_ ?_
            refine zpx 17 (N := some 47) HT_ ?_
            refine zpx 18 (N := some 48) HT_ ?_
            refine zpx 19 (N := some 49) HT_ ?_
            refine zpx 20 (N := some 50) HT_ ?_
            refine zpx 21 (N := some 51) HT_ ?_
            refine zpx 22 (N := some 52) HT_ ?_
            refine zpx 23 (N := some 53) HT_ ?_
            refine zpu 24 (N := some 54) HT_ ?_
            refine zpu 25 (N := some 55) HT_ ?_
            refine zpx 26 (N := some 56) HT_ ?_
            refine zpx 27 (N := some 57) HT_ ?_
            refine zpx 28 (N := some 58) HT_ ?_
            refine zpx 29 (N := some 59) HT_ ?_
            refine zpx 30 (N := some 60) HT_ ?_
            refine zpu 31 (N := some 61) HT_ ?_
            refine done_ (done_of HT_.out (by kernel_rfl)) ?_
            try go_wp2
            go_roundg k2
            case measure => have := HK1.out;have := HK2.out;omega
            case rel => exact ⟨(x11_2),(wrap64 (x12_2 + 1)),(by first | rfl | (simp;done) | (simp [*];done)),H',⟨by have := HK1.out;have := HK2.out;omega⟩,⟨zr HO_11⟩,⟨by (with_reducible repeat (first | apply k1_ | apply k2_ | apply k3_));exact BK932.out⟩,⟨zl_ HB⟩⟩
          ·rw [if_neg c14] at H
           have c14b0 : (((rd_T73 l3 x12_2).f1) == a1) = false := beq_eq_false_iff_ne.mpr c14
           have c14b1 : (((rd_T73 l3 x12_2).f1) != a1) = true := bne_iff_ne.mpr c14
           have H' := am_ H
           clear H
           have p937 : 0 ≤ (x12_2 : Int) := zo_
           have q937 : x12_2 < (l3.length : Int) := zo_
           obtain ⟨ad937,e937,hx937_0,hx937_1,hx937_2,hx937_3,hx937_4,hx937_5,hx937_6,hx937_7⟩ := at_T73 HR3.out x12_2 p937 q937
           cases e937
           replace hx937_0 := zx_ HB hx937_0
           replace hx937_1 := zx_ HB hx937_1
           replace hx937_2 := zx_ HB hx937_2
           replace hx937_3 := zx_ HB hx937_3
           replace hx937_4 := zx_ HB hx937_4
           replace hx937_5 := zx_ HB hx937_5
           replace hx937_6 := zx_ HB hx937_6
           replace hx937_7 := zx_ HB hx937_7
           replace p937 := eq_true p937
           replace q937 := eq_true q937
           try go_wp2_with (first | ((with_reducible refine gate_dst (N := 13) rfl ?_);refine zbx (N := 13) (cs := #[.int .i64 0,.int .i64 0,.int .i64 0,.int .i64 0,.int .i64 0,.int .i64 0,.int .i64 0,.string ⟨#[]⟩]) (t := 73) ?_;intro gb938 hg w50 hbox hb;replace HO_11 := zrb HO_11 hb;have BK938 := am_ (hbox);have GW938 := zw_ HB hg;have GE938 := zw_ HB hg;replace HB := zs_ HB hb;have NB932_938 := zl hg BK932;have NB938_932 := zg hg BK932;replace BK932 := zb BK932 hb;clear hb hbox hg;have hnb51 := NB938_932.out;have hnc51 := NB932_938.out;obtain ⟨hcz52_0,hcz52_1,hcz52_2,hcz52_3,hcz52_4,hcz52_5,hcz52_6,hcz52_7,hfz52_0,hfz52_1,hfz52_2,hfz52_3,hfz52_4,hfz52_5,hfz52_6,hfz52_7⟩ := zc8 BK938))
           have n0_ : Aside0 (Kd.R (Kd.int .i64) 3 ((((((((w50.setCell ⟨gb938,0,none⟩ (.int .i64 ((rd_T73 l3 x12_2).f0))).setCell ⟨gb938,1,none⟩ (.int .i64 ((rd_T73 l3 x12_2).f1))).setCell ⟨gb938,2,none⟩ (.int .i64 ((rd_T73 l3 x12_2).f2))).setCell ⟨gb938,3,none⟩ (.int .i64 ((rd_T73 l3 x12_2).f3.f0))).setCell ⟨gb938,4,none⟩ (.int .i64 ((rd_T73 l3 x12_2).f3.f1))).setCell ⟨gb938,5,none⟩ (.int .i64 ((rd_T73 l3 x12_2).f3.f2))).setCell ⟨gb938,6,none⟩ (.int .i64 ((rd_T73 l3 x12_2).f3.f3))).setCell ⟨gb938,7,none⟩ (.string ((rd_T73 l3 x12_2).f4))) w.heap.size (fun _ => True) u11 x11_2) := ⟨by (with_reducible repeat (first | apply r1_ | apply r2_ | apply r3_));exact Kd.R_mono (zrf (Kd.R_types HO_11.out BK938.out (by decide))) (fun _ hk => trivial)⟩
           have n1_ : Aside0 (((((((((w50.setCell ⟨gb938,0,none⟩ (.int .i64 ((rd_T73 l3 x12_2).f0))).setCell ⟨gb938,1,none⟩ (.int .i64 ((rd_T73 l3 x12_2).f1))).setCell ⟨gb938,2,none⟩ (.int .i64 ((rd_T73 l3 x12_2).f2))).setCell ⟨gb938,3,none⟩ (.int .i64 ((rd_T73 l3 x12_2).f3.f0))).setCell ⟨gb938,4,none⟩ (.int .i64 ((rd_T73 l3 x12_2).f3.f1))).setCell ⟨gb938,5,none⟩ (.int .i64 ((rd_T73 l3 x12_2).f3.f2))).setCell ⟨gb938,6,none⟩ (.int .i64 ((rd_T73 l3 x12_2).f3.f3))).setCell ⟨gb938,7,none⟩ (.string ((rd_T73 l3 x12_2).f4))).heap[gb932]? = some (.cells #[.int .i64 x933000_1,.int .i64 x933001_1,.int .i64 x933002_1,.int .i64 x933003_1] 63 (0,0))) := ⟨zq BK932⟩
           have n2_ : Aside0 (((((((((w50.setCell ⟨gb938,0,none⟩ (.int .i64 ((rd_T73 l3 x12_2).f0))).setCell ⟨gb938,1,none⟩ (.int .i64 ((rd_T73 l3 x12_2).f1))).setCell ⟨gb938,2,none⟩ (.int .i64 ((rd_T73 l3 x12_2).f2))).setCell ⟨gb938,3,none⟩ (.int .i64 ((rd_T73 l3 x12_2).f3.f0))).setCell ⟨gb938,4,none⟩ (.int .i64 ((rd_T73 l3 x12_2).f3.f1))).setCell ⟨gb938,5,none⟩ (.int .i64 ((rd_T73 l3 x12_2).f3.f2))).setCell ⟨gb938,6,none⟩ (.int .i64 ((rd_T73 l3 x12_2).f3.f3))).setCell ⟨gb938,7,none⟩ (.string ((rd_T73 l3 x12_2).f4))).heap[gb938]? = some (.cells #[.int .i64 ((rd_T73 l3 x12_2).f0),.int .i64 ((rd_T73 l3 x12_2).f1),.int .i64 ((rd_T73 l3 x12_2).f2),.int .i64 ((rd_T73 l3 x12_2).f3.f0),.int .i64 ((rd_T73 l3 x12_2).f3.f1),.int .i64 ((rd_T73 l3 x12_2).f3.f2),.int .i64 ((rd_T73 l3 x12_2).f3.f3),.string ((rd_T73 l3 x12_2).f4)] 73 (0,0))) := ⟨zq BK938⟩
           have n3_ : Aside0 (Below w.heap.size w ((((((((w50.setCell ⟨gb938,0,none⟩ (.int .i64 ((rd_T73 l3 x12_2).f0))).setCell ⟨gb938,1,none⟩ (.int .i64 ((rd_T73 l3 x12_2).f1))).setCell ⟨gb938,2,none⟩ (.int .i64 ((rd_T73 l3 x12_2).f2))).setCell ⟨gb938,3,none⟩ (.int .i64 ((rd_T73 l3 x12_2).f3.f0))).setCell ⟨gb938,4,none⟩ (.int .i64 ((rd_T73 l3 x12_2).f3.f1))).setCell ⟨gb938,5,none⟩ (.int .i64 ((rd_T73 l3 x12_2).f3.f2))).setCell ⟨gb938,6,none⟩ (.int .i64 ((rd_T73 l3 x12_2).f3.f3))).setCell ⟨gb938,7,none⟩ (.string ((rd_T73 l3 x12_2).f4)))) := ⟨zl_ HB⟩
           (try clear HO_11)
           (try clear BK932)
           (try clear BK938)
           (try clear HB)
           generalize ((((((((w50.setCell ⟨gb938,0,none⟩ (.int .i64 ((rd_T73 l3 x12_2).f0))).setCell ⟨gb938,1,none⟩ (.int .i64 ((rd_T73 l3 x12_2).f1))).setCell ⟨gb938,2,none⟩ (.int .i64 ((rd_T73 l3 x12_2).f2))).setCell ⟨gb938,3,none⟩ (.int .i64 ((rd_T73 l3 x12_2).f3.f0))).setCell ⟨gb938,4,none⟩ (.int .i64 ((rd_T73 l3 x12_2).f3.f1))).setCell ⟨gb938,5,none⟩ (.int .i64 ((rd_T73 l3 x12_2).f3.f2))).setCell ⟨gb938,6,none⟩ (.int .i64 ((rd_T73 l3 x12_2).f3.f3))).setCell ⟨gb938,7,none⟩ (.string ((rd_T73 l3 x12_2).f4))) = w53 at n0_ n1_ n2_ n3_ ⊢
           have HO_11 := n0_
           have BK932 := n1_
           have BK938 := n2_
           have HB := n3_
           clear n0_ n1_ n2_ n3_
           replace HO_11 := am_ (Kd.R_drew HO_11.out)
           replace BK932 := am_ (blk_drew BK932.out)
           replace BK938 := am_ (blk_drew BK938.out)
           replace HB := am_ (below_drew1 HB.out)
           refine start_ (n := 32) (S := fun w' => w'.cell? ⟨gb938,0,none⟩ = some (.int .i64 ((rd_T73 l3 x12_2).f0)) ∧ w'.cell? ⟨gb938,1,none⟩ = some (.int .i64 ((rd_T73 l3 x12_2).f1)) ∧ w'.cell? ⟨gb938,2,none⟩ = some (.int .i64 ((rd_T73 l3 x12_2).f2)) ∧ w'.cell? ⟨gb938,3,none⟩ = some (.int .i64 ((rd_T73 l3 x12_2).f3.f0)) ∧ w'.cell? ⟨gb938,4,none⟩ = some (.int .i64 ((rd_T73 l3 x12_2).f3.f1)) ∧ w'.cell? ⟨gb938,5,none⟩ = some (.int .i64 ((rd_T73 l3 x12_2).f3.f2)) ∧ w'.cell? ⟨gb938,6,none⟩ = some (.int .i64 ((rd_T73 l3 x12_2).f3.f3)) ∧ w'.cell? ⟨gb938,7,none⟩ = some (.string ((rd_T73 l3 x12_2).f4))) (ds := []) #[false,false,false,false,false,false,false,false,false,false,false,false,false,false,false,false,false,false,false,false,false,false,false,false,false,false,false,false,false,false,false,false] (by kernel_rfl) rfl rfl ⟨(blk_cell BK938.out 0).trans rfl,(blk_cell BK938.out 1).trans rfl,(blk_cell BK938.out 2).trans rfl,(blk_cell BK938.out 3).trans rfl,(blk_cell BK938.out 4).trans rfl,(blk_cell BK938.out 5).trans rfl,(blk_cell BK938.out 6).trans rfl,(blk_cell BK938.out 7).trans rfl⟩ (fun hHeld => ?_);refine with_tabW spec_l11Count.tab9 spec_l11Count.bits9 (fun HT_ HW_ => ?_)
           generalize w53.drew = w54 at HO_11 BK932 BK938 HB hHeld ⊢
           refine zpu 0 (N := some 30) HT_ ?_
           refine ztk 1 (N := some 31) HT_ HW_ hHeld ?_
           refine zon 2 (N := some 32) HT_ (fun K hK => ?_)
           refine zgo Tryd.func97 #[.int .i64 a0,.agg #[.int .i64 ((rd_T73 l3 x12_2).f0),.int .i64 ((rd_T73 l3 x12_2).f1),.int .i64 ((rd_T73 l3 x12_2).f2),.int .i64 ((rd_T73 l3 x12_2).f3.f0),.int .i64 ((rd_T73 l3 x12_2).f3.f1),.int .i64 ((rd_T73 l3 x12_2).f3.f2),.int .i64 ((rd_T73 l3 x12_2).f3.f3),.string ((rd_T73 l3 x12_2).f4)]] ?_
           with_reducible refine (spec_l11OK.calls k2 a0 ((rd_T73 l3 x12_2).f0) ((rd_T73 l3 x12_2).f1) ((rd_T73 l3 x12_2).f2) ((rd_T73 l3 x12_2).f3.f0) ((rd_T73 l3 x12_2).f3.f1) ((rd_T73 l3 x12_2).f3.f2) ((rd_T73 l3 x12_2).f3.f3) ((rd_T73 l3 x12_2).f4) true _ A12.out).mono ?_
           rintro e w55 ⟨rfl,hb⟩
           refine ⟨_,rfl,?_⟩
           replace HO_11 := zrb HO_11 hb
           replace BK932 := zb BK932 hb
           replace BK938 := zb BK938 hb
           replace HB := zs_ HB hb
           (try clear hb)
           (try clear hb2)
           (try clear hk)
           (try clear hi)
           refine hK.out _ _ ⟨(blk_cell BK938.out 0).trans rfl,(blk_cell BK938.out 1).trans rfl,(blk_cell BK938.out 2).trans rfl,(blk_cell BK938.out 3).trans rfl,(blk_cell BK938.out 4).trans rfl,(blk_cell BK938.out 5).trans rfl,(blk_cell BK938.out 6).trans rfl,(blk_cell BK938.out 7).trans rfl⟩ (fun hHeld => ?_)
           clear hK K
           refine norm_ (a' := ?_) ?_ ?_
           rotate_left
           ·show Act.put _ (some 32) _ = _
            simp only [Act.put,p1_,p2_,p3_,i64_w,i32_w]
            rfl
           refine zpu 3 (N := some 33) HT_ ?_
           refine zpu 4 (N := some 34) HT_ ?_
           refine zpu 6 (N := some 36) HT_ ?_
           refine ztk 5 (N := some 35) HT_ HW_ hHeld ?_
           refine zpu 7 (N := some 37) HT_ ?_
           refine zpu 8 (N := some 38) HT_ ?_
           refine zpu 9 (N := some 39) HT_ ?_
           refine zpx 10 (N := some 40) HT_ ?_
           refine zpx 11 (N := some 41) HT_ ?_
           refine zpx 12 (N := some 42) HT_ ?_
           refine zpx 13 (N := some 43) HT_ ?_
           refine zpu 14 (N := some 44) HT_ ?_
           refine zpu 15 (N := some 45) HT_ ?_
           refine zpx 16 (N := some 46) HT_ ?_
           refine zpx 17 (N := some 47) HT_ ?_
           refine zpx 18 (N := some 48) HT_ ?_
           refine zpx 19 (N := some 49) HT_ ?_
           refine zpx 20 (N := some 50) HT_ ?_
           refine zpx 21 (N := some 51) HT_ ?_
           refine zpx 22 (N := some 52) HT_ ?_
           refine zpx 23 (N := some 53) HT_ ?_
           refine zpu 24 (N := some 54) HT_ ?_
           refine zpu 25 (N := some 55) HT_ ?_
           refine zpx 26 (N := some 56) HT_ ?_
           refine zpx 27 (N := some 57) HT_ ?_
           refine zpx 28 (N := some 58) HT_ ?_
           refine zpx 29 (N := some 59) HT_ ?_
           refine zpx 30 (N := some 60) HT_ ?_
           refine zpu 31 (N := some 61) HT_ ?_
           refine done_ (done_of HT_.out (by kernel_rfl)) ?_
           try go_wp2
           go_roundg k2
           case measure => have := HK1.out;have := HK2.out;omega
           case rel => exact ⟨(x11_2),(wrap64 (x12_2 + 1)),(by first | rfl | (simp;done) | (simp [*];done)),H',⟨by have := HK1.out;have := HK2.out;omega⟩,⟨zr HO_11⟩,⟨by (with_reducible repeat (first | apply k1_ | apply k2_ | apply k3_));exact BK932.out⟩,⟨zl_ HB⟩⟩
         ·replace c13 := Bool.eq_false_iff.mpr c13
          subst c13
          have H1 : (spec_l11Count.l1 k2 a0 a1 a2 l3 x10_1 x11_2 (wrap64 (x12_2 + 1))) = some (r1,r2,r3,r4,r5) := by rw [if_neg (show ¬ (false = true) by decide)] at H;exact H
          clear H
          have H := H1
          clear H1
          have H' := am_ H
          clear H
          have p937 : 0 ≤ (x12_2 : Int) := zo_
          have q937 : x12_2 < (l3.length : Int) := zo_
          obtain ⟨ad937,e937,hx937_0,hx937_1,hx937_2,hx937_3,hx937_4,hx937_5,hx937_6,hx937_7⟩ := at_T73 HR3.out x12_2 p937 q937
          cases e937
          replace hx937_0 := zx_ HB hx937_0
          replace hx937_1 := zx_ HB hx937_1
          replace hx937_2 := zx_ HB hx937_2
          replace hx937_3 := zx_ HB hx937_3
          replace hx937_4 := zx_ HB hx937_4
          replace hx937_5 := zx_ HB hx937_5
          replace hx937_6 := zx_ HB hx937_6
          replace hx937_7 := zx_ HB hx937_7
          replace p937 := eq_true p937
          replace q937 := eq_true q937
          try go_wp2_with (first | ((with_reducible refine gate_dst (N := 13) rfl ?_);refine zbx (N := 13) (cs := #[.int .i64 0,.int .i64 0,.int .i64 0,.int .i64 0,.int .i64 0,.int .i64 0,.int .i64 0,.string ⟨#[]⟩]) (t := 73) ?_;intro gb938 hg w56 hbox hb;replace HO_11 := zrb HO_11 hb;have BK938 := am_ (hbox);have GW938 := zw_ HB hg;have GE938 := zw_ HB hg;replace HB := zs_ HB hb;have NB932_938 := zl hg BK932;have NB938_932 := zg hg BK932;replace BK932 := zb BK932 hb;clear hb hbox hg;have hnb57 := NB938_932.out;have hnc57 := NB932_938.out;obtain ⟨hcz58_0,hcz58_1,hcz58_2,hcz58_3,hcz58_4,hcz58_5,hcz58_6,hcz58_7,hfz58_0,hfz58_1,hfz58_2,hfz58_3,hfz58_4,hfz58_5,hfz58_6,hfz58_7⟩ := zc8 BK938))
          have n0_ : Aside0 (Kd.R (Kd.int .i64) 3 ((((((((w56.setCell ⟨gb938,0,none⟩ (.int .i64 ((rd_T73 l3 x12_2).f0))).setCell ⟨gb938,1,none⟩ (.int .i64 ((rd_T73 l3 x12_2).f1))).setCell ⟨gb938,2,none⟩ (.int .i64 ((rd_T73 l3 x12_2).f2))).setCell ⟨gb938,3,none⟩ (.int .i64 ((rd_T73 l3 x12_2).f3.f0))).setCell ⟨gb938,4,none⟩ (.int .i64 ((rd_T73 l3 x12_2).f3.f1))).setCell ⟨gb938,5,none⟩ (.int .i64 ((rd_T73 l3 x12_2).f3.f2))).setCell ⟨gb938,6,none⟩ (.int .i64 ((rd_T73 l3 x12_2).f3.f3))).setCell ⟨gb938,7,none⟩ (.string ((rd_T73 l3 x12_2).f4))) w.heap.size (fun _ => True) u11 x11_2) := ⟨by (with_reducible repeat (first | apply r1_ | apply r2_ | apply r3_));exact Kd.R_mono (zrf (Kd.R_types HO_11.out BK938.out (by decide))) (fun _ hk => trivial)⟩
          have n1_ : Aside0 (((((((((w56.setCell ⟨gb938,0,none⟩ (.int .i64 ((rd_T73 l3 x12_2).f0))).setCell ⟨gb938,1,none⟩ (.int .i64 ((rd_T73 l3 x12_2).f1))).setCell ⟨gb938,2,none⟩ (.int .i64 ((rd_T73 l3 x12_2).f2))).setCell ⟨gb938,3,none⟩ (.int .i64 ((rd_T73 l3 x12_2).f3.f0))).setCell ⟨gb938,4,none⟩ (.int .i64 ((rd_T73 l3 x12_2).f3.f1))).setCell ⟨gb938,5,none⟩ (.int .i64 ((rd_T73 l3 x12_2).f3.f2))).setCell ⟨gb938,6,none⟩ (.int .i64 ((rd_T73 l3 x12_2).f3.f3))).setCell ⟨gb938,7,none⟩ (.string ((rd_T73 l3 x12_2).f4))).heap[gb932]? = some (.cells #[.int .i64 x933000_1,.int .i64 x933001_1,.int .i64 x933002_1,.int .i64 x933003_1] 63 (0,0))) := ⟨zq BK932⟩
          have n2_ : Aside0 (((((((((w56.setCell ⟨gb938,0,none⟩ (.int .i64 ((rd_T73 l3 x12_2).f0))).setCell ⟨gb938,1,none⟩ (.int .i64 ((rd_T73 l3 x12_2).f1))).setCell ⟨gb938,2,none⟩ (.int .i64 ((rd_T73 l3 x12_2).f2))).setCell ⟨gb938,3,none⟩ (.int .i64 ((rd_T73 l3 x12_2).f3.f0))).setCell ⟨gb938,4,none⟩ (.int .i64 ((rd_T73 l3 x12_2).f3.f1))).setCell ⟨gb938,5,none⟩ (.int .i64 ((rd_T73 l3 x12_2).f3.f2))).setCell ⟨gb938,6,none⟩ (.int .i64 ((rd_T73 l3 x12_2).f3.f3))).setCell ⟨gb938,7,none⟩ (.string ((rd_T73 l3 x12_2).f4))).heap[gb938]? = some (.cells #[.int .i64 ((rd_T73 l3 x12_2).f0),.int .i64 ((rd_T73 l3 x12_2).f1),.int .i64 ((rd_T73 l3 x12_2).f2),.int .i64 ((rd_T73 l3 x12_2).f3.f0),.int .i64 ((rd_T73 l3 x12_2).f3.f1),.int .i64 ((rd_T73 l3 x12_2).f3.f2),.int .i64 ((rd_T73 l3 x12_2).f3.f3),.string ((rd_T73 l3 x12_2).f4)] 73 (0,0))) := ⟨zq BK938⟩
          have n3_ : Aside0 (Below w.heap.size w ((((((((w56.setCell ⟨gb938,0,none⟩ (.int .i64 ((rd_T73 l3 x12_2).f0))).setCell ⟨gb938,1,none⟩ (.int .i64 ((rd_T73 l3 x12_2).f1))).setCell ⟨gb938,2,none⟩ (.int .i64 ((rd_T73 l3 x12_2).f2))).setCell ⟨gb938,3,none⟩ (.int .i64 ((rd_T73 l3 x12_2).f3.f0))).setCell ⟨gb938,4,none⟩ (.int .i64 ((rd_T73 l3 x12_2).f3.f1))).setCell ⟨gb938,5,none⟩ (.int .i64 ((rd_T73 l3 x12_2).f3.f2))).setCell ⟨gb938,6,none⟩ (.int .i64 ((rd_T73 l3 x12_2).f3.f3))).setCell ⟨gb938,7,none⟩ (.string ((rd_T73 l3 x12_2).f4)))) := ⟨zl_ HB⟩
          (try clear HO_11)
          (try clear BK932)
          (try clear BK938)
          (try clear HB)
          generalize ((((((((w56.setCell ⟨gb938,0,none⟩ (.int .i64 ((rd_T73 l3 x12_2).f0))).setCell ⟨gb938,1,none⟩ (.int .i64 ((rd_T73 l3 x12_2).f1))).setCell ⟨gb938,2,none⟩ (.int .i64 ((rd_T73 l3 x12_2).f2))).setCell ⟨gb938,3,none⟩ (.int .i64 ((rd_T73 l3 x12_2).f3.f0))).setCell ⟨gb938,4,none⟩ (.int .i64 ((rd_T73 l3 x12_2).f3.f1))).setCell ⟨gb938,5,none⟩ (.int .i64 ((rd_T73 l3 x12_2).f3.f2))).setCell ⟨gb938,6,none⟩ (.int .i64 ((rd_T73 l3 x12_2).f3.f3))).setCell ⟨gb938,7,none⟩ (.string ((rd_T73 l3 x12_2).f4))) = w59 at n0_ n1_ n2_ n3_ ⊢
          have HO_11 := n0_
          have BK932 := n1_
          have BK938 := n2_
          have HB := n3_
          clear n0_ n1_ n2_ n3_
          replace HO_11 := am_ (Kd.R_drew HO_11.out)
          replace BK932 := am_ (blk_drew BK932.out)
          replace BK938 := am_ (blk_drew BK938.out)
          replace HB := am_ (below_drew1 HB.out)
          refine start_ (n := 32) (S := fun w' => w'.cell? ⟨gb938,0,none⟩ = some (.int .i64 ((rd_T73 l3 x12_2).f0)) ∧ w'.cell? ⟨gb938,1,none⟩ = some (.int .i64 ((rd_T73 l3 x12_2).f1)) ∧ w'.cell? ⟨gb938,2,none⟩ = some (.int .i64 ((rd_T73 l3 x12_2).f2)) ∧ w'.cell? ⟨gb938,3,none⟩ = some (.int .i64 ((rd_T73 l3 x12_2).f3.f0)) ∧ w'.cell? ⟨gb938,4,none⟩ = some (.int .i64 ((rd_T73 l3 x12_2).f3.f1)) ∧ w'.cell? ⟨gb938,5,none⟩ = some (.int .i64 ((rd_T73 l3 x12_2).f3.f2)) ∧ w'.cell? ⟨gb938,6,none⟩ = some (.int .i64 ((rd_T73 l3 x12_2).f3.f3)) ∧ w'.cell? ⟨gb938,7,none⟩ = some (.string ((rd_T73 l3 x12_2).f4))) (ds := []) #[false,false,false,false,false,false,false,false,false,false,false,false,false,false,false,false,false,false,false,false,false,false,false,false,false,false,false,false,false,false,false,false] (by kernel_rfl) rfl rfl ⟨(blk_cell BK938.out 0).trans rfl,(blk_cell BK938.out 1).trans rfl,(blk_cell BK938.out 2).trans rfl,(blk_cell BK938.out 3).trans rfl,(blk_cell BK938.out 4).trans rfl,(blk_cell BK938.out 5).trans rfl,(blk_cell BK938.out 6).trans rfl,(blk_cell BK938.out 7).trans rfl⟩ (fun hHeld => ?_);refine with_tabW spec_l11Count.tab9 spec_l11Count.bits9 (fun HT_ HW_ => ?_)
          generalize w59.drew = w60 at HO_11 BK932 BK938 HB hHeld ⊢
          refine zpu 0 (N := some 30) HT_ ?_
          refine ztk 1 (N := some 31) HT_ HW_ hHeld ?_
          refine zon 2 (N := some 32) HT_ (fun K hK => ?_)
          refine zgo Tryd.func97 #[.int .i64 a0,.agg #[.int .i64 ((rd_T73 l3 x12_2).f0),.int .i64 ((rd_T73 l3 x12_2).f1),.int .i64 ((rd_T73 l3 x12_2).f2),.int .i64 ((rd_T73 l3 x12_2).f3.f0),.int .i64 ((rd_T73 l3 x12_2).f3.f1),.int .i64 ((rd_T73 l3 x12_2).f3.f2),.int .i64 ((rd_T73 l3 x12_2).f3.f3),.string ((rd_T73 l3 x12_2).f4)]] ?_
          with_reducible refine (spec_l11OK.calls k2 a0 ((rd_T73 l3 x12_2).f0) ((rd_T73 l3 x12_2).f1) ((rd_T73 l3 x12_2).f2) ((rd_T73 l3 x12_2).f3.f0) ((rd_T73 l3 x12_2).f3.f1) ((rd_T73 l3 x12_2).f3.f2) ((rd_T73 l3 x12_2).f3.f3) ((rd_T73 l3 x12_2).f4) false _ A12.out).mono ?_
          rintro e w61 ⟨rfl,hb⟩
          refine ⟨_,rfl,?_⟩
          replace HO_11 := zrb HO_11 hb
          replace BK932 := zb BK932 hb
          replace BK938 := zb BK938 hb
          replace HB := zs_ HB hb
          (try clear hb)
          (try clear hb2)
          (try clear hk)
          (try clear hi)
          refine hK.out _ _ ⟨(blk_cell BK938.out 0).trans rfl,(blk_cell BK938.out 1).trans rfl,(blk_cell BK938.out 2).trans rfl,(blk_cell BK938.out 3).trans rfl,(blk_cell BK938.out 4).trans rfl,(blk_cell BK938.out 5).trans rfl,(blk_cell BK938.out 6).trans rfl,(blk_cell BK938.out 7).trans rfl⟩ (fun hHeld => ?_)
          clear hK K
          refine norm_ (a' := ?_) ?_ ?_
          rotate_left
          ·show Act.put _ (some 32) _ = _
           simp only [Act.put,p1_,p2_,p3_,i64_w,i32_w]
           rfl
          refine zpu 3 (N := some 33) HT_ ?_
          refine zpx 4 (N := some 34) HT_ ?_
          refine zpx 5 (N := some 35) HT_ ?_
          refine zpx 6 (N := some 36) HT_ ?_
          refine zpx 7 (N := some 37) HT_ ?_
          refine zpu 8 (N := some 38) HT_ ?_
          refine zpu 9 (N := some 39) HT_ ?_
          refine zpx 10 (N := some 40) HT_ ?_
          refine zpx 11 (N := some 41) HT_ ?_
          refine zpx 12 (N := some 42) HT_ ?_
          refine zpx 13 (N := some 43) HT_ ?_
          refine zpu 14 (N := some 44) HT_ ?_
          refine zpu 15 (N := some 45) HT_ ?_
          refine zpx 16 (N := some 46) HT_ ?_
          refine zpx 17 (N := some 47) HT_ ?_
          refine zpx 18 (N := some 48) HT_ ?_
          refine zpx 19 (N := some 49) HT_ ?_
          refine zpx 20 (N := some 50) HT_ ?_
          refine zpx 21 (N := some 51) HT_ ?_
          refine zpx 22 (N := some 52) HT_ ?_
          refine zpx 23 (N := some 53) HT_ ?_
          refine zpu 24 (N := some 54) HT_ ?_
          refine zpu 25 (N := some 55) HT_ ?_
          refine zpx 26 (N := some 56) HT_ ?_
          refine zpx 27 (N := some 57) HT_ ?_
          refine zpx 28 (N := some 58) HT_ ?_
          refine zpx 29 (N := some 59) HT_ ?_
          refine zpx 30 (N := some 60) HT_ ?_
          refine zpu 31 (N := some 61) HT_ ?_
          refine done_ (done_of HT_.out (by kernel_rfl)) ?_
          try go_wp2
          go_roundg k2
          case measure => have := HK1.out;have := HK2.out;omega
          case rel => exact ⟨(x11_2),(wrap64 (x12_2 + 1)),(by first | rfl | (simp;done) | (simp [*];done)),H',⟨by have := HK1.out;have := HK2.out;omega⟩,⟨zr HO_11⟩,⟨by (with_reducible repeat (first | apply k1_ | apply k2_ | apply k3_));exact BK932.out⟩,⟨zl_ HB⟩⟩
        ·rw [if_neg c11] at H
         exact absurd H (by simp)
       ·rw [if_neg c10] at H
        exact absurd H (by simp)
      ·rw [if_neg c9] at H
       have c9b0 : decide (x12_2 ≤ x10_1) = false := decide_eq_false c9
       clear c9
       by_cases c62 : (x11_2.length : Int) > (wrap64 (Int.tdiv (wrap64 (a0 - 1)) 3))
       ·rw [if_pos c62] at H
        have c62b0 : decide ((wrap64 (Int.tdiv (wrap64 (a0 - 1)) 3)) < (x11_2.length : Int)) = true := decide_eq_true c62
        clear c62
        by_cases c63 : 0 ≤ x10_1
        ·rw [if_pos c63] at H
         have c63b0 : decide (0 ≤ x10_1) = true := decide_eq_true c63
         clear c63
         by_cases c64 : x10_1 < (l3.length : Int)
         ·rw [if_pos c64] at H
          have c64b0 : decide (x10_1 < (l3.length : Int)) = true := decide_eq_true c64
          clear c64
          simp only [Option.some.injEq,Prod.mk.injEq] at H
          obtain ⟨rfl,rfl,rfl,rfl,rfl⟩ := H
          obtain ⟨Ao65,co65,eo65⟩ := Kd.R_slice HO_11.out
          subst eo65
          have p936 : 0 ≤ (x10_1 : Int) := zo_
          have q936 : x10_1 < (l3.length : Int) := zo_
          obtain ⟨ad936,e936,hx936_0,hx936_1,hx936_2,hx936_3,hx936_4,hx936_5,hx936_6,hx936_7⟩ := at_T73 HR3.out x10_1 p936 q936
          cases e936
          replace hx936_0 := zx_ HB hx936_0
          replace hx936_1 := zx_ HB hx936_1
          replace hx936_2 := zx_ HB hx936_2
          replace hx936_3 := zx_ HB hx936_3
          replace hx936_4 := zx_ HB hx936_4
          replace hx936_5 := zx_ HB hx936_5
          replace hx936_6 := zx_ HB hx936_6
          replace hx936_7 := zx_ HB hx936_7
          replace p936 := eq_true p936
          replace q936 := eq_true q936
          obtain ⟨hcz66_0,hcz66_1,hcz66_2,hcz66_3,hfz66_0,hfz66_1,hfz66_2,hfz66_3⟩ := zc4 BK932
          go_wp2
          refine bodyPost_ret (results_ct rfl _ _ gb932 63 #[.int .i64 ((rd_T73 l3 x10_1).f3.f0),.int .i64 ((rd_T73 l3 x10_1).f3.f1),.int .i64 ((rd_T73 l3 x10_1).f3.f2),.int .i64 ((rd_T73 l3 x10_1).f3.f3)] (0,0) _ rfl (zq BK932) Tryd.underlying63 rfl (by kernel_rfl)) rfl ?_
          exact ⟨zt_,zl_ HB⟩
         ·rw [if_neg c64] at H
          exact absurd H (by simp)
        ·rw [if_neg c63] at H
         exact absurd H (by simp)
       ·rw [if_neg c62] at H
        have c62b0 : decide ((wrap64 (Int.tdiv (wrap64 (a0 - 1)) 3)) < (x11_2.length : Int)) = false := decide_eq_false c62
        clear c62
        have H' := am_ H
        clear H
        obtain ⟨Ao67,co67,eo67⟩ := Kd.R_slice HO_11.out
        subst eo67
        go_wp2
        go_roundg k2
        case measure => have := HK1.out;have := HK2.out;omega
        case rel => exact ⟨(wrap64 (x10_1 + 1)),(x933000_1),(x933001_1),(x933002_1),(x933003_1),(by first | rfl | (simp;done) | (simp [*];done)),H',⟨by have := HK1.out;have := HK2.out;omega⟩,⟨by (with_reducible repeat (first | apply k1_ | apply k2_ | apply k3_));exact BK932.out⟩,⟨zl_ HB⟩⟩
   ·rw [if_neg c6] at H
    have c6b0 : decide (x10_1 < (l3.length : Int)) = false := decide_eq_false c6
    clear c6
    simp only [Option.some.injEq,Prod.mk.injEq] at H
    obtain ⟨rfl,rfl,rfl,rfl,rfl⟩ := H
    obtain ⟨hcz68_0,hcz68_1,hcz68_2,hcz68_3,hfz68_0,hfz68_1,hfz68_2,hfz68_3⟩ := zc4 BK932
    go_wp2
    refine bodyPost_ret (results_ct rfl _ _ gb932 63 #[.int .i64 0,.int .i64 0,.int .i64 0,.int .i64 0] (0,0) _ rfl (zq BK932) Tryd.underlying63 rfl (by kernel_rfl)) rfl ?_
    exact ⟨zt_,zl_ HB⟩
end Go.Proofs.YtlifdodphkimpaaDoor.B
end

section
namespace Go.Proofs.YtlifdodphkimpaaDoor.B
open Go.RowKit Go.Proofs.YtlifdodphkimpaaDoorW.PrintWords Go.Proofs.YtlifdodphkimpaaDoorW.PrintLast Go.Proofs.YtlifdodphkimpaaDoorW.PrintMore
attribute [local go_sem] max2_int min2_int max_two min_two max_three min_three max_four min_four
set_option maxHeartbeats 8000000 in
set_option maxRecDepth 100000 in
theorem spec_CountReplies.calls (k : Nat) (a0 : Int) (a1 : Int) (a2 : Int) (A3 : Option Addr) (c3 : Nat) (l3 : List (S73)) (r1 : Int) (r2 : Int) (r3 : Int) (r4 : Int) (r5 : Int) (w : World) (hr3 : Kd.C k73 w A3 l3.length l3) (hc3 : l3.length ≤ c3) (h : spec_CountReplies.f k a0 a1 a2 l3 = some (r1,r2,r3,r4,r5)) :
  Calls Tryd.prog 32 #[.int .i64 a0,.int .i64 a1,.int .i64 a2,.slice A3 l3.length c3] w fun e w' => e = .returned (.tuple #[.agg #[.int .i64 r1,.int .i64 r2,.int .i64 r3,.int .i64 r4],.int .i64 r5]) ∧ Below w.heap.size w w' := by
 have hu63 := Tryd.underlying63
 have HR3 := am_ hr3
 have HC3 := am_ hc3
 clear hr3 hc3
 have HB := am_ (Below.refl w.heap.size w)
 have H : (if (l3.length : Int) > 4096 then (some (0,0,0,0,2)) else ((spec_l04Nodes.f a0).bind fun t946 => (if t946 = true then (if (l3.length : Int) > 60 then (some (0,0,0,0,6)) else ((spec_l11Count.f k a0 a1 a2 l3).bind fun bt947 => (if bt947.2.2.2.2 = true then (some (bt947.1,bt947.2.1,bt947.2.2.1,bt947.2.2.2.1,0)) else (some (0,0,0,0,19))))) else (some (0,0,0,0,4))))) = some (r1,r2,r3,r4,r5) := h
 clear h
 by_cases c5 : (l3.length : Int) > 4096
 ·rw [if_pos c5] at H
  have c5b0 : decide (4096 < (l3.length : Int)) = true := decide_eq_true c5
  have c5b1 : decide (4096 < l3.length) = true := decide_eq_true (by omega)
  clear c5
  simp only [Option.some.injEq,Prod.mk.injEq] at H
  obtain ⟨rfl,rfl,rfl,rfl,rfl⟩ := H
  go_enter Tryd.func32,Tryd.ntmps32
  go_wp2_with (first | ((with_reducible refine gate_dst (N := 8) rfl ?_);refine zbx (N := 8) (cs := #[.int .i64 0,.int .i64 0,.int .i64 0,.int .i64 0]) (t := 63) ?_;intro gb945 hg w6 hbox hb;have BK945 := am_ (hbox);have GW945 := zw_ HB hg;have GE945 := zw_ HB hg;replace HB := zs_ HB hb;clear hb hbox hg;obtain ⟨hcz7_0,hcz7_1,hcz7_2,hcz7_3,hfz7_0,hfz7_1,hfz7_2,hfz7_3⟩ := zc4 BK945))
  refine bodyPost_ret (results_ct rfl _ _ gb945 63 #[.int .i64 0,.int .i64 0,.int .i64 0,.int .i64 0] (0,0) _ rfl (zq BK945) Tryd.underlying63 rfl (by kernel_rfl)) rfl ?_
  exact ⟨zt_,zl_ HB⟩
 ·rw [if_neg c5] at H
  have c5b0 : decide (4096 < (l3.length : Int)) = false := decide_eq_false c5
  have c5b1 : decide (4096 < l3.length) = false := decide_eq_false (by omega)
  clear c5
  replace H := Option.bind_eq_some_iff.mp H
  obtain ⟨t946,A80,H⟩ := H
  try dsimp only at H
  have A8 := am_ A80
  clear A80
  by_cases c9 : t946 = true
  ·subst c9
   have H1 : (if (l3.length : Int) > 60 then (some (0,0,0,0,6)) else ((spec_l11Count.f k a0 a1 a2 l3).bind fun bt947 => (if bt947.2.2.2.2 = true then (some (bt947.1,bt947.2.1,bt947.2.2.1,bt947.2.2.2.1,0)) else (some (0,0,0,0,19))))) = some (r1,r2,r3,r4,r5) := by rw [if_pos rfl] at H;exact H
   clear H
   have H := H1
   clear H1
   by_cases c10 : (l3.length : Int) > 60
   ·rw [if_pos c10] at H
    have c10b0 : decide (60 < (l3.length : Int)) = true := decide_eq_true c10
    have c10b1 : decide (60 < l3.length) = true := decide_eq_true (by omega)
    clear c10
    simp only [Option.some.injEq,Prod.mk.injEq] at H
    obtain ⟨rfl,rfl,rfl,rfl,rfl⟩ := H
    go_enter Tryd.func32,Tryd.ntmps32
    go_wp2_with (first | ((with_reducible refine gate_dst (N := 8) rfl ?_);refine zbx (N := 8) (cs := #[.int .i64 0,.int .i64 0,.int .i64 0,.int .i64 0]) (t := 63) ?_;intro gb945 hg w11 hbox hb;have BK945 := am_ (hbox);have GW945 := zw_ HB hg;have GE945 := zw_ HB hg;replace HB := zs_ HB hb;clear hb hbox hg) | ((with_reducible refine gate_callee (f := 52) rfl ?_);refine zgl (some 17) Tryd.func52 #[.int .i64 a0] ?_;(with_reducible refine (spec_l04Nodes.calls a0 true _ A8.out).mono ?_);rintro e w' ⟨rfl,⟨nd,rfl⟩⟩;refine ⟨_,rfl,?_⟩;(try (rw [drewN_self w11];generalize hq_ : World.drewN w11 _ = w11;have n0_ : Aside0 (w11.heap[gb945]? = some (.cells #[.int .i64 0,.int .i64 0,.int .i64 0,.int .i64 0] 63 (0,0))) := ⟨by rw [← hq_];exact (zk BK945)⟩;have n1_ : Aside0 (Below w.heap.size w w11) := ⟨by rw [← hq_];exact (zl_ HB)⟩;clear BK945 HB hq_;have BK945 := n0_;have HB := n1_;clear n0_ n1_));(try have hfu945_0 := blk_frozen BK945.out 0);(try have hcu945_0 : w11.cell? ⟨gb945,0,none⟩ = some (.int .i64 0) := (blk_cell BK945.out 0).trans rfl);(try have hfu945_1 := blk_frozen BK945.out 1);(try have hcu945_1 : w11.cell? ⟨gb945,1,none⟩ = some (.int .i64 0) := (blk_cell BK945.out 1).trans rfl);(try have hfu945_2 := blk_frozen BK945.out 2);(try have hcu945_2 : w11.cell? ⟨gb945,2,none⟩ = some (.int .i64 0) := (blk_cell BK945.out 2).trans rfl);(try have hfu945_3 := blk_frozen BK945.out 3);(try have hcu945_3 : w11.cell? ⟨gb945,3,none⟩ = some (.int .i64 0) := (blk_cell BK945.out 3).trans rfl);obtain ⟨hcz12_0,hcz12_1,hcz12_2,hcz12_3,hfz12_0,hfz12_1,hfz12_2,hfz12_3⟩ := zc4 BK945))
    refine bodyPost_ret (results_ct rfl _ _ gb945 63 #[.int .i64 0,.int .i64 0,.int .i64 0,.int .i64 0] (0,0) _ rfl (zq BK945) Tryd.underlying63 rfl (by kernel_rfl)) rfl ?_
    exact ⟨zt_,zl_ HB⟩
   ·rw [if_neg c10] at H
    have c10b0 : decide (60 < (l3.length : Int)) = false := decide_eq_false c10
    have c10b1 : decide (60 < l3.length) = false := decide_eq_false (by omega)
    clear c10
    replace H := Option.bind_eq_some_iff.mp H
    obtain ⟨⟨t947,t948,t949,t950,t951⟩,A130,H⟩ := H
    try dsimp only at H
    have A13 := am_ A130
    clear A130
    by_cases c14 : t951 = true
    ·subst c14
     have H1 : (some (t947,t948,t949,t950,0)) = some (r1,r2,r3,r4,r5) := by rw [if_pos rfl] at H;exact H
     clear H
     have H := H1
     clear H1
     simp only [Option.some.injEq,Prod.mk.injEq] at H
     obtain ⟨rfl,rfl,rfl,rfl,rfl⟩ := H
     go_enter Tryd.func32,Tryd.ntmps32
     go_wp2_with (first | ((with_reducible refine gate_dst (N := 8) rfl ?_);refine zbx (N := 8) (cs := #[.int .i64 0,.int .i64 0,.int .i64 0,.int .i64 0]) (t := 63) ?_;intro gb945 hg w15 hbox hb;have BK945 := am_ (hbox);have GW945 := zw_ HB hg;have GE945 := zw_ HB hg;replace HB := zs_ HB hb;clear hb hbox hg) | ((with_reducible refine gate_callee (f := 52) rfl ?_);refine zgl (some 17) Tryd.func52 #[.int .i64 a0] ?_;(with_reducible refine (spec_l04Nodes.calls a0 true _ A8.out).mono ?_);rintro e w' ⟨rfl,⟨nd,rfl⟩⟩;refine ⟨_,rfl,?_⟩;(try (rw [drewN_self w15];generalize hq_ : World.drewN w15 _ = w15;have n0_ : Aside0 (w15.heap[gb945]? = some (.cells #[.int .i64 0,.int .i64 0,.int .i64 0,.int .i64 0] 63 (0,0))) := ⟨by rw [← hq_];exact (zk BK945)⟩;have n1_ : Aside0 (Below w.heap.size w w15) := ⟨by rw [← hq_];exact (zl_ HB)⟩;clear BK945 HB hq_;have BK945 := n0_;have HB := n1_;clear n0_ n1_));(try have hfu945_0 := blk_frozen BK945.out 0);(try have hcu945_0 : w15.cell? ⟨gb945,0,none⟩ = some (.int .i64 0) := (blk_cell BK945.out 0).trans rfl);(try have hfu945_1 := blk_frozen BK945.out 1);(try have hcu945_1 : w15.cell? ⟨gb945,1,none⟩ = some (.int .i64 0) := (blk_cell BK945.out 1).trans rfl);(try have hfu945_2 := blk_frozen BK945.out 2);(try have hcu945_2 : w15.cell? ⟨gb945,2,none⟩ = some (.int .i64 0) := (blk_cell BK945.out 2).trans rfl);(try have hfu945_3 := blk_frozen BK945.out 3);(try have hcu945_3 : w15.cell? ⟨gb945,3,none⟩ = some (.int .i64 0) := (blk_cell BK945.out 3).trans rfl)) | ((with_reducible refine gate_callee (f := 83) rfl ?_);refine zgl (some 29) Tryd.func83 #[.int .i64 a0,.int .i64 a1,.int .i64 a2,.slice A3 l3.length c3] ?_;(with_reducible refine (spec_l11Count.calls k a0 a1 a2 _ _ l3 t947 t948 t949 t950 true _ ?side1 ?side2 A13.out).mono ?_);(case side1 => exact zc_ HR3 HB);(case side2 => exact HC3.out);rintro e w16 ⟨rfl,hb⟩;refine ⟨_,rfl,?_⟩;replace BK945 := zb BK945 hb;replace HB := zs_ HB hb;(try clear hb);(try clear hb2);(try clear hk);(try clear hi)) | ((with_reducible refine gate_dst (N := 10) rfl ?_);refine zbx (N := 10) (cs := #[.int .i64 0,.int .i64 0,.int .i64 0,.int .i64 0]) (t := 63) ?_;intro gb952 hg w17 hbox hb;have BK952 := am_ (hbox);have GW952 := zw_ HB hg;have GE952 := zw_ HB hg;replace HB := zs_ HB hb;have NB945_952 := zl hg BK945;have NB952_945 := zg hg BK945;replace BK945 := zb BK945 hb;clear hb hbox hg;have hnb18 := NB952_945.out;have hnc18 := NB945_952.out;obtain ⟨hcz19_0,hcz19_1,hcz19_2,hcz19_3,hfz19_0,hfz19_1,hfz19_2,hfz19_3⟩ := zc4 BK952;obtain ⟨hcz20_0,hcz20_1,hcz20_2,hcz20_3,hfz20_0,hfz20_1,hfz20_2,hfz20_3⟩ := zc4 BK945))
     refine bodyPost_ret (results_ct rfl _ _ gb945 63 #[.int .i64 t947,.int .i64 t948,.int .i64 t949,.int .i64 t950] (0,0) _ rfl (zq BK945) Tryd.underlying63 rfl (by kernel_rfl)) rfl ?_
     exact ⟨zt_,zl_ HB⟩
    ·replace c14 := Bool.eq_false_iff.mpr c14
     subst c14
     have H1 : (some (0,0,0,0,19)) = some (r1,r2,r3,r4,r5) := by rw [if_neg (show ¬ (false = true) by decide)] at H;exact H
     clear H
     have H := H1
     clear H1
     simp only [Option.some.injEq,Prod.mk.injEq] at H
     obtain ⟨rfl,rfl,rfl,rfl,rfl⟩ := H
     go_enter Tryd.func32,Tryd.ntmps32
     go_wp2_with (first | ((with_reducible refine gate_dst (N := 8) rfl ?_);refine zbx (N := 8) (cs := #[.int .i64 0,.int .i64 0,.int .i64 0,.int .i64 0]) (t := 63) ?_;intro gb945 hg w21 hbox hb;have BK945 := am_ (hbox);have GW945 := zw_ HB hg;have GE945 := zw_ HB hg;replace HB := zs_ HB hb;clear hb hbox hg) | ((with_reducible refine gate_callee (f := 52) rfl ?_);refine zgl (some 17) Tryd.func52 #[.int .i64 a0] ?_;(with_reducible refine (spec_l04Nodes.calls a0 true _ A8.out).mono ?_);rintro e w' ⟨rfl,⟨nd,rfl⟩⟩;refine ⟨_,rfl,?_⟩;(try (rw [drewN_self w21];generalize hq_ : World.drewN w21 _ = w21;have n0_ : Aside0 (w21.heap[gb945]? = some (.cells #[.int .i64 0,.int .i64 0,.int .i64 0,.int .i64 0] 63 (0,0))) := ⟨by rw [← hq_];exact (zk BK945)⟩;have n1_ : Aside0 (Below w.heap.size w w21) := ⟨by rw [← hq_];exact (zl_ HB)⟩;clear BK945 HB hq_;have BK945 := n0_;have HB := n1_;clear n0_ n1_));(try have hfu945_0 := blk_frozen BK945.out 0);(try have hcu945_0 : w21.cell? ⟨gb945,0,none⟩ = some (.int .i64 0) := (blk_cell BK945.out 0).trans rfl);(try have hfu945_1 := blk_frozen BK945.out 1);(try have hcu945_1 : w21.cell? ⟨gb945,1,none⟩ = some (.int .i64 0) := (blk_cell BK945.out 1).trans rfl);(try have hfu945_2 := blk_frozen BK945.out 2);(try have hcu945_2 : w21.cell? ⟨gb945,2,none⟩ = some (.int .i64 0) := (blk_cell BK945.out 2).trans rfl);(try have hfu945_3 := blk_frozen BK945.out 3);(try have hcu945_3 : w21.cell? ⟨gb945,3,none⟩ = some (.int .i64 0) := (blk_cell BK945.out 3).trans rfl)) | ((with_reducible refine gate_callee (f := 83) rfl ?_);refine zgl (some 29) Tryd.func83 #[.int .i64 a0,.int .i64 a1,.int .i64 a2,.slice A3 l3.length c3] ?_;(with_reducible refine (spec_l11Count.calls k a0 a1 a2 _ _ l3 t947 t948 t949 t950 false _ ?side1 ?side2 A13.out).mono ?_);(case side1 => exact zc_ HR3 HB);(case side2 => exact HC3.out);rintro e w22 ⟨rfl,hb⟩;refine ⟨_,rfl,?_⟩;replace BK945 := zb BK945 hb;replace HB := zs_ HB hb;(try clear hb);(try clear hb2);(try clear hk);(try clear hi)) | ((with_reducible refine gate_dst (N := 10) rfl ?_);refine zbx (N := 10) (cs := #[.int .i64 0,.int .i64 0,.int .i64 0,.int .i64 0]) (t := 63) ?_;intro gb952 hg w23 hbox hb;have BK952 := am_ (hbox);have GW952 := zw_ HB hg;have GE952 := zw_ HB hg;replace HB := zs_ HB hb;have NB945_952 := zl hg BK945;have NB952_945 := zg hg BK945;replace BK945 := zb BK945 hb;clear hb hbox hg;have hnb24 := NB952_945.out;have hnc24 := NB945_952.out;obtain ⟨hcz25_0,hcz25_1,hcz25_2,hcz25_3,hfz25_0,hfz25_1,hfz25_2,hfz25_3⟩ := zc4 BK952;obtain ⟨hcz26_0,hcz26_1,hcz26_2,hcz26_3,hfz26_0,hfz26_1,hfz26_2,hfz26_3⟩ := zc4 BK945))
     refine bodyPost_ret (results_ct rfl _ _ gb945 63 #[.int .i64 0,.int .i64 0,.int .i64 0,.int .i64 0] (0,0) _ rfl (zq BK945) Tryd.underlying63 rfl (by kernel_rfl)) rfl ?_
     exact ⟨zt_,zl_ HB⟩
  ·replace c9 := Bool.eq_false_iff.mpr c9
   subst c9
   have H1 : (some (0,0,0,0,4)) = some (r1,r2,r3,r4,r5) := by rw [if_neg (show ¬ (false = true) by decide)] at H;exact H
   clear H
   have H := H1
   clear H1
   simp only [Option.some.injEq,Prod.mk.injEq] at H
   obtain ⟨rfl,rfl,rfl,rfl,rfl⟩ := H
   go_enter Tryd.func32,Tryd.ntmps32
   go_wp2_with (first | ((with_reducible refine gate_dst (N := 8) rfl ?_);refine zbx (N := 8) (cs := #[.int .i64 0,.int .i64 0,.int .i64 0,.int .i64 0]) (t := 63) ?_;intro gb945 hg w27 hbox hb;have BK945 := am_ (hbox);have GW945 := zw_ HB hg;have GE945 := zw_ HB hg;replace HB := zs_ HB hb;clear hb hbox hg) | ((with_reducible refine gate_callee (f := 52) rfl ?_);refine zgl (some 17) Tryd.func52 #[.int .i64 a0] ?_;(with_reducible refine (spec_l04Nodes.calls a0 false _ A8.out).mono ?_);rintro e w' ⟨rfl,⟨nd,rfl⟩⟩;refine ⟨_,rfl,?_⟩;(try (rw [drewN_self w27];generalize hq_ : World.drewN w27 _ = w27;have n0_ : Aside0 (w27.heap[gb945]? = some (.cells #[.int .i64 0,.int .i64 0,.int .i64 0,.int .i64 0] 63 (0,0))) := ⟨by rw [← hq_];exact (zk BK945)⟩;have n1_ : Aside0 (Below w.heap.size w w27) := ⟨by rw [← hq_];exact (zl_ HB)⟩;clear BK945 HB hq_;have BK945 := n0_;have HB := n1_;clear n0_ n1_));(try have hfu945_0 := blk_frozen BK945.out 0);(try have hcu945_0 : w27.cell? ⟨gb945,0,none⟩ = some (.int .i64 0) := (blk_cell BK945.out 0).trans rfl);(try have hfu945_1 := blk_frozen BK945.out 1);(try have hcu945_1 : w27.cell? ⟨gb945,1,none⟩ = some (.int .i64 0) := (blk_cell BK945.out 1).trans rfl);(try have hfu945_2 := blk_frozen BK945.out 2);(try have hcu945_2 : w27.cell? ⟨gb945,2,none⟩ = some (.int .i64 0) := (blk_cell BK945.out 2).trans rfl);(try have hfu945_3 := blk_frozen BK945.out 3);(try have hcu945_3 : w27.cell? ⟨gb945,3,none⟩ = some (.int .i64 0) := (blk_cell BK945.out 3).trans rfl);obtain ⟨hcz28_0,hcz28_1,hcz28_2,hcz28_3,hfz28_0,hfz28_1,hfz28_2,hfz28_3⟩ := zc4 BK945))
   refine bodyPost_ret (results_ct rfl _ _ gb945 63 #[.int .i64 0,.int .i64 0,.int .i64 0,.int .i64 0] (0,0) _ rfl (zq BK945) Tryd.underlying63 rfl (by kernel_rfl)) rfl ?_
   exact ⟨zt_,zl_ HB⟩
set_option maxHeartbeats 8000000 in
set_option maxRecDepth 100000 in
theorem laws_FnExactCountReplies.calls (k : Nat) (a0 : Int) (a1 : Int) (a2 : Int) (A3 : Option Addr) (c3 : Nat) (l3 : List (S117)) (r : Bool) (w : World) (hr3 : Kd.C k117 w A3 l3.length l3) (hc3 : l3.length ≤ c3) (hL : Laid w) (h : laws_FnExactCountReplies.f k a0 a1 a2 l3 = some r) :
  Calls Tryd.prog 6 #[.int .i64 a0,.int .i64 a1,.int .i64 a2,.slice A3 l3.length c3] w fun e w' => e = .returned (.bool r) ∧ Below w.heap.size w w' := by
 have hu63 := Tryd.underlying63
 have HR3 := am_ hr3
 have HC3 := am_ hc3
 clear hr3 hc3
 have HLD := am_ hL
 clear hL
 have HB := am_ (Below.refl w.heap.size w)
 have H : ((laws_szReplyS.f k l3 1048576).bind fun t1034 => (if t1034 < 0 then (some true) else ((laws_toReplyS.f k l3).bind fun t1035 => ((spec_CountReplies.f k a0 a1 a2 t1035).bind fun bt1038 => ((laws_toReplyS.f k l3).bind fun t1044 => ((impl_CountReplies.f k a0 a1 a2 t1044).bind fun bt1047 => ((laws_eqAnswer.f bt1047.1 bt1047.2.1 bt1047.2.2.1 bt1047.2.2.2.1 bt1038.1 bt1038.2.1 bt1038.2.2.1 bt1038.2.2.2.1).bind fun t1053 => (if t1053 = true then (laws_FnExactCountReplies.j0 k l3 t1044 (bt1047.2.2.2.2 != bt1038.2.2.2.2)) else (laws_FnExactCountReplies.j0 k l3 t1044 true))))))))) = some r := h
 clear h
 replace H := Option.bind_eq_some_iff.mp H
 obtain ⟨t1034,A50,H⟩ := H
 try dsimp only at H
 have A5 := am_ A50
 clear A50
 by_cases c6 : t1034 < 0
 ·rw [if_pos c6] at H
  have c6b0 : decide (t1034 < 0) = true := decide_eq_true c6
  clear c6
  obtain rfl := Option.some.inj H
  go_enter Tryd.func6,Tryd.ntmps6
  go_wp2_with (first | ((with_reducible refine gate_callee (f := 31) rfl ?_);refine zgl (some 17) Tryd.func31 #[.slice A3 l3.length c3,.int .i64 1048576] ?_;(with_reducible refine (laws_szReplyS.calls k _ _ l3 1048576 t1034 _ ?side1 ?side2 A5.out).mono ?_);(case side1 => repeat (first | exact HR3.out | (with_reducible refine Kd.C_alloc ?_ _) | (with_reducible refine Kd.C_drewN ?_ _) | (with_reducible refine Kd.C_drew ?_)));(case side2 => exact HC3.out);rintro e w7 ⟨rfl,hb⟩;refine ⟨_,rfl,?_⟩;replace HB := zs_ HB hb;(try clear hb);(try clear hb2);(try clear hk);(try clear hi)))
  go_ret
  exact ⟨zt_,zl_ HB⟩
 ·rw [if_neg c6] at H
  have c6b0 : decide (t1034 < 0) = false := decide_eq_false c6
  clear c6
  replace H := Option.bind_eq_some_iff.mp H
  obtain ⟨t1035,A80,H⟩ := H
  try dsimp only at H
  have A8 := am_ A80
  clear A80
  replace H := Option.bind_eq_some_iff.mp H
  obtain ⟨⟨t1038,t1039,t1040,t1041,t1042⟩,A90,H⟩ := H
  try dsimp only at H
  have A9 := am_ A90
  clear A90
  replace H := Option.bind_eq_some_iff.mp H
  obtain ⟨t1044,A100,H⟩ := H
  try dsimp only at H
  have A10 := am_ A100
  clear A100
  replace H := Option.bind_eq_some_iff.mp H
  obtain ⟨⟨t1047,t1048,t1049,t1050,t1051⟩,A110,H⟩ := H
  try dsimp only at H
  have A11 := am_ A110
  clear A110
  have HC12 := am_ H
  clear H
  go_enter Tryd.func6,Tryd.ntmps6
  go_upto_region 8 with (first | ((with_reducible refine gate_callee (f := 31) rfl ?_);refine zgl (some 17) Tryd.func31 #[.slice A3 l3.length c3,.int .i64 1048576] ?_;(with_reducible refine (laws_szReplyS.calls k _ _ l3 1048576 t1034 _ ?side1 ?side2 A5.out).mono ?_);(case side1 => repeat (first | exact HR3.out | (with_reducible refine Kd.C_alloc ?_ _) | (with_reducible refine Kd.C_drewN ?_ _) | (with_reducible refine Kd.C_drew ?_)));(case side2 => exact HC3.out);rintro e w13 ⟨rfl,hb⟩;refine ⟨_,rfl,?_⟩;replace HB := zs_ HB hb;(try clear hb);(try clear hb2);(try clear hk);(try clear hi)) | ((with_reducible refine gate_callee (f := 33) rfl ?_);refine zgl (some 25) Tryd.func33 #[.slice A3 l3.length c3] ?_;(with_reducible refine (laws_toReplyS.calls k _ _ l3 t1035 _ ?side1 ?side2 A8.out).mono ?_);(case side1 => exact zc_ HR3 HB);(case side2 => exact HC3.out);rintro e w14 ⟨v1036,rfl,ho0,hb⟩;refine ⟨_,rfl,?_⟩;have HO1037 := am_ (Kd.R_lower ho0 (below_size (zl_ HB)));replace HB := zs_ HB hb;(try clear hb);(try clear hb2);(try clear hk);(try clear hi);(try clear ho0);obtain ⟨Ao15,co15,eo15⟩ := Kd.R_slice HO1037.out;subst eo15) | ((with_reducible refine gate_callee (f := 32) rfl ?_);refine zgl (some 26) Tryd.func32 #[.int .i64 a0,.int .i64 a1,.int .i64 a2,.slice Ao15 t1035.length co15] ?_;(with_reducible refine (spec_CountReplies.calls k a0 a1 a2 _ _ t1035 t1038 t1039 t1040 t1041 t1042 _ ?side1 ?side2 A9.out).mono ?_);(case side1 => repeat (first | exact (Kd.R_reads' HO1037.out).2.2 | (with_reducible refine Kd.C_alloc ?_ _) | (with_reducible refine Kd.C_drewN ?_ _) | (with_reducible refine Kd.C_drew ?_)));(case side2 => exact (Kd.R_reads' HO1037.out).2.1);rintro e w16 ⟨rfl,hb⟩;refine ⟨_,rfl,?_⟩;replace HO1037 := zrb HO1037 hb;replace HB := zs_ HB hb;(try clear hb);(try clear hb2);(try clear hk);(try clear hi)) | ((with_reducible refine gate_dst (N := 10) rfl ?_);refine zbx (N := 10) (cs := #[.int .i64 0,.int .i64 0,.int .i64 0,.int .i64 0]) (t := 63) ?_;intro gb1043 hg w17 hbox hb;replace HO1037 := zrb HO1037 hb;have BK1043 := am_ (hbox);have GW1043 := zw_ HB hg;have GE1043 := zw_ HB hg;replace HB := zs_ HB hb;clear hb hbox hg;obtain ⟨hcz18_0,hcz18_1,hcz18_2,hcz18_3,hfz18_0,hfz18_1,hfz18_2,hfz18_3⟩ := zc4 BK1043) | ((with_reducible refine gate_callee (f := 33) rfl ?_);refine zgl (some 30) Tryd.func33 #[.slice A3 l3.length c3] ?_;(with_reducible refine (laws_toReplyS.calls k _ _ l3 t1044 _ ?side1 ?side2 A10.out).mono ?_);(case side1 => exact Kd.C_below HR3.out (zl_ HB));(case side2 => exact HC3.out);rintro e w19 ⟨v1045,rfl,ho0,hb⟩;refine ⟨_,rfl,?_⟩;have HO1046 := am_ (Kd.R_lower (Kd.R_new' ho0 (Kd.R_lt (by (with_reducible repeat (first | apply r1_ | apply r2_ | apply r3_));exact (Kd.R_mono (zrf (Kd.R_types HO1037.out BK1043.out (by decide))) (fun _ h_ => h_.1))))) (below_size (zl_ HB)));replace BK1043 := am_ (blk_below (g := gb1043) (o := .cells #[.int .i64 t1038,.int .i64 t1039,.int .i64 t1040,.int .i64 t1041] 63 (0,0)) (zq BK1043) hb);replace HB := zs_ HB hb;(try clear hb);(try clear hb2);(try clear hk);(try clear hi);(try clear ho0);obtain ⟨Ao20,co20,eo20⟩ := Kd.R_slice HO1046.out;subst eo20) | ((with_reducible refine gate_callee (f := 34) rfl ?_);refine zgl (some 36) Tryd.func34 #[.int .i64 a0,.int .i64 a1,.int .i64 a2,.slice Ao20 t1044.length co20] ?_;(with_reducible refine (impl_CountReplies.calls k a0 a1 a2 _ _ t1044 t1047 t1048 t1049 t1050 t1051 _ ?side1 ?side2 ?side3 A11.out).mono ?_);(case side1 => repeat (first | exact (Kd.R_reads' HO1046.out).2.2 | (with_reducible refine Kd.C_alloc ?_ _) | (with_reducible refine Kd.C_drewN ?_ _) | (with_reducible refine Kd.C_drew ?_)));(case side2 => exact (Kd.R_reads' HO1046.out).2.1);(case side3 => exact HLD.out.on (zl_ HB));rintro e w21 ⟨rfl,hb⟩;refine ⟨_,rfl,?_⟩;replace HO1046 := zrb HO1046 hb;replace BK1043 := zb BK1043 hb;replace HB := zs_ HB hb;(try clear hb);(try clear hb2);(try clear hk);(try clear hi)) | ((with_reducible refine gate_dst (N := 13) rfl ?_);refine zbx (N := 13) (cs := #[.int .i64 0,.int .i64 0,.int .i64 0,.int .i64 0]) (t := 63) ?_;intro gb1052 hg w22 hbox hb;replace HO1046 := zrb HO1046 hb;have BK1052 := am_ (hbox);have GW1052 := zw_ HB hg;have GE1052 := zw_ HB hg;replace HB := zs_ HB hb;have NB1043_1052 := zl hg BK1043;have NB1052_1043 := zg hg BK1043;replace BK1043 := zb BK1043 hb;clear hb hbox hg;have hnb23 := NB1052_1043.out;have hnc23 := NB1043_1052.out;obtain ⟨hcz24_0,hcz24_1,hcz24_2,hcz24_3,hfz24_0,hfz24_1,hfz24_2,hfz24_3⟩ := zc4 BK1052))
  (try simp only [Act.put,p1_,p2_,p3_])
  go_cut [47] (fun v47 wc => ∃ (kq : Nat) (x47_11 : Bool),v47 = .bool x47_11 ∧ Aside0 (laws_FnExactCountReplies.j0 kq l3 t1044 x47_11 = some r) ∧ Aside0 (kq ≤ k) ∧ Aside0 (Kd.R k73 73 wc w.heap.size (fun _ => True) (.slice Ao20 t1044.length co20) t1044) ∧ Aside0 (wc.heap[gb1043]? = some (.cells #[.int .i64 t1038,.int .i64 t1039,.int .i64 t1040,.int .i64 t1041] 63 (0,0))) ∧ Aside0 (wc.heap[gb1052]? = some (.cells #[.int .i64 t1047,.int .i64 t1048,.int .i64 t1049,.int .i64 t1050] 63 (0,0))) ∧ Aside0 (Below w.heap.size w wc))
  case first =>
   have H := HC12.out
   clear HC12
   replace H := Option.bind_eq_some_iff.mp H
   obtain ⟨t1053,A250,H⟩ := H
   try dsimp only at H
   have A25 := am_ A250
   clear A250
   by_cases c26 : t1053 = true
   ·subst c26
    have H1 : (laws_FnExactCountReplies.j0 k l3 t1044 (t1051 != t1042)) = some r := by rw [if_pos rfl] at H;exact H
    clear H
    have H := H1
    clear H1
    have H' := am_ H
    clear H
    have hnb27 := NB1052_1043.out
    have hnc27 := NB1043_1052.out
    obtain ⟨hcz28_0,hcz28_1,hcz28_2,hcz28_3,hfz28_0,hfz28_1,hfz28_2,hfz28_3⟩ := zc4 BK1052
    obtain ⟨hcz29_0,hcz29_1,hcz29_2,hcz29_3,hfz29_0,hfz29_1,hfz29_2,hfz29_3⟩ := zc4 BK1043
    go_wp2_with (first | ((with_reducible refine gate_callee (f := 35) rfl ?_);refine zgl (some 41) Tryd.func35 #[.agg #[.int .i64 t1047,.int .i64 t1048,.int .i64 t1049,.int .i64 t1050],.agg #[.int .i64 t1038,.int .i64 t1039,.int .i64 t1040,.int .i64 t1041]] ?_;(with_reducible refine (laws_eqAnswer.calls t1047 t1048 t1049 t1050 t1038 t1039 t1040 t1041 true _ A25.out).mono ?_);rintro e w30 ⟨rfl,hb⟩;refine ⟨_,rfl,?_⟩;replace HO1046 := am_ (Kd.R_below (by (with_reducible repeat (first | apply r1_ | apply r2_ | apply r3_));exact (Kd.R_mono (zrf (Kd.R_types HO1046.out BK1052.out (by decide))) (fun _ h_ => h_.1))) hb);replace BK1043 := am_ (blk_below (g := gb1043) (o := .cells #[.int .i64 t1038,.int .i64 t1039,.int .i64 t1040,.int .i64 t1041] 63 (0,0)) (zq BK1043) hb);replace BK1052 := am_ (blk_below (g := gb1052) (o := .cells #[.int .i64 t1047,.int .i64 t1048,.int .i64 t1049,.int .i64 t1050] 63 (0,0)) (zq BK1052) hb);replace HB := zs_ HB hb;(try clear hb);(try clear hb2);(try clear hk);(try clear hi)))
    go_meet
    case rel => exact ⟨_,((t1051 != t1042)),(by first | rfl | (simp;done) | (simp [*];done)),H',⟨by first | omega | exact Nat.le_refl _⟩,⟨by (with_reducible repeat (first | apply r1_ | apply r2_ | apply r3_));exact Kd.R_mono HO1046.out (fun _ hk => trivial)⟩,⟨by (with_reducible repeat (first | apply k1_ | apply k2_ | apply k3_));exact BK1043.out⟩,⟨by (with_reducible repeat (first | apply k1_ | apply k2_ | apply k3_));exact BK1052.out⟩,⟨zl_ HB⟩⟩
   ·replace c26 := Bool.eq_false_iff.mpr c26
    subst c26
    have H1 : (laws_FnExactCountReplies.j0 k l3 t1044 true) = some r := by rw [if_neg (show ¬ (false = true) by decide)] at H;exact H
    clear H
    have H := H1
    clear H1
    have H' := am_ H
    clear H
    have hnb31 := NB1052_1043.out
    have hnc31 := NB1043_1052.out
    obtain ⟨hcz32_0,hcz32_1,hcz32_2,hcz32_3,hfz32_0,hfz32_1,hfz32_2,hfz32_3⟩ := zc4 BK1052
    obtain ⟨hcz33_0,hcz33_1,hcz33_2,hcz33_3,hfz33_0,hfz33_1,hfz33_2,hfz33_3⟩ := zc4 BK1043
    go_wp2_with (first | ((with_reducible refine gate_callee (f := 35) rfl ?_);refine zgl (some 41) Tryd.func35 #[.agg #[.int .i64 t1047,.int .i64 t1048,.int .i64 t1049,.int .i64 t1050],.agg #[.int .i64 t1038,.int .i64 t1039,.int .i64 t1040,.int .i64 t1041]] ?_;(with_reducible refine (laws_eqAnswer.calls t1047 t1048 t1049 t1050 t1038 t1039 t1040 t1041 false _ A25.out).mono ?_);rintro e w34 ⟨rfl,hb⟩;refine ⟨_,rfl,?_⟩;replace HO1046 := am_ (Kd.R_below (by (with_reducible repeat (first | apply r1_ | apply r2_ | apply r3_));exact (Kd.R_mono (zrf (Kd.R_types HO1046.out BK1052.out (by decide))) (fun _ h_ => h_.1))) hb);replace BK1043 := am_ (blk_below (g := gb1043) (o := .cells #[.int .i64 t1038,.int .i64 t1039,.int .i64 t1040,.int .i64 t1041] 63 (0,0)) (zq BK1043) hb);replace BK1052 := am_ (blk_below (g := gb1052) (o := .cells #[.int .i64 t1047,.int .i64 t1048,.int .i64 t1049,.int .i64 t1050] 63 (0,0)) (zq BK1052) hb);replace HB := zs_ HB hb;(try clear hb);(try clear hb2);(try clear hk);(try clear hi)))
    go_meet
    case rel => exact ⟨_,(true),(by first | rfl | (simp;done) | (simp [*];done)),H',⟨by first | omega | exact Nat.le_refl _⟩,⟨by (with_reducible repeat (first | apply r1_ | apply r2_ | apply r3_));exact Kd.R_mono HO1046.out (fun _ hk => trivial)⟩,⟨by (with_reducible repeat (first | apply k1_ | apply k2_ | apply k3_));exact BK1043.out⟩,⟨by (with_reducible repeat (first | apply k1_ | apply k2_ | apply k3_));exact BK1052.out⟩,⟨zl_ HB⟩⟩
  case rest =>
   clear HC12
   try clear c2
   try clear p2
   try clear c3
   try clear c6
   try clear c6b0
   try clear c23
   try clear c26
   try clear c27
   try clear c31
   try clear c32
   try clear c33
   try clear c34
   try clear hcz18_0
   try clear hcz18_1
   try clear hcz18_2
   try clear hcz18_3
   try clear hcz24_0
   try clear hcz24_1
   try clear hcz24_2
   try clear hcz24_3
   try clear hcz28_0
   try clear hcz28_1
   try clear hcz28_2
   try clear hcz28_3
   try clear hcz29_0
   try clear hcz29_1
   try clear hcz29_2
   try clear hcz29_3
   try clear hcz32_0
   try clear hcz32_1
   try clear hcz32_2
   try clear hcz32_3
   try clear hcz33_0
   try clear hcz33_1
   try clear hcz33_2
   try clear hcz33_3
   try clear hfz18_0
   try clear hfz18_1
   try clear hfz18_2
   try clear hfz18_3
   try clear hfz24_0
   try clear hfz24_1
   try clear hfz24_2
   try clear hfz24_3
   try clear hfz28_0
   try clear hfz28_1
   try clear hfz28_2
   try clear hfz28_3
   try clear hfz29_0
   try clear hfz29_1
   try clear hfz29_2
   try clear hfz29_3
   try clear hfz32_0
   try clear hfz32_1
   try clear hfz32_2
   try clear hfz32_3
   try clear hfz33_0
   try clear hfz33_1
   try clear hfz33_2
   try clear hfz33_3
   obtain ⟨kq,x47_11,rfl,HA,HJ11,HO_12,BK1043,BK1052,HB⟩ := hcut
   cases kq with
   | zero => exact absurd HA.out (by simp [laws_FnExactCountReplies.j0])
   | succ kj11 =>
    have H := HA.out
    clear HA
    simp only [laws_FnExactCountReplies.j0] at H
    by_cases c35 : x47_11 = true
    ·subst c35
     have H1 : (some false) = some r := by rw [if_pos rfl] at H;exact H
     clear H
     have H := H1
     clear H1
     obtain rfl := Option.some.inj H
     go_wp2
     go_ret
     exact ⟨zt_,zl_ HB⟩
    ·replace c35 := Bool.eq_false_iff.mpr c35
     subst c35
     have H1 : ((laws_toReplyS.f kj11 l3).bind fun t1054 => ((laws_eqReplyS.f kj11 t1044 t1054).bind fun t1057 => (if t1057 = true then (some true) else (some false)))) = some r := by rw [if_neg (show ¬ (false = true) by decide)] at H;exact H
     clear H
     have H := H1
     clear H1
     replace H := Option.bind_eq_some_iff.mp H
     obtain ⟨t1054,A360,H⟩ := H
     try dsimp only at H
     have A36 := am_ A360
     clear A360
     replace H := Option.bind_eq_some_iff.mp H
     obtain ⟨t1057,A370,H⟩ := H
     try dsimp only at H
     have A37 := am_ A370
     clear A370
     by_cases c38 : t1057 = true
     ·subst c38
      have H1 : (some true) = some r := by rw [if_pos rfl] at H;exact H
      clear H
      have H := H1
      clear H1
      obtain rfl := Option.some.inj H
      go_wp2_with (first | ((with_reducible refine gate_callee (f := 33) rfl ?_);refine zgl (some 50) Tryd.func33 #[.slice A3 l3.length c3] ?_;(with_reducible refine (laws_toReplyS.calls kj11 _ _ l3 t1054 _ ?side1 ?side2 A36.out).mono ?_);(case side1 => exact zc_ HR3 HB);(case side2 => exact HC3.out);rintro e w39 ⟨v1055,rfl,ho0,hb⟩;refine ⟨_,rfl,?_⟩;have HO1056 := am_ (Kd.R_lower (Kd.R_new' ho0 (Kd.R_lt (zr HO_12))) (below_size (zl_ HB)));replace HO_12 := am_ (Kd.R_elder' (zr HO_12) (Kd.R_base ho0) hb);replace HB := zs_ HB hb;(try clear hb);(try clear hb2);(try clear hk);(try clear hi);(try clear ho0);obtain ⟨Ao40,co40,eo40⟩ := Kd.R_slice HO1056.out;subst eo40) | ((with_reducible refine gate_callee (f := 36) rfl ?_);refine zgl (some 51) Tryd.func36 #[.slice Ao20 t1044.length co20,.slice Ao40 t1054.length co40] ?_;(with_reducible refine (laws_eqReplyS.calls kj11 _ _ t1044 _ _ t1054 true _ ?side1 ?side2 ?side3 ?side4 A37.out).mono ?_);(case side1 => repeat (first | exact (Kd.R_reads' HO_12.out).2.2 | (with_reducible refine Kd.C_alloc ?_ _) | (with_reducible refine Kd.C_drewN ?_ _) | (with_reducible refine Kd.C_drew ?_)));(case side2 => exact (Kd.R_reads' HO_12.out).2.1);(case side3 => repeat (first | exact (Kd.R_reads' HO1056.out).2.2 | (with_reducible refine Kd.C_alloc ?_ _) | (with_reducible refine Kd.C_drewN ?_ _) | (with_reducible refine Kd.C_drew ?_)));(case side4 => exact (Kd.R_reads' HO1056.out).2.1);rintro e w41 ⟨rfl,hb⟩;refine ⟨_,rfl,?_⟩;replace HO_12 := zrb HO_12 hb;replace HO1056 := zrb HO1056 hb;replace HB := zs_ HB hb;(try clear hb);(try clear hb2);(try clear hk);(try clear hi)))
      go_ret
      exact ⟨zt_,zl_ HB⟩
     ·replace c38 := Bool.eq_false_iff.mpr c38
      subst c38
      have H1 : (some false) = some r := by rw [if_neg (show ¬ (false = true) by decide)] at H;exact H
      clear H
      have H := H1
      clear H1
      obtain rfl := Option.some.inj H
      go_wp2_with (first | ((with_reducible refine gate_callee (f := 33) rfl ?_);refine zgl (some 50) Tryd.func33 #[.slice A3 l3.length c3] ?_;(with_reducible refine (laws_toReplyS.calls kj11 _ _ l3 t1054 _ ?side1 ?side2 A36.out).mono ?_);(case side1 => exact zc_ HR3 HB);(case side2 => exact HC3.out);rintro e w42 ⟨v1055,rfl,ho0,hb⟩;refine ⟨_,rfl,?_⟩;have HO1056 := am_ (Kd.R_lower (Kd.R_new' ho0 (Kd.R_lt (zr HO_12))) (below_size (zl_ HB)));replace HO_12 := am_ (Kd.R_elder' (zr HO_12) (Kd.R_base ho0) hb);replace HB := zs_ HB hb;(try clear hb);(try clear hb2);(try clear hk);(try clear hi);(try clear ho0);obtain ⟨Ao43,co43,eo43⟩ := Kd.R_slice HO1056.out;subst eo43) | ((with_reducible refine gate_callee (f := 36) rfl ?_);refine zgl (some 51) Tryd.func36 #[.slice Ao20 t1044.length co20,.slice Ao43 t1054.length co43] ?_;(with_reducible refine (laws_eqReplyS.calls kj11 _ _ t1044 _ _ t1054 false _ ?side1 ?side2 ?side3 ?side4 A37.out).mono ?_);(case side1 => repeat (first | exact (Kd.R_reads' HO_12.out).2.2 | (with_reducible refine Kd.C_alloc ?_ _) | (with_reducible refine Kd.C_drewN ?_ _) | (with_reducible refine Kd.C_drew ?_)));(case side2 => exact (Kd.R_reads' HO_12.out).2.1);(case side3 => repeat (first | exact (Kd.R_reads' HO1056.out).2.2 | (with_reducible refine Kd.C_alloc ?_ _) | (with_reducible refine Kd.C_drewN ?_ _) | (with_reducible refine Kd.C_drew ?_)));(case side4 => exact (Kd.R_reads' HO1056.out).2.1);rintro e w44 ⟨rfl,hb⟩;refine ⟨_,rfl,?_⟩;replace HB := zs_ HB hb;(try clear hb);(try clear hb2);(try clear hk);(try clear hi)))
      go_ret
      exact ⟨zt_,zl_ HB⟩
end Go.Proofs.YtlifdodphkimpaaDoor.B
end
