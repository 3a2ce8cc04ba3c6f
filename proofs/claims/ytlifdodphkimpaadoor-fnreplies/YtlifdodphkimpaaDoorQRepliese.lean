/- A part of the proof that FnReplies returns true at every input: plain functions, contracts and lemmas. No conditions. -/
import Derived.Test.YtlifdodphkimpaaDoorQRepliesd
set_option linter.unusedVariables false
set_option linter.unusedSimpArgs false
set_option linter.unusedSectionVars false
section
namespace Go.Proofs.YtlifdodphkimpaaDoor.B
open Go.RowKit Go.Proofs.YtlifdodphkimpaaDoorW.PrintWords Go.Proofs.YtlifdodphkimpaaDoorW.PrintLast Go.Proofs.YtlifdodphkimpaaDoorW.PrintMore
attribute [local go_sem] max2_int min2_int max_two min_two max_three min_three max_four min_four
attribute [local go_sem high] eqA63
def spec_l11Count.T9 : Bool × List (List Nat × List Nat) := (true,[([],[]),([],[]),([0,1],[0,1]),([2,2],[2]),([3],[3]),([4,3],[3,4]),([3],[3]),([5,6,3],[3,5,6]),([3,7],[3,7]),([8,3],[8]),([9],[9]),([10,9],[9,10]),([9],[9]),([11,12,9],[9,11,12]),([9,13],[9,13]),([14,9],[14]),([15],[15]),([16,15],[15,16]),([15],[15]),([15],[15]),([18,19,15],[15,18,19]),([20,15],[15,20]),([21,15],[15,21]),([17,22,15],[15,17,22]),([15,23],[15,23]),([24,15],[24]),([25],[25]),([25],[25]),([27,25],[25,27]),([26,28,25,25],[25,26,28]),([29,25],[25,29]),([25,30],[25,30])])
def spec_l11Count.B9 : List Nat := [0,0,3,7,15,31,15,127,255,511,1023,2047,1023,8191,16383,32767,65535,131071,65535,65535,851967,1900543,3997695,8388607,16777215,33554431,67108863,67108863,201326591,536870911,1073741823,2147483647]
theorem spec_l11Count.tab9 : rtab .any (opsOf Tryd.f83 9) = spec_l11Count.T9 := by kernel_rfl
theorem spec_l11Count.bits9 : waitsOk spec_l11Count.T9.2 spec_l11Count.B9 = true := by kernel_rfl
set_option maxHeartbeats 8000000 in
set_option maxRecDepth 100000 in
theorem spec_l11Count.calls (k : Nat) (a0 : Int) (a1 : Int) (a2 : Int) (A3 : Option Addr) (c3 : Nat) (l3 : List (S73)) (r1 : Int) (r2 : Int) (r3 : Int) (r4 : Int) (r5 : Bool) (w : World) (hr3 : Kd.C k73 w A3 l3.length l3) (hc3 : l3.length ≤ c3) (h : spec_l11Count.f k a0 a1 a2 l3 = some (r1,r2,r3,r4,r5)) :
  Calls Tryd.prog 83 #[.int .i64 a0,.int .i64 a1,.int .i64 a2,.slice A3 l3.length c3] w fun e w' => e = .returned (.tuple #[.agg #[.int .i64 r1,.int .i64 r2,.int .i64 r3,.int .i64 r4],.bool r5]) ∧ Below w.heap.size w w' := by
 have hu63 := Tryd.underlying63
 have hu73 := Tryd.underlying73
 have HR3 := am_ hr3
 have HC3 := am_ hc3
 clear hr3 hc3
 have HB := am_ (Below.refl w.heap.size w)
 have H : (spec_l11Count.l0 k a0 a1 a2 l3 0) = some (r1,r2,r3,r4,r5) := h
 clear h
 have H' := am_ H
 clear H
 go_enter Tryd.func83,Tryd.ntmps83
 go_wp2_with (first | ((with_reducible refine gate_dst (N := 8) rfl ?_);refine zbx (N := 8) (cs := #[.int .i64 0,.int .i64 0,.int .i64 0,.int .i64 0]) (t := 63) ?_;intro gb932 hg w5 hbox hb;have BK932 := am_ (hbox);have GW932 := zw_ HB hg;have GE932 := zw_ HB hg;replace HB := zs_ HB hb;clear hb hbox hg))
 go_loopg [10] k (fun kq v10 w' => ∃ (x10_1 : Int) (x933000_1 : Int) (x933001_1 : Int) (x933002_1 : Int) (x933003_1 : Int),v10 = .int .i64 x10_1 ∧ Aside0 (spec_l11Count.l0 kq a0 a1 a2 l3 x10_1 = some (r1,r2,r3,r4,r5)) ∧ Aside0 (kq ≤ k) ∧ Aside0 (w'.heap[gb932]? = some (.cells #[.int .i64 x933000_1,.int .i64 x933001_1,.int .i64 x933002_1,.int .i64 x933003_1] 63 (0,0))) ∧ Aside0 (Below w.heap.size w w'))
 case atStart => exact ⟨(0),(0),(0),(0),(0),(by first | rfl | (simp;done) | (simp [*];done)),H',⟨Nat.le_refl _⟩,⟨by (with_reducible repeat (first | apply k1_ | apply k2_ | apply k3_));exact BK932.out⟩,⟨zl_ HB⟩⟩
 case round =>
  clear H'
  try clear p2
  try clear c3
  obtain ⟨x10_1,x933000_1,x933001_1,x933002_1,x933003_1,rfl,HA,HK1,BK932,HB⟩ := hrel
  cases gk with
  | zero => exact absurd HA.out (by simp [spec_l11Count.l0])
  | succ k1 =>
   have H := HA.out
   clear HA
   simp only [spec_l11Count.l0] at H
   by_cases c6 : x10_1 < (l3.length : Int)
   ·rw [if_pos c6] at H
    have c6b0 : decide (x10_1 < (l3.length : Int)) = true := decide_eq_true c6
    clear c6
    obtain ⟨y933,hy933⟩ : ∃ y_ : List Int,y_ = (([] : List Int)) := ⟨_,rfl⟩
    replace H : (spec_l11Count.l1 k1 a0 a1 a2 l3 x10_1 y933 0) = some (r1,r2,r3,r4,r5) := by first | (rw [hy933];with_reducible exact H) | (have H2_ := (Option.bind_some _ _).symm.trans H;rw [hy933];with_reducible exact H2_) | (have H2_ := (Option.bind_some _ _).symm.trans H;with_reducible exact H2_) | with_reducible exact H | (rw [hy933];exact H) | exact H
    have Ny933 := am_ hy933
    clear hy933
    have H' := am_ H
    clear H
    go_wp2_with (first | ((with_reducible refine gate_dst (N := 20) rfl ?_);refine Kd.R_lit (Kd.int .i64) _ 3 ?hg (N := 20) ?hd (xs := ([] : List Int)) (inner := []) (ok := fun _ => True) (okp := fun _ => True) ?hr ?hp (fun _ hk => hk) trivial (Below.refl _ _) (Nat.le_refl _) (by simp) ?_;(case hd => rfl);(case hg => rfl);(case hr => first | (go_simp;done) | (go_simp;rfl));(case hp => exact (Reps.none _ _));intro v934 w7 ho8 hb hg_ hnew_;clear hg_ hnew_;(first | rw [← Ny933.out] at ho8 | (simp only [Int.reduceToNat] at ho8;rw [← Ny933.out] at ho8));have HO935 := am_ (Kd.R_lower ho8 (below_size (zl_ HB)));replace BK932 := zb BK932 hb;replace HB := zs_ HB hb;clear hb ho8))
    go_loopg [11,12] k1 (fun kq v11 v12 w' => ∃ (x11_2 : List Int) (x12_2 : Int),v12 = .int .i64 x12_2 ∧ Aside0 (spec_l11Count.l1 kq a0 a1 a2 l3 x10_1 x11_2 x12_2 = some (r1,r2,r3,r4,r5)) ∧ Aside0 (kq ≤ k1) ∧ Aside0 (Kd.R (Kd.int .i64) 3 w' w.heap.size (fun _ => True) v11 x11_2) ∧ Aside0 (w'.heap[gb932]? = some (.cells #[.int .i64 x933000_1,.int .i64 x933001_1,.int .i64 x933002_1,.int .i64 x933003_1] 63 (0,0))) ∧ Aside0 (Below w.heap.size w w'))
    case atStart => exact ⟨(y933),(0),(by first | rfl | (simp;done) | (simp [*];done)),H',⟨Nat.le_refl _⟩,⟨zr HO935⟩,⟨by (with_reducible repeat (first | apply k1_ | apply k2_ | apply k3_));exact BK932.out⟩,⟨zl_ HB⟩⟩
    case round =>
     clear H'
     try clear p2
     try clear c3
     try clear c6
     try clear c6b0
     try clear c8
     try clear p2
     obtain ⟨x11_2,x12_2,rfl,HA,HK2,HO_11,BK932,HB⟩ := hrel
     cases gk with
     | zero => exact absurd HA.out (by simp [spec_l11Count.l1])
     | succ k2 =>
      have H := HA.out
      clear HA
      simp only [spec_l11Count.l1] at H
      by_cases c9 : x12_2 ≤ x10_1
      ·rw [if_pos c9] at H
       have c9b0 : decide (x12_2 ≤ x10_1) = true := decide_eq_true c9
       clear c9
       by_cases c10 : 0 ≤ x12_2
       ·rw [if_pos c10] at H
        have c10b0 : decide (0 ≤ x12_2) = true := decide_eq_true c10
        clear c10
        by_cases c11 : x12_2 < (l3.length : Int)
        ·rw [if_pos c11] at H
         have c11b0 : decide (x12_2 < (l3.length : Int)) = true := decide_eq_true c11
         clear c11
         replace H := Option.bind_eq_some_iff.mp H
         obtain ⟨t939,A120,H⟩ := H
         try dsimp only at H
         have A12 := am_ A120
         clear A120
         by_cases c13 : t939 = true
         ·subst c13
          have H1 : (if ((rd_T73 l3 x12_2).f1) = a1 then (if ((rd_T73 l3 x12_2).f2) = a2 then (if 0 ≤ x10_1 then (if x10_1 < (l3.length : Int) then (if (((rd_T73 l3 x12_2).f3.f0) == ((rd_T73 l3 x10_1).f3.f0) && (((rd_T73 l3 x12_2).f3.f1) == ((rd_T73 l3 x10_1).f3.f1) && (((rd_T73 l3 x12_2).f3.f2) == ((rd_T73 l3 x10_1).f3.f2) && (((rd_T73 l3 x12_2).f3.f3) == ((rd_T73 l3 x10_1).f3.f3))))) = true then ((spec_l08Has.f k2 x11_2 ((rd_T73 l3 x12_2).f0)).bind fun t941 => (if t941 = true then (spec_l11Count.l1 k2 a0 a1 a2 l3 x10_1 x11_2 (wrap64 (x12_2 + 1))) else (if x11_2.length < 17592186044416 then (spec_l11Count.l1 k2 a0 a1 a2 l3 x10_1 (x11_2 ++ [(rd_T73 l3 x12_2).f0]) (wrap64 (x12_2 + 1))) else (none)))) else (spec_l11Count.l1 k2 a0 a1 a2 l3 x10_1 x11_2 (wrap64 (x12_2 + 1)))) else (none)) else (none)) else (spec_l11Count.l1 k2 a0 a1 a2 l3 x10_1 x11_2 (wrap64 (x12_2 + 1)))) else (spec_l11Count.l1 k2 a0 a1 a2 l3 x10_1 x11_2 (wrap64 (x12_2 + 1)))) = some (r1,r2,r3,r4,r5) := by rw [if_pos rfl] at H;exact H
          clear H
          have H := H1
          clear H1
          by_cases c14 : ((rd_T73 l3 x12_2).f1) = a1
          ·rw [if_pos c14] at H
           have c14b0 : (((rd_T73 l3 x12_2).f1) == a1) = true := beq_iff_eq.mpr c14
           have c14b1 : (((rd_T73 l3 x12_2).f1) != a1) = false := bne_eq_false_iff_eq.mpr c14
           clear c14
           by_cases c15 : ((rd_T73 l3 x12_2).f2) = a2
           ·rw [if_pos c15] at H
            have c15b0 : (((rd_T73 l3 x12_2).f2) == a2) = true := beq_iff_eq.mpr c15
            have c15b1 : (((rd_T73 l3 x12_2).f2) != a2) = false := bne_eq_false_iff_eq.mpr c15
            clear c15
            by_cases c16 : 0 ≤ x10_1
            ·rw [if_pos c16] at H
             have c16b0 : decide (0 ≤ x10_1) = true := decide_eq_true c16
             clear c16
             by_cases c17 : x10_1 < (l3.length : Int)
             ·rw [if_pos c17] at H
              have c17b0 : decide (x10_1 < (l3.length : Int)) = true := decide_eq_true c17
              clear c17
              by_cases c18 : (((rd_T73 l3 x12_2).f3.f0) == ((rd_T73 l3 x10_1).f3.f0) && (((rd_T73 l3 x12_2).f3.f1) == ((rd_T73 l3 x10_1).f3.f1) && (((rd_T73 l3 x12_2).f3.f2) == ((rd_T73 l3 x10_1).f3.f2) && (((rd_T73 l3 x12_2).f3.f3) == ((rd_T73 l3 x10_1).f3.f3))))) = true
              ·rw [if_pos c18] at H
               have c18k := am_ c18
               have c18b0 : (((rd_T73 l3 x12_2).f3.f0) == ((rd_T73 l3 x10_1).f3.f0) && (((rd_T73 l3 x12_2).f3.f1) == ((rd_T73 l3 x10_1).f3.f1) && (((rd_T73 l3 x12_2).f3.f2) == ((rd_T73 l3 x10_1).f3.f2) && (((rd_T73 l3 x12_2).f3.f3) == ((rd_T73 l3 x10_1).f3.f3))))) = true := c18k.out
               (try (have c18b1 : decide (((rd_T73 l3 x12_2).f3.f0) = ((rd_T73 l3 x10_1).f3.f0) && (((rd_T73 l3 x12_2).f3.f1) == ((rd_T73 l3 x10_1).f3.f1) && (((rd_T73 l3 x12_2).f3.f2) == ((rd_T73 l3 x10_1).f3.f2) && (((rd_T73 l3 x12_2).f3.f3) == ((rd_T73 l3 x10_1).f3.f3))))) = true := by simpa using c18k.out))
               (try (have c18b2 : (((rd_T73 l3 x12_2).f3.f0) == ((rd_T73 l3 x10_1).f3.f0) && (((rd_T73 l3 x12_2).f3.f1) == ((rd_T73 l3 x10_1).f3.f1) && (((rd_T73 l3 x12_2).f3.f2) == ((rd_T73 l3 x10_1).f3.f2) && (((rd_T73 l3 x12_2).f3.f3) == ((rd_T73 l3 x10_1).f3.f3))))) = true := by simpa using c18k.out))
               (try simp only [*,Bool.not_true,Bool.not_false,Bool.false_or,Bool.true_or,Bool.or_false,Bool.or_true,Bool.true_and,Bool.and_true,Bool.false_and,Bool.and_false] at c18)
               have c18bs := c18
               clear c18k
               clear c18
               replace H := Option.bind_eq_some_iff.mp H
               obtain ⟨t941,A190,H⟩ := H
               try dsimp only at H
               have A19 := am_ A190
               clear A190
               by_cases c20 : t941 = true
               ·subst c20
                have H1 : (spec_l11Count.l1 k2 a0 a1 a2 l3 x10_1 x11_2 (wrap64 (x12_2 + 1))) = some (r1,r2,r3,r4,r5) := by rw [if_pos rfl] at H;exact H
                clear H
                have H := H1
                clear H1
                have H' := am_ H
                clear H
                have p937 : 0 ≤ (x12_2 : Int) := zo_
                have q937 : x12_2 < (l3.length : Int) := zo_
                obtain ⟨ad937,e937,hx937_0,hx937_1,hx937_2,hx937_3,hx937_4,hx937_5,hx937_6,hx937_7⟩ := at_T73 HR3.out x12_2 p937 q937
                cases e937
                replace hx937_0 := zx_ HB hx937_0
                replace hx937_1 := zx_ HB hx937_1
                replace hx937_2 := zx_ HB hx937_2
                replace hx937_3 := zx_ HB hx937_3
                replace hx937_4 := zx_ HB hx937_4
                replace hx937_5 := zx_ HB hx937_5
                replace hx937_6 := zx_ HB hx937_6
                replace hx937_7 := zx_ HB hx937_7
                replace p937 := eq_true p937
                replace q937 := eq_true q937
                try go_wp2_with (first | ((with_reducible refine gate_dst (N := 13) rfl ?_);refine zbx (N := 13) (cs := #[.int .i64 0,.int .i64 0,.int .i64 0,.int .i64 0,.int .i64 0,.int .i64 0,.int .i64 0,.string ⟨#[]⟩]) (t := 73) ?_;intro gb938 hg w21 hbox hb;replace HO_11 := zrb HO_11 hb;have BK938 := am_ (hbox);have GW938 := zw_ HB hg;have GE938 := zw_ HB hg;replace HB := zs_ HB hb;have NB932_938 := zl hg BK932;have NB938_932 := zg hg BK932;replace BK932 := zb BK932 hb;clear hb hbox hg;have hnb22 := NB938_932.out;have hnc22 := NB932_938.out;obtain ⟨hcz23_0,hcz23_1,hcz23_2,hcz23_3,hcz23_4,hcz23_5,hcz23_6,hcz23_7,hfz23_0,hfz23_1,hfz23_2,hfz23_3,hfz23_4,hfz23_5,hfz23_6,hfz23_7⟩ := zc8 BK938))
                have n0_ : Aside0 (Kd.R (Kd.int .i64) 3 ((((((((w21.setCell ⟨gb938,0,none⟩ (.int .i64 ((rd_T73 l3 x12_2).f0))).setCell ⟨gb938,1,none⟩ (.int .i64 ((rd_T73 l3 x12_2).f1))).setCell ⟨gb938,2,none⟩ (.int .i64 ((rd_T73 l3 x12_2).f2))).setCell ⟨gb938,3,none⟩ (.int .i64 ((rd_T73 l3 x12_2).f3.f0))).setCell ⟨gb938,4,none⟩ (.int .i64 ((rd_T73 l3 x12_2).f3.f1))).setCell ⟨gb938,5,none⟩ (.int .i64 ((rd_T73 l3 x12_2).f3.f2))).setCell ⟨gb938,6,none⟩ (.int .i64 ((rd_T73 l3 x12_2).f3.f3))).setCell ⟨gb938,7,none⟩ (.string ((rd_T73 l3 x12_2).f4))) w.heap.size (fun _ => True) u11 x11_2) := ⟨by (with_reducible repeat (first | apply r1_ | apply r2_ | apply r3_));exact Kd.R_mono (zrf (Kd.R_types HO_11.out BK938.out (by decide))) (fun _ hk => trivial)⟩
                have n1_ : Aside0 (((((((((w21.setCell ⟨gb938,0,none⟩ (.int .i64 ((rd_T73 l3 x12_2).f0))).setCell ⟨gb938,1,none⟩ (.int .i64 ((rd_T73 l3 x12_2).f1))).setCell ⟨gb938,2,none⟩ (.int .i64 ((rd_T73 l3 x12_2).f2))).setCell ⟨gb938,3,none⟩ (.int .i64 ((rd_T73 l3 x12_2).f3.f0))).setCell ⟨gb938,4,none⟩ (.int .i64 ((rd_T73 l3 x12_2).f3.f1))).setCell ⟨gb938,5,none⟩ (.int .i64 ((rd_T73 l3 x12_2).f3.f2))).setCell ⟨gb938,6,none⟩ (.int .i64 ((rd_T73 l3 x12_2).f3.f3))).setCell ⟨gb938,7,none⟩ (.string ((rd_T73 l3 x12_2).f4))).heap[gb932]? = some (.cells #[.int .i64 x933000_1,.int .i64 x933001_1,.int .i64 x933002_1,.int .i64 x933003_1] 63 (0,0))) := ⟨zq BK932⟩
                have n2_ : Aside0 (((((((((w21.setCell ⟨gb938,0,none⟩ (.int .i64 ((rd_T73 l3 x12_2).f0))).setCell ⟨gb938,1,none⟩ (.int .i64 ((rd_T73 l3 x12_2).f1))).setCell ⟨gb938,2,none⟩ (.int .i64 ((rd_T73 l3 x12_2).f2))).setCell ⟨gb938,3,none⟩ (.int .i64 ((rd_T73 l3 x12_2).f3.f0))).setCell ⟨gb938,4,none⟩ (.int .i64 ((rd_T73 l3 x12_2).f3.f1))).setCell ⟨gb938,5,none⟩ (.int .i64 ((rd_T73 l3 x12_2).f3.f2))).setCell ⟨gb938,6,none⟩ (.int .i64 ((rd_T73 l3 x12_2).f3.f3))).setCell ⟨gb938,7,none⟩ (.string ((rd_T73 l3 x12_2).f4))).heap[gb938]? = some (.cells #[.int .i64 ((rd_T73 l3 x12_2).f0),.int .i64 ((rd_T73 l3 x12_2).f1),.int .i64 ((rd_T73 l3 x12_2).f2),.int .i64 ((rd_T73 l3 x12_2).f3.f0),.int .i64 ((rd_T73 l3 x12_2).f3.f1),.int .i64 ((rd_T73 l3 x12_2).f3.f2),.int .i64 ((rd_T73 l3 x12_2).f3.f3),.string ((rd_T73 l3 x12_2).f4)] 73 (0,0))) := ⟨zq BK938⟩
                have n3_ : Aside0 (Below w.heap.size w ((((((((w21.setCell ⟨gb938,0,none⟩ (.int .i64 ((rd_T73 l3 x12_2).f0))).setCell ⟨gb938,1,none⟩ (.int .i64 ((rd_T73 l3 x12_2).f1))).setCell ⟨gb938,2,none⟩ (.int .i64 ((rd_T73 l3 x12_2).f2))).setCell ⟨gb938,3,none⟩ (.int .i64 ((rd_T73 l3 x12_2).f3.f0))).setCell ⟨gb938,4,none⟩ (.int .i64 ((rd_T73 l3 x12_2).f3.f1))).setCell ⟨gb938,5,none⟩ (.int .i64 ((rd_T73 l3 x12_2).f3.f2))).setCell ⟨gb938,6,none⟩ (.int .i64 ((rd_T73 l3 x12_2).f3.f3))).setCell ⟨gb938,7,none⟩ (.string ((rd_T73 l3 x12_2).f4)))) := ⟨zl_ HB⟩
                (try clear HO_11)
                (try clear BK932)
                (try clear BK938)
                (try clear HB)
                generalize ((((((((w21.setCell ⟨gb938,0,none⟩ (.int .i64 ((rd_T73 l3 x12_2).f0))).setCell ⟨gb938,1,none⟩ (.int .i64 ((rd_T73 l3 x12_2).f1))).setCell ⟨gb938,2,none⟩ (.int .i64 ((rd_T73 l3 x12_2).f2))).setCell ⟨gb938,3,none⟩ (.int .i64 ((rd_T73 l3 x12_2).f3.f0))).setCell ⟨gb938,4,none⟩ (.int .i64 ((rd_T73 l3 x12_2).f3.f1))).setCell ⟨gb938,5,none⟩ (.int .i64 ((rd_T73 l3 x12_2).f3.f2))).setCell ⟨gb938,6,none⟩ (.int .i64 ((rd_T73 l3 x12_2).f3.f3))).setCell ⟨gb938,7,none⟩ (.string ((rd_T73 l3 x12_2).f4))) = w24 at n0_ n1_ n2_ n3_ ⊢
                have HO_11 := n0_
                have BK932 := n1_
                have BK938 := n2_
                have HB := n3_
                clear n0_ n1_ n2_ n3_
                replace HO_11 := am_ (Kd.R_drew HO_11.out)
                replace BK932 := am_ (blk_drew BK932.out)
                replace BK938 := am_ (blk_drew BK938.out)
                replace HB := am_ (below_drew1 HB.out)
                have p940 : 0 ≤ (x10_1 : Int) := zo_
                have q940 : x10_1 < (l3.length : Int) := zo_
                obtain ⟨ad940,e940,hx940_0,hx940_1,hx940_2,hx940_3,hx940_4,hx940_5,hx940_6,hx940_7⟩ := at_T73 HR3.out x10_1 p940 q940
                have hw940_7 := hx940_7
                have hw940_6 := hx940_6
                have hw940_5 := hx940_5
                have hw940_4 := hx940_4
                have hw940_3 := hx940_3
                have hw940_2 := hx940_2
                have hw940_1 := hx940_1
                have hw940_0 := hx940_0
                obtain rfl : ad937 = ad940 := (by injection e940)
                replace hx940_0 := zx_ HB hx940_0
                replace hx940_1 := zx_ HB hx940_1
                replace hx940_2 := zx_ HB hx940_2
                replace hx940_3 := zx_ HB hx940_3
                replace hx940_4 := zx_ HB hx940_4
                replace hx940_5 := zx_ HB hx940_5
                replace hx940_6 := zx_ HB hx940_6
                replace hx940_7 := zx_ HB hx940_7
                replace p940 := eq_true p940
                replace q940 := eq_true q940
                refine start_ (n := 32) (S := fun w' => w'.cell? ⟨gb938,0,none⟩ = some (.int .i64 ((rd_T73 l3 x12_2).f0)) ∧ w'.cell? ⟨gb938,1,none⟩ = some (.int .i64 ((rd_T73 l3 x12_2).f1)) ∧ w'.cell? ⟨gb938,2,none⟩ = some (.int .i64 ((rd_T73 l3 x12_2).f2)) ∧ w'.cell? ⟨gb938,3,none⟩ = some (.int .i64 ((rd_T73 l3 x12_2).f3.f0)) ∧ w'.cell? ⟨gb938,4,none⟩ = some (.int .i64 ((rd_T73 l3 x12_2).f3.f1)) ∧ w'.cell? ⟨gb938,5,none⟩ = some (.int .i64 ((rd_T73 l3 x12_2).f3.f2)) ∧ w'.cell? ⟨gb938,6,none⟩ = some (.int .i64 ((rd_T73 l3 x12_2).f3.f3)) ∧ w'.cell? ⟨gb938,7,none⟩ = some (.string ((rd_T73 l3 x12_2).f4)) ∧ w'.cell? (ad937.add ((x10_1).toNat * 8)) = some (.int .i64 ((rd_T73 l3 x10_1).f0)) ∧ w'.cell? ⟨(ad937.add ((x10_1).toNat * 8)).block,(ad937.add ((x10_1).toNat * 8)).off + 1,none⟩ = some (.int .i64 ((rd_T73 l3 x10_1).f1)) ∧ w'.cell? ⟨(ad937.add ((x10_1).toNat * 8)).block,(ad937.add ((x10_1).toNat * 8)).off + 2,none⟩ = some (.int .i64 ((rd_T73 l3 x10_1).f2)) ∧ w'.cell? ⟨(ad937.add ((x10_1).toNat * 8)).block,(ad937.add ((x10_1).toNat * 8)).off + 3,none⟩ = some (.int .i64 ((rd_T73 l3 x10_1).f3.f0)) ∧ w'.cell? ⟨(ad937.add ((x10_1).toNat * 8)).block,(ad937.add ((x10_1).toNat * 8)).off + 4,none⟩ = some (.int .i64 ((rd_T73 l3 x10_1).f3.f1)) ∧ w'.cell? ⟨(ad937.add ((x10_1).toNat * 8)).block,(ad937.add ((x10_1).toNat * 8)).off + 5,none⟩ = some (.int .i64 ((rd_T73 l3 x10_1).f3.f2)) ∧ w'.cell? ⟨(ad937.add ((x10_1).toNat * 8)).block,(ad937.add ((x10_1).toNat * 8)).off + 6,none⟩ = some (.int .i64 ((rd_T73 l3 x10_1).f3.f3)) ∧ w'.cell? ⟨(ad937.add ((x10_1).toNat * 8)).block,(ad937.add ((x10_1).toNat * 8)).off + 7,none⟩ = some (.string ((rd_T73 l3 x10_1).f4))) (ds := []) #[false,false,false,false,false,false,false,false,false,false,false,false,false,false,false,false,false,false,false,false,false,false,false,false,false,false,false,false,false,false,false,false] (by kernel_rfl) rfl rfl ⟨(blk_cell BK938.out 0).trans rfl,(blk_cell BK938.out 1).trans rfl,(blk_cell BK938.out 2).trans rfl,(blk_cell BK938.out 3).trans rfl,(blk_cell BK938.out 4).trans rfl,(blk_cell BK938.out 5).trans rfl,(blk_cell BK938.out 6).trans rfl,(blk_cell BK938.out 7).trans rfl,(zx_ HB hw940_0),(zx_ HB hw940_1),(zx_ HB hw940_2),(zx_ HB hw940_3),(zx_ HB hw940_4),(zx_ HB hw940_5),(zx_ HB hw940_6),(zx_ HB hw940_7)⟩ (fun hHeld => ?_);refine with_tabW spec_l11Count.tab9 spec_l11Count.bits9 (fun HT_ HW_ => ?_)
                generalize w24.drew = w25 at HO_11 BK932 BK938 HB hx940_0 hx940_1 hx940_2 hx940_3 hx940_4 hx940_5 hx940_6 hx940_7 hHeld ⊢
                refine zpu 0 (N := some 30) HT_ ?_
                refine ztk 1 (N := some 31) HT_ HW_ hHeld ?_
                refine zon 2 (N := some 32) HT_ (fun K hK => ?_)
                refine zgo Tryd.func97 #[.int .i64 a0,.agg #[.int .i64 ((rd_T73 l3 x12_2).f0),.int .i64 ((rd_T73 l3 x12_2).f1),.int .i64 ((rd_T73 l3 x12_2).f2),.int .i64 ((rd_T73 l3 x12_2).f3.f0),.int .i64 ((rd_T73 l3 x12_2).f3.f1),.int .i64 ((rd_T73 l3 x12_2).f3.f2),.int .i64 ((rd_T73 l3 x12_2).f3.f3),.string ((rd_T73 l3 x12_2).f4)]] ?_
                with_reducible refine (spec_l11OK.calls k2 a0 ((rd_T73 l3 x12_2).f0) ((rd_T73 l3 x12_2).f1) ((rd_T73 l3 x12_2).f2) ((rd_T73 l3 x12_2).f3.f0) ((rd_T73 l3 x12_2).f3.f1) ((rd_T73 l3 x12_2).f3.f2) ((rd_T73 l3 x12_2).f3.f3) ((rd_T73 l3 x12_2).f4) true _ A12.out).mono ?_
                rintro e w26 ⟨rfl,hb⟩
                refine ⟨_,rfl,?_⟩
                replace HO_11 := zrb HO_11 hb
                replace BK932 := zb BK932 hb
                replace BK938 := zb BK938 hb
                replace HB := zs_ HB hb
                (try clear hb)
                (try clear hb2)
                (try clear hk)
                (try clear hi)
                obtain ⟨Ao27,co27,eo27⟩ := Kd.R_slice HO_11.out
                (first | subst eo27 | (injection eo27 with f1_ f2_ f3_;have f4_ := f1_.symm;have f5_ := f3_.symm;clear f1_ f2_ f3_;subst f4_;subst f5_))
                refine hK.out _ _ ⟨(blk_cell BK938.out 0).trans rfl,(blk_cell BK938.out 1).trans rfl,(blk_cell BK938.out 2).trans rfl,(blk_cell BK938.out 3).trans rfl,(blk_cell BK938.out 4).trans rfl,(blk_cell BK938.out 5).trans rfl,(blk_cell BK938.out 6).trans rfl,(blk_cell BK938.out 7).trans rfl,(zx_ HB hw940_0),(zx_ HB hw940_1),(zx_ HB hw940_2),(zx_ HB hw940_3),(zx_ HB hw940_4),(zx_ HB hw940_5),(zx_ HB hw940_6),(zx_ HB hw940_7)⟩ (fun hHeld => ?_)
                clear hK K
                refine norm_ (a' := ?_) ?_ ?_
                rotate_left
                ·show Act.put _ (some 32) _ = _
                 simp only [Act.put,p1_,p2_,p3_,i64_w,i32_w]
                 rfl
                refine zpu 3 (N := some 33) HT_ ?_
                refine zpu 4 (N := some 34) HT_ ?_
                refine zpu 6 (N := some 36) HT_ ?_
                refine ztk 5 (N := some 35) HT_ HW_ hHeld ?_
                refine zpu 7 (N := some 37) HT_ ?_
                refine zpu 8 (N := some 38) HT_ ?_
                refine zpu 9 (N := some 39) HT_ ?_
                refine zpu 10 (N := some 40) HT_ ?_
                refine zpu 12 (N := some 42) HT_ ?_
                refine ztk 11 (N := some 41) HT_ HW_ hHeld ?_
                refine zpu 13 (N := some 43) HT_ ?_
                refine zpu 14 (N := some 44) HT_ ?_
                refine zpu 15 (N := some 45) HT_ ?_
                refine zpu 16 (N := some 46) HT_ ?_
                refine zpu 18 (N := some 48) HT_ ?_
                refine zpu 19 (N := some 49) HT_ ?_
                refine zpu 20 (N := some 50) HT_ ?_
                refine zpu 21 (N := some 51) HT_ ?_
                refine ztk 17 (N := some 47) HT_ HW_ hHeld ?_
                refine ztk 22 (N := some 52) HT_ HW_ hHeld ?_
                refine zpu 23 (N := some 53) HT_ ?_
                refine zpu 24 (N := some 54) HT_ ?_
                refine zpu 25 (N := some 55) HT_ ?_
                refine zpu 26 (N := some 56) HT_ ?_
                refine zpu 27 (N := some 57) HT_ ?_
                refine ztk 28 (N := some 58) HT_ HW_ hHeld ?_
                refine zon 29 (N := some 59) HT_ (fun K hK => ?_)
                refine zgo Tryd.func138 #[.slice Ao27 x11_2.length co27,.int .i64 ((rd_T73 l3 x12_2).f0)] ?_
                with_reducible refine (spec_l08Has.calls k2 _ _ x11_2 ((rd_T73 l3 x12_2).f0) true _ ?side1 ?side2 A19.out).mono ?_
                (case side1 => repeat (first | exact (Kd.R_reads' HO_11.out).2.2 | (with_reducible refine Kd.C_alloc ?_ _) | (with_reducible refine Kd.C_drewN ?_ _) | (with_reducible refine Kd.C_drew ?_)))
                (case side2 => exact (Kd.R_reads' HO_11.out).2.1)
                rintro e w' ⟨rfl,⟨nd,rfl⟩⟩
                refine ⟨_,rfl,?_⟩
                refine hK.out _ _ ⟨(blk_cell BK938.out 0).trans rfl,(blk_cell BK938.out 1).trans rfl,(blk_cell BK938.out 2).trans rfl,(blk_cell BK938.out 3).trans rfl,(blk_cell BK938.out 4).trans rfl,(blk_cell BK938.out 5).trans rfl,(blk_cell BK938.out 6).trans rfl,(blk_cell BK938.out 7).trans rfl,(zx_ ⟨pw_below_drewN HB.out nd⟩ hw940_0),(zx_ ⟨pw_below_drewN HB.out nd⟩ hw940_1),(zx_ ⟨pw_below_drewN HB.out nd⟩ hw940_2),(zx_ ⟨pw_below_drewN HB.out nd⟩ hw940_3),(zx_ ⟨pw_below_drewN HB.out nd⟩ hw940_4),(zx_ ⟨pw_below_drewN HB.out nd⟩ hw940_5),(zx_ ⟨pw_below_drewN HB.out nd⟩ hw940_6),(zx_ ⟨pw_below_drewN HB.out nd⟩ hw940_7)⟩ (fun hHeld => ?_)
                clear hK K
                refine norm_ (a' := ?_) ?_ ?_
                rotate_left
                ·show Act.put _ (some 59) _ = _
                 simp only [Act.put,p1_,p2_,p3_,i64_w,i32_w]
                 rfl
                refine zpu 30 (N := some 60) HT_ ?_
                refine zpu 31 (N := some 61) HT_ ?_
                refine done_ (done_of HT_.out (by kernel_rfl)) ?_
                try go_wp2
                go_roundg k2
                case measure => have := HK1.out;have := HK2.out;omega
                case rel => exact ⟨(x11_2),(wrap64 (x12_2 + 1)),(by first | rfl | (simp;done) | (simp [*];done)),H',⟨by have := HK1.out;have := HK2.out;omega⟩,⟨zr HO_11⟩,⟨by (with_reducible repeat (first | apply k1_ | apply k2_ | apply k3_));exact BK932.out⟩,⟨zl_ HB⟩⟩
               ·replace c20 := Bool.eq_false_iff.mpr c20
                subst c20
                have H1 : (if x11_2.length < 17592186044416 then (spec_l11Count.l1 k2 a0 a1 a2 l3 x10_1 (x11_2 ++ [(rd_T73 l3 x12_2).f0]) (wrap64 (x12_2 + 1))) else (none)) = some (r1,r2,r3,r4,r5) := by rw [if_neg (show ¬ (false = true) by decide)] at H;exact H
                clear H
                have H := H1
                clear H1
                by_cases c28 : x11_2.length < 17592186044416
                ·rw [if_pos c28] at H
                 have LMc28 := am_ c28
                 clear c28
                 obtain ⟨y942,hy942⟩ : ∃ y_ : List Int,y_ = (x11_2 ++ [(rd_T73 l3 x12_2).f0]) := ⟨_,rfl⟩
                 replace H : (spec_l11Count.l1 k2 a0 a1 a2 l3 x10_1 y942 (wrap64 (x12_2 + 1))) = some (r1,r2,r3,r4,r5) := by first | (rw [hy942];with_reducible exact H) | (have H2_ := (Option.bind_some _ _).symm.trans H;rw [hy942];with_reducible exact H2_) | (have H2_ := (Option.bind_some _ _).symm.trans H;with_reducible exact H2_) | with_reducible exact H | (rw [hy942];exact H) | exact H
                 have Ny942 := am_ hy942
                 clear hy942
                 have H' := am_ H
                 clear H
                 have p937 : 0 ≤ (x12_2 : Int) := zo_
                 have q937 : x12_2 < (l3.length : Int) := zo_
                 obtain ⟨ad937,e937,hx937_0,hx937_1,hx937_2,hx937_3,hx937_4,hx937_5,hx937_6,hx937_7⟩ := at_T73 HR3.out x12_2 p937 q937
                 cases e937
                 replace hx937_0 := zx_ HB hx937_0
                 replace hx937_1 := zx_ HB hx937_1
                 replace hx937_2 := zx_ HB hx937_2
                 replace hx937_3 := zx_ HB hx937_3
                 replace hx937_4 := zx_ HB hx937_4
                 replace hx937_5 := zx_ HB hx937_5
                 replace hx937_6 := zx_ HB hx937_6
                 replace hx937_7 := zx_ HB hx937_7
                 replace p937 := eq_true p937
                 replace q937 := eq_true q937
                 try go_wp2_with (first | ((with_reducible refine gate_dst (N := 13) rfl ?_);refine zbx (N := 13) (cs := #[.int .i64 0,.int .i64 0,.int .i64 0,.int .i64 0,.int .i64 0,.int .i64 0,.int .i64 0,.string ⟨#[]⟩]) (t := 73) ?_;intro gb938 hg w29 hbox hb;replace HO_11 := zrb HO_11 hb;have BK938 := am_ (hbox);have GW938 := zw_ HB hg;have GE938 := zw_ HB hg;replace HB := zs_ HB hb;have NB932_938 := zl hg BK932;have NB938_932 := zg hg BK932;replace BK932 := zb BK932 hb;clear hb hbox hg;have hnb30 := NB938_932.out;have hnc30 := NB932_938.out;obtain ⟨hcz31_0,hcz31_1,hcz31_2,hcz31_3,hcz31_4,hcz31_5,hcz31_6,hcz31_7,hfz31_0,hfz31_1,hfz31_2,hfz31_3,hfz31_4,hfz31_5,hfz31_6,hfz31_7⟩ := zc8 BK938))
                 have n0_ : Aside0 (Kd.R (Kd.int .i64) 3 ((((((((w29.setCell ⟨gb938,0,none⟩ (.int .i64 ((rd_T73 l3 x12_2).f0))).setCell ⟨gb938,1,none⟩ (.int .i64 ((rd_T73 l3 x12_2).f1))).setCell ⟨gb938,2,none⟩ (.int .i64 ((rd_T73 l3 x12_2).f2))).setCell ⟨gb938,3,none⟩ (.int .i64 ((rd_T73 l3 x12_2).f3.f0))).setCell ⟨gb938,4,none⟩ (.int .i64 ((rd_T73 l3 x12_2).f3.f1))).setCell ⟨gb938,5,none⟩ (.int .i64 ((rd_T73 l3 x12_2).f3.f2))).setCell ⟨gb938,6,none⟩ (.int .i64 ((rd_T73 l3 x12_2).f3.f3))).setCell ⟨gb938,7,none⟩ (.string ((rd_T73 l3 x12_2).f4))) w.heap.size (fun _ => True) u11 x11_2) := ⟨by (with_reducible repeat (first | apply r1_ | apply r2_ | apply r3_));exact Kd.R_mono (zrf (Kd.R_types HO_11.out BK938.out (by decide))) (fun _ hk => trivial)⟩
                 have n1_ : Aside0 (((((((((w29.setCell ⟨gb938,0,none⟩ (.int .i64 ((rd_T73 l3 x12_2).f0))).setCell ⟨gb938,1,none⟩ (.int .i64 ((rd_T73 l3 x12_2).f1))).setCell ⟨gb938,2,none⟩ (.int .i64 ((rd_T73 l3 x12_2).f2))).setCell ⟨gb938,3,none⟩ (.int .i64 ((rd_T73 l3 x12_2).f3.f0))).setCell ⟨gb938,4,none⟩ (.int .i64 ((rd_T73 l3 x12_2).f3.f1))).setCell ⟨gb938,5,none⟩ (.int .i64 ((rd_T73 l3 x12_2).f3.f2))).setCell ⟨gb938,6,none⟩ (.int .i64 ((rd_T73 l3 x12_2).f3.f3))).setCell ⟨gb938,7,none⟩ (.string ((rd_T73 l3 x12_2).f4))).heap[gb932]? = some (.cells #[.int .i64 x933000_1,.int .i64 x933001_1,.int .i64 x933002_1,.int .i64 x933003_1] 63 (0,0))) := ⟨zq BK932⟩
                 have n2_ : Aside0 (((((((((w29.setCell ⟨gb938,0,none⟩ (.int .i64 ((rd_T73 l3 x12_2).f0))).setCell ⟨gb938,1,none⟩ (.int .i64 ((rd_T73 l3 x12_2).f1))).setCell ⟨gb938,2,none⟩ (.int .i64 ((rd_T73 l3 x12_2).f2))).setCell ⟨gb938,3,none⟩ (.int .i64 ((rd_T73 l3 x12_2).f3.f0))).setCell ⟨gb938,4,none⟩ (.int .i64 ((rd_T73 l3 x12_2).f3.f1))).setCell ⟨gb938,5,none⟩ (.int .i64 ((rd_T73 l3 x12_2).f3.f2))).setCell ⟨gb938,6,none⟩ (.int .i64 ((rd_T73 l3 x12_2).f3.f3))).setCell ⟨gb938,7,none⟩ (.string ((rd_T73 l3 x12_2).f4))).heap[gb938]? = some (.cells #[.int .i64 ((rd_T73 l3 x12_2).f0),.int .i64 ((rd_T73 l3 x12_2).f1),.int .i64 ((rd_T73 l3 x12_2).f2),.int .i64 ((rd_T73 l3 x12_2).f3.f0),.int .i64 ((rd_T73 l3 x12_2).f3.f1),.int .i64 ((rd_T73 l3 x12_2).f3.f2),.int .i64 ((rd_T73 l3 x12_2).f3.f3),.string ((rd_T73 l3 x12_2).f4)] 73 (0,0))) := ⟨zq BK938⟩
                 have n3_ : Aside0 (Below w.heap.size w ((((((((w29.setCell ⟨gb938,0,none⟩ (.int .i64 ((rd_T73 l3 x12_2).f0))).setCell ⟨gb938,1,none⟩ (.int .i64 ((rd_T73 l3 x12_2).f1))).setCell ⟨gb938,2,none⟩ (.int .i64 ((rd_T73 l3 x12_2).f2))).setCell ⟨gb938,3,none⟩ (.int .i64 ((rd_T73 l3 x12_2).f3.f0))).setCell ⟨gb938,4,none⟩ (.int .i64 ((rd_T73 l3 x12_2).f3.f1))).setCell ⟨gb938,5,none⟩ (.int .i64 ((rd_T73 l3 x12_2).f3.f2))).setCell ⟨gb938,6,none⟩ (.int .i64 ((rd_T73 l3 x12_2).f3.f3))).setCell ⟨gb938,7,none⟩ (.string ((rd_T73 l3 x12_2).f4)))) := ⟨zl_ HB⟩
                 (try clear HO_11)
                 (try clear BK932)
                 (try clear BK938)
                 (try clear HB)
                 generalize ((((((((w29.setCell ⟨gb938,0,none⟩ (.int .i64 ((rd_T73 l3 x12_2).f0))).setCell ⟨gb938,1,none⟩ (.int .i64 ((rd_T73 l3 x12_2).f1))).setCell ⟨gb938,2,none⟩ (.int .i64 ((rd_T73 l3 x12_2).f2))).setCell ⟨gb938,3,none⟩ (.int .i64 ((rd_T73 l3 x12_2).f3.f0))).setCell ⟨gb938,4,none⟩ (.int .i64 ((rd_T73 l3 x12_2).f3.f1))).setCell ⟨gb938,5,none⟩ (.int .i64 ((rd_T73 l3 x12_2).f3.f2))).setCell ⟨gb938,6,none⟩ (.int .i64 ((rd_T73 l3 x12_2).f3.f3))).setCell ⟨gb938,7,none⟩ (.string ((rd_T73 l3 x12_2).f4))) = w32 at n0_ n1_ n2_ n3_ ⊢
                 have HO_11 := n0_
                 have BK932 := n1_
                 have BK938 := n2_
                 have HB := n3_
                 clear n0_ n1_ n2_ n3_
                 replace HO_11 := am_ (Kd.R_drew HO_11.out)
                 replace BK932 := am_ (blk_drew BK932.out)
                 replace BK938 := am_ (blk_drew BK938.out)
                 replace HB := am_ (below_drew1 HB.out)
                 have p940 : 0 ≤ (x10_1 : Int) := zo_
                 have q940 : x10_1 < (l3.length : Int) := zo_
                 obtain ⟨ad940,e940,hx940_0,hx940_1,hx940_2,hx940_3,hx940_4,hx940_5,hx940_6,hx940_7⟩ := at_T73 HR3.out x10_1 p940 q940
                 have hw940_7 := hx940_7
                 have hw940_6 := hx940_6
                 have hw940_5 := hx940_5
                 have hw940_4 := hx940_4
                 have hw940_3 := hx940_3
                 have hw940_2 := hx940_2
                 have hw940_1 := hx940_1
                 have hw940_0 := hx940_0
                 obtain rfl : ad937 = ad940 := (by injection e940)
                 replace hx940_0 := zx_ HB hx940_0
                 replace hx940_1 := zx_ HB hx940_1
                 replace hx940_2 := zx_ HB hx940_2
                 replace hx940_3 := zx_ HB hx940_3
                 replace hx940_4 := zx_ HB hx940_4
                 replace hx940_5 := zx_ HB hx940_5
                 replace hx940_6 := zx_ HB hx940_6
                 replace hx940_7 := zx_ HB hx940_7
                 replace p940 := eq_true p940
                 replace q940 := eq_true q940
                 refine start_ (n := 32) (S := fun w' => w'.cell? ⟨gb938,0,none⟩ = some (.int .i64 ((rd_T73 l3 x12_2).f0)) ∧ w'.cell? ⟨gb938,1,none⟩ = some (.int .i64 ((rd_T73 l3 x12_2).f1)) ∧ w'.cell? ⟨gb938,2,none⟩ = some (.int .i64 ((rd_T73 l3 x12_2).f2)) ∧ w'.cell? ⟨gb938,3,none⟩ = some (.int .i64 ((rd_T73 l3 x12_2).f3.f0)) ∧ w'.cell? ⟨gb938,4,none⟩ = some (.int .i64 ((rd_T73 l3 x12_2).f3.f1)) ∧ w'.cell? ⟨gb938,5,none⟩ = some (.int .i64 ((rd_T73 l3 x12_2).f3.f2)) ∧ w'.cell? ⟨gb938,6,none⟩ = some (.int .i64 ((rd_T73 l3 x12_2).f3.f3)) ∧ w'.cell? ⟨gb938,7,none⟩ = some (.string ((rd_T73 l3 x12_2).f4)) ∧ w'.cell? (ad937.add ((x10_1).toNat * 8)) = some (.int .i64 ((rd_T73 l3 x10_1).f0)) ∧ w'.cell? ⟨(ad937.add ((x10_1).toNat * 8)).block,(ad937.add ((x10_1).toNat * 8)).off + 1,none⟩ = some (.int .i64 ((rd_T73 l3 x10_1).f1)) ∧ w'.cell? ⟨(ad937.add ((x10_1).toNat * 8)).block,(ad937.add ((x10_1).toNat * 8)).off + 2,none⟩ = some (.int .i64 ((rd_T73 l3 x10_1).f2)) ∧ w'.cell? ⟨(ad937.add ((x10_1).toNat * 8)).block,(ad937.add ((x10_1).toNat * 8)).off + 3,none⟩ = some (.int .i64 ((rd_T73 l3 x10_1).f3.f0)) ∧ w'.cell? ⟨(ad937.add ((x10_1).toNat * 8)).block,(ad937.add ((x10_1).toNat * 8)).off + 4,none⟩ = some (.int .i64 ((rd_T73 l3 x10_1).f3.f1)) ∧ w'.cell? ⟨(ad937.add ((x10_1).toNat * 8)).block,(ad937.add ((x10_1).toNat * 8)).off + 5,none⟩ = some (.int .i64 ((rd_T73 l3 x10_1).f3.f2)) ∧ w'.cell? ⟨(ad937.add ((x10_1).toNat * 8)).block,(ad937.add ((x10_1).toNat * 8)).off + 6,none⟩ = some (.int .i64 ((rd_T73 l3 x10_1).f3.f3)) ∧ w'.cell? ⟨(ad937.add ((x10_1).toNat * 8)).block,(ad937.add ((x10_1).toNat * 8)).off + 7,none⟩ = some (.string ((rd_T73 l3 x10_1).f4))) (ds := []) #[false,false,false,false,false,false,false,false,false,false,false,false,false,false,false,false,false,false,false,false,false,false,false,false,false,false,false,false,false,false,false,false] (by kernel_rfl) rfl rfl ⟨(blk_cell BK938.out 0).trans rfl,(blk_cell BK938.out 1).trans rfl,(blk_cell BK938.out 2).trans rfl,(blk_cell BK938.out 3).trans rfl,(blk_cell BK938.out 4).trans rfl,(blk_cell BK938.out 5).trans rfl,(blk_cell BK938.out 6).trans rfl,(blk_cell BK938.out 7).trans rfl,(zx_ HB hw940_0),(zx_ HB hw940_1),(zx_ HB hw940_2),(zx_ HB hw940_3),(zx_ HB hw940_4),(zx_ HB hw940_5),(zx_ HB hw940_6),(zx_ HB hw940_7)⟩ (fun hHeld => ?_);refine with_tabW spec_l11Count.tab9 spec_l11Count.bits9 (fun HT_ HW_ => ?_)
                 generalize w32.drew = w33 at HO_11 BK932 BK938 HB hx940_0 hx940_1 hx940_2 hx940_3 hx940_4 hx940_5 hx940_6 hx940_7 hHeld ⊢
                 refine zpu 0 (N := some 30) HT_ ?_
                 refine ztk 1 (N := some 31) HT_ HW_ hHeld ?_
                 refine zon 2 (N := some 32) HT_ (fun K hK => ?_)
                 refine zgo Tryd.func97 #[.int .i64 a0,.agg #[.int .i64 ((rd_T73 l3 x12_2).f0),.int .i64 ((rd_T73 l3 x12_2).f1),.int .i64 ((rd_T73 l3 x12_2).f2),.int .i64 ((rd_T73 l3 x12_2).f3.f0),.int .i64 ((rd_T73 l3 x12_2).f3.f1),.int .i64 ((rd_T73 l3 x12_2).f3.f2),.int .i64 ((rd_T73 l3 x12_2).f3.f3),.string ((rd_T73 l3 x12_2).f4)]] ?_
                 with_reducible refine (spec_l11OK.calls k2 a0 ((rd_T73 l3 x12_2).f0) ((rd_T73 l3 x12_2).f1) ((rd_T73 l3 x12_2).f2) ((rd_T73 l3 x12_2).f3.f0) ((rd_T73 l3 x12_2).f3.f1) ((rd_T73 l3 x12_2).f3.f2) ((rd_T73 l3 x12_2).f3.f3) ((rd_T73 l3 x12_2).f4) true _ A12.out).mono ?_
                 rintro e w34 ⟨rfl,hb⟩
                 refine ⟨_,rfl,?_⟩
                 replace HO_11 := zrb HO_11 hb
                 replace BK932 := zb BK932 hb
                 replace BK938 := zb BK938 hb
                 replace HB := zs_ HB hb
                 (try clear hb)
                 (try clear hb2)
                 (try clear hk)
                 (try clear hi)
                 obtain ⟨Ao35,co35,eo35⟩ := Kd.R_slice HO_11.out
                 (first | subst eo35 | (injection eo35 with f1_ f2_ f3_;have f4_ := f1_.symm;have f5_ := f3_.symm;clear f1_ f2_ f3_;subst f4_;subst f5_))
                 refine hK.out _ _ ⟨(blk_cell BK938.out 0).trans rfl,(blk_cell BK938.out 1).trans rfl,(blk_cell BK938.out 2).trans rfl,(blk_cell BK938.out 3).trans rfl,(blk_cell BK938.out 4).trans rfl,(blk_cell BK938.out 5).trans rfl,(blk_cell BK938.out 6).trans rfl,(blk_cell BK938.out 7).trans rfl,(zx_ HB hw940_0),(zx_ HB hw940_1),(zx_ HB hw940_2),(zx_ HB hw940_3),(zx_ HB hw940_4),(zx_ HB hw940_5),(zx_ HB hw940_6),(zx_ HB hw940_7)⟩ (fun hHeld => ?_)
                 clear hK K
                 refine norm_ (a' := ?_) ?_ ?_
                 rotate_left
                 ·show Act.put _ (some 32) _ = _
                  simp only [Act.put,p1_,p2_,p3_,i64_w,i32_w]
                  rfl
                 refine zpu 3 (N := some 33) HT_ ?_
                 refine zpu 4 (N := some 34) HT_ ?_
                 refine zpu 6 (N := some 36) HT_ ?_
                 refine ztk 5 (N := some 35) HT_ HW_ hHeld ?_
                 refine zpu 7 (N := some 37) HT_ ?_
                 refine zpu 8 (N := some 38) HT_ ?_
                 refine zpu 9 (N := some 39) HT_ ?_
                 refine zpu 10 (N := some 40) HT_ ?_
                 refine zpu 12 (N := some 42) HT_ ?_
                 refine ztk 11 (N := some 41) HT_ HW_ hHeld ?_
                 refine zpu 13 (N := some 43) HT_ ?_
                 refine zpu 14 (N := some 44) HT_ ?_
                 refine zpu 15 (N := some 45) HT_ ?_
                 refine zpu 16 (N := some 46) HT_ ?_
                 refine zpu 18 (N := some 48) HT_ ?_
                 refine zpu 19 (N := some 49) HT_ ?_
                 refine zpu 20 (N := some 50) HT_ ?_
                 refine zpu 21 (N := some 51) HT_ ?_
                 refine ztk 17 (N := some 47) HT_ HW_ hHeld ?_
                 refine ztk 22 (N := some 52) HT_ HW_ hHeld ?_
                 refine zpu 23 (N := some 53) HT_ ?_
                 refine zpu 24 (N := some 54) HT_ ?_
                 refine zpu 25 (N := some 55) HT_ ?_
                 refine zpu 26 (N := some 56) HT_ ?_
                 refine zpu 27 (N := some 57) HT_ ?_
                 refine ztk 28 (N := some 58) HT_ HW_ hHeld ?_
                 refine zon 29 (N := some 59) HT_ (fun K hK => ?_)
                 refine zgo Tryd.func138 #[.slice Ao35 x11_2.length co35,.int .i64 ((rd_T73 l3 x12_2).f0)] ?_
                 with_reducible refine (spec_l08Has.calls k2 _ _ x11_2 ((rd_T73 l3 x12_2).f0) false _ ?side1 ?side2 A19.out).mono ?_
                 (case side1 => repeat (first | exact (Kd.R_reads' HO_11.out).2.2 | (with_reducible refine Kd.C_alloc ?_ _) | (with_reducible refine Kd.C_drewN ?_ _) | (with_reducible refine Kd.C_drew ?_)))
                 (case side2 => exact (Kd.R_reads' HO_11.out).2.1)
                 rintro e w' ⟨rfl,⟨nd,rfl⟩⟩
                 refine ⟨_,rfl,?_⟩
                 refine hK.out _ _ ⟨(blk_cell BK938.out 0).trans rfl,(blk_cell BK938.out 1).trans rfl,(blk_cell BK938.out 2).trans rfl,(blk_cell BK938.out 3).trans rfl,(blk_cell BK938.out 4).trans rfl,(blk_cell BK938.out 5).trans rfl,(blk_cell BK938.out 6).trans rfl,(blk_cell BK938.out 7).trans rfl,(zx_ ⟨pw_below_drewN HB.out nd⟩ hw940_0),(zx_ ⟨pw_below_drewN HB.out nd⟩ hw940_1),(zx_ ⟨pw_below_drewN HB.out nd⟩ hw940_2),(zx_ ⟨pw_below_drewN HB.out nd⟩ hw940_3),(zx_ ⟨pw_below_drewN HB.out nd⟩ hw940_4),(zx_ ⟨pw_below_drewN HB.out nd⟩ hw940_5),(zx_ ⟨pw_below_drewN HB.out nd⟩ hw940_6),(zx_ ⟨pw_below_drewN HB.out nd⟩ hw940_7)⟩ (fun hHeld => ?_)
                 clear hK K
                 refine norm_ (a' := ?_) ?_ ?_
                 rotate_left
                 ·show Act.put _ (some 59) _ = _
                  simp only [Act.put,p1_,p2_,p3_,i64_w,i32_w]
                  rfl
                 refine zpu 30 (N := some 60) HT_ ?_
                 refine zpu 31 (N := some 61) HT_ ?_
                 refine done_ (done_of HT_.out (by kernel_rfl)) ?_
                 obtain ⟨hcz36_0,hcz36_1,hcz36_2,hcz36_3,hcz36_4,hcz36_5,hcz36_6,hcz36_7,hfz36_0,hfz36_1,hfz36_2,hfz36_3,hfz36_4,hfz36_5,hfz36_6,hfz36_7⟩ := zc8 BK938
                 try go_wp2_with (first | ((with_reducible refine gate_builtin (b := .append) (xs := #[.tmp 62,.tmp 65]) rfl ?_);at_builtin;refine Kd.R_append (Kd.int .i64) (w0 := w) w.heap.size rfl (.tmp 62) (.tmp 65) 24 3 (.int .i64 0) 8 rfl Tryd.underlying24 info3 rfl (by decide) (by omega) (.slice Ao35 x11_2.length co35) x11_2 ((rd_T73 l3 x12_2).f0) [.int .i64 ((rd_T73 l3 x12_2).f0)] (fun _ => True) (fun _ => False) rfl rfl ?aP (fun _ hk => hk.elim) ?aF ?aO ?aB ?aS ?aL ?_;(case aP => exact rfl);(case aB => exact (zl_ HB));(case aF => exact (fun _ _ => trivial));(case aO => exact (zr HO_11));(case aS => exact (below_size (zl_ HB)));(case aL => have := LMc28.out;omega);intro v943 w37 ho hb hg hat;rw [← Ny942.out] at ho;replace BK932 := am_ (blk_grown (g := gb932) (o := .cells #[.int .i64 x933000_1,.int .i64 x933001_1,.int .i64 x933002_1,.int .i64 x933003_1] 63 (0,0)) (zk BK932) hg (Kd.R_ne HO_11.out BK932.out (by decide)));replace HB := am_ (hb);have HO944 := am_ (ho);clear HO_11;clear ho hb hg hat))
                 go_roundg k2
                 case measure => have := HK1.out;have := HK2.out;omega
                 case rel => exact ⟨(y942),(wrap64 (x12_2 + 1)),(by first | rfl | (simp;done) | (simp [*];done)),H',⟨by have := HK1.out;have := HK2.out;omega⟩,⟨zr HO944⟩,⟨by (with_reducible repeat (first | apply k1_ | apply k2_ | apply k3_));exact BK932.out⟩,⟨zl_ HB⟩⟩
                ·rw [if_neg c28] at H
                 exact absurd H (by simp)
              ·rw [if_neg c18] at H
               have c18k := am_ c18
               have c18b0 : (((rd_T73 l3 x12_2).f3.f0) == ((rd_T73 l3 x10_1).f3.f0) && (((rd_T73 l3 x12_2).f3.f1) == ((rd_T73 l3 x10_1).f3.f1) && (((rd_T73 l3 x12_2).f3.f2) == ((rd_T73 l3 x10_1).f3.f2) && (((rd_T73 l3 x12_2).f3.f3) == ((rd_T73 l3 x10_1).f3.f3))))) = false := by simpa using c18k.out
               (try (have c18b1 : decide (((rd_T73 l3 x12_2).f3.f0) = ((rd_T73 l3 x10_1).f3.f0) && (((rd_T73 l3 x12_2).f3.f1) == ((rd_T73 l3 x10_1).f3.f1) && (((rd_T73 l3 x12_2).f3.f2) == ((rd_T73 l3 x10_1).f3.f2) && (((rd_T73 l3 x12_2).f3.f3) == ((rd_T73 l3 x10_1).f3.f3))))) = false := by simpa using c18k.out))
               (try (have c18b2 : (((rd_T73 l3 x12_2).f3.f0) == ((rd_T73 l3 x10_1).f3.f0) && (((rd_T73 l3 x12_2).f3.f1) == ((rd_T73 l3 x10_1).f3.f1) && (((rd_T73 l3 x12_2).f3.f2) == ((rd_T73 l3 x10_1).f3.f2) && (((rd_T73 l3 x12_2).f3.f3) == ((rd_T73 l3 x10_1).f3.f3))))) = false := by simpa using c18k.out))
               (try (have c18b3 : ¬ (((rd_T73 l3 x12_2).f3.f0) = ((rd_T73 l3 x10_1).f3.f0) && (((rd_T73 l3 x12_2).f3.f1) == ((rd_T73 l3 x10_1).f3.f1) && (((rd_T73 l3 x12_2).f3.f2) == ((rd_T73 l3 x10_1).f3.f2) && (((rd_T73 l3 x12_2).f3.f3) == ((rd_T73 l3 x10_1).f3.f3))))) := by simpa using c18k.out))
               (try simp only [*,Bool.not_true,Bool.not_false,Bool.false_or,Bool.true_or,Bool.or_false,Bool.or_true,Bool.true_and,Bool.and_true,Bool.false_and,Bool.and_false] at c18)
               have c18bs := c18
               clear c18k
               clear c18
               have H' := am_ H
               clear H
               have p937 : 0 ≤ (x12_2 : Int) := zo_
               have q937 : x12_2 < (l3.length : Int) := zo_
               obtain ⟨ad937,e937,hx937_0,hx937_1,hx937_2,hx937_3,hx937_4,hx937_5,hx937_6,hx937_7⟩ := at_T73 HR3.out x12_2 p937 q937
               cases e937
               replace hx937_0 := zx_ HB hx937_0
               replace hx937_1 := zx_ HB hx937_1
               replace hx937_2 := zx_ HB hx937_2
               replace hx937_3 := zx_ HB hx937_3
               replace hx937_4 := zx_ HB hx937_4
               replace hx937_5 := zx_ HB hx937_5
               replace hx937_6 := zx_ HB hx937_6
               replace hx937_7 := zx_ HB hx937_7
               replace p937 := eq_true p937
               replace q937 := eq_true q937
               try go_wp2_with (first | ((with_reducible refine gate_dst (N := 13) rfl ?_);refine zbx (N := 13) (cs := #[.int .i64 0,.int .i64 0,.int .i64 0,.int .i64 0,.int .i64 0,.int .i64 0,.int .i64 0,.string ⟨#[]⟩]) (t := 73) ?_;intro gb938 hg w38 hbox hb;replace HO_11 := zrb HO_11 hb;have BK938 := am_ (hbox);have GW938 := zw_ HB hg;have GE938 := zw_ HB hg;replace HB := zs_ HB hb;have NB932_938 := zl hg BK932;have NB938_932 := zg hg BK932;replace BK932 := zb BK932 hb;clear hb hbox hg;have hnb39 := NB938_932.out;have hnc39 := NB932_938.out;obtain ⟨hcz40_0,hcz40_1,hcz40_2,hcz40_3,hcz40_4,hcz40_5,hcz40_6,hcz40_7,hfz40_0,hfz40_1,hfz40_2,hfz40_3,hfz40_4,hfz40_5,hfz40_6,hfz40_7⟩ := zc8 BK938))
               have n0_ : Aside0 (Kd.R (Kd.int .i64) 3 ((((((((w38.setCell ⟨gb938,0,none⟩ (.int .i64 ((rd_T73 l3 x12_2).f0))).setCell ⟨gb938,1,none⟩ (.int .i64 ((rd_T73 l3 x12_2).f1))).setCell ⟨gb938,2,none⟩ (.int .i64 ((rd_T73 l3 x12_2).f2))).setCell ⟨gb938,3,none⟩ (.int .i64 ((rd_T73 l3 x12_2).f3.f0))).setCell ⟨gb938,4,none⟩ (.int .i64 ((rd_T73 l3 x12_2).f3.f1))).setCell ⟨gb938,5,none⟩ (.int .i64 ((rd_T73 l3 x12_2).f3.f2))).setCell ⟨gb938,6,none⟩ (.int .i64 ((rd_T73 l3 x12_2).f3.f3))).setCell ⟨gb938,7,none⟩ (.string ((rd_T73 l3 x12_2).f4))) w.heap.size (fun _ => True) u11 x11_2) := ⟨by (with_reducible repeat (first | apply r1_ | apply r2_ | apply r3_));exact Kd.R_mono (zrf (Kd.R_types HO_11.out BK938.out (by decide))) (fun _ hk => trivial)⟩
               have n1_ : Aside0 (((((((((w38.setCell ⟨gb938,0,none⟩ (.int .i64 ((rd_T73 l3 x12_2).f0))).setCell ⟨gb938,1,none⟩ (.int .i64 ((rd_T73 l3 x12_2).f1))).setCell ⟨gb938,2,none⟩ (.int .i64 ((rd_T73 l3 x12_2).f2))).setCell ⟨gb938,3,none⟩ (.int .i64 ((rd_T73 l3 x12_2).f3.f0))).setCell ⟨gb938,4,none⟩ (.int .i64 ((rd_T73 l3 x12_2).f3.f1))).setCell ⟨gb938,5,none⟩ (.int .i64 ((rd_T73 l3 x12_2).f3.f2))).setCell ⟨gb938,6,none⟩ (.int .i64 ((rd_T73 l3 x12_2).f3.f3))).setCell ⟨gb938,7,none⟩ (.string ((rd_T73 l3 x12_2).f4))).heap[gb932]? = some (.cells #[.int .i64 x933000_1,.int .i64 x933001_1,.int .i64 x933002_1,.int .i64 x933003_1] 63 (0,0))) := ⟨zq BK932⟩
               have n2_ : Aside0 (((((((((w38.setCell ⟨gb938,0,none⟩ (.int .i64 ((rd_T73 l3 x12_2).f0))).setCell ⟨gb938,1,none⟩ (.int .i64 ((rd_T73 l3 x12_2).f1))).setCell ⟨gb938,2,none⟩ (.int .i64 ((rd_T73 l3 x12_2).f2))).setCell ⟨gb938,3,none⟩ (.int .i64 ((rd_T73 l3 x12_2).f3.f0))).setCell ⟨gb938,4,none⟩ (.int .i64 ((rd_T73 l3 x12_2).f3.f1))).setCell ⟨gb938,5,none⟩ (.int .i64 ((rd_T73 l3 x12_2).f3.f2))).setCell ⟨gb938,6,none⟩ (.int .i64 ((rd_T73 l3 x12_2).f3.f3))).setCell ⟨gb938,7,none⟩ (.string ((rd_T73 l3 x12_2).f4))).heap[gb938]? = some (.cells #[.int .i64 ((rd_T73 l3 x12_2).f0),.int .i64 ((rd_T73 l3 x12_2).f1),.int .i64 ((rd_T73 l3 x12_2).f2),.int .i64 ((rd_T73 l3 x12_2).f3.f0),.int .i64 ((rd_T73 l3 x12_2).f3.f1),.int .i64 ((rd_T73 l3 x12_2).f3.f2),.int .i64 ((rd_T73 l3 x12_2).f3.f3),.string ((rd_T73 l3 x12_2).f4)] 73 (0,0))) := ⟨zq BK938⟩
               have n3_ : Aside0 (Below w.heap.size w ((((((((w38.setCell ⟨gb938,0,none⟩ (.int .i64 ((rd_T73 l3 x12_2).f0))).setCell ⟨gb938,1,none⟩ (.int .i64 ((rd_T73 l3 x12_2).f1))).setCell ⟨gb938,2,none⟩ (.int .i64 ((rd_T73 l3 x12_2).f2))).setCell ⟨gb938,3,none⟩ (.int .i64 ((rd_T73 l3 x12_2).f3.f0))).setCell ⟨gb938,4,none⟩ (.int .i64 ((rd_T73 l3 x12_2).f3.f1))).setCell ⟨gb938,5,none⟩ (.int .i64 ((rd_T73 l3 x12_2).f3.f2))).setCell ⟨gb938,6,none⟩ (.int .i64 ((rd_T73 l3 x12_2).f3.f3))).setCell ⟨gb938,7,none⟩ (.string ((rd_T73 l3 x12_2).f4)))) := ⟨zl_ HB⟩
               (try clear HO_11)
               (try clear BK932)
               (try clear BK938)
               (try clear HB)
               generalize ((((((((w38.setCell ⟨gb938,0,none⟩ (.int .i64 ((rd_T73 l3 x12_2).f0))).setCell ⟨gb938,1,none⟩ (.int .i64 ((rd_T73 l3 x12_2).f1))).setCell ⟨gb938,2,none⟩ (.int .i64 ((rd_T73 l3 x12_2).f2))).setCell ⟨gb938,3,none⟩ (.int .i64 ((rd_T73 l3 x12_2).f3.f0))).setCell ⟨gb938,4,none⟩ (.int .i64 ((rd_T73 l3 x12_2).f3.f1))).setCell ⟨gb938,5,none⟩ (.int .i64 ((rd_T73 l3 x12_2).f3.f2))).setCell ⟨gb938,6,none⟩ (.int .i64 ((rd_T73 l3 x12_2).f3.f3))).setCell ⟨gb938,7,none⟩ (.string ((rd_T73 l3 x12_2).f4))) = w41 at n0_ n1_ n2_ n3_ ⊢
               have HO_11 := n0_
               have BK932 := n1_
               have BK938 := n2_
               have HB := n3_
               clear n0_ n1_ n2_ n3_
               replace HO_11 := am_ (Kd.R_drew HO_11.out)
               replace BK932 := am_ (blk_drew BK932.out)
               replace BK938 := am_ (blk_drew BK938.out)
               replace HB := am_ (below_drew1 HB.out)
               have p940 : 0 ≤ (x10_1 : Int) := zo_
               have q940 : x10_1 < (l3.length : Int) := zo_
               obtain ⟨ad940,e940,hx940_0,hx940_1,hx940_2,hx940_3,hx940_4,hx940_5,hx940_6,hx940_7⟩ := at_T73 HR3.out x10_1 p940 q940
               have hw940_7 := hx940_7
               have hw940_6 := hx940_6
               have hw940_5 := hx940_5
               have hw940_4 := hx940_4
               have hw940_3 := hx940_3
               have hw940_2 := hx940_2
               have hw940_1 := hx940_1
               have hw940_0 := hx940_0
               obtain rfl : ad937 = ad940 := (by injection e940)
               replace hx940_0 := zx_ HB hx940_0
               replace hx940_1 := zx_ HB hx940_1
               replace hx940_2 := zx_ HB hx940_2
               replace hx940_3 := zx_ HB hx940_3
               replace hx940_4 := zx_ HB hx940_4
               replace hx940_5 := zx_ HB hx940_5
               replace hx940_6 := zx_ HB hx940_6
               replace hx940_7 := zx_ HB hx940_7
               replace p940 := eq_true p940
               replace q940 := eq_true q940
               refine start_ (n := 32) (S := fun w' => w'.cell? ⟨gb938,0,none⟩ = some (.int .i64 ((rd_T73 l3 x12_2).f0)) ∧ w'.cell? ⟨gb938,1,none⟩ = some (.int .i64 ((rd_T73 l3 x12_2).f1)) ∧ w'.cell? ⟨gb938,2,none⟩ = some (.int .i64 ((rd_T73 l3 x12_2).f2)) ∧ w'.cell? ⟨gb938,3,none⟩ = some (.int .i64 ((rd_T73 l3 x12_2).f3.f0)) ∧ w'.cell? ⟨gb938,4,none⟩ = some (.int .i64 ((rd_T73 l3 x12_2).f3.f1)) ∧ w'.cell? ⟨gb938,5,none⟩ = some (.int .i64 ((rd_T73 l3 x12_2).f3.f2)) ∧ w'.cell? ⟨gb938,6,none⟩ = some (.int .i64 ((rd_T73 l3 x12_2).f3.f3)) ∧ w'.cell? ⟨gb938,7,none⟩ = some (.string ((rd_T73 l3 x12_2).f4)) ∧ w'.cell? (ad937.add ((x10_1).toNat * 8)) = some (.int .i64 ((rd_T73 l3 x10_1).f0)) ∧ w'.cell? ⟨(ad937.add ((x10_1).toNat * 8)).block,(ad937.add ((x10_1).toNat * 8)).off + 1,none⟩ = some (.int .i64 ((rd_T73 l3 x10_1).f1)) ∧ w'.cell? ⟨(ad937.add ((x10_1).toNat * 8)).block,(ad937.add ((x10_1).toNat * 8)).off + 2,none⟩ = some (.int .i64 ((rd_T73 l3 x10_1).f2)) ∧ w'.cell? ⟨(ad937.add ((x10_1).toNat * 8)).block,(ad937.add ((x10_1).toNat * 8)).off + 3,none⟩ = some (.int .i64 ((rd_T73 l3 x10_1).f3.f0)) ∧ w'.cell? ⟨(ad937.add ((x10_1).toNat * 8)).block,(ad937.add ((x10_1).toNat * 8)).off + 4,none⟩ = some (.int .i64 ((rd_T73 l3 x10_1).f3.f1)) ∧ w'.cell? ⟨(ad937.add ((x10_1).toNat * 8)).block,(ad937.add ((x10_1).toNat * 8)).off + 5,none⟩ = some (.int .i64 ((rd_T73 l3 x10_1).f3.f2)) ∧ w'.cell? ⟨(ad937.add ((x10_1).toNat * 8)).block,(ad937.add ((x10_1).toNat * 8)).off + 6,none⟩ = some (.int .i64 ((rd_T73 l3 x10_1).f3.f3)) ∧ w'.cell? ⟨(ad937.add ((x10_1).toNat * 8)).block,(ad937.add ((x10_1).toNat * 8)).off + 7,none⟩ = some (.string ((rd_T73 l3 x10_1).f4))) (ds := []) #[false,false,false,false,false,false,false,false,false,false,false,false,false,false,false,false,false,false,false,false,false,false,false,false,false,false,false,false,false,false,false,false] (by kernel_rfl) rfl rfl ⟨(blk_cell BK938.out 0).trans rfl,(blk_cell BK938.out 1).trans rfl,(blk_cell BK938.out 2).trans rfl,(blk_cell BK938.out 3).trans rfl,(blk_cell BK938.out 4).trans rfl,(blk_cell BK938.out 5).trans rfl,(blk_cell BK938.out 6).trans rfl,(blk_cell BK938.out 7).trans rfl,(zx_ HB hw940_0),(zx_ HB hw940_1),(zx_ HB hw940_2),(zx_ HB hw940_3),(zx_ HB hw940_4),(zx_ HB hw940_5),(zx_ HB hw940_6),(zx_ HB hw940_7)⟩ (fun hHeld => ?_);refine with_tabW spec_l11Count.tab9 spec_l11Count.bits9 (fun HT_ HW_ => ?_)
               generalize w41.drew = w42 at HO_11 BK932 BK938 HB hx940_0 hx940_1 hx940_2 hx940_3 hx940_4 hx940_5 hx940_6 hx940_7 hHeld ⊢
               refine zpu 0 (N := some 30) HT_ ?_
               refine ztk 1 (N := some 31) HT_ HW_ hHeld ?_
               refine zon 2 (N := some 32) HT_ (fun K hK => ?_)
               refine zgo Tryd.func97 #[.int .i64 a0,.agg #[.int .i64 ((rd_T73 l3 x12_2).f0),.int .i64 ((rd_T73 l3 x12_2).f1),.int .i64 ((rd_T73 l3 x12_2).f2),.int .i64 ((rd_T73 l3 x12_2).f3.f0),.int .i64 ((rd_T73 l3 x12_2).f3.f1),.int .i64 ((rd_T73 l3 x12_2).f3.f2),.int .i64 ((rd_T73 l3 x12_2).f3.f3),.string ((rd_T73 l3 x12_2).f4)]] ?_
               with_reducible refine (spec_l11OK.calls k2 a0 ((rd_T73 l3 x12_2).f0) ((rd_T73 l3 x12_2).f1) ((rd_T73 l3 x12_2).f2) ((rd_T73 l3 x12_2).f3.f0) ((rd_T73 l3 x12_2).f3.f1) ((rd_T73 l3 x12_2).f3.f2) ((rd_T73 l3 x12_2).f3.f3) ((rd_T73 l3 x12_2).f4) true _ A12.out).mono ?_
               rintro e w43 ⟨rfl,hb⟩
               refine ⟨_,rfl,?_⟩
               replace HO_11 := zrb HO_11 hb
               replace BK932 := zb BK932 hb
               replace BK938 := zb BK938 hb
               replace HB := zs_ HB hb
               (try clear hb)
               (try clear hb2)
               (try clear hk)
               (try clear hi)
               refine hK.out _ _ ⟨(blk_cell BK938.out 0).trans rfl,(blk_cell BK938.out 1).trans rfl,(blk_cell BK938.out 2).trans rfl,(blk_cell BK938.out 3).trans rfl,(blk_cell BK938.out 4).trans rfl,(blk_cell BK938.out 5).trans rfl,(blk_cell BK938.out 6).trans rfl,(blk_cell BK938.out 7).trans rfl,(zx_ HB hw940_0),(zx_ HB hw940_1),(zx_ HB hw940_2),(zx_ HB hw940_3),(zx_ HB hw940_4),(zx_ HB hw940_5),(zx_ HB hw940_6),(zx_ HB hw940_7)⟩ (fun hHeld => ?_)
               clear hK K
               refine norm_ (a' := ?_) ?_ ?_
               rotate_left
               ·show Act.put _ (some 32) _ = _
                simp only [Act.put,p1_,p2_,p3_,i64_w,i32_w]
                rfl
               refine zpu 3 (N := some 33) HT_ ?_
               refine zpu 4 (N := some 34) HT_ ?_
               refine zpu 6 (N := some 36) HT_ ?_
               refine ztk 5 (N := some 35) HT_ HW_ hHeld ?_
               refine zpu 7 (N := some 37) HT_ ?_
               refine zpu 8 (N := some 38) HT_ ?_
               refine zpu 9 (N := some 39) HT_ ?_
               refine zpu 10 (N := some 40) HT_ ?_
               refine zpu 12 (N := some 42) HT_ ?_
               refine ztk 11 (N := some 41) HT_ HW_ hHeld ?_
               refine zpu 13 (N := some 43) HT_ ?_
               refine zpu 14 (N := some 44) HT_ ?_
               refine zpu 15 (N := some 45) HT_ ?_
               refine zpu 16 (N := some 46) HT_ ?_
               refine zpu 18 (N := some 48) HT_ ?_
               refine zpu 19 (N := some 49) HT_ ?_
               refine zpu 20 (N := some 50) HT_ ?_
               refine zpu 21 (N := some 51) HT_ ?_
               refine ztk 17 (N := some 47) HT_ HW_ hHeld ?_
               refine ztk 22 (N := some 52) HT_ HW_ hHeld ?_
               refine zpu 23 (N := some 53) HT_ ?_
               refine zpu 24 (N := some 54) HT_ ?_
               refine zpu 25 (N := some 55) HT_ ?_
               refine zpx 26 (N := some 56) HT_ ?_
               refine zpx 27 (N := some 57) HT_ ?_
               refine zpx 28 (N := some 58) HT_ ?_
               refine zpx 29 (N := some 59) HT_ ?_
               refine zpx 30 (N := some 60) HT_ ?_
               refine zpu 31 (N := some 61) HT_ ?_
               refine done_ (done_of HT_.out (by kernel_rfl)) ?_
               try go_wp2
               go_roundg k2
               case measure => have := HK1.out;have := HK2.out;omega
               case rel => exact ⟨(x11_2),(wrap64 (x12_2 + 1)),(by first | rfl | (simp;done) | (simp [*];done)),H',⟨by have := HK1.out;have := HK2.out;omega⟩,⟨zr HO_11⟩,⟨by (with_reducible repeat (first | apply k1_ | apply k2_ | apply k3_));exact BK932.out⟩,⟨zl_ HB⟩⟩
             ·rw [if_neg c17] at H
              exact absurd H (by simp)
            ·rw [if_neg c16] at H
             exact absurd H (by simp)
           ·rw [if_neg c15] at H
            have c15b0 : (((rd_T73 l3 x12_2).f2) == a2) = false := beq_eq_false_iff_ne.mpr c15
            have c15b1 : (((rd_T73 l3 x12_2).f2) != a2) = true := bne_iff_ne.mpr c15
            have H' := am_ H
            clear H
            have p937 : 0 ≤ (x12_2 : Int) := zo_
            have q937 : x12_2 < (l3.length : Int) := zo_
            obtain ⟨ad937,e937,hx937_0,hx937_1,hx937_2,hx937_3,hx937_4,hx937_5,hx937_6,hx937_7⟩ := at_T73 HR3.out x12_2 p937 q937
            cases e937
            replace hx937_0 := zx_ HB hx937_0
            replace hx937_1 := zx_ HB hx937_1
            replace hx937_2 := zx_ HB hx937_2
            replace hx937_3 := zx_ HB hx937_3
            replace hx937_4 := zx_ HB hx937_4
            replace hx937_5 := zx_ HB hx937_5
            replace hx937_6 := zx_ HB hx937_6
            replace hx937_7 := zx_ HB hx937_7
            replace p937 := eq_true p937
            replace q937 := eq_true q937
            try go_wp2_with (first | ((with_reducible refine gate_dst (N := 13) rfl ?_);refine zbx (N := 13) (cs := #[.int .i64 0,.int .i64 0,.int .i64 0,.int .i64 0,.int .i64 0,.int .i64 0,.int .i64 0,.string ⟨#[]⟩]) (t := 73) ?_;intro gb938 hg w44 hbox hb;replace HO_11 := zrb HO_11 hb;have BK938 := am_ (hbox);have GW938 := zw_ HB hg;have GE938 := zw_ HB hg;replace HB := zs_ HB hb;have NB932_938 := zl hg BK932;have NB938_932 := zg hg BK932;replace BK932 := zb BK932 hb;clear hb hbox hg;have hnb45 := NB938_932.out;have hnc45 := NB932_938.out;obtain ⟨hcz46_0,hcz46_1,hcz46_2,hcz46_3,hcz46_4,hcz46_5,hcz46_6,hcz46_7,hfz46_0,hfz46_1,hfz46_2,hfz46_3,hfz46_4,hfz46_5,hfz46_6,hfz46_7⟩ := zc8 BK938))
            have n0_ : Aside0 (Kd.R (Kd.int .i64) 3 ((((((((w44.setCell ⟨gb938,0,none⟩ (.int .i64 ((rd_T73 l3 x12_2).f0))).setCell ⟨gb938,1,none⟩ (.int .i64 ((rd_T73 l3 x12_2).f1))).setCell ⟨gb938,2,none⟩ (.int .i64 ((rd_T73 l3 x12_2).f2))).setCell ⟨gb938,3,none⟩ (.int .i64 ((rd_T73 l3 x12_2).f3.f0))).setCell ⟨gb938,4,none⟩ (.int .i64 ((rd_T73 l3 x12_2).f3.f1))).setCell ⟨gb938,5,none⟩ (.int .i64 ((rd_T73 l3 x12_2).f3.f2))).setCell ⟨gb938,6,none⟩ (.int .i64 ((rd_T73 l3 x12_2).f3.f3))).setCell ⟨gb938,7,none⟩ (.string ((rd_T73 l3 x12_2).f4))) w.heap.size (fun _ => True) u11 x11_2) := ⟨by (with_reducible repeat (first | apply r1_ | apply r2_ | apply r3_));exact Kd.R_mono (zrf (Kd.R_types HO_11.out BK938.out (by decide))) (fun _ hk => trivial)⟩
            have n1_ : Aside0 (((((((((w44.setCell ⟨gb938,0,none⟩ (.int .i64 ((rd_T73 l3 x12_2).f0))).setCell ⟨gb938,1,none⟩ (.int .i64 ((rd_T73 l3 x12_2).f1))).setCell ⟨gb938,2,none⟩ (.int .i64 ((rd_T73 l3 x12_2).f2))).setCell ⟨gb938,3,none⟩ (.int .i64 ((rd_T73 l3 x12_2).f3.f0))).setCell ⟨gb938,4,none⟩ (.int .i64 ((rd_T73 l3 x12_2).f3.f1))).setCell ⟨gb938,5,none⟩ (.int .i64 ((rd_T73 l3 x12_2).f3.f2))).setCell ⟨gb938,6,none⟩ (.int .i64 ((rd_T73 l3 x12_2).f3.f3))).setCell ⟨gb938,7,none⟩ (.string ((rd_T73 l3 x12_2).f4))).heap[gb932]? = some (.cells #[.int .i64 x933000_1,.int .i64 x933001_1,.int .i64 x933002_1,.int .i64 x933003_1] 63 (0,0))) := ⟨zq BK932⟩
            have n2_ : Aside0 (((((((((w44.setCell ⟨gb938,0,none⟩ (.int .i64 ((rd_T73 l3 x12_2).f0))).setCell ⟨gb938,1,none⟩ (.int .i64 ((rd_T73 l3 x12_2).f1))).setCell ⟨gb938,2,none⟩ (.int .i64 ((rd_T73 l3 x12_2).f2))).setCell ⟨gb938,3,none⟩ (.int .i64 ((rd_T73 l3 x12_2).f3.f0))).setCell ⟨gb938,4,none⟩ (.int .i64 ((rd_T73 l3 x12_2).f3.f1))).setCell ⟨gb938,5,none⟩ (.int .i64 ((rd_T73 l3 x12_2).f3.f2))).setCell ⟨gb938,6,none⟩ (.int .i64 ((rd_T73 l3 x12_2).f3.f3))).setCell ⟨gb938,7,none⟩ (.string ((rd_T73 l3 x12_2).f4))).heap[gb938]? = some (.cells #[.int .i64 ((rd_T73 l3 x12_2).f0),.int .i64 ((rd_T73 l3 x12_2).f1),.int .i64 ((rd_T73 l3 x12_2).f2),.int .i64 ((rd_T73 l3 x12_2).f3.f0),.int .i64 ((rd_T73 l3 x12_2).f3.f1),.int .i64 ((rd_T73 l3 x12_2).f3.f2),.int .i64 ((rd_T73 l3 x12_2).f3.f3),.string ((rd_T73 l3 x12_2).f4)] 73 (0,0))) := ⟨zq BK938⟩
            have n3_ : Aside0 (Below w.heap.size w ((((((((w44.setCell ⟨gb938,0,none⟩ (.int .i64 ((rd_T73 l3 x12_2).f0))).setCell ⟨gb938,1,none⟩ (.int .i64 ((rd_T73 l3 x12_2).f1))).setCell ⟨gb938,2,none⟩ (.int .i64 ((rd_T73 l3 x12_2).f2))).setCell ⟨gb938,3,none⟩ (.int .i64 ((rd_T73 l3 x12_2).f3.f0))).setCell ⟨gb938,4,none⟩ (.int .i64 ((rd_T73 l3 x12_2).f3.f1))).setCell ⟨gb938,5,none⟩ (.int .i64 ((rd_T73 l3 x12_2).f3.f2))).setCell ⟨gb938,6,none⟩ (.int .i64 ((rd_T73 l3 x12_2).f3.f3))).setCell ⟨gb938,7,none⟩ (.string ((rd_T73 l3 x12_2).f4)))) := ⟨zl_ HB⟩
            (try clear HO_11)
            (try clear BK932)
            (try clear BK938)
            (try clear HB)
            generalize ((((((((w44.setCell ⟨gb938,0,none⟩ (.int .i64 ((rd_T73 l3 x12_2).f0))).setCell ⟨gb938,1,none⟩ (.int .i64 ((rd_T73 l3 x12_2).f1))).setCell ⟨gb938,2,none⟩ (.int .i64 ((rd_T73 l3 x12_2).f2))).setCell ⟨gb938,3,none⟩ (.int .i64 ((rd_T73 l3 x12_2).f3.f0))).setCell ⟨gb938,4,none⟩ (.int .i64 ((rd_T73 l3 x12_2).f3.f1))).setCell ⟨gb938,5,none⟩ (.int .i64 ((rd_T73 l3 x12_2).f3.f2))).setCell ⟨gb938,6,none⟩ (.int .i64 ((rd_T73 l3 x12_2).f3.f3))).setCell ⟨gb938,7,none⟩ (.string ((rd_T73 l3 x12_2).f4))) = w47 at n0_ n1_ n2_ n3_ ⊢
            have HO_11 := n0_
            have BK932 := n1_
            have BK938 := n2_
            have HB := n3_
            clear n0_ n1_ n2_ n3_
            replace HO_11 := am_ (Kd.R_drew HO_11.out)
            replace BK932 := am_ (blk_drew BK932.out)
            replace BK938 := am_ (blk_drew BK938.out)
            replace HB := am_ (below_drew1 HB.out)
            refine start_ (n := 32) (S := fun w' => w'.cell? ⟨gb938,0,none⟩ = some (.int .i64 ((rd_T73 l3 x12_2).f0)) ∧ w'.cell? ⟨gb938,1,none⟩ = some (.int .i64 ((rd_T73 l3 x12_2).f1)) ∧ w'.cell? ⟨gb938,2,none⟩ = some (.int .i64 ((rd_T73 l3 x12_2).f2)) ∧ w'.cell? ⟨gb938,3,none⟩ = some (.int .i64 ((rd_T73 l3 x12_2).f3.f0)) ∧ w'.cell? ⟨gb938,4,none⟩ = some (.int .i64 ((rd_T73 l3 x12_2).f3.f1)) ∧ w'.cell? ⟨gb938,5,none⟩ = some (.int .i64 ((rd_T73 l3 x12_2).f3.f2)) ∧ w'.cell? ⟨gb938,6,none⟩ = some (.int .i64 ((rd_T73 l3 x12_2).f3.f3)) ∧ w'.cell? ⟨gb938,7,none⟩ = some (.string ((rd_T73 l3 x12_2).f4))) (ds := []) #[false,false,false,false,false,false,false,false,false,false,false,false,false,false,false,false,false,false,false,false,false,false,false,false,false,false,false,false,false,false,false,false] (by kernel_rfl) rfl rfl ⟨(blk_cell BK938.out 0).trans rfl,(blk_cell BK938.out 1).trans rfl,(blk_cell BK938.out 2).trans rfl,(blk_cell BK938.out 3).trans rfl,(blk_cell BK938.out 4).trans rfl,(blk_cell BK938.out 5).trans rfl,(blk_cell BK938.out 6).trans rfl,(blk_cell BK938.out 7).trans rfl⟩ (fun hHeld => ?_);refine with_tabW spec_l11Count.tab9 spec_l11Count.bits9 (fun HT_ HW_ => ?_)
            generalize w47.drew = w48 at HO_11 BK932 BK938 HB hHeld ⊢
            refine zpu 0 (N := some 30) HT_ ?_
            refine ztk 1 (N := some 31) HT_ HW_ hHeld ?_
            refine zon 2 (N := some 32) HT_ (fun K hK => ?_)
            refine zgo Tryd.func97 #[.int .i64 a0,.agg #[.int .i64 ((rd_T73 l3 x12_2).f0),.int .i64 ((rd_T73 l3 x12_2).f1),.int .i64 ((rd_T73 l3 x12_2).f2),.int .i64 ((rd_T73 l3 x12_2).f3.f0),.int .i64 ((rd_T73 l3 x12_2).f3.f1),.int .i64 ((rd_T73 l3 x12_2).f3.f2),.int .i64 ((rd_T73 l3 x12_2).f3.f3),.string ((rd_T73 l3 x12_2).f4)]] ?_
            with_reducible refine (spec_l11OK.calls k2 a0 ((rd_T73 l3 x12_2).f0) ((rd_T73 l3 x12_2).f1) ((rd_T73 l3 x12_2).f2) ((rd_T73 l3 x12_2).f3.f0) ((rd_T73 l3 x12_2).f3.f1) ((rd_T73 l3 x12_2).f3.f2) ((rd_T73 l3 x12_2).f3.f3) ((rd_T73 l3 x12_2).f4) true _ A12.out).mono ?_
            rintro e w49 ⟨rfl,hb⟩
            refine ⟨_,rfl,?_⟩
            replace HO_11 := zrb HO_11 hb
            replace BK932 := zb BK932 hb
            replace BK938 := zb BK938 hb
            replace HB := zs_ HB hb
            (try clear hb)
            (try clear hb2)
            (try clear hk)
            (try clear hi)
            refine hK.out _ _ ⟨(blk_cell BK938.out 0).trans rfl,(blk_cell BK938.out 1).trans rfl,(blk_cell BK938.out 2).trans rfl,(blk_cell BK938.out 3).trans rfl,(blk_cell BK938.out 4).trans rfl,(blk_cell BK938.out 5).trans rfl,(blk_cell BK938.out 6).trans rfl,(blk_cell BK938.out 7).trans rfl⟩ (fun hHeld => ?_)
            clear hK K
            refine norm_ (a' := ?_) ?_ ?_
            rotate_left
            ·show Act.put _ (some 32) _ = _
             simp only [Act.put,p1_,p2_,p3_,i64_w,i32_w]
             rfl
            refine zpu 3 (N := some 33) HT_ ?_
            refine zpu 4 (N := some 34) HT_ ?_
            refine zpu 6 (N := some 36) HT_ ?_
            refine ztk 5 (N := some 35) HT_ HW_ hHeld ?_
            refine zpu 7 (N := some 37) HT_ ?_
            refine zpu 8 (N := some 38) HT_ ?_
            refine zpu 9 (N := some 39) HT_ ?_
            refine zpu 10 (N := some 40) HT_ ?_
            refine zpu 12 (N := some 42) HT_ ?_
            refine ztk 11 (N := some 41) HT_ HW_ hHeld ?_
            refine zpu 13 (N := some 43) HT_ ?_
            refine zpu 14 (N := some 44) HT_ ?_
            refine zpu 15 (N := some 45) HT_ ?_
            refine zpx 16 (N := some 46) HT_ ?_
            refine zpx 17 (N := some 47) HT_ ?_
            refine zpx 18 (N := some 48) HT_ ?_
            refine zpx 19 (N := some 49) HT_ ?_
            refine zpx 20 (N := some 50) HT_ ?_
            refine zpx 21 (N := some 51) HT_ ?_
            refine zpx 22 (N := some 52) HT_ ?_
            refine zpx 23 (N := some 53) HT_ ?_
            refine zpu 24 (N := some 54) HT_ ?_
            refine zpu 25 (N := some 55) HT_ ?_
            refine zpx 26 (N := some 56) HT_ ?_
            refine zpx 27 (N := some 57) HT_ ?_
            refine zpx 28 (N := some 58) HT_ ?_
            refine zpx 29 (N := some 59) HT_ ?_
            refine zpx 30 (N := some 60) HT_ ?_
            refine zpu 31 (N := some 61) HT_ ?_
            refine done_ (done_of HT_.out (by kernel_rfl)) ?_
            try go_wp2
            go_roundg k2
            case measure => have := HK1.out;have := HK2.out;omega
            case rel => exact ⟨(x11_2),(wrap64 (x12_2 + 1)),(by first | rfl | (simp;done) | (simp [*];done)),H',⟨by have := HK1.out;have := HK2.out;omega⟩,⟨zr HO_11⟩,⟨by (with_reducible repeat (first | apply k1_ | apply k2_ | apply k3_));exact BK932.out⟩,⟨zl_ HB⟩⟩
          ·rw [if_neg c14] at H
           have c14b0 : (((rd_T73 l3 x12_2).f1) == a1) = false := beq_eq_false_iff_ne.mpr c14
           have c14b1 : (((rd_T73 l3 x12_2).f1) != a1) = true := bne_iff_ne.mpr c14
           have H' := am_ H
           clear H
           have p937 : 0 ≤ (x12_2 : Int) := zo_
           have q937 : x12_2 < (l3.length : Int) := zo_
           obtain ⟨ad937,e937,hx937_0,hx937_1,hx937_2,hx937_3,hx937_4,hx937_5,hx937_6,hx937_7⟩ := at_T73 HR3.out x12_2 p937 q937
           cases e937
           replace hx937_0 := zx_ HB hx937_0
           replace hx937_1 := zx_ HB hx937_1
           replace hx937_2 := zx_ HB hx937_2
           replace hx937_3 := zx_ HB hx937_3
           replace hx937_4 := zx_ HB hx937_4
           replace hx937_5 := zx_ HB hx937_5
           replace hx937_6 := zx_ HB hx937_6
           replace hx937_7 := zx_ HB hx937_7
           replace p937 := eq_true p937
           replace q937 := eq_true q937
           try go_wp2_with (first | ((with_reducible refine gate_dst (N := 13) rfl ?_);refine zbx (N := 13) (cs := #[.int .i64 0,.int .i64 0,.int .i64 0,.int .i64 0,.int .i64 0,.int .i64 0,.int .i64 0,.string ⟨#[]⟩]) (t := 73) ?_;intro gb938 hg w50 hbox hb;replace HO_11 := zrb HO_11 hb;have BK938 := am_ (hbox);have GW938 := zw_ HB hg;have GE938 := zw_ HB hg;replace HB := zs_ HB hb;have NB932_938 := zl hg BK932;have NB938_932 := zg hg BK932;replace BK932 := zb BK932 hb;clear hb hbox hg;have hnb51 := NB938_932.out;have hnc51 := NB932_938.out;obtain ⟨hcz52_0,hcz52_1,hcz52_2,hcz52_3,hcz52_4,hcz52_5,hcz52_6,hcz52_7,hfz52_0,hfz52_1,hfz52_2,hfz52_3,hfz52_4,hfz52_5,hfz52_6,hfz52_7⟩ := zc8 BK938))
           have n0_ : Aside0 (Kd.R (Kd.int .i64) 3 ((((((((w50.setCell ⟨gb938,0,none⟩ (.int .i64 ((rd_T73 l3 x12_2).f0))).setCell ⟨gb938,1,none⟩ (.int .i64 ((rd_T73 l3 x12_2).f1))).setCell ⟨gb938,2,none⟩ (.int .i64 ((rd_T73 l3 x12_2).f2))).setCell ⟨gb938,3,none⟩ (.int .i64 ((rd_T73 l3 x12_2).f3.f0))).setCell ⟨gb938,4,none⟩ (.int .i64 ((rd_T73 l3 x12_2).f3.f1))).setCell ⟨gb938,5,none⟩ (.int .i64 ((rd_T73 l3 x12_2).f3.f2))).setCell ⟨gb938,6,none⟩ (.int .i64 ((rd_T73 l3 x12_2).f3.f3))).setCell ⟨gb938,7,none⟩ (.string ((rd_T73 l3 x12_2).f4))) w.heap.size (fun _ => True) u11 x11_2) := ⟨by (with_reducible repeat (first | apply r1_ | apply r2_ | apply r3_));exact Kd.R_mono (zrf (Kd.R_types HO_11.out BK938.out (by decide))) (fun _ hk => trivial)⟩
           have n1_ : Aside0 (((((((((w50.setCell ⟨gb938,0,none⟩ (.int .i64 ((rd_T73 l3 x12_2).f0))).setCell ⟨gb938,1,none⟩ (.int .i64 ((rd_T73 l3 x12_2).f1))).setCell ⟨gb938,2,none⟩ (.int .i64 ((rd_T73 l3 x12_2).f2))).setCell ⟨gb938,3,none⟩ (.int .i64 ((rd_T73 l3 x12_2).f3.f0))).setCell ⟨gb938,4,none⟩ (.int .i64 ((rd_T73 l3 x12_2).f3.f1))).setCell ⟨gb938,5,none⟩ (.int .i64 ((rd_T73 l3 x12_2).f3.f2))).setCell ⟨gb938,6,none⟩ (.int .i64 ((rd_T73 l3 x12_2).f3.f3))).setCell ⟨gb938,7,none⟩ (.string ((rd_T73 l3 x12_2).f4))).heap[gb932]? = some (.cells #[.int .i64 x933000_1,.int .i64 x933001_1,.int .i64 x933002_1,.int .i64 x933003_1] 63 (0,0))) := ⟨zq BK932⟩
           have n2_ : Aside0 (((((((((w50.setCell ⟨gb938,0,none⟩ (.int .i64 ((rd_T73 l3 x12_2).f0))).setCell ⟨gb938,1,none⟩ (.int .i64 ((rd_T73 l3 x12_2).f1))).setCell ⟨gb938,2,none⟩ (.int .i64 ((rd_T73 l3 x12_2).f2))).setCell ⟨gb938,3,none⟩ (.int .i64 ((rd_T73 l3 x12_2).f3.f0))).setCell ⟨gb938,4,none⟩ (.int .i64 ((rd_T73 l3 x12_2).f3.f1))).setCell ⟨gb938,5,none⟩ (.int .i64 ((rd_T73 l3 x12_2).f3.f2))).setCell ⟨gb938,6,none⟩ (.int .i64 ((rd_T73 l3 x12_2).f3.f3))).setCell ⟨gb938,7,none⟩ (.string ((rd_T73 l3 x12_2).f4))).heap[gb938]? = some (.cells #[.int .i64 ((rd_T73 l3 x12_2).f0),.int .i64 ((rd_T73 l3 x12_2).f1),.int .i64 ((rd_T73 l3 x12_2).f2),.int .i64 ((rd_T73 l3 x12_2).f3.f0),.int .i64 ((rd_T73 l3 x12_2).f3.f1),.int .i64 ((rd_T73 l3 x12_2).f3.f2),.int .i64 ((rd_T73 l3 x12_2).f3.f3),.string ((rd_T73 l3 x12_2).f4)] 73 (0,0))) := ⟨zq BK938⟩
           have n3_ : Aside0 (Below w.heap.size w ((((((((w50.setCell ⟨gb938,0,none⟩ (.int .i64 ((rd_T73 l3 x12_2).f0))).setCell ⟨gb938,1,none⟩ (.int .i64 ((rd_T73 l3 x12_2).f1))).setCell ⟨gb938,2,none⟩ (.int .i64 ((rd_T73 l3 x12_2).f2))).setCell ⟨gb938,3,none⟩ (.int .i64 ((rd_T73 l3 x12_2).f3.f0))).setCell ⟨gb938,4,none⟩ (.int .i64 ((rd_T73 l3 x12_2).f3.f1))).setCell ⟨gb938,5,none⟩ (.int .i64 ((rd_T73 l3 x12_2).f3.f2))).setCell ⟨gb938,6,none⟩ (.int .i64 ((rd_T73 l3 x12_2).f3.f3))).setCell ⟨gb938,7,none⟩ (.string ((rd_T73 l3 x12_2).f4)))) := ⟨zl_ HB⟩
           (try clear HO_11)
           (try clear BK932)
           (try clear BK938)
           (try clear HB)
           generalize ((((((((w50.setCell ⟨gb938,0,none⟩ (.int .i64 ((rd_T73 l3 x12_2).f0))).setCell ⟨gb938,1,none⟩ (.int .i64 ((rd_T73 l3 x12_2).f1))).setCell ⟨gb938,2,none⟩ (.int .i64 ((rd_T73 l3 x12_2).f2))).setCell ⟨gb938,3,none⟩ (.int .i64 ((rd_T73 l3 x12_2).f3.f0))).setCell ⟨gb938,4,none⟩ (.int .i64 ((rd_T73 l3 x12_2).f3.f1))).setCell ⟨gb938,5,none⟩ (.int .i64 ((rd_T73 l3 x12_2).f3.f2))).setCell ⟨gb938,6,none⟩ (.int .i64 ((rd_T73 l3 x12_2).f3.f3))).setCell ⟨gb938,7,none⟩ (.string ((rd_T73 l3 x12_2).f4))) = w53 at n0_ n1_ n2_ n3_ ⊢
           have HO_11 := n0_
           have BK932 := n1_
           have BK938 := n2_
           have HB := n3_
           clear n0_ n1_ n2_ n3_
           replace HO_11 := am_ (Kd.R_drew HO_11.out)
           replace BK932 := am_ (blk_drew BK932.out)
           replace BK938 := am_ (blk_drew BK938.out)
           replace HB := am_ (below_drew1 HB.out)
           refine start_ (n := 32) (S := fun w' => w'.cell? ⟨gb938,0,none⟩ = some (.int .i64 ((rd_T73 l3 x12_2).f0)) ∧ w'.cell? ⟨gb938,1,none⟩ = some (.int .i64 ((rd_T73 l3 x12_2).f1)) ∧ w'.cell? ⟨gb938,2,none⟩ = some (.int .i64 ((rd_T73 l3 x12_2).f2)) ∧ w'.cell? ⟨gb938,3,none⟩ = some (.int .i64 ((rd_T73 l3 x12_2).f3.f0)) ∧ w'.cell? ⟨gb938,4,none⟩ = some (.int .i64 ((rd_T73 l3 x12_2).f3.f1)) ∧ w'.cell? ⟨gb938,5,none⟩ = some (.int .i64 ((rd_T73 l3 x12_2).f3.f2)) ∧ w'.cell? ⟨gb938,6,none⟩ = some (.int .i64 ((rd_T73 l3 x12_2).f3.f3)) ∧ w'.cell? ⟨gb938,7,none⟩ = some (.string ((rd_T73 l3 x12_2).f4))) (ds := []) #[false,false,false,false,false,false,false,false,false,false,false,false,false,false,false,false,false,false,false,false,false,false,false,false,false,false,false,false,false,false,false,false] (by kernel_rfl) rfl rfl ⟨(blk_cell BK938.out 0).trans rfl,(blk_cell BK938.out 1).trans rfl,(blk_cell BK938.out 2).trans rfl,(blk_cell BK938.out 3).trans rfl,(blk_cell BK938.out 4).trans rfl,(blk_cell BK938.out 5).trans rfl,(blk_cell BK938.out 6).trans rfl,(blk_cell BK938.out 7).trans rfl⟩ (fun hHeld => ?_);refine with_tabW spec_l11Count.tab9 spec_l11Count.bits9 (fun HT_ HW_ => ?_)
           generalize w53.drew = w54 at HO_11 BK932 BK938 HB hHeld ⊢
           refine zpu 0 (N := some 30) HT_ ?_
           refine ztk 1 (N := some 31) HT_ HW_ hHeld ?_
           refine zon 2 (N := some 32) HT_ (fun K hK => ?_)
           refine zgo Tryd.func97 #[.int .i64 a0,.agg #[.int .i64 ((rd_T73 l3 x12_2).f0),.int .i64 ((rd_T73 l3 x12_2).f1),.int .i64 ((rd_T73 l3 x12_2).f2),.int .i64 ((rd_T73 l3 x12_2).f3.f0),.int .i64 ((rd_T73 l3 x12_2).f3.f1),.int .i64 ((rd_T73 l3 x12_2).f3.f2),.int .i64 ((rd_T73 l3 x12_2).f3.f3),.string ((rd_T73 l3 x12_2).f4)]] ?_
           with_reducible refine (spec_l11OK.calls k2 a0 ((rd_T73 l3 x12_2).f0) ((rd_T73 l3 x12_2).f1) ((rd_T73 l3 x12_2).f2) ((rd_T73 l3 x12_2).f3.f0) ((rd_T73 l3 x12_2).f3.f1) ((rd_T73 l3 x12_2).f3.f2) ((rd_T73 l3 x12_2).f3.f3) ((rd_T73 l3 x12_2).f4) true _ A12.out).mono ?_
           rintro e w55 ⟨rfl,hb⟩
           refine ⟨_,rfl,?_⟩
           replace HO_11 := zrb HO_11 hb
           replace BK932 := zb BK932 hb
           replace BK938 := zb BK938 hb
           replace HB := zs_ HB hb
           (try clear hb)
           (try clear hb2)
           (try clear hk)
           (try clear hi)
           refine hK.out _ _ ⟨(blk_cell BK938.out 0).trans rfl,(blk_cell BK938.out 1).trans rfl,(blk_cell BK938.out 2).trans rfl,(blk_cell BK938.out 3).trans rfl,(blk_cell BK938.out 4).trans rfl,(blk_cell BK938.out 5).trans rfl,(blk_cell BK938.out 6).trans rfl,(blk_cell BK938.out 7).trans rfl⟩ (fun hHeld => ?_)
           clear hK K
           refine norm_ (a' := ?_) ?_ ?_
           rotate_left
           ·show Act.put _ (some 32) _ = _
            simp only [Act.put,p1_,p2_,p3_,i64_w,i32_w]
            rfl
           refine zpu 3 (N := some 33) HT_ ?_
           refine zpu 4 (N := some 34) HT_ ?_
           refine zpu 6 (N := some 36) HT_ ?_
           refine ztk 5 (N := some 35) HT_ HW_ hHeld ?_
           refine zpu 7 (N := some 37) HT_ ?_
           refine zpu 8 (N := some 38) HT_ ?_
           refine zpu 9 (N := some 39) HT_ ?_
           refine zpx 10 (N := some 40) HT_ ?_
           refine zpx 11 (N := some 41) HT_ ?_
           refine zpx 12 (N := some 42) HT_ ?_
           refine zpx 13 (N := some 43) HT_ ?_
           refine zpu 14 (N := some 44) HT_ ?_
           refine zpu 15 (N := some 45) HT_ ?_
           refine zpx 16 (N := some 46) HT_ ?_
           refine zpx 17 (N := some 47) HT_ ?_
           refine zpx 18 (N := some 48) HT_ ?_
           refine zpx 19 (N := some 49) HT_ ?_
           refine zpx 20 (N := some 50) HT_ ?_
           refine zpx 21 (N := some 51) HT_ ?_
           refine zpx 22 (N := some 52) HT_ ?_
           refine zpx 23 (N := some 53) HT_ ?_
           refine zpu 24 (N := some 54) HT_ ?_
           refine zpu 25 (N := some 55) HT_ ?_
           refine zpx 26 (N := some 56) HT_ ?_
           refine zpx 27 (N := some 57) HT_ ?_
           refine zpx 28 (N := some 58) HT_ ?_
           refine zpx 29 (N := some 59) HT_ ?_
           refine zpx 30 (N := some 60) HT_ ?_
           refine zpu 31 (N := some 61) HT_ ?_
           refine done_ (done_of HT_.out (by kernel_rfl)) ?_
           try go_wp2
           go_roundg k2
           case measure => have := HK1.out;have := HK2.out;omega
           case rel => exact ⟨(x11_2),(wrap64 (x12_2 + 1)),(by first | rfl | (simp;done) | (simp [*];done)),H',⟨by have := HK1.out;have := HK2.out;omega⟩,⟨zr HO_11⟩,⟨by (with_reducible repeat (first | apply k1_ | apply k2_ | apply k3_));exact BK932.out⟩,⟨zl_ HB⟩⟩
         ·replace c13 := Bool.eq_false_iff.mpr c13
          subst c13
          have H1 : (spec_l11Count.l1 k2 a0 a1 a2 l3 x10_1 x11_2 (wrap64 (x12_2 + 1))) = some (r1,r2,r3,r4,r5) := by rw [if_neg (show ¬ (false = true) by decide)] at H;exact H
          clear H
          have H := H1
          clear H1
          have H' := am_ H
          clear H
          have p937 : 0 ≤ (x12_2 : Int) := zo_
          have q937 : x12_2 < (l3.length : Int) := zo_
          obtain ⟨ad937,e937,hx937_0,hx937_1,hx937_2,hx937_3,hx937_4,hx937_5,hx937_6,hx937_7⟩ := at_T73 HR3.out x12_2 p937 q937
          cases e937
          replace hx937_0 := zx_ HB hx937_0
          replace hx937_1 := zx_ HB hx937_1
          replace hx937_2 := zx_ HB hx937_2
          replace hx937_3 := zx_ HB hx937_3
          replace hx937_4 := zx_ HB hx937_4
          replace hx937_5 := zx_ HB hx937_5
          replace hx937_6 := zx_ HB hx937_6
          replace hx937_7 := zx_ HB hx937_7
          replace p937 := eq_true p937
          replace q937 := eq_true q937
          try go_wp2_with (first | ((with_reducible refine gate_dst (N := 13) rfl ?_);refine zbx (N := 13) (cs := #[.int .i64 0,.int .i64 0,.int .i64 0,.int .i64 0,.int .i64 0,.int .i64 0,.int .i64 0,.string ⟨#[]⟩]) (t := 73) ?_;intro gb938 hg w56 hbox hb;replace HO_11 := zrb HO_11 hb;have BK938 := am_ (hbox);have GW938 := zw_ HB hg;have GE938 := zw_ HB hg;replace HB := zs_ HB hb;have NB932_938 := zl hg BK932;have NB938_932 := zg hg BK932;replace BK932 := zb BK932 hb;clear hb hbox hg;have hnb57 := NB938_932.out;have hnc57 := NB932_938.out;obtain ⟨hcz58_0,hcz58_1,hcz58_2,hcz58_3,hcz58_4,hcz58_5,hcz58_6,hcz58_7,hfz58_0,hfz58_1,hfz58_2,hfz58_3,hfz58_4,hfz58_5,hfz58_6,hfz58_7⟩ := zc8 BK938))
          have n0_ : Aside0 (Kd.R (Kd.int .i64) 3 ((((((((w56.setCell ⟨gb938,0,none⟩ (.int .i64 ((rd_T73 l3 x12_2).f0))).setCell ⟨gb938,1,none⟩ (.int .i64 ((rd_T73 l3 x12_2).f1))).setCell ⟨gb938,2,none⟩ (.int .i64 ((rd_T73 l3 x12_2).f2))).setCell ⟨gb938,3,none⟩ (.int .i64 ((rd_T73 l3 x12_2).f3.f0))).setCell ⟨gb938,4,none⟩ (.int .i64 ((rd_T73 l3 x12_2).f3.f1))).setCell ⟨gb938,5,none⟩ (.int .i64 ((rd_T73 l3 x12_2).f3.f2))).setCell ⟨gb938,6,none⟩ (.int .i64 ((rd_T73 l3 x12_2).f3.f3))).setCell ⟨gb938,7,none⟩ (.string ((rd_T73 l3 x12_2).f4))) w.heap.size (fun _ => True) u11 x11_2) := ⟨by (with_reducible repeat (first | apply r1_ | apply r2_ | apply r3_));exact Kd.R_mono (zrf (Kd.R_types HO_11.out BK938.out (by decide))) (fun _ hk => trivial)⟩
          have n1_ : Aside0 (((((((((w56.setCell ⟨gb938,0,none⟩ (.int .i64 ((rd_T73 l3 x12_2).f0))).setCell ⟨gb938,1,none⟩ (.int .i64 ((rd_T73 l3 x12_2).f1))).setCell ⟨gb938,2,none⟩ (.int .i64 ((rd_T73 l3 x12_2).f2))).setCell ⟨gb938,3,none⟩ (.int .i64 ((rd_T73 l3 x12_2).f3.f0))).setCell ⟨gb938,4,none⟩ (.int .i64 ((rd_T73 l3 x12_2).f3.f1))).setCell ⟨gb938,5,none⟩ (.int .i64 ((rd_T73 l3 x12_2).f3.f2))).setCell ⟨gb938,6,none⟩ (.int .i64 ((rd_T73 l3 x12_2).f3.f3))).setCell ⟨gb938,7,none⟩ (.string ((rd_T73 l3 x12_2).f4))).heap[gb932]? = some (.cells #[.int .i64 x933000_1,.int .i64 x933001_1,.int .i64 x933002_1,.int .i64 x933003_1] 63 (0,0))) := ⟨zq BK932⟩
          have n2_ : Aside0 (((((((((w56.setCell ⟨gb938,0,none⟩ (.int .i64 ((rd_T73 l3 x12_2).f0))).setCell ⟨gb938,1,none⟩ (.int .i64 ((rd_T73 l3 x12_2).f1))).setCell ⟨gb938,2,none⟩ (.int .i64 ((rd_T73 l3 x12_2).f2))).setCell ⟨gb938,3,none⟩ (.int .i64 ((rd_T73 l3 x12_2).f3.f0))).setCell ⟨gb938,4,none⟩ (.int .i64 ((rd_T73 l3 x12_2).f3.f1))).setCell ⟨gb938,5,none⟩ (.int .i64 ((rd_T73 l3 x12_2).f3.f2))).setCell ⟨gb938,6,none⟩ (.int .i64 ((rd_T73 l3 x12_2).f3.f3))).setCell ⟨gb938,7,none⟩ (.string ((rd_T73 l3 x12_2).f4))).heap[gb938]? = some (.cells #[.int .i64 ((rd_T73 l3 x12_2).f0),.int .i64 ((rd_T73 l3 x12_2).f1),.int .i64 ((rd_T73 l3 x12_2).f2),.int .i64 ((rd_T73 l3 x12_2).f3.f0),.int .i64 ((rd_T73 l3 x12_2).f3.f1),.int .i64 ((rd_T73 l3 x12_2).f3.f2),.int .i64 ((rd_T73 l3 x12_2).f3.f3),.string ((rd_T73 l3 x12_2).f4)] 73 (0,0))) := ⟨zq BK938⟩
          have n3_ : Aside0 (Below w.heap.size w ((((((((w56.setCell ⟨gb938,0,none⟩ (.int .i64 ((rd_T73 l3 x12_2).f0))).setCell ⟨gb938,1,none⟩ (.int .i64 ((rd_T73 l3 x12_2).f1))).setCell ⟨gb938,2,none⟩ (.int .i64 ((rd_T73 l3 x12_2).f2))).setCell ⟨gb938,3,none⟩ (.int .i64 ((rd_T73 l3 x12_2).f3.f0))).setCell ⟨gb938,4,none⟩ (.int .i64 ((rd_T73 l3 x12_2).f3.f1))).setCell ⟨gb938,5,none⟩ (.int .i64 ((rd_T73 l3 x12_2).f3.f2))).setCell ⟨gb938,6,none⟩ (.int .i64 ((rd_T73 l3 x12_2).f3.f3))).setCell ⟨gb938,7,none⟩ (.string ((rd_T73 l3 x12_2).f4)))) := ⟨zl_ HB⟩
          (try clear HO_11)
          (try clear BK932)
          (try clear BK938)
          (try clear HB)
          generalize ((((((((w56.setCell ⟨gb938,0,none⟩ (.int .i64 ((rd_T73 l3 x12_2).f0))).setCell ⟨gb938,1,none⟩ (.int .i64 ((rd_T73 l3 x12_2).f1))).setCell ⟨gb938,2,none⟩ (.int .i64 ((rd_T73 l3 x12_2).f2))).setCell ⟨gb938,3,none⟩ (.int .i64 ((rd_T73 l3 x12_2).f3.f0))).setCell ⟨gb938,4,none⟩ (.int .i64 ((rd_T73 l3 x12_2).f3.f1))).setCell ⟨gb938,5,none⟩ (.int .i64 ((rd_T73 l3 x12_2).f3.f2))).setCell ⟨gb938,6,none⟩ (.int .i64 ((rd_T73 l3 x12_2).f3.f3))).setCell ⟨gb938,7,none⟩ (.string ((rd_T73 l3 x12_2).f4))) = w59 at n0_ n1_ n2_ n3_ ⊢
          have HO_11 := n0_
          have BK932 := n1_
          have BK938 := n2_
          have HB := n3_
          clear n0_ n1_ n2_ n3_
          replace HO_11 := am_ (Kd.R_drew HO_11.out)
          replace BK932 := am_ (blk_drew BK932.out)
          replace BK938 := am_ (blk_drew BK938.out)
          replace HB := am_ (below_drew1 HB.out)
          refine start_ (n := 32) (S := fun w' => w'.cell? ⟨gb938,0,none⟩ = some (.int .i64 ((rd_T73 l3 x12_2).f0)) ∧ w'.cell? ⟨gb938,1,none⟩ = some (.int .i64 ((rd_T73 l3 x12_2).f1)) ∧ w'.cell? ⟨gb938,2,none⟩ = some (.int .i64 ((rd_T73 l3 x12_2).f2)) ∧ w'.cell? ⟨gb938,3,none⟩ = some (.int .i64 ((rd_T73 l3 x12_2).f3.f0)) ∧ w'.cell? ⟨gb938,4,none⟩ = some (.int .i64 ((rd_T73 l3 x12_2).f3.f1)) ∧ w'.cell? ⟨gb938,5,none⟩ = some (.int .i64 ((rd_T73 l3 x12_2).f3.f2)) ∧ w'.cell? ⟨gb938,6,none⟩ = some (.int .i64 ((rd_T73 l3 x12_2).f3.f3)) ∧ w'.cell? ⟨gb938,7,none⟩ = some (.string ((rd_T73 l3 x12_2).f4))) (ds := []) #[false,false,false,false,false,false,false,false,false,false,false,false,false,false,false,false,false,false,false,false,false,false,false,false,false,false,false,false,false,false,false,false] (by kernel_rfl) rfl rfl ⟨(blk_cell BK938.out 0).trans rfl,(blk_cell BK938.out 1).trans rfl,(blk_cell BK938.out 2).trans rfl,(blk_cell BK938.out 3).trans rfl,(blk_cell BK938.out 4).trans rfl,(blk_cell BK938.out 5).trans rfl,(blk_cell BK938.out 6).trans rfl,(blk_cell BK938.out 7).trans rfl⟩ (fun hHeld => ?_);refine with_tabW spec_l11Count.tab9 spec_l11Count.bits9 (fun HT_ HW_ => ?_)
          generalize w59.drew = w60 at HO_11 BK932 BK938 HB hHeld ⊢
          refine zpu 0 (N := some 30) HT_ ?_
          refine ztk 1 (N := some 31) HT_ HW_ hHeld ?_
          refine zon 2 (N := some 32) HT_ (fun K hK => ?_)
          refine zgo Tryd.func97 #[.int .i64 a0,.agg #[.int .i64 ((rd_T73 l3 x12_2).f0),.int .i64 ((rd_T73 l3 x12_2).f1),.int .i64 ((rd_T73 l3 x12_2).f2),.int .i64 ((rd_T73 l3 x12_2).f3.f0),.int .i64 ((rd_T73 l3 x12_2).f3.f1),.int .i64 ((rd_T73 l3 x12_2).f3.f2),.int .i64 ((rd_T73 l3 x12_2).f3.f3),.string ((rd_T73 l3 x12_2).f4)]] ?_
          with_reducible refine (spec_l11OK.calls k2 a0 ((rd_T73 l3 x12_2).f0) ((rd_T73 l3 x12_2).f1) ((rd_T73 l3 x12_2).f2) ((rd_T73 l3 x12_2).f3.f0) ((rd_T73 l3 x12_2).f3.f1) ((rd_T73 l3 x12_2).f3.f2) ((rd_T73 l3 x12_2).f3.f3) ((rd_T73 l3 x12_2).f4) false _ A12.out).mono ?_
          rintro e w61 ⟨rfl,hb⟩
          refine ⟨_,rfl,?_⟩
          replace HO_11 := zrb HO_11 hb
          replace BK932 := zb BK932 hb
          replace BK938 := zb BK938 hb
          replace HB := zs_ HB hb
          (try clear hb)
          (try clear hb2)
          (try clear hk)
          (try clear hi)
          refine hK.out _ _ ⟨(blk_cell BK938.out 0).trans rfl,(blk_cell BK938.out 1).trans rfl,(blk_cell BK938.out 2).trans rfl,(blk_cell BK938.out 3).trans rfl,(blk_cell BK938.out 4).trans rfl,(blk_cell BK938.out 5).trans rfl,(blk_cell BK938.out 6).trans rfl,(blk_cell BK938.out 7).trans rfl⟩ (fun hHeld => ?_)
          clear hK K
          refine norm_ (a' := ?_) ?_ ?_
          rotate_left
          ·show Act.put _ (some 32) _ = _
           simp only [Act.put,p1_,p2_,p3_,i64_w,i32_w]
           rfl
          refine zpu 3 (N := some 33) HT_ ?_
          refine zpx 4 (N := some 34) HT_ ?_
          refine zpx 5 (N := some 35) HT_ ?_
          refine zpx 6 (N := some 36) HT_ ?_
          refine zpx 7 (N := some 37) HT_ ?_
          refine zpu 8 (N := some 38) HT_ ?_
          refine zpu 9 (N := some 39) HT_ ?_
          refine zpx 10 (N := some 40) HT_ ?_
          refine zpx 11 (N := some 41) HT_ ?_
          refine zpx 12 (N := some 42) HT_ ?_
          refine zpx 13 (N := some 43) HT_ ?_
          refine zpu 14 (N := some 44) HT_ ?_
          refine zpu 15 (N := some 45) HT_ ?_
          refine zpx 16 (N := some 46) HT_ ?_
          refine zpx 17 (N := some 47) HT_ ?_
          refine zpx 18 (N := some 48) HT_ ?_
          refine zpx 19 (N := some 49) HT_ ?_
          refine zpx 20 (N := some 50) HT_ ?_
          refine zpx 21 (N := some 51) HT_ ?_
          refine zpx 22 (N := some 52) HT_ ?_
          refine zpx 23 (N := some 53) HT_ ?_
          refine zpu 24 (N := some 54) HT_ ?_
          refine zpu 25 (N := some 55) HT_ ?_
          refine zpx 26 (N := some 56) HT_ ?_
          refine zpx 27 (N := some 57) HT_ ?_
          refine zpx 28 (N := some 58) HT_ ?_
          refine zpx 29 (N := some 59) HT_ ?_
          refine zpx 30 (N := some 60) HT_ ?_
          refine zpu 31 (N := some 61) HT_ ?_
          refine done_ (done_of HT_.out (by kernel_rfl)) ?_
          try go_wp2
          go_roundg k2
          case measure => have := HK1.out;have := HK2.out;omega
          case rel => exact ⟨(x11_2),(wrap64 (x12_2 + 1)),(by first | rfl | (simp;done) | (simp [*];done)),H',⟨by have := HK1.out;have := HK2.out;omega⟩,⟨zr HO_11⟩,⟨by (with_reducible repeat (first | apply k1_ | apply k2_ | apply k3_));exact BK932.out⟩,⟨zl_ HB⟩⟩
        ·rw [if_neg c11] at H
         exact absurd H (by simp)
       ·rw [if_neg c10] at H
        exact absurd H (by simp)
      ·rw [if_neg c9] at H
       have c9b0 : decide (x12_2 ≤ x10_1) = false := decide_eq_false c9
       clear c9
       by_cases c62 : (x11_2.length : Int) > (wrap64 (Int.tdiv (wrap64 (a0 - 1)) 3))
       ·rw [if_pos c62] at H
        have c62b0 : decide ((wrap64 (Int.tdiv (wrap64 (a0 - 1)) 3)) < (x11_2.length : Int)) = true := decide_eq_true c62
        clear c62
        by_cases c63 : 0 ≤ x10_1
        ·rw [if_pos c63] at H
         have c63b0 : decide (0 ≤ x10_1) = true := decide_eq_true c63
         clear c63
         by_cases c64 : x10_1 < (l3.length : Int)
         ·rw [if_pos c64] at H
          have c64b0 : decide (x10_1 < (l3.length : Int)) = true := decide_eq_true c64
          clear c64
          simp only [Option.some.injEq,Prod.mk.injEq] at H
          obtain ⟨rfl,rfl,rfl,rfl,rfl⟩ := H
          obtain ⟨Ao65,co65,eo65⟩ := Kd.R_slice HO_11.out
          subst eo65
          have p936 : 0 ≤ (x10_1 : Int) := zo_
          have q936 : x10_1 < (l3.length : Int) := zo_
          obtain ⟨ad936,e936,hx936_0,hx936_1,hx936_2,hx936_3,hx936_4,hx936_5,hx936_6,hx936_7⟩ := at_T73 HR3.out x10_1 p936 q936
          cases e936
          replace hx936_0 := zx_ HB hx936_0
          replace hx936_1 := zx_ HB hx936_1
          replace hx936_2 := zx_ HB hx936_2
          replace hx936_3 := zx_ HB hx936_3
          replace hx936_4 := zx_ HB hx936_4
          replace hx936_5 := zx_ HB hx936_5
          replace hx936_6 := zx_ HB hx936_6
          replace hx936_7 := zx_ HB hx936_7
          replace p936 := eq_true p936
          replace q936 := eq_true q936
          obtain ⟨hcz66_0,hcz66_1,hcz66_2,hcz66_3,hfz66_0,hfz66_1,hfz66_2,hfz66_3⟩ := zc4 BK932
          go_wp2
          refine bodyPost_ret (results_ct rfl _ _ gb932 63 #[.int .i64 ((rd_T73 l3 x10_1).f3.f0),.int .i64 ((rd_T73 l3 x10_1).f3.f1),.int .i64 ((rd_T73 l3 x10_1).f3.f2),.int .i64 ((rd_T73 l3 x10_1).f3.f3)] (0,0) _ rfl (zq BK932) Tryd.underlying63 rfl (by kernel_rfl)) rfl ?_
          exact ⟨zt_,zl_ HB⟩
         ·rw [if_neg c64] at H
          exact absurd H (by simp)
        ·rw [if_neg c63] at H
         exact absurd H (by simp)
       ·rw [if_neg c62] at H
        have c62b0 : decide ((wrap64 (Int.tdiv (wrap64 (a0 - 1)) 3)) < (x11_2.length : Int)) = false := decide_eq_false c62
        clear c62
        have H' := am_ H
        clear H
        obtain ⟨Ao67,co67,eo67⟩ := Kd.R_slice HO_11.out
        subst eo67
        go_wp2
        go_roundg k2
        case measure => have := HK1.out;have := HK2.out;omega
        case rel => exact ⟨(wrap64 (x10_1 + 1)),(x933000_1),(x933001_1),(x933002_1),(x933003_1),(by first | rfl | (simp;done) | (simp [*];done)),H',⟨by have := HK1.out;have := HK2.out;omega⟩,⟨by (with_reducible repeat (first | apply k1_ | apply k2_ | apply k3_));exact BK932.out⟩,⟨zl_ HB⟩⟩
   ·rw [if_neg c6] at H
    have c6b0 : decide (x10_1 < (l3.length : Int)) = false := decide_eq_false c6
    clear c6
    simp only [Option.some.injEq,Prod.mk.injEq] at H
    obtain ⟨rfl,rfl,rfl,rfl,rfl⟩ := H
    obtain ⟨hcz68_0,hcz68_1,hcz68_2,hcz68_3,hfz68_0,hfz68_1,hfz68_2,hfz68_3⟩ := zc4 BK932
    go_wp2
    refine bodyPost_ret (results_ct rfl _ _ gb932 63 #[.int .i64 0,.int .i64 0,.int .i64 0,.int .i64 0] (0,0) _ rfl (zq BK932) Tryd.underlying63 rfl (by kernel_rfl)) rfl ?_
    exact ⟨zt_,zl_ HB⟩
end Go.Proofs.YtlifdodphkimpaaDoor.B
end

section
namespace Go.Proofs.YtlifdodphkimpaaDoor.B
open Go.RowKit Go.Proofs.YtlifdodphkimpaaDoorW.PrintWords Go.Proofs.YtlifdodphkimpaaDoorW.PrintLast Go.Proofs.YtlifdodphkimpaaDoorW.PrintMore
attribute [local go_sem] max2_int min2_int max_two min_two max_three min_three max_four min_four
set_option maxHeartbeats 8000000 in
set_option maxRecDepth 100000 in
theorem spec_CountReplies.calls (k : Nat) (a0 : Int) (a1 : Int) (a2 : Int) (A3 : Option Addr) (c3 : Nat) (l3 : List (S73)) (r1 : Int) (r2 : Int) (r3 : Int) (r4 : Int) (r5 : Int) (w : World) (hr3 : Kd.C k73 w A3 l3.length l3) (hc3 : l3.length ≤ c3) (h : spec_CountReplies.f k a0 a1 a2 l3 = some (r1,r2,r3,r4,r5)) :
  Calls Tryd.prog 32 #[.int .i64 a0,.int .i64 a1,.int .i64 a2,.slice A3 l3.length c3] w fun e w' => e = .returned (.tuple #[.agg #[.int .i64 r1,.int .i64 r2,.int .i64 r3,.int .i64 r4],.int .i64 r5]) ∧ Below w.heap.size w w' := by
 have hu63 := Tryd.underlying63
 have HR3 := am_ hr3
 have HC3 := am_ hc3
 clear hr3 hc3
 have HB := am_ (Below.refl w.heap.size w)
 have H : (if (l3.length : Int) > 4096 then (some (0,0,0,0,2)) else ((spec_l04Nodes.f a0).bind fun t946 => (if t946 = true then (if (l3.length : Int) > 60 then (some (0,0,0,0,6)) else ((spec_l11Count.f k a0 a1 a2 l3).bind fun bt947 => (if bt947.2.2.2.2 = true then (some (bt947.1,bt947.2.1,bt947.2.2.1,bt947.2.2.2.1,0)) else (some (0,0,0,0,19))))) else (some (0,0,0,0,4))))) = some (r1,r2,r3,r4,r5) := h
 clear h
 by_cases c5 : (l3.length : Int) > 4096
 ·rw [if_pos c5] at H
  have c5b0 : decide (4096 < (l3.length : Int)) = true := decide_eq_true c5
  have c5b1 : decide (4096 < l3.length) = true := decide_eq_true (by omega)
  clear c5
  simp only [Option.some.injEq,Prod.mk.injEq] at H
  obtain ⟨rfl,rfl,rfl,rfl,rfl⟩ := H
  go_enter Tryd.func32,Tryd.ntmps32
  go_wp2_with (first | ((with_reducible refine gate_dst (N := 8) rfl ?_);refine zbx (N := 8) (cs := #[.int .i64 0,.int .i64 0,.int .i64 0,.int .i64 0]) (t := 63) ?_;intro gb945 hg w6 hbox hb;have BK945 := am_ (hbox);have GW945 := zw_ HB hg;have GE945 := zw_ HB hg;replace HB := zs_ HB hb;clear hb hbox hg;obtain ⟨hcz7_0,hcz7_1,hcz7_2,hcz7_3,hfz7_0,hfz7_1,hfz7_2,hfz7_3⟩ := zc4 BK945))
  refine bodyPost_ret (results_ct rfl _ _ gb945 63 #[.int .i64 0,.int .i64 0,.int .i64 0,.int .i64 0] (0,0) _ rfl (zq BK945) Tryd.underlying63 rfl (by kernel_rfl)) rfl ?_
  exact ⟨zt_,zl_ HB⟩
 ·rw [if_neg c5] at H
  have c5b0 : decide (4096 < (l3.length : Int)) = false := decide_eq_false c5
  have c5b1 : decide (4096 < l3.length) = false := decide_eq_false (by omega)
  clear c5
  replace H := Option.bind_eq_some_iff.mp H
  obtain ⟨t946,A80,H⟩ := H
  try dsimp only at H
  have A8 := am_ A80
  clear A80
  by_cases c9 : t946 = true
  ·subst c9
   have H1 : (if (l3.length : Int) > 60 then (some (0,0,0,0,6)) else ((spec_l11Count.f k a0 a1 a2 l3).bind fun bt947 => (if bt947.2.2.2.2 = true then (some (bt947.1,bt947.2.1,bt947.2.2.1,bt947.2.2.2.1,0)) else (some (0,0,0,0,19))))) = some (r1,r2,r3,r4,r5) := by rw [if_pos rfl] at H;exact H
   clear H
   have H := H1
   clear H1
   by_cases c10 : (l3.length : Int) > 60
   ·rw [if_pos c10] at H
    have c10b0 : decide (60 < (l3.length : Int)) = true := decide_eq_true c10
    have c10b1 : decide (60 < l3.length) = true := decide_eq_true (by omega)
    clear c10
    simp only [Option.some.injEq,Prod.mk.injEq] at H
    obtain ⟨rfl,rfl,rfl,rfl,rfl⟩ := H
    go_enter Tryd.func32,Tryd.ntmps32
    go_wp2_with (first | ((with_reducible refine gate_dst (N := 8) rfl ?_);refine zbx (N := 8) (cs := #[.int .i64 0,.int .i64 0,.int .i64 0,.int .i64 0]) (t := 63) ?_;intro gb945 hg w11 hbox hb;have BK945 := am_ (hbox);have GW945 := zw_ HB hg;have GE945 := zw_ HB hg;replace HB := zs_ HB hb;clear hb hbox hg) | ((with_reducible refine gate_callee (f := 52) rfl ?_);refine zgl (some 17) Tryd.func52 #[.int .i64 a0] ?_;(with_reducible refine (spec_l04Nodes.calls a0 true _ A8.out).mono ?_);rintro e w' ⟨rfl,⟨nd,rfl⟩⟩;refine ⟨_,rfl,?_⟩;(try (rw [drewN_self w11];generalize hq_ : World.drewN w11 _ = w11;have n0_ : Aside0 (w11.heap[gb945]? = some (.cells #[.int .i64 0,.int .i64 0,.int .i64 0,.int .i64 0] 63 (0,0))) := ⟨by rw [← hq_];exact (zk BK945)⟩;have n1_ : Aside0 (Below w.heap.size w w11) := ⟨by rw [← hq_];exact (zl_ HB)⟩;clear BK945 HB hq_;have BK945 := n0_;have HB := n1_;clear n0_ n1_));(try have hfu945_0 := blk_frozen BK945.out 0);(try have hcu945_0 : w11.cell? ⟨gb945,0,none⟩ = some (.int .i64 0) := (blk_cell BK945.out 0).trans rfl);(try have hfu945_1 := blk_frozen BK945.out 1);(try have hcu945_1 : w11.cell? ⟨gb945,1,none⟩ = some (.int .i64 0) := (blk_cell BK945.out 1).trans rfl);(try have hfu945_2 := blk_frozen BK945.out 2);(try have hcu945_2 : w11.cell? ⟨gb945,2,none⟩ = some (.int .i64 0) := (blk_cell BK945.out 2).trans rfl);(try have hfu945_3 := blk_frozen BK945.out 3);(try have hcu945_3 : w11.cell? ⟨gb945,3,none⟩ = some (.int .i64 0) := (blk_cell BK945.out 3).trans rfl);obtain ⟨hcz12_0,hcz12_1,hcz12_2,hcz12_3,hfz12_0,hfz12_1,hfz12_2,hfz12_3⟩ := zc4 BK945))
    refine bodyPost_ret (results_ct rfl _ _ gb945 63 #[.int .i64 0,.int .i64 0,.int .i64 0,.int .i64 0] (0,0) _ rfl (zq BK945) Tryd.underlying63 rfl (by kernel_rfl)) rfl ?_
    exact ⟨zt_,zl_ HB⟩
   ·rw [if_neg c10] at H
    have c10b0 : decide (60 < (l3.length : Int)) = false := decide_eq_false c10
    have c10b1 : decide (60 < l3.length) = false := decide_eq_false (by omega)
    clear c10
    replace H := Option.bind_eq_some_iff.mp H
    obtain ⟨⟨t947,t948,t949,t950,t951⟩,A130,H⟩ := H
    try dsimp only at H
    have A13 := am_ A130
    clear A130
    by_cases c14 : t951 = true
    ·subst c14
     have H1 : (some (t947,t948,t949,t950,0)) = some (r1,r2,r3,r4,r5) := by rw [if_pos rfl] at H;exact H
     clear H
     have H := H1
     clear H1
     simp only [Option.some.injEq,Prod.mk.injEq] at H
     obtain ⟨rfl,rfl,rfl,rfl,rfl⟩ := H
     go_enter Tryd.func32,Tryd.ntmps32
     go_wp2_with (first | ((with_reducible refine gate_dst (N := 8) rfl ?_);refine zbx (N := 8) (cs := #[.int .i64 0,.int .i64 0,.int .i64 0,.int .i64 0]) (t := 63) ?_;intro gb945 hg w15 hbox hb;have BK945 := am_ (hbox);have GW945 := zw_ HB hg;have GE945 := zw_ HB hg;replace HB := zs_ HB hb;clear hb hbox hg) | ((with_reducible refine gate_callee (f := 52) rfl ?_);refine zgl (some 17) Tryd.func52 #[.int .i64 a0] ?_;(with_reducible refine (spec_l04Nodes.calls a0 true _ A8.out).mono ?_);rintro e w' ⟨rfl,⟨nd,rfl⟩⟩;refine ⟨_,rfl,?_⟩;(try (rw [drewN_self w15];generalize hq_ : World.drewN w15 _ = w15;have n0_ : Aside0 (w15.heap[gb945]? = some (.cells #[.int .i64 0,.int .i64 0,.int .i64 0,.int .i64 0] 63 (0,0))) := ⟨by rw [← hq_];exact (zk BK945)⟩;have n1_ : Aside0 (Below w.heap.size w w15) := ⟨by rw [← hq_];exact (zl_ HB)⟩;clear BK945 HB hq_;have BK945 := n0_;have HB := n1_;clear n0_ n1_));(try have hfu945_0 := blk_frozen BK945.out 0);(try have hcu945_0 : w15.cell? ⟨gb945,0,none⟩ = some (.int .i64 0) := (blk_cell BK945.out 0).trans rfl);(try have hfu945_1 := blk_frozen BK945.out 1);(try have hcu945_1 : w15.cell? ⟨gb945,1,none⟩ = some (.int .i64 0) := (blk_cell BK945.out 1).trans rfl);(try have hfu945_2 := blk_frozen BK945.out 2);(try have hcu945_2 : w15.cell? ⟨gb945,2,none⟩ = some (.int .i64 0) := (blk_cell BK945.out 2).trans rfl);(try have hfu945_3 := blk_frozen BK945.out 3);(try have hcu945_3 : w15.cell? ⟨gb945,3,none⟩ = some (.int .i64 0) := (blk_cell BK945.out 3).trans rfl)) | ((with_reducible refine gate_callee (f := 83) rfl ?_);refine zgl (some 29) Tryd.func83 #[.int .i64 a0,.int .i64 a1,.int .i64 a2,.slice A3 l3.length c3] ?_;(with_reducible refine (spec_l11Count.calls k a0 a1 a2 _ _ l3 t947 t948 t949 t950 true _ ?side1 ?side2 A13.out).mono ?_);(case side1 => exact zc_ HR3 HB);(case side2 => exact HC3.out);rintro e w16 ⟨rfl,hb⟩;refine ⟨_,rfl,?_⟩;replace BK945 := zb BK945 hb;replace HB := zs_ HB hb;(try clear hb);(try clear hb2);(try clear hk);(try clear hi)) | ((with_reducible refine gate_dst (N := 10) rfl ?_);refine zbx (N := 10) (cs := #[.int .i64 0,.int .i64 0,.int .i64 0,.int .i64 0]) (t := 63) ?_;intro gb952 hg w17 hbox hb;have BK952 := am_ (hbox);have GW952 := zw_ HB hg;have GE952 := zw_ HB hg;replace HB := zs_ HB hb;have NB945_952 := zl hg BK945;have NB952_945 := zg hg BK945;replace BK945 := zb BK945 hb;clear hb hbox hg;have hnb18 := NB952_945.out;have hnc18 := NB945_952.out;obtain ⟨hcz19_0,hcz19_1,hcz19_2,hcz19_3,hfz19_0,hfz19_1,hfz19_2,hfz19_3⟩ := zc4 BK952;obtain ⟨hcz20_0,hcz20_1,hcz20_2,hcz20_3,hfz20_0,hfz20_1,hfz20_2,hfz20_3⟩ := zc4 BK945))
     refine bodyPost_ret (results_ct rfl _ _ gb945 63 #[.int .i64 t947,.int .i64 t948,.int .i64 t949,.int .i64 t950] (0,0) _ rfl (zq BK945) Tryd.underlying63 rfl (by kernel_rfl)) rfl ?_
     exact ⟨zt_,zl_ HB⟩
    ·replace c14 := Bool.eq_false_iff.mpr c14
     subst c14
     have H1 : (some (0,0,0,0,19)) = some (r1,r2,r3,r4,r5) := by rw [if_neg (show ¬ (false = true) by decide)] at H;exact H
     clear H
     have H := H1
     clear H1
     simp only [Option.some.injEq,Prod.mk.injEq] at H
     obtain ⟨rfl,rfl,rfl,rfl,rfl⟩ := H
     go_enter Tryd.func32,Tryd.ntmps32
     go_wp2_with (first | ((with_reducible refine gate_dst (N := 8) rfl ?_);refine zbx (N := 8) (cs := #[.int .i64 0,.int .i64 0,.int .i64 0,.int .i64 0]) (t := 63) ?_;intro gb945 hg w21 hbox hb;have BK945 := am_ (hbox);have GW945 := zw_ HB hg;have GE945 := zw_ HB hg;replace HB := zs_ HB hb;clear hb hbox hg) | ((with_reducible refine gate_callee (f := 52) rfl ?_);refine zgl (some 17) Tryd.func52 #[.int .i64 a0] ?_;(with_reducible refine (spec_l04Nodes.calls a0 true _ A8.out).mono ?_);rintro e w' ⟨rfl,⟨nd,rfl⟩⟩;refine ⟨_,rfl,?_⟩;(try (rw [drewN_self w21];generalize hq_ : World.drewN w21 _ = w21;have n0_ : Aside0 (w21.heap[gb945]? = some (.cells #[.int .i64 0,.int .i64 0,.int .i64 0,.int .i64 0] 63 (0,0))) := ⟨by rw [← hq_];exact (zk BK945)⟩;have n1_ : Aside0 (Below w.heap.size w w21) := ⟨by rw [← hq_];exact (zl_ HB)⟩;clear BK945 HB hq_;have BK945 := n0_;have HB := n1_;clear n0_ n1_));(try have hfu945_0 := blk_frozen BK945.out 0);(try have hcu945_0 : w21.cell? ⟨gb945,0,none⟩ = some (.int .i64 0) := (blk_cell BK945.out 0).trans rfl);(try have hfu945_1 := blk_frozen BK945.out 1);(try have hcu945_1 : w21.cell? ⟨gb945,1,none⟩ = some (.int .i64 0) := (blk_cell BK945.out 1).trans rfl);(try have hfu945_2 := blk_frozen BK945.out 2);(try have hcu945_2 : w21.cell? ⟨gb945,2,none⟩ = some (.int .i64 0) := (blk_cell BK945.out 2).trans rfl);(try have hfu945_3 := blk_frozen BK945.out 3);(try have hcu945_3 : w21.cell? ⟨gb945,3,none⟩ = some (.int .i64 0) := (blk_cell BK945.out 3).trans rfl)) | ((with_reducible refine gate_callee (f := 83) rfl ?_);refine zgl (some 29) Tryd.func83 #[.int .i64 a0,.int .i64 a1,.int .i64 a2,.slice A3 l3.length c3] ?_;(with_reducible refine (spec_l11Count.calls k a0 a1 a2 _ _ l3 t947 t948 t949 t950 false _ ?side1 ?side2 A13.out).mono ?_);(case side1 => exact zc_ HR3 HB);(case side2 => exact HC3.out);rintro e w22 ⟨rfl,hb⟩;refine ⟨_,rfl,?_⟩;replace BK945 := zb BK945 hb;replace HB := zs_ HB hb;(try clear hb);(try clear hb2);(try clear hk);(try clear hi)) | ((with_reducible refine gate_dst (N := 10) rfl ?_);refine zbx (N := 10) (cs := #[.int .i64 0,.int .i64 0,.int .i64 0,.int .i64 0]) (t := 63) ?_;intro gb952 hg w23 hbox hb;have BK952 := am_ (hbox);have GW952 := zw_ HB hg;have GE952 := zw_ HB hg;replace HB := zs_ HB hb;have NB945_952 := zl hg BK945;have NB952_945 := zg hg BK945;replace BK945 := zb BK945 hb;clear hb hbox hg;have hnb24 := NB952_945.out;have hnc24 := NB945_952.out;obtain ⟨hcz25_0,hcz25_1,hcz25_2,hcz25_3,hfz25_0,hfz25_1,hfz25_2,hfz25_3⟩ := zc4 BK952;obtain ⟨hcz26_0,hcz26_1,hcz26_2,hcz26_3,hfz26_0,hfz26_1,hfz26_2,hfz26_3⟩ := zc4 BK945))
     refine bodyPost_ret (results_ct rfl _ _ gb945 63 #[.int .i64 0,.int .i64 0,.int .i64 0,.int .i64 0] (0,0) _ rfl (zq BK945) Tryd.underlying63 rfl (by kernel_rfl)) rfl ?_
     exact ⟨zt_,zl_ HB⟩
  ·replace c9 := Bool.eq_false_iff.mpr c9
   subst c9
   have H1 : (some (0,0,0,0,4)) = some (r1,r2,r3,r4,r5) := by rw [if_neg (show ¬ (false = true) by decide)] at H;exact H
   clear H
   have H := H1
   clear H1
   simp only [Option.some.injEq,Prod.mk.injEq] at H
   obtain ⟨rfl,rfl,rfl,rfl,rfl⟩ := H
   go_enter Tryd.func32,Tryd.ntmps32
   go_wp2_with (first | ((with_reducible refine gate_dst (N := 8) rfl ?_);refine zbx (N := 8) (cs := #[.int .i64 0,.int .i64 0,.int .i64 0,.int .i64 0]) (t := 63) ?_;intro gb945 hg w27 hbox hb;have BK945 := am_ (hbox);have GW945 := zw_ HB hg;have GE945 := zw_ HB hg;replace HB := zs_ HB hb;clear hb hbox hg) | ((with_reducible refine gate_callee (f := 52) rfl ?_);refine zgl (some 17) Tryd.func52 #[.int .i64 a0] ?_;(with_reducible refine (spec_l04Nodes.calls a0 false _ A8.out).mono ?_);rintro e w' ⟨rfl,⟨nd,rfl⟩⟩;refine ⟨_,rfl,?_⟩;(try (rw [drewN_self w27];generalize hq_ : World.drewN w27 _ = w27;have n0_ : Aside0 (w27.heap[gb945]? = some (.cells #[.int .i64 0,.int .i64 0,.int .i64 0,.int .i64 0] 63 (0,0))) := ⟨by rw [← hq_];exact (zk BK945)⟩;have n1_ : Aside0 (Below w.heap.size w w27) := ⟨by rw [← hq_];exact (zl_ HB)⟩;clear BK945 HB hq_;have BK945 := n0_;have HB := n1_;clear n0_ n1_));(try have hfu945_0 := blk_frozen BK945.out 0);(try have hcu945_0 : w27.cell? ⟨gb945,0,none⟩ = some (.int .i64 0) := (blk_cell BK945.out 0).trans rfl);(try have hfu945_1 := blk_frozen BK945.out 1);(try have hcu945_1 : w27.cell? ⟨gb945,1,none⟩ = some (.int .i64 0) := (blk_cell BK945.out 1).trans rfl);(try have hfu945_2 := blk_frozen BK945.out 2);(try have hcu945_2 : w27.cell? ⟨gb945,2,none⟩ = some (.int .i64 0) := (blk_cell BK945.out 2).trans rfl);(try have hfu945_3 := blk_frozen BK945.out 3);(try have hcu945_3 : w27.cell? ⟨gb945,3,none⟩ = some (.int .i64 0) := (blk_cell BK945.out 3).trans rfl);obtain ⟨hcz28_0,hcz28_1,hcz28_2,hcz28_3,hfz28_0,hfz28_1,hfz28_2,hfz28_3⟩ := zc4 BK945))
   refine bodyPost_ret (results_ct rfl _ _ gb945 63 #[.int .i64 0,.int .i64 0,.int .i64 0,.int .i64 0] (0,0) _ rfl (zq BK945) Tryd.underlying63 rfl (by kernel_rfl)) rfl ?_
   exact ⟨zt_,zl_ HB⟩
set_option maxHeartbeats 8000000 in
set_option maxRecDepth 100000 in
theorem spec_l11Make.calls (k : Nat) (a0 : Int) (a1 : Int) (a2 : Int) (a3_0 : Int) (a3_1 : Int) (a3_2 : Int) (a3_3 : Int) (r1 : Int) (r2 : Int) (r3 : Int) (r4 : Int) (r5 : Int) (r6 : Int) (r7 : Int) (r8 : ByteArray) (w : World) (h : spec_l11Make.f k a0 a1 a2 a3_0 a3_1 a3_2 a3_3 = some (r1,r2,r3,r4,r5,r6,r7,r8)) :
  Calls Tryd.prog 92 #[.int .i64 a0,.int .i64 a1,.int .i64 a2,.agg #[.int .i64 a3_0,.int .i64 a3_1,.int .i64 a3_2,.int .i64 a3_3]] w fun e w' => e = .returned (.agg #[.int .i64 r1,.int .i64 r2,.int .i64 r3,.int .i64 r4,.int .i64 r5,.int .i64 r6,.int .i64 r7,.string r8]) ∧ Below w.heap.size w w' := by
 have hu63 := Tryd.underlying63
 have hu73 := Tryd.underlying73
 have HB := am_ (Below.refl w.heap.size w)
 have H : ((spec_l11Mac.f k a0 a1 a2 a3_0 a3_1 a3_2 a3_3 (⟨#[]⟩ : ByteArray)).bind fun t1090 => (some (a0,a1,a2,a3_0,a3_1,a3_2,a3_3,t1090))) = some (r1,r2,r3,r4,r5,r6,r7,r8) := h
 clear h
 replace H := Option.bind_eq_some_iff.mp H
 obtain ⟨t1090,A50,H⟩ := H
 try dsimp only at H
 have A5 := am_ A50
 clear A50
 simp only [Option.some.injEq,Prod.mk.injEq] at H
 obtain ⟨rfl,rfl,rfl,rfl,rfl,rfl,rfl,rfl⟩ := H
 go_enter Tryd.func92,Tryd.ntmps92
 go_wp2_with (first | ((with_reducible refine gate_dst (N := 7) rfl ?_);refine zbx (N := 7) (cs := #[.int .i64 a3_0,.int .i64 a3_1,.int .i64 a3_2,.int .i64 a3_3]) (t := 63) ?_;intro gb1087 hg w6 hbox hb;have BK1087 := am_ (hbox);have GW1087 := zw_ HB hg;have GE1087 := zw_ HB hg;replace HB := zs_ HB hb;clear hb hbox hg) | ((with_reducible refine gate_dst (N := 8) rfl ?_);refine zbx (N := 8) (cs := #[.int .i64 0,.int .i64 0,.int .i64 0,.int .i64 0,.int .i64 0,.int .i64 0,.int .i64 0,.string ⟨#[]⟩]) (t := 73) ?_;intro gb1088 hg w7 hbox hb;have BK1088 := am_ (hbox);have GW1088 := zw_ HB hg;have GE1088 := zw_ HB hg;replace HB := zs_ HB hb;have NB1087_1088 := zl hg BK1087;have NB1088_1087 := zg hg BK1087;replace BK1087 := zb BK1087 hb;clear hb hbox hg;have hnb8 := NB1087_1088.out;have hnc8 := NB1088_1087.out;obtain ⟨hcz9_0,hcz9_1,hcz9_2,hcz9_3,hfz9_0,hfz9_1,hfz9_2,hfz9_3⟩ := zc4 BK1087) | ((with_reducible refine gate_dst (N := 9) rfl ?_);refine zbx (N := 9) (cs := #[.int .i64 0,.int .i64 0,.int .i64 0,.int .i64 0,.int .i64 0,.int .i64 0,.int .i64 0,.string ⟨#[]⟩]) (t := 73) ?_;intro gb1089 hg w10 hbox hb;have BK1089 := am_ (hbox);have GW1089 := zw_ HB hg;have GE1089 := zw_ HB hg;replace HB := zs_ HB hb;have NB1087_1089 := zl hg BK1087;have NB1089_1087 := zg hg BK1087;have NB1088_1089 := zl hg BK1088;have NB1089_1088 := zg hg BK1088;replace BK1088 := zb BK1088 hb;clear hb hbox hg;have hnb11 := NB1089_1087.out;have hnc11 := NB1087_1089.out;have hnb12 := NB1089_1088.out;have hnc12 := NB1088_1089.out;obtain ⟨hcz13_0,hcz13_1,hcz13_2,hcz13_3,hcz13_4,hcz13_5,hcz13_6,hcz13_7,hfz13_0,hfz13_1,hfz13_2,hfz13_3,hfz13_4,hfz13_5,hfz13_6,hfz13_7⟩ := zc8 BK1089) | ((with_reducible refine gate_callee (f := 143) rfl ?_);refine zgl (some 16) Tryd.func143 #[.agg #[.int .i64 a0,.int .i64 a1,.int .i64 a2,.int .i64 a3_0,.int .i64 a3_1,.int .i64 a3_2,.int .i64 a3_3,.string ⟨#[]⟩]] ?_;(with_reducible refine (spec_l11Mac.calls k a0 a1 a2 a3_0 a3_1 a3_2 a3_3 (⟨#[]⟩ : ByteArray) t1090 _ A5.out).mono ?_);rintro e w14 ⟨rfl,hb⟩;refine ⟨_,rfl,?_⟩;replace BK1088 := am_ (blk_below (g := gb1088) (o := .cells #[.int .i64 0,.int .i64 0,.int .i64 0,.int .i64 0,.int .i64 0,.int .i64 0,.int .i64 0,.string ⟨#[]⟩] 73 (0,0)) (zq BK1088) hb);replace BK1089 := am_ (blk_below (g := gb1089) (o := .cells #[.int .i64 a0,.int .i64 a1,.int .i64 a2,.int .i64 a3_0,.int .i64 a3_1,.int .i64 a3_2,.int .i64 a3_3,.string ⟨#[]⟩] 73 (0,0)) (zq BK1089) hb);replace HB := zs_ HB hb;(try clear hb);(try clear hb2);(try clear hk);(try clear hi);obtain ⟨hcz15_0,hcz15_1,hcz15_2,hcz15_3,hcz15_4,hcz15_5,hcz15_6,hcz15_7,hfz15_0,hfz15_1,hfz15_2,hfz15_3,hfz15_4,hfz15_5,hfz15_6,hfz15_7⟩ := zc8 BK1089;obtain ⟨hcz16_0,hcz16_1,hcz16_2,hcz16_3,hcz16_4,hcz16_5,hcz16_6,hcz16_7,hfz16_0,hfz16_1,hfz16_2,hfz16_3,hfz16_4,hfz16_5,hfz16_6,hfz16_7⟩ := zc8 BK1088))
 refine bodyPost_ret (results_cell_row rfl _ _ gb1088 73 #[.int .i64 a0,.int .i64 a1,.int .i64 a2,.int .i64 a3_0,.int .i64 a3_1,.int .i64 a3_2,.int .i64 a3_3,.string t1090] (0,0) _ rfl (zq BK1088) Tryd.underlying73 rfl (by kernel_rfl)) rfl ?_
 exact ⟨zt_,zl_ HB⟩
set_option maxHeartbeats 8000000 in
set_option maxRecDepth 100000 in
theorem spec_MakeReply.calls (k : Nat) (a0 : Int) (a1 : Int) (a2 : Int) (a3_0 : Int) (a3_1 : Int) (a3_2 : Int) (a3_3 : Int) (r1 : Int) (r2 : Int) (r3 : Int) (r4 : Int) (r5 : Int) (r6 : Int) (r7 : Int) (r8 : ByteArray) (r9 : Int) (w : World) (h : spec_MakeReply.f k a0 a1 a2 a3_0 a3_1 a3_2 a3_3 = some (r1,r2,r3,r4,r5,r6,r7,r8,r9)) :
  Calls Tryd.prog 39 #[.int .i64 a0,.int .i64 a1,.int .i64 a2,.agg #[.int .i64 a3_0,.int .i64 a3_1,.int .i64 a3_2,.int .i64 a3_3]] w fun e w' => e = .returned (.tuple #[.agg #[.int .i64 r1,.int .i64 r2,.int .i64 r3,.int .i64 r4,.int .i64 r5,.int .i64 r6,.int .i64 r7,.string r8],.int .i64 r9]) ∧ Below w.heap.size w w' := by
 have hu63 := Tryd.underlying63
 have hu73 := Tryd.underlying73
 have HB := am_ (Below.refl w.heap.size w)
 have H : ((spec_l11Form.f a0 a1 a2 a3_0 a3_1 a3_2 a3_3 (⟨#[]⟩ : ByteArray)).bind fun t1093 => (if t1093 = true then ((spec_l11Make.f k a0 a1 a2 a3_0 a3_1 a3_2 a3_3).bind fun bt1094 => (some (bt1094.1,bt1094.2.1,bt1094.2.2.1,bt1094.2.2.2.1,bt1094.2.2.2.2.1,bt1094.2.2.2.2.2.1,bt1094.2.2.2.2.2.2.1,bt1094.2.2.2.2.2.2.2,0))) else (some (0,0,0,0,0,0,0,(⟨#[]⟩ : ByteArray),1)))) = some (r1,r2,r3,r4,r5,r6,r7,r8,r9) := h
 clear h
 replace H := Option.bind_eq_some_iff.mp H
 obtain ⟨t1093,A50,H⟩ := H
 try dsimp only at H
 have A5 := am_ A50
 clear A50
 by_cases c6 : t1093 = true
 ·subst c6
  have H1 : ((spec_l11Make.f k a0 a1 a2 a3_0 a3_1 a3_2 a3_3).bind fun bt1094 => (some (bt1094.1,bt1094.2.1,bt1094.2.2.1,bt1094.2.2.2.1,bt1094.2.2.2.2.1,bt1094.2.2.2.2.2.1,bt1094.2.2.2.2.2.2.1,bt1094.2.2.2.2.2.2.2,0))) = some (r1,r2,r3,r4,r5,r6,r7,r8,r9) := by rw [if_pos rfl] at H;exact H
  clear H
  have H := H1
  clear H1
  replace H := Option.bind_eq_some_iff.mp H
  obtain ⟨⟨t1094,t1095,t1096,t1097,t1098,t1099,t1100,t1101⟩,A70,H⟩ := H
  try dsimp only at H
  have A7 := am_ A70
  clear A70
  simp only [Option.some.injEq,Prod.mk.injEq] at H
  obtain ⟨rfl,rfl,rfl,rfl,rfl,rfl,rfl,rfl,rfl⟩ := H
  go_enter Tryd.func39,Tryd.ntmps39
  go_wp2_with (first | ((with_reducible refine gate_dst (N := 7) rfl ?_);refine zbx (N := 7) (cs := #[.int .i64 a3_0,.int .i64 a3_1,.int .i64 a3_2,.int .i64 a3_3]) (t := 63) ?_;intro gb1091 hg w8 hbox hb;have BK1091 := am_ (hbox);have GW1091 := zw_ HB hg;have GE1091 := zw_ HB hg;replace HB := zs_ HB hb;clear hb hbox hg) | ((with_reducible refine gate_dst (N := 8) rfl ?_);refine zbx (N := 8) (cs := #[.int .i64 0,.int .i64 0,.int .i64 0,.int .i64 0,.int .i64 0,.int .i64 0,.int .i64 0,.string ⟨#[]⟩]) (t := 73) ?_;intro gb1092 hg w9 hbox hb;have BK1092 := am_ (hbox);have GW1092 := zw_ HB hg;have GE1092 := zw_ HB hg;replace HB := zs_ HB hb;have NB1091_1092 := zl hg BK1091;have NB1092_1091 := zg hg BK1091;replace BK1091 := zb BK1091 hb;clear hb hbox hg;have hnb10 := NB1091_1092.out;have hnc10 := NB1092_1091.out;obtain ⟨hcz11_0,hcz11_1,hcz11_2,hcz11_3,hfz11_0,hfz11_1,hfz11_2,hfz11_3⟩ := zc4 BK1091) | ((with_reducible refine gate_callee (f := 91) rfl ?_);refine zgl (some 15) Tryd.func91 #[.agg #[.int .i64 a0,.int .i64 a1,.int .i64 a2,.int .i64 a3_0,.int .i64 a3_1,.int .i64 a3_2,.int .i64 a3_3,.string ⟨#[]⟩]] ?_;(with_reducible refine (spec_l11Form.calls a0 a1 a2 a3_0 a3_1 a3_2 a3_3 (⟨#[]⟩ : ByteArray) true _ A5.out).mono ?_);rintro e w12 ⟨rfl,hb⟩;refine ⟨_,rfl,?_⟩;replace BK1091 := zb BK1091 hb;replace BK1092 := zb BK1092 hb;replace HB := zs_ HB hb;(try clear hb);(try clear hb2);(try clear hk);(try clear hi);obtain ⟨hcz13_0,hcz13_1,hcz13_2,hcz13_3,hfz13_0,hfz13_1,hfz13_2,hfz13_3⟩ := zc4 BK1091) | ((with_reducible refine gate_callee (f := 92) rfl ?_);refine zgl (some 22) Tryd.func92 #[.int .i64 a0,.int .i64 a1,.int .i64 a2,.agg #[.int .i64 a3_0,.int .i64 a3_1,.int .i64 a3_2,.int .i64 a3_3]] ?_;(with_reducible refine (spec_l11Make.calls k a0 a1 a2 a3_0 a3_1 a3_2 a3_3 t1094 t1095 t1096 t1097 t1098 t1099 t1100 t1101 _ A7.out).mono ?_);rintro e w14 ⟨rfl,hb⟩;refine ⟨_,rfl,?_⟩;replace BK1091 := zb BK1091 hb;replace BK1092 := zb BK1092 hb;replace HB := zs_ HB hb;(try clear hb);(try clear hb2);(try clear hk);(try clear hi);obtain ⟨hcz15_0,hcz15_1,hcz15_2,hcz15_3,hcz15_4,hcz15_5,hcz15_6,hcz15_7,hfz15_0,hfz15_1,hfz15_2,hfz15_3,hfz15_4,hfz15_5,hfz15_6,hfz15_7⟩ := zc8 BK1092))
  refine bodyPost_ret (results_ct rfl _ _ gb1092 73 #[.int .i64 t1094,.int .i64 t1095,.int .i64 t1096,.int .i64 t1097,.int .i64 t1098,.int .i64 t1099,.int .i64 t1100,.string t1101] (0,0) _ rfl (zq BK1092) Tryd.underlying73 rfl (by kernel_rfl)) rfl ?_
  exact ⟨zt_,zl_ HB⟩
 ·replace c6 := Bool.eq_false_iff.mpr c6
  subst c6
  have H1 : (some (0,0,0,0,0,0,0,(⟨#[]⟩ : ByteArray),1)) = some (r1,r2,r3,r4,r5,r6,r7,r8,r9) := by rw [if_neg (show ¬ (false = true) by decide)] at H;exact H
  clear H
  have H := H1
  clear H1
  simp only [Option.some.injEq,Prod.mk.injEq] at H
  obtain ⟨rfl,rfl,rfl,rfl,rfl,rfl,rfl,rfl,rfl⟩ := H
  go_enter Tryd.func39,Tryd.ntmps39
  go_wp2_with (first | ((with_reducible refine gate_dst (N := 7) rfl ?_);refine zbx (N := 7) (cs := #[.int .i64 a3_0,.int .i64 a3_1,.int .i64 a3_2,.int .i64 a3_3]) (t := 63) ?_;intro gb1091 hg w16 hbox hb;have BK1091 := am_ (hbox);have GW1091 := zw_ HB hg;have GE1091 := zw_ HB hg;replace HB := zs_ HB hb;clear hb hbox hg) | ((with_reducible refine gate_dst (N := 8) rfl ?_);refine zbx (N := 8) (cs := #[.int .i64 0,.int .i64 0,.int .i64 0,.int .i64 0,.int .i64 0,.int .i64 0,.int .i64 0,.string ⟨#[]⟩]) (t := 73) ?_;intro gb1092 hg w17 hbox hb;have BK1092 := am_ (hbox);have GW1092 := zw_ HB hg;have GE1092 := zw_ HB hg;replace HB := zs_ HB hb;have NB1091_1092 := zl hg BK1091;have NB1092_1091 := zg hg BK1091;replace BK1091 := zb BK1091 hb;clear hb hbox hg;have hnb18 := NB1091_1092.out;have hnc18 := NB1092_1091.out;obtain ⟨hcz19_0,hcz19_1,hcz19_2,hcz19_3,hfz19_0,hfz19_1,hfz19_2,hfz19_3⟩ := zc4 BK1091) | ((with_reducible refine gate_callee (f := 91) rfl ?_);refine zgl (some 15) Tryd.func91 #[.agg #[.int .i64 a0,.int .i64 a1,.int .i64 a2,.int .i64 a3_0,.int .i64 a3_1,.int .i64 a3_2,.int .i64 a3_3,.string ⟨#[]⟩]] ?_;(with_reducible refine (spec_l11Form.calls a0 a1 a2 a3_0 a3_1 a3_2 a3_3 (⟨#[]⟩ : ByteArray) false _ A5.out).mono ?_);rintro e w20 ⟨rfl,hb⟩;refine ⟨_,rfl,?_⟩;replace BK1092 := zb BK1092 hb;replace HB := zs_ HB hb;(try clear hb);(try clear hb2);(try clear hk);(try clear hi);obtain ⟨hcz21_0,hcz21_1,hcz21_2,hcz21_3,hcz21_4,hcz21_5,hcz21_6,hcz21_7,hfz21_0,hfz21_1,hfz21_2,hfz21_3,hfz21_4,hfz21_5,hfz21_6,hfz21_7⟩ := zc8 BK1092))
  refine bodyPost_ret (results_ct rfl _ _ gb1092 73 #[.int .i64 0,.int .i64 0,.int .i64 0,.int .i64 0,.int .i64 0,.int .i64 0,.int .i64 0,.string ⟨#[]⟩] (0,0) _ rfl (zq BK1092) Tryd.underlying73 rfl (by kernel_rfl)) rfl ?_
  exact ⟨zt_,zl_ HB⟩
end Go.Proofs.YtlifdodphkimpaaDoor.B
end

section
namespace Go.Proofs.YtlifdodphkimpaaDoor.B
open Go.RowKit Go.Proofs.YtlifdodphkimpaaDoorW.PrintWords Go.Proofs.YtlifdodphkimpaaDoorW.PrintLast Go.Proofs.YtlifdodphkimpaaDoorW.PrintMore
attribute [local go_sem] max2_int min2_int max_two min_two max_three min_three max_four min_four
attribute [local go_sem high] eqA63 eqA73
set_option maxHeartbeats 8000000 in
set_option maxRecDepth 100000 in
theorem laws_FnReplies.calls (k : Nat) (A0 : Option Addr) (c0 : Nat) (l0 : List Int) (A1 : Option Addr) (c1 : Nat) (l1 : List Int) (r : Bool) (w : World) (hr0 : Kd.C (Kd.int .u8) w A0 l0.length l0) (hc0 : l0.length ≤ c0) (hr1 : Kd.C (Kd.int .u8) w A1 l1.length l1) (hc1 : l1.length ≤ c1) (hL : Laid w) (h : laws_FnReplies.f k l0 l1 = some r) :
  Calls Tryd.prog 7 #[.slice A0 l0.length c0,.slice A1 l1.length c1] w fun e w' => e = .returned (.bool r) ∧ Below w.heap.size w w' := by
 have hu63 := Tryd.underlying63
 have hu73 := Tryd.underlying73
 have HR0 := am_ hr0
 have HC0 := am_ hc0
 clear hr0 hc0
 have HR1 := am_ hr1
 have HC1 := am_ hc1
 clear hr1 hc1
 have HLD := am_ hL
 clear hL
 have HB := am_ (Below.refl w.heap.size w)
 have H : (if (l0.length : Int) > 1048576 then (laws_FnReplies.j0 k l0 l1 true) else (laws_FnReplies.j0 k l0 l1 (decide ((l1.length : Int) > 1048576)))) = some r := h
 clear h
 have HC3 := am_ H
 clear H
 go_enter Tryd.func7,Tryd.ntmps7
 go_upto_region 1 with (fail)
 go_cut [32] (fun v32 wc => ∃ (kq : Nat) (x32_2 : Bool),v32 = .bool x32_2 ∧ Aside0 (laws_FnReplies.j0 kq l0 l1 x32_2 = some r) ∧ Aside0 (kq ≤ k) ∧ Aside0 (Below w.heap.size w wc))
 case first =>
  have H := HC3.out
  clear HC3
  by_cases c4 : (l0.length : Int) > 1048576
  ·rw [if_pos c4] at H
   have c4b0 : decide (1048576 < (l0.length : Int)) = true := decide_eq_true c4
   have c4b1 : decide (1048576 < l0.length) = true := decide_eq_true (by omega)
   clear c4
   (first | rw [c4b0] | (simp only [i64_w,i32_w];rw [c4b0]) | skip)
   have H' := am_ H
   clear H
   go_wp2
   go_meet
   case rel => exact ⟨_,(true),(by first | rfl | (simp;done) | (simp [*];done)),H',⟨by first | omega | exact Nat.le_refl _⟩,⟨zl_ HB⟩⟩
  ·rw [if_neg c4] at H
   have c4b0 : decide (1048576 < (l0.length : Int)) = false := decide_eq_false c4
   have c4b1 : decide (1048576 < l0.length) = false := decide_eq_false (by omega)
   clear c4
   (first | rw [c4b0] | (simp only [i64_w,i32_w];rw [c4b0]) | skip)
   have H' := am_ H
   clear H
   go_wp2
   go_meet
   case rel => exact ⟨_,(decide ((l1.length : Int) > 1048576)),(by first | rfl | (simp;done) | (simp [*];done)),H',⟨by first | omega | exact Nat.le_refl _⟩,⟨zl_ HB⟩⟩
 case rest =>
  clear HC3
  try clear c1
  try clear p2
  try clear c4
  try clear c4b0
  try clear c4b1
  obtain ⟨kq,x32_2,rfl,HA,HJ2,HB⟩ := hcut
  cases kq with
  | zero => exact absurd HA.out (by simp [laws_FnReplies.j0])
  | succ kj2 =>
   have H := HA.out
   clear HA
   simp only [laws_FnReplies.j0] at H
   by_cases c5 : x32_2 = true
   ·subst c5
    have H1 : (some true) = some r := by rw [if_pos rfl] at H;exact H
    clear H
    have H := H1
    clear H1
    obtain rfl := Option.some.inj H
    go_wp2
    go_ret
    exact ⟨zt_,zl_ HB⟩
   ·replace c5 := Bool.eq_false_iff.mpr c5
    subst c5
    have H1 : ((some (([4,7] : List Int) : List Int)).bind fun y1105 => ((laws_at.f l1 0 2).bind fun t1108 => (if 0 ≤ t1108 then (if t1108 < (y1105.length : Int) then ((spec_AnswerOf.f l0).bind fun bt1110 => ((spec_AnswerOf.f l1).bind fun bt1115 => (laws_FnReplies.l0 kj2 l1 (rd y1105 t1108) (wrap64 (Int.tdiv (wrap64 ((rd y1105 t1108) - 1)) 3)) (([] : List (S73))) 0 bt1110.1 bt1110.2.1 bt1110.2.2.1 bt1110.2.2.2 bt1115.1 bt1115.2.1 bt1115.2.2.1 bt1115.2.2.2))) else (none)) else (none)))) = some r := by rw [if_neg (show ¬ (false = true) by decide)] at H;exact H
    clear H
    have H := H1
    clear H1
    obtain ⟨y1105,hy1105⟩ : ∃ y_ : List Int,y_ = (([4,7] : List Int)) := ⟨_,rfl⟩
    replace H : ((laws_at.f l1 0 2).bind fun t1108 => (if 0 ≤ t1108 then (if t1108 < (y1105.length : Int) then ((spec_AnswerOf.f l0).bind fun bt1110 => ((spec_AnswerOf.f l1).bind fun bt1115 => (laws_FnReplies.l0 kj2 l1 (rd y1105 t1108) (wrap64 (Int.tdiv (wrap64 ((rd y1105 t1108) - 1)) 3)) (([] : List (S73))) 0 bt1110.1 bt1110.2.1 bt1110.2.2.1 bt1110.2.2.2 bt1115.1 bt1115.2.1 bt1115.2.2.1 bt1115.2.2.2))) else (none)) else (none))) = some r := by first | (rw [hy1105];with_reducible exact H) | (have H2_ := (Option.bind_some _ _).symm.trans H;rw [hy1105];with_reducible exact H2_) | (have H2_ := (Option.bind_some _ _).symm.trans H;with_reducible exact H2_) | with_reducible exact H | (rw [hy1105];exact H) | exact H
    have Ny1105 := am_ hy1105
    clear hy1105
    replace H := Option.bind_eq_some_iff.mp H
    obtain ⟨t1108,A60,H⟩ := H
    try dsimp only at H
    have A6 := am_ A60
    clear A60
    by_cases c7 : 0 ≤ t1108
    ·rw [if_pos c7] at H
     have c7b0 : decide (0 ≤ t1108) = true := decide_eq_true c7
     clear c7
     by_cases c8 : t1108 < (y1105.length : Int)
     ·rw [if_pos c8] at H
      have c8b0 : decide (t1108 < (y1105.length : Int)) = true := decide_eq_true c8
      clear c8
      replace H := Option.bind_eq_some_iff.mp H
      obtain ⟨⟨t1110,t1111,t1112,t1113⟩,A90,H⟩ := H
      try dsimp only at H
      have A9 := am_ A90
      clear A90
      replace H := Option.bind_eq_some_iff.mp H
      obtain ⟨⟨t1115,t1116,t1117,t1118⟩,A100,H⟩ := H
      try dsimp only at H
      have A10 := am_ A100
      clear A100
      obtain ⟨y1120,hy1120⟩ : ∃ y_ : List (S73),y_ = (([] : List (S73))) := ⟨_,rfl⟩
      replace H : (laws_FnReplies.l0 kj2 l1 (rd y1105 t1108) (wrap64 (Int.tdiv (wrap64 ((rd y1105 t1108) - 1)) 3)) y1120 0 t1110 t1111 t1112 t1113 t1115 t1116 t1117 t1118) = some r := by first | (rw [hy1120];with_reducible exact H) | (have H2_ := (Option.bind_some _ _).symm.trans H;rw [hy1120];with_reducible exact H2_) | (have H2_ := (Option.bind_some _ _).symm.trans H;with_reducible exact H2_) | with_reducible exact H | (rw [hy1120];exact H) | exact H
      have Ny1120 := am_ hy1120
      clear hy1120
      have H' := am_ H
      clear H
      go_wp2_with (first | ((with_reducible refine gate_dst (N := 33) rfl ?_);(try (refine gate_guard (by rfl) ?_;dsimp only));refine Kd.R_lit (Kd.int .i64) _ 3 ?hg (N := 33) ?hd (xs := ([4,7] : List Int)) (inner := [.int .i64 4,.int .i64 7]) (ok := fun _ => True) (okp := fun _ => True) ?hr ?hp (fun _ hk => hk) trivial (Below.refl _ _) (Nat.le_refl _) (by simp) ?_;(case hd => rfl);(case hg => rfl);(case hr => first | (go_simp;done) | (go_simp;rfl));(case hp => exact (Reps.one (show Kd.M (Kd.int .i64) _ _ _ 4 [.int .i64 4] from rfl) (Reps.one (show Kd.M (Kd.int .i64) _ _ _ 7 [.int .i64 7] from rfl) (Reps.none _ _))));intro v1106 w11 ho12 hb hg_ hnew_;clear hg_ hnew_;(first | rw [← Ny1105.out] at ho12 | (simp only [Int.reduceToNat] at ho12;rw [← Ny1105.out] at ho12));have HO1107 := am_ (Kd.R_lower ho12 (below_size (zl_ HB)));replace HB := zs_ HB hb;clear hb ho12) | ((with_reducible refine gate_callee (f := 25) rfl ?_);refine zgl (some 35) Tryd.func25 #[.slice A1 l1.length c1,.int .i64 0,.int .i64 2] ?_;(with_reducible refine (laws_at.calls _ _ l1 0 2 t1108 _ ?side1 ?side2 A6.out).mono ?_);(case side1 => exact zc_ HR1 HB);(case side2 => exact HC1.out);rintro e w' ⟨rfl,⟨nd,rfl⟩⟩;refine ⟨_,rfl,?_⟩;(try (rw [drewN_self w11];generalize hq_ : World.drewN w11 _ = w11;have n0_ : Aside0 (Kd.R (Kd.int .i64) 3 w11 w.heap.size (fun _ => True) v1106 y1105) := ⟨by rw [← hq_];exact (zr HO1107)⟩;have n1_ : Aside0 (Below w.heap.size w w11) := ⟨by rw [← hq_];exact (zl_ HB)⟩;clear HO1107 HB hq_;have HO1107 := n0_;have HB := n1_;clear n0_ n1_));obtain ⟨Ao13,co13,eo13⟩ := Kd.R_slice HO1107.out;subst eo13;have p1109 : 0 ≤ (t1108 : Int) := zo_;have q1109 : t1108 < (y1105.length : Int) := zo_;obtain ⟨ad1109,e1109,hx1109_0⟩ := Kd.at_int (Kd.R_reads' HO1107.out).2.2 t1108 p1109 q1109;cases e1109;replace p1109 := eq_true p1109;replace q1109 := eq_true q1109) | ((with_reducible refine gate_callee (f := 37) rfl ?_);refine zgl (some 42) Tryd.func37 #[.slice A0 l0.length c0] ?_;(with_reducible refine (spec_AnswerOf.calls _ _ l0 t1110 t1111 t1112 t1113 _ ?side1 ?side2 A9.out).mono ?_);(case side1 => exact zc_ HR0 HB);(case side2 => exact HC0.out);rintro e w14 ⟨rfl,hb⟩;refine ⟨_,rfl,?_⟩;replace HB := zs_ HB hb;(try clear hb);(try clear hb2);(try clear hk);(try clear hi)) | ((with_reducible refine gate_dst (N := 7) rfl ?_);(try (refine gate_guard (by rfl) ?_;dsimp only));refine zbx (N := 7) (cs := #[.int .i64 0,.int .i64 0,.int .i64 0,.int .i64 0]) (t := 63) ?_;intro gb1114 hg w15 hbox hb;have BK1114 := am_ (hbox);have GW1114 := zw_ HB hg;have GE1114 := zw_ HB hg;replace HB := zs_ HB hb;clear hb hbox hg;obtain ⟨hcz16_0,hcz16_1,hcz16_2,hcz16_3,hfz16_0,hfz16_1,hfz16_2,hfz16_3⟩ := zc4 BK1114) | ((with_reducible refine gate_callee (f := 37) rfl ?_);refine zgl (some 44) Tryd.func37 #[.slice A1 l1.length c1] ?_;(with_reducible refine (spec_AnswerOf.calls _ _ l1 t1115 t1116 t1117 t1118 _ ?side1 ?side2 A10.out).mono ?_);(case side1 => exact Kd.C_below HR1.out (zl_ HB));(case side2 => exact HC1.out);rintro e w17 ⟨rfl,hb⟩;refine ⟨_,rfl,?_⟩;replace BK1114 := am_ (blk_below (g := gb1114) (o := .cells #[.int .i64 t1110,.int .i64 t1111,.int .i64 t1112,.int .i64 t1113] 63 (0,0)) (zq BK1114) hb);replace HB := zs_ HB hb;(try clear hb);(try clear hb2);(try clear hk);(try clear hi)) | ((with_reducible refine gate_dst (N := 8) rfl ?_);(try (refine gate_guard (by rfl) ?_;dsimp only));refine zbx (N := 8) (cs := #[.int .i64 0,.int .i64 0,.int .i64 0,.int .i64 0]) (t := 63) ?_;intro gb1119 hg w18 hbox hb;have BK1119 := am_ (hbox);have GW1119 := zw_ HB hg;have GE1119 := zw_ HB hg;replace HB := zs_ HB hb;have NB1114_1119 := zl hg BK1114;have NB1119_1114 := zg hg BK1114;replace BK1114 := zb BK1114 hb;clear hb hbox hg;have hnb19 := NB1119_1114.out;have hnc19 := NB1114_1119.out;obtain ⟨hcz20_0,hcz20_1,hcz20_2,hcz20_3,hfz20_0,hfz20_1,hfz20_2,hfz20_3⟩ := zc4 BK1119) | ((with_reducible refine gate_dst (N := 45) rfl ?_);(try (refine gate_guard (by rfl) ?_;dsimp only));refine Kd.R_lit k73 _ 73 ?hg (N := 45) ?hd (xs := ([] : List (S73))) (inner := []) (ok := fun _ => True) (okp := fun _ => True) ?hr ?hp (fun _ hk => hk) trivial (Below.refl _ _) (Nat.le_refl _) (by simp) ?_;(case hd => rfl);(case hg => rfl);(case hr => first | (go_simp;done) | (go_simp;rfl));(case hp => exact (Reps.none _ _));intro v1121 w21 ho22 hb hg_ hnew_;clear hg_ hnew_;(first | rw [← Ny1120.out] at ho22 | (simp only [Int.reduceToNat] at ho22;rw [← Ny1120.out] at ho22));have HO1122 := am_ (Kd.R_lower ho22 (below_size (zl_ HB)));replace BK1114 := am_ (blk_below (g := gb1114) (o := .cells #[.int .i64 t1110,.int .i64 t1111,.int .i64 t1112,.int .i64 t1113] 63 (0,0)) (zq BK1114) hb);replace BK1119 := am_ (blk_below (g := gb1119) (o := .cells #[.int .i64 t1115,.int .i64 t1116,.int .i64 t1117,.int .i64 t1118] 63 (0,0)) (zq BK1119) hb);replace HB := zs_ HB hb;clear hb ho22))
      go_loopg [9,10] kj2 (fun kq v9 v10 w' => ∃ (x9_2 : List (S73)) (x10_2 : Int),v10 = .int .i64 x10_2 ∧ Aside0 (laws_FnReplies.l0 kq l1 (rd y1105 t1108) (wrap64 (Int.tdiv (wrap64 ((rd y1105 t1108) - 1)) 3)) x9_2 x10_2 t1110 t1111 t1112 t1113 t1115 t1116 t1117 t1118 = some r) ∧ Aside0 (kq ≤ kj2) ∧ Aside0 (Kd.R k73 73 w' w.heap.size (fun _ => True) v9 x9_2) ∧ Aside0 (w'.heap[gb1114]? = some (.cells #[.int .i64 t1110,.int .i64 t1111,.int .i64 t1112,.int .i64 t1113] 63 (0,0))) ∧ Aside0 (w'.heap[gb1119]? = some (.cells #[.int .i64 t1115,.int .i64 t1116,.int .i64 t1117,.int .i64 t1118] 63 (0,0))) ∧ Aside0 (Below w.heap.size w w'))
      case atStart => exact ⟨(y1120),(0),(by first | rfl | (simp;done) | (simp [*];done)),H',⟨Nat.le_refl _⟩,⟨zr HO1122⟩,⟨by (with_reducible repeat (first | apply k1_ | apply k2_ | apply k3_));exact BK1114.out⟩,⟨by (with_reducible repeat (first | apply k1_ | apply k2_ | apply k3_));exact BK1119.out⟩,⟨zl_ HB⟩⟩
      case round =>
       clear H'
       try clear c1
       try clear p1
       try clear q1
       try clear hx1
       try clear c2
       try clear p2
       try clear c3
       try clear c4
       try clear c4b0
       try clear c4b1
       try clear c5
       try clear p6
       try clear c7
       try clear c7b0
       try clear c8
       try clear c8b0
       try clear p11
       try clear q11
       try clear hx11
       try clear c19
       try clear hcz16_0
       try clear hcz16_1
       try clear hcz16_2
       try clear hcz16_3
       try clear hcz20_0
       try clear hcz20_1
       try clear hcz20_2
       try clear hcz20_3
       try clear hfz16_0
       try clear hfz16_1
       try clear hfz16_2
       try clear hfz16_3
       try clear hfz20_0
       try clear hfz20_1
       try clear hfz20_2
       try clear hfz20_3
       try clear hx1109_0
       try clear p1109
       try clear p2
       try clear q1109
       obtain ⟨x9_2,x10_2,rfl,HA,HK2,HO_9,BK1114,BK1119,HB⟩ := hrel
       cases gk with
       | zero => exact absurd HA.out (by simp [laws_FnReplies.l0])
       | succ k2 =>
        have H := HA.out
        clear HA
        simp only [laws_FnReplies.l0] at H
        by_cases c23 : x10_2 < 12
        ·rw [if_pos c23] at H
         have c23b0 : decide (x10_2 < 12) = true := decide_eq_true c23
         clear c23
         replace H := Option.bind_eq_some_iff.mp H
         obtain ⟨t1123,A240,H⟩ := H
         try dsimp only at H
         have A24 := am_ A240
         clear A240
         have HC25 := am_ H
         clear H
         go_upto_if 58 with (first | ((with_reducible refine gate_callee (f := 25) rfl ?_);refine zgl (some 54) Tryd.func25 #[.slice A1 l1.length c1,.int .i64 (wrap64 (x10_2 + 1)),.int .i64 (rd y1105 t1108)] ?_;(with_reducible refine (laws_at.calls _ _ l1 (wrap64 (x10_2 + 1)) (rd y1105 t1108) t1123 _ ?side1 ?side2 A24.out).mono ?_);(case side1 => exact zc_ HR1 HB);(case side2 => exact HC1.out);rintro e w' ⟨rfl,⟨nd,rfl⟩⟩;refine ⟨_,rfl,?_⟩;(try (rw [drewN_self wr];generalize hq_ : World.drewN wr _ = wr;have n0_ : Aside0 (Kd.R k73 73 wr w.heap.size (fun _ => True) u9 x9_2) := ⟨by rw [← hq_];exact (zr HO_9)⟩;have n1_ : Aside0 (wr.heap[gb1114]? = some (.cells #[.int .i64 t1110,.int .i64 t1111,.int .i64 t1112,.int .i64 t1113] 63 (0,0))) := ⟨by rw [← hq_];exact (zk BK1114)⟩;have n2_ : Aside0 (wr.heap[gb1119]? = some (.cells #[.int .i64 t1115,.int .i64 t1116,.int .i64 t1117,.int .i64 t1118] 63 (0,0))) := ⟨by rw [← hq_];exact (zk BK1119)⟩;have n3_ : Aside0 (Below w.heap.size w wr) := ⟨by rw [← hq_];exact (zl_ HB)⟩;clear HO_9 BK1114 BK1119 HB hq_;have HO_9 := n0_;have BK1114 := n1_;have BK1119 := n2_;have HB := n3_;clear n0_ n1_ n2_ n3_));(try have hfu1114_0 := blk_frozen BK1114.out 0);(try have hcu1114_0 : wr.cell? ⟨gb1114,0,none⟩ = some (.int .i64 t1110) := (blk_cell BK1114.out 0).trans rfl);(try have hfu1114_1 := blk_frozen BK1114.out 1);(try have hcu1114_1 : wr.cell? ⟨gb1114,1,none⟩ = some (.int .i64 t1111) := (blk_cell BK1114.out 1).trans rfl);(try have hfu1114_2 := blk_frozen BK1114.out 2);(try have hcu1114_2 : wr.cell? ⟨gb1114,2,none⟩ = some (.int .i64 t1112) := (blk_cell BK1114.out 2).trans rfl);(try have hfu1114_3 := blk_frozen BK1114.out 3);(try have hcu1114_3 : wr.cell? ⟨gb1114,3,none⟩ = some (.int .i64 t1113) := (blk_cell BK1114.out 3).trans rfl);(try have hfu1119_0 := blk_frozen BK1119.out 0);(try have hcu1119_0 : wr.cell? ⟨gb1119,0,none⟩ = some (.int .i64 t1115) := (blk_cell BK1119.out 0).trans rfl);(try have hfu1119_1 := blk_frozen BK1119.out 1);(try have hcu1119_1 : wr.cell? ⟨gb1119,1,none⟩ = some (.int .i64 t1116) := (blk_cell BK1119.out 1).trans rfl);(try have hfu1119_2 := blk_frozen BK1119.out 2);(try have hcu1119_2 : wr.cell? ⟨gb1119,2,none⟩ = some (.int .i64 t1117) := (blk_cell BK1119.out 2).trans rfl);(try have hfu1119_3 := blk_frozen BK1119.out 3);(try have hcu1119_3 : wr.cell? ⟨gb1119,3,none⟩ = some (.int .i64 t1118) := (blk_cell BK1119.out 3).trans rfl);have hnb26 := NB1114_1119.out;have hnc26 := NB1119_1114.out;obtain ⟨hcz27_0,hcz27_1,hcz27_2,hcz27_3,hfz27_0,hfz27_1,hfz27_2,hfz27_3⟩ := zc4 BK1114) | ((with_reducible refine gate_dst (N := 12) rfl ?_);(try (refine gate_guard (by rfl) ?_;dsimp only));refine zbx (N := 12) (cs := #[.int .i64 0,.int .i64 0,.int .i64 0,.int .i64 0]) (t := 63) ?_;intro gb1124 hg w28 hbox hb;replace HO_9 := zrb HO_9 hb;have BK1124 := am_ (hbox);have GW1124 := zw_ HB hg;have GE1124 := zw_ HB hg;replace HB := zs_ HB hb;have NB1114_1124 := zl hg BK1114;have NB1124_1114 := zg hg BK1114;replace BK1114 := zb BK1114 hb;have NB1119_1124 := zl hg BK1119;have NB1124_1119 := zg hg BK1119;replace BK1119 := zb BK1119 hb;clear hb hbox hg;have hnb29 := NB1124_1114.out;have hnc29 := NB1114_1124.out;have hnb30 := NB1124_1119.out;have hnc30 := NB1119_1124.out;obtain ⟨hcz31_0,hcz31_1,hcz31_2,hcz31_3,hfz31_0,hfz31_1,hfz31_2,hfz31_3⟩ := zc4 BK1124))
         (try simp only [Act.put,p1_,p2_,p3_])
         go_cut [] (fun wc => ∃ (kq : Nat) (x1125000_24 : Int) (x1125001_24 : Int) (x1125002_24 : Int) (x1125003_24 : Int),Aside0 (laws_FnReplies.j2 kq l1 (rd y1105 t1108) (wrap64 (Int.tdiv (wrap64 ((rd y1105 t1108) - 1)) 3)) x9_2 x10_2 t1123 t1110 t1111 t1112 t1113 t1115 t1116 t1117 t1118 x1125000_24 x1125001_24 x1125002_24 x1125003_24 = some r) ∧ Aside0 (kq ≤ k2) ∧ Aside0 (Kd.R k73 73 wc w.heap.size (fun _ => True) u9 x9_2) ∧ Aside0 (wc.heap[gb1114]? = some (.cells #[.int .i64 t1110,.int .i64 t1111,.int .i64 t1112,.int .i64 t1113] 63 (0,0))) ∧ Aside0 (wc.heap[gb1119]? = some (.cells #[.int .i64 t1115,.int .i64 t1116,.int .i64 t1117,.int .i64 t1118] 63 (0,0))) ∧ Aside0 (wc.heap[gb1124]? = some (.cells #[.int .i64 x1125000_24,.int .i64 x1125001_24,.int .i64 x1125002_24,.int .i64 x1125003_24] 63 (0,0))) ∧ Aside0 (Below w.heap.size w wc))
         case first =>
          have H := HC25.out
          clear HC25
          by_cases c32 : t1123 < (wrap64 (Int.tdiv (wrap64 ((rd y1105 t1108) - 1)) 3))
          ·rw [if_pos c32] at H
           have c32b0 : decide (t1123 < (wrap64 (Int.tdiv (wrap64 ((rd y1105 t1108) - 1)) 3))) = true := decide_eq_true c32
           clear c32
           (first | rw [c32b0] | (simp only [i64_w,i32_w];rw [c32b0]) | skip)
           have H' := am_ H
           clear H
           have hnb33 := NB1119_1114.out
           have hnc33 := NB1114_1119.out
           have hnb34 := NB1119_1124.out
           have hnc34 := NB1124_1119.out
           obtain ⟨hcz35_0,hcz35_1,hcz35_2,hcz35_3,hfz35_0,hfz35_1,hfz35_2,hfz35_3⟩ := zc4 BK1119
           have hnb36 := NB1124_1114.out
           have hnc36 := NB1114_1124.out
           obtain ⟨hcz37_0,hcz37_1,hcz37_2,hcz37_3,hfz37_0,hfz37_1,hfz37_2,hfz37_3⟩ := zc4 BK1124
           go_wp2
           go_meet
           case rel => exact ⟨_,(t1115),(t1116),(t1117),(t1118),H',⟨by have := HJ2.out;have := HK2.out;first | omega | exact Nat.le_refl _⟩,⟨by (with_reducible repeat (first | apply r1_ | apply r2_ | apply r3_));exact Kd.R_mono (zrf (Kd.R_types HO_9.out BK1124.out (by decide))) (fun _ hk => trivial)⟩,⟨zq BK1114⟩,⟨zq BK1119⟩,⟨zq BK1124⟩,⟨zl_ HB⟩⟩
          ·rw [if_neg c32] at H
           have c32b0 : decide (t1123 < (wrap64 (Int.tdiv (wrap64 ((rd y1105 t1108) - 1)) 3))) = false := decide_eq_false c32
           clear c32
           (first | rw [c32b0] | (simp only [i64_w,i32_w];rw [c32b0]) | skip)
           have H' := am_ H
           clear H
           go_wp2
           go_meet
           case rel => exact ⟨_,(t1110),(t1111),(t1112),(t1113),H',⟨by have := HJ2.out;have := HK2.out;first | omega | exact Nat.le_refl _⟩,⟨by (with_reducible repeat (first | apply r1_ | apply r2_ | apply r3_));exact Kd.R_mono (zrf (Kd.R_types HO_9.out BK1124.out (by decide))) (fun _ hk => trivial)⟩,⟨zq BK1114⟩,⟨zq BK1119⟩,⟨zq BK1124⟩,⟨zl_ HB⟩⟩
         case rest =>
          clear HC25
          try clear c1
          try clear p1
          try clear q1
          try clear hx1
          try clear c2
          try clear p2
          try clear c3
          try clear c4
          try clear c4b0
          try clear c4b1
          try clear c5
          try clear p6
          try clear c7
          try clear c7b0
          try clear c8
          try clear c8b0
          try clear p11
          try clear q11
          try clear hx11
          try clear c19
          try clear c23
          try clear c23b0
          try clear c25
          try clear c26
          try clear c29
          try clear c30
          try clear c32
          try clear c32b0
          try clear c33
          try clear c34
          try clear c36
          try clear c37
          try clear hcz16_0
          try clear hcz16_1
          try clear hcz16_2
          try clear hcz16_3
          try clear hcz20_0
          try clear hcz20_1
          try clear hcz20_2
          try clear hcz20_3
          try clear hcz27_0
          try clear hcz27_1
          try clear hcz27_2
          try clear hcz27_3
          try clear hcz31_0
          try clear hcz31_1
          try clear hcz31_2
          try clear hcz31_3
          try clear hcz35_0
          try clear hcz35_1
          try clear hcz35_2
          try clear hcz35_3
          try clear hcz37_0
          try clear hcz37_1
          try clear hcz37_2
          try clear hcz37_3
          try clear hfz16_0
          try clear hfz16_1
          try clear hfz16_2
          try clear hfz16_3
          try clear hfz20_0
          try clear hfz20_1
          try clear hfz20_2
          try clear hfz20_3
          try clear hfz27_0
          try clear hfz27_1
          try clear hfz27_2
          try clear hfz27_3
          try clear hfz31_0
          try clear hfz31_1
          try clear hfz31_2
          try clear hfz31_3
          try clear hfz35_0
          try clear hfz35_1
          try clear hfz35_2
          try clear hfz35_3
          try clear hfz37_0
          try clear hfz37_1
          try clear hfz37_2
          try clear hfz37_3
          try clear hx1109_0
          try clear p1
          try clear p11
          try clear p1109
          try clear p2
          try clear p6
          try clear q1
          try clear q11
          try clear q1109
          obtain ⟨kq,x1125000_24,x1125001_24,x1125002_24,x1125003_24,HA,HJ24,HO_9,BK1114,BK1119,BK1124,HB⟩ := hcut
          cases kq with
          | zero => exact absurd HA.out (by simp [laws_FnReplies.j2])
          | succ kj24 =>
           have H := HA.out
           clear HA
           simp only [laws_FnReplies.j2] at H
           replace H := Option.bind_eq_some_iff.mp H
           obtain ⟨⟨t1125,t1126,t1127,t1128,t1129,t1130,t1131,t1132,t1133⟩,A380,H⟩ := H
           try dsimp only at H
           have A38 := am_ A380
           clear A380
           replace H := Option.bind_eq_some_iff.mp H
           obtain ⟨⟨t1135,t1136,t1137,t1138,t1139,t1140,t1141,t1142,t1143⟩,A390,H⟩ := H
           try dsimp only at H
           have A39 := am_ A390
           clear A390
           replace H := Option.bind_eq_some_iff.mp H
           obtain ⟨⟨t1145,t1146⟩,A400,H⟩ := H
           try dsimp only at H
           have A40 := am_ A400
           clear A400
           by_cases c41 : t1133 = 0
           ·rw [if_pos c41] at H
            have c41b0 : (t1133 == 0) = true := beq_iff_eq.mpr c41
            have c41b1 : (t1133 != 0) = false := bne_eq_false_iff_eq.mpr c41
            clear c41
            by_cases c42 : (!(t1125 == t1135) || (!(t1126 == t1136) || (!(t1127 == t1137) || ((!(t1128 == t1138) || (!(t1129 == t1139) || (!(t1130 == t1140) || (!(t1131 == t1141))))) || (!(t1132.toList == t1142.toList)))))) = true
            ·rw [if_pos c42] at H
             have c42k := am_ c42
             have c42b0 : (!(t1125 == t1135) || (!(t1126 == t1136) || (!(t1127 == t1137) || ((!(t1128 == t1138) || (!(t1129 == t1139) || (!(t1130 == t1140) || (!(t1131 == t1141))))) || (!(t1132.toList == t1142.toList)))))) = true := c42k.out
             (try simp only [*,Bool.not_true,Bool.not_false,Bool.false_or,Bool.true_or,Bool.or_false,Bool.or_true,Bool.true_and,Bool.and_true,Bool.false_and,Bool.and_false] at c42)
             have c42bs := c42
             clear c42k
             clear c42
             obtain rfl := Option.some.inj H
             have hnb43 := NB1124_1114.out
             have hnc43 := NB1114_1124.out
             have hnb44 := NB1124_1119.out
             have hnc44 := NB1119_1124.out
             obtain ⟨hcz45_0,hcz45_1,hcz45_2,hcz45_3,hfz45_0,hfz45_1,hfz45_2,hfz45_3⟩ := zc4 BK1124
             go_wp2_with (first | ((with_reducible refine gate_callee (f := 38) rfl ?_);refine zgl (some 63) Tryd.func38 #[.int .i64 t1123,.int .i64 1,.int .i64 2,.agg #[.int .i64 x1125000_24,.int .i64 x1125001_24,.int .i64 x1125002_24,.int .i64 x1125003_24]] ?_;(with_reducible refine (impl_MakeReply.calls kj24 t1123 1 2 x1125000_24 x1125001_24 x1125002_24 x1125003_24 t1125 t1126 t1127 t1128 t1129 t1130 t1131 t1132 t1133 _ ?side1 A38.out).mono ?_);(case side1 => exact HLD.out.on (zl_ HB));rintro e w46 ⟨rfl,hb⟩;refine ⟨_,rfl,?_⟩;replace HO_9 := zrb HO_9 hb;replace BK1114 := zb BK1114 hb;replace BK1119 := zb BK1119 hb;replace BK1124 := zb BK1124 hb;replace HB := zs_ HB hb;(try clear hb);(try clear hb2);(try clear hk);(try clear hi)) | ((with_reducible refine gate_dst (N := 13) rfl ?_);(try (refine gate_guard (by rfl) ?_;dsimp only));refine zbx (N := 13) (cs := #[.int .i64 0,.int .i64 0,.int .i64 0,.int .i64 0,.int .i64 0,.int .i64 0,.int .i64 0,.string ⟨#[]⟩]) (t := 73) ?_;intro gb1134 hg w47 hbox hb;replace HO_9 := am_ (Kd.R_below (Kd.R_elderB (zr HO_9) gb1134 (Nat.le_of_eq hg.symm)) hb);have BK1134 := am_ (hbox);have GW1134 := zw_ HB hg;have GE1134 := zw_ HB hg;replace HB := zs_ HB hb;have NB1114_1134 := zl hg BK1114;have NB1134_1114 := zg hg BK1114;replace BK1114 := zb BK1114 hb;have NB1119_1134 := zl hg BK1119;have NB1134_1119 := zg hg BK1119;replace BK1119 := zb BK1119 hb;have NB1124_1134 := zl hg BK1124;have NB1134_1124 := zg hg BK1124;replace BK1124 := zb BK1124 hb;clear hb hbox hg;have hnb48 := NB1134_1114.out;have hnc48 := NB1114_1134.out;have hnb49 := NB1134_1119.out;have hnc49 := NB1119_1134.out;have hnb50 := NB1134_1124.out;have hnc50 := NB1124_1134.out;obtain ⟨hcz51_0,hcz51_1,hcz51_2,hcz51_3,hcz51_4,hcz51_5,hcz51_6,hcz51_7,hfz51_0,hfz51_1,hfz51_2,hfz51_3,hfz51_4,hfz51_5,hfz51_6,hfz51_7⟩ := zc8 BK1134;obtain ⟨hcz52_0,hcz52_1,hcz52_2,hcz52_3,hfz52_0,hfz52_1,hfz52_2,hfz52_3⟩ := zc4 BK1124) | ((with_reducible refine gate_callee (f := 39) rfl ?_);refine zgl (some 69) Tryd.func39 #[.int .i64 t1123,.int .i64 1,.int .i64 2,.agg #[.int .i64 x1125000_24,.int .i64 x1125001_24,.int .i64 x1125002_24,.int .i64 x1125003_24]] ?_;(with_reducible refine (spec_MakeReply.calls kj24 t1123 1 2 x1125000_24 x1125001_24 x1125002_24 x1125003_24 t1135 t1136 t1137 t1138 t1139 t1140 t1141 t1142 t1143 _ A39.out).mono ?_);rintro e w53 ⟨rfl,hb⟩;refine ⟨_,rfl,?_⟩;replace HO_9 := am_ (Kd.R_below (by (with_reducible repeat (first | apply r1_ | apply r2_ | apply r3_));exact (Kd.R_mono (Kd.Rf (Kd.Rf (Kd.Rf (Kd.Rf (Kd.Rf (Kd.Rf (Kd.Rf (Kd.Rf (Kd.R_mono HO_9.out (fun k_ hk => (⟨hk,hk.2⟩ : _ ∧ k_ ≠ gb1134))))))))))) (fun _ h_ => h_.1))) hb);replace BK1114 := am_ (blk_below (g := gb1114) (o := .cells #[.int .i64 t1110,.int .i64 t1111,.int .i64 t1112,.int .i64 t1113] 63 (0,0)) (zq BK1114) hb);replace BK1119 := am_ (blk_below (g := gb1119) (o := .cells #[.int .i64 t1115,.int .i64 t1116,.int .i64 t1117,.int .i64 t1118] 63 (0,0)) (zq BK1119) hb);replace BK1124 := am_ (blk_below (g := gb1124) (o := .cells #[.int .i64 x1125000_24,.int .i64 x1125001_24,.int .i64 x1125002_24,.int .i64 x1125003_24] 63 (0,0)) (zq BK1124) hb);replace BK1134 := am_ (blk_below (g := gb1134) (o := .cells #[.int .i64 t1125,.int .i64 t1126,.int .i64 t1127,.int .i64 t1128,.int .i64 t1129,.int .i64 t1130,.int .i64 t1131,.string t1132] 73 (0,0)) (zq BK1134) hb);replace HB := zs_ HB hb;(try clear hb);(try clear hb2);(try clear hk);(try clear hi)) | ((with_reducible refine gate_dst (N := 15) rfl ?_);(try (refine gate_guard (by rfl) ?_;dsimp only));refine zbx (N := 15) (cs := #[.int .i64 0,.int .i64 0,.int .i64 0,.int .i64 0,.int .i64 0,.int .i64 0,.int .i64 0,.string ⟨#[]⟩]) (t := 73) ?_;intro gb1144 hg w54 hbox hb;replace HO_9 := am_ (Kd.R_below (Kd.R_elderB (zr HO_9) gb1144 (Nat.le_of_eq hg.symm)) hb);have BK1144 := am_ (hbox);have GW1144 := zw_ HB hg;have GE1144 := zw_ HB hg;replace HB := zs_ HB hb;have NB1114_1144 := zl hg BK1114;have NB1144_1114 := zg hg BK1114;replace BK1114 := zb BK1114 hb;have NB1119_1144 := zl hg BK1119;have NB1144_1119 := zg hg BK1119;replace BK1119 := zb BK1119 hb;have NB1124_1144 := zl hg BK1124;have NB1144_1124 := zg hg BK1124;replace BK1124 := zb BK1124 hb;have NB1134_1144 := zl hg BK1134;have NB1144_1134 := zg hg BK1134;replace BK1134 := zb BK1134 hb;clear hb hbox hg;have hnb55 := NB1144_1114.out;have hnc55 := NB1114_1144.out;have hnb56 := NB1144_1119.out;have hnc56 := NB1119_1144.out;have hnb57 := NB1144_1124.out;have hnc57 := NB1124_1144.out;have hnb58 := NB1144_1134.out;have hnc58 := NB1134_1144.out;obtain ⟨hcz59_0,hcz59_1,hcz59_2,hcz59_3,hcz59_4,hcz59_5,hcz59_6,hcz59_7,hfz59_0,hfz59_1,hfz59_2,hfz59_3,hfz59_4,hfz59_5,hfz59_6,hfz59_7⟩ := zc8 BK1144;obtain ⟨hcz60_0,hcz60_1,hcz60_2,hcz60_3,hcz60_4,hcz60_5,hcz60_6,hcz60_7,hfz60_0,hfz60_1,hfz60_2,hfz60_3,hfz60_4,hfz60_5,hfz60_6,hfz60_7⟩ := zc8 BK1134) | ((with_reducible refine gate_callee (f := 40) rfl ?_);refine zgl (some 74) Tryd.func40 #[.agg #[.int .i64 t1125,.int .i64 t1126,.int .i64 t1127,.int .i64 t1128,.int .i64 t1129,.int .i64 t1130,.int .i64 t1131,.string t1132]] ?_;(with_reducible refine (impl_ReplyMac.calls kj24 t1125 t1126 t1127 t1128 t1129 t1130 t1131 t1132 t1145 t1146 _ ?side1 A40.out).mono ?_);(case side1 => exact HLD.out.on (zl_ HB));rintro e w61 ⟨rfl,hb⟩;refine ⟨_,rfl,?_⟩;replace HO_9 := am_ (Kd.R_below (by (with_reducible repeat (first | apply r1_ | apply r2_ | apply r3_));exact (Kd.R_mono (Kd.Rf (Kd.Rf (Kd.Rf (Kd.Rf (Kd.Rf (Kd.Rf (Kd.Rf (Kd.Rf (Kd.R_mono HO_9.out (fun k_ hk => (⟨hk,hk.2⟩ : _ ∧ k_ ≠ gb1144))))))))))) (fun _ h_ => h_.1))) hb);replace BK1114 := am_ (blk_below (g := gb1114) (o := .cells #[.int .i64 t1110,.int .i64 t1111,.int .i64 t1112,.int .i64 t1113] 63 (0,0)) (zq BK1114) hb);replace BK1119 := am_ (blk_below (g := gb1119) (o := .cells #[.int .i64 t1115,.int .i64 t1116,.int .i64 t1117,.int .i64 t1118] 63 (0,0)) (zq BK1119) hb);replace BK1124 := am_ (blk_below (g := gb1124) (o := .cells #[.int .i64 x1125000_24,.int .i64 x1125001_24,.int .i64 x1125002_24,.int .i64 x1125003_24] 63 (0,0)) (zq BK1124) hb);replace BK1134 := am_ (blk_below (g := gb1134) (o := .cells #[.int .i64 t1125,.int .i64 t1126,.int .i64 t1127,.int .i64 t1128,.int .i64 t1129,.int .i64 t1130,.int .i64 t1131,.string t1132] 73 (0,0)) (zq BK1134) hb);replace BK1144 := am_ (blk_below (g := gb1144) (o := .cells #[.int .i64 t1135,.int .i64 t1136,.int .i64 t1137,.int .i64 t1138,.int .i64 t1139,.int .i64 t1140,.int .i64 t1141,.string t1142] 73 (0,0)) (zq BK1144) hb);replace HB := zs_ HB hb;(try clear hb);(try clear hb2);(try clear hk);(try clear hi);obtain ⟨hcz62_0,hcz62_1,hcz62_2,hcz62_3,hcz62_4,hcz62_5,hcz62_6,hcz62_7,hfz62_0,hfz62_1,hfz62_2,hfz62_3,hfz62_4,hfz62_5,hfz62_6,hfz62_7⟩ := zc8 BK1134;obtain ⟨hcz63_0,hcz63_1,hcz63_2,hcz63_3,hcz63_4,hcz63_5,hcz63_6,hcz63_7,hfz63_0,hfz63_1,hfz63_2,hfz63_3,hfz63_4,hfz63_5,hfz63_6,hfz63_7⟩ := zc8 BK1144))
             go_ret
             exact ⟨zt_,zl_ HB⟩
            ·rw [if_neg c42] at H
             have c42k := am_ c42
             have c42b0 : (!(t1125 == t1135) || (!(t1126 == t1136) || (!(t1127 == t1137) || ((!(t1128 == t1138) || (!(t1129 == t1139) || (!(t1130 == t1140) || (!(t1131 == t1141))))) || (!(t1132.toList == t1142.toList)))))) = false := by simpa using c42k.out
             (try simp only [*,Bool.not_true,Bool.not_false,Bool.false_or,Bool.true_or,Bool.or_false,Bool.or_true,Bool.true_and,Bool.and_true,Bool.false_and,Bool.and_false] at c42)
             have c42bs := c42
             clear c42k
             clear c42
             by_cases c64 : t1146 = 0
             ·rw [if_pos c64] at H
              have c64b0 : (t1146 == 0) = true := beq_iff_eq.mpr c64
              have c64b1 : (t1146 != 0) = false := bne_eq_false_iff_eq.mpr c64
              clear c64
              by_cases c65 : t1145.toList = t1132.toList
              ·rw [if_pos c65] at H
               have c65b0 : (t1145.toList == t1132.toList) = true := beq_iff_eq.mpr c65
               have c65b1 : (t1145.toList != t1132.toList) = false := bne_eq_false_iff_eq.mpr c65
               clear c65
               replace H := Option.bind_eq_some_iff.mp H
               obtain ⟨t1147,A660,H⟩ := H
               try dsimp only at H
               have A66 := am_ A660
               clear A660
               by_cases c67 : t1147 = true
               ·subst c67
                have H1 : (if x9_2.length < 1954687338268 then (laws_FnReplies.l0 kj24 l1 (rd y1105 t1108) (wrap64 (Int.tdiv (wrap64 ((rd y1105 t1108) - 1)) 3)) (x9_2 ++ [(⟨t1125,t1126,t1127,(⟨t1128,t1129,t1130,t1131⟩ : S63),t1132⟩ : S73)]) (wrap64 (x10_2 + 1)) t1110 t1111 t1112 t1113 t1115 t1116 t1117 t1118) else (none)) = some r := by rw [if_pos rfl] at H;exact H
                clear H
                have H := H1
                clear H1
                by_cases c68 : x9_2.length < 1954687338268
                ·rw [if_pos c68] at H
                 have LMc68 := am_ c68
                 clear c68
                 obtain ⟨y1148,hy1148⟩ : ∃ y_ : List (S73),y_ = (x9_2 ++ [(⟨t1125,t1126,t1127,(⟨t1128,t1129,t1130,t1131⟩ : S63),t1132⟩ : S73)]) := ⟨_,rfl⟩
                 replace H : (laws_FnReplies.l0 kj24 l1 (rd y1105 t1108) (wrap64 (Int.tdiv (wrap64 ((rd y1105 t1108) - 1)) 3)) y1148 (wrap64 (x10_2 + 1)) t1110 t1111 t1112 t1113 t1115 t1116 t1117 t1118) = some r := by first | (rw [hy1148];with_reducible exact H) | (have H2_ := (Option.bind_some _ _).symm.trans H;rw [hy1148];with_reducible exact H2_) | (have H2_ := (Option.bind_some _ _).symm.trans H;with_reducible exact H2_) | with_reducible exact H | (rw [hy1148];exact H) | exact H
                 have Ny1148 := am_ hy1148
                 clear hy1148
                 have H' := am_ H
                 clear H
                 have hnb69 := NB1124_1114.out
                 have hnc69 := NB1114_1124.out
                 have hnb70 := NB1124_1119.out
                 have hnc70 := NB1119_1124.out
                 obtain ⟨hcz71_0,hcz71_1,hcz71_2,hcz71_3,hfz71_0,hfz71_1,hfz71_2,hfz71_3⟩ := zc4 BK1124
                 go_wp2_with (first | ((with_reducible refine gate_callee (f := 38) rfl ?_);refine zgl (some 63) Tryd.func38 #[.int .i64 t1123,.int .i64 1,.int .i64 2,.agg #[.int .i64 x1125000_24,.int .i64 x1125001_24,.int .i64 x1125002_24,.int .i64 x1125003_24]] ?_;(with_reducible refine (impl_MakeReply.calls kj24 t1123 1 2 x1125000_24 x1125001_24 x1125002_24 x1125003_24 t1125 t1126 t1127 t1128 t1129 t1130 t1131 t1132 t1133 _ ?side1 A38.out).mono ?_);(case side1 => exact HLD.out.on (zl_ HB));rintro e w72 ⟨rfl,hb⟩;refine ⟨_,rfl,?_⟩;replace HO_9 := zrb HO_9 hb;replace BK1114 := zb BK1114 hb;replace BK1119 := zb BK1119 hb;replace BK1124 := zb BK1124 hb;replace HB := zs_ HB hb;(try clear hb);(try clear hb2);(try clear hk);(try clear hi)) | ((with_reducible refine gate_dst (N := 13) rfl ?_);(try (refine gate_guard (by rfl) ?_;dsimp only));refine zbx (N := 13) (cs := #[.int .i64 0,.int .i64 0,.int .i64 0,.int .i64 0,.int .i64 0,.int .i64 0,.int .i64 0,.string ⟨#[]⟩]) (t := 73) ?_;intro gb1134 hg w73 hbox hb;replace HO_9 := am_ (Kd.R_below (Kd.R_elderB (zr HO_9) gb1134 (Nat.le_of_eq hg.symm)) hb);have BK1134 := am_ (hbox);have GW1134 := zw_ HB hg;have GE1134 := zw_ HB hg;replace HB := zs_ HB hb;have NB1114_1134 := zl hg BK1114;have NB1134_1114 := zg hg BK1114;replace BK1114 := zb BK1114 hb;have NB1119_1134 := zl hg BK1119;have NB1134_1119 := zg hg BK1119;replace BK1119 := zb BK1119 hb;have NB1124_1134 := zl hg BK1124;have NB1134_1124 := zg hg BK1124;replace BK1124 := zb BK1124 hb;clear hb hbox hg;have hnb74 := NB1134_1114.out;have hnc74 := NB1114_1134.out;have hnb75 := NB1134_1119.out;have hnc75 := NB1119_1134.out;have hnb76 := NB1134_1124.out;have hnc76 := NB1124_1134.out;obtain ⟨hcz77_0,hcz77_1,hcz77_2,hcz77_3,hcz77_4,hcz77_5,hcz77_6,hcz77_7,hfz77_0,hfz77_1,hfz77_2,hfz77_3,hfz77_4,hfz77_5,hfz77_6,hfz77_7⟩ := zc8 BK1134;obtain ⟨hcz78_0,hcz78_1,hcz78_2,hcz78_3,hfz78_0,hfz78_1,hfz78_2,hfz78_3⟩ := zc4 BK1124) | ((with_reducible refine gate_callee (f := 39) rfl ?_);refine zgl (some 69) Tryd.func39 #[.int .i64 t1123,.int .i64 1,.int .i64 2,.agg #[.int .i64 x1125000_24,.int .i64 x1125001_24,.int .i64 x1125002_24,.int .i64 x1125003_24]] ?_;(with_reducible refine (spec_MakeReply.calls kj24 t1123 1 2 x1125000_24 x1125001_24 x1125002_24 x1125003_24 t1135 t1136 t1137 t1138 t1139 t1140 t1141 t1142 t1143 _ A39.out).mono ?_);rintro e w79 ⟨rfl,hb⟩;refine ⟨_,rfl,?_⟩;replace HO_9 := am_ (Kd.R_below (by (with_reducible repeat (first | apply r1_ | apply r2_ | apply r3_));exact (Kd.R_mono (Kd.Rf (Kd.Rf (Kd.Rf (Kd.Rf (Kd.Rf (Kd.Rf (Kd.Rf (Kd.Rf (Kd.R_mono HO_9.out (fun k_ hk => (⟨hk,hk.2⟩ : _ ∧ k_ ≠ gb1134))))))))))) (fun _ h_ => h_.1))) hb);replace BK1114 := am_ (blk_below (g := gb1114) (o := .cells #[.int .i64 t1110,.int .i64 t1111,.int .i64 t1112,.int .i64 t1113] 63 (0,0)) (zq BK1114) hb);replace BK1119 := am_ (blk_below (g := gb1119) (o := .cells #[.int .i64 t1115,.int .i64 t1116,.int .i64 t1117,.int .i64 t1118] 63 (0,0)) (zq BK1119) hb);replace BK1124 := am_ (blk_below (g := gb1124) (o := .cells #[.int .i64 x1125000_24,.int .i64 x1125001_24,.int .i64 x1125002_24,.int .i64 x1125003_24] 63 (0,0)) (zq BK1124) hb);replace BK1134 := am_ (blk_below (g := gb1134) (o := .cells #[.int .i64 t1125,.int .i64 t1126,.int .i64 t1127,.int .i64 t1128,.int .i64 t1129,.int .i64 t1130,.int .i64 t1131,.string t1132] 73 (0,0)) (zq BK1134) hb);replace HB := zs_ HB hb;(try clear hb);(try clear hb2);(try clear hk);(try clear hi)) | ((with_reducible refine gate_dst (N := 15) rfl ?_);(try (refine gate_guard (by rfl) ?_;dsimp only));refine zbx (N := 15) (cs := #[.int .i64 0,.int .i64 0,.int .i64 0,.int .i64 0,.int .i64 0,.int .i64 0,.int .i64 0,.string ⟨#[]⟩]) (t := 73) ?_;intro gb1144 hg w80 hbox hb;replace HO_9 := am_ (Kd.R_below (Kd.R_elderB (zr HO_9) gb1144 (Nat.le_of_eq hg.symm)) hb);have BK1144 := am_ (hbox);have GW1144 := zw_ HB hg;have GE1144 := zw_ HB hg;replace HB := zs_ HB hb;have NB1114_1144 := zl hg BK1114;have NB1144_1114 := zg hg BK1114;replace BK1114 := zb BK1114 hb;have NB1119_1144 := zl hg BK1119;have NB1144_1119 := zg hg BK1119;replace BK1119 := zb BK1119 hb;have NB1124_1144 := zl hg BK1124;have NB1144_1124 := zg hg BK1124;have NB1134_1144 := zl hg BK1134;have NB1144_1134 := zg hg BK1134;replace BK1134 := zb BK1134 hb;clear hb hbox hg;have hnb81 := NB1144_1114.out;have hnc81 := NB1114_1144.out;have hnb82 := NB1144_1119.out;have hnc82 := NB1119_1144.out;have hnb83 := NB1144_1124.out;have hnc83 := NB1124_1144.out;have hnb84 := NB1144_1134.out;have hnc84 := NB1134_1144.out;obtain ⟨hcz85_0,hcz85_1,hcz85_2,hcz85_3,hcz85_4,hcz85_5,hcz85_6,hcz85_7,hfz85_0,hfz85_1,hfz85_2,hfz85_3,hfz85_4,hfz85_5,hfz85_6,hfz85_7⟩ := zc8 BK1144;obtain ⟨hcz86_0,hcz86_1,hcz86_2,hcz86_3,hcz86_4,hcz86_5,hcz86_6,hcz86_7,hfz86_0,hfz86_1,hfz86_2,hfz86_3,hfz86_4,hfz86_5,hfz86_6,hfz86_7⟩ := zc8 BK1134) | ((with_reducible refine gate_callee (f := 40) rfl ?_);refine zgl (some 74) Tryd.func40 #[.agg #[.int .i64 t1125,.int .i64 t1126,.int .i64 t1127,.int .i64 t1128,.int .i64 t1129,.int .i64 t1130,.int .i64 t1131,.string t1132]] ?_;(with_reducible refine (impl_ReplyMac.calls kj24 t1125 t1126 t1127 t1128 t1129 t1130 t1131 t1132 t1145 t1146 _ ?side1 A40.out).mono ?_);(case side1 => exact HLD.out.on (zl_ HB));rintro e w87 ⟨rfl,hb⟩;refine ⟨_,rfl,?_⟩;replace HO_9 := am_ (Kd.R_below (by (with_reducible repeat (first | apply r1_ | apply r2_ | apply r3_));exact (Kd.R_mono (Kd.Rf (Kd.Rf (Kd.Rf (Kd.Rf (Kd.Rf (Kd.Rf (Kd.Rf (Kd.Rf (Kd.R_mono HO_9.out (fun k_ hk => (⟨hk,hk.2⟩ : _ ∧ k_ ≠ gb1144))))))))))) (fun _ h_ => h_.1))) hb);replace BK1114 := am_ (blk_below (g := gb1114) (o := .cells #[.int .i64 t1110,.int .i64 t1111,.int .i64 t1112,.int .i64 t1113] 63 (0,0)) (zq BK1114) hb);replace BK1119 := am_ (blk_below (g := gb1119) (o := .cells #[.int .i64 t1115,.int .i64 t1116,.int .i64 t1117,.int .i64 t1118] 63 (0,0)) (zq BK1119) hb);replace BK1134 := am_ (blk_below (g := gb1134) (o := .cells #[.int .i64 t1125,.int .i64 t1126,.int .i64 t1127,.int .i64 t1128,.int .i64 t1129,.int .i64 t1130,.int .i64 t1131,.string t1132] 73 (0,0)) (zq BK1134) hb);replace BK1144 := am_ (blk_below (g := gb1144) (o := .cells #[.int .i64 t1135,.int .i64 t1136,.int .i64 t1137,.int .i64 t1138,.int .i64 t1139,.int .i64 t1140,.int .i64 t1141,.string t1142] 73 (0,0)) (zq BK1144) hb);replace HB := zs_ HB hb;(try clear hb);(try clear hb2);(try clear hk);(try clear hi);obtain ⟨hcz88_0,hcz88_1,hcz88_2,hcz88_3,hcz88_4,hcz88_5,hcz88_6,hcz88_7,hfz88_0,hfz88_1,hfz88_2,hfz88_3,hfz88_4,hfz88_5,hfz88_6,hfz88_7⟩ := zc8 BK1134;obtain ⟨hcz89_0,hcz89_1,hcz89_2,hcz89_3,hcz89_4,hcz89_5,hcz89_6,hcz89_7,hfz89_0,hfz89_1,hfz89_2,hfz89_3,hfz89_4,hfz89_5,hfz89_6,hfz89_7⟩ := zc8 BK1144) | (go_at_call 41;(with_reducible refine (impl_ReplyOK.calls kj24 (rd y1105 t1108) t1125 t1126 t1127 t1128 t1129 t1130 t1131 t1132 true _ ?side1 A66.out).mono ?_);(case side1 => exact HLD.out.on (zl_ HB));rintro e w90 ⟨rfl,hb⟩;replace HO_9 := zrb HO_9 hb;replace BK1114 := zb BK1114 hb;replace BK1119 := zb BK1119 hb;replace BK1134 := zb BK1134 hb;replace BK1144 := zb BK1144 hb;replace HB := zs_ HB hb;(try clear hb);(try clear hb2);(try clear hk);(try clear hi);obtain ⟨hcz91_0,hcz91_1,hcz91_2,hcz91_3,hcz91_4,hcz91_5,hcz91_6,hcz91_7,hfz91_0,hfz91_1,hfz91_2,hfz91_3,hfz91_4,hfz91_5,hfz91_6,hfz91_7⟩ := zc8 BK1134) | ((with_reducible refine gate_builtin (b := .append) (xs := #[.tmp 100,.tmp 102]) rfl ?_);(try (refine gate_guard (by rfl) ?_;dsimp only));at_builtin;refine Kd.R_append k73 (w0 := w) w.heap.size rfl (.tmp 100) (.tmp 102) 66 73 (.agg #[(.int .i64 0),(.int .i64 0),(.int .i64 0),(.int .i64 0),(.int .i64 0),(.int .i64 0),(.int .i64 0),(.string ⟨#[]⟩)]) 72 rfl Tryd.underlying66 info73 rfl (by decide) (by omega) u9 x9_2 (⟨t1125,t1126,t1127,(⟨t1128,t1129,t1130,t1131⟩ : S63),t1132⟩ : S73) [.int .i64 t1125,.int .i64 t1126,.int .i64 t1127,.int .i64 t1128,.int .i64 t1129,.int .i64 t1130,.int .i64 t1131,.string t1132] (fun k_ => k_ ≠ gb1134 ∧ k_ ≠ gb1144) (fun _ => False) rfl rfl ?aP (fun _ hk => hk.elim) ?aF ?aO ?aB ?aS ?aL ?_;(case aP => exact k73_mkM _ _ _ (⟨t1125,t1126,t1127,(⟨t1128,t1129,t1130,t1131⟩ : S63),t1132⟩ : S73));(case aB => exact (zl_ HB));(case aF => exact (fun k_ hk => ⟨Kd.freshB (g := gb1134) (o := .cells #[.int .i64 t1125,.int .i64 t1126,.int .i64 t1127,.int .i64 t1128,.int .i64 t1129,.int .i64 t1130,.int .i64 t1131,.string t1132] 73 (0,0)) (zk BK1134) k_ hk,Kd.freshB (g := gb1144) (o := .cells #[.int .i64 t1135,.int .i64 t1136,.int .i64 t1137,.int .i64 t1138,.int .i64 t1139,.int .i64 t1140,.int .i64 t1141,.string t1142] 73 (0,0)) (zk BK1144) k_ hk⟩));(case aO => exact (by (with_reducible repeat (first | apply r1_ | apply r2_ | apply r3_));exact Kd.R_mono HO_9.out (fun _ hk => ⟨hk.1.2,hk.2⟩)));(case aS => exact (below_size (zl_ HB)));(case aL => have := LMc68.out;omega);intro v1149 w92 ho hb hg hat;rw [← Ny1148.out] at ho;replace BK1114 := am_ (blk_grown (g := gb1114) (o := .cells #[.int .i64 t1110,.int .i64 t1111,.int .i64 t1112,.int .i64 t1113] 63 (0,0)) (zk BK1114) hg (Kd.R_ne HO_9.out BK1114.out (by decide)));replace BK1119 := am_ (blk_grown (g := gb1119) (o := .cells #[.int .i64 t1115,.int .i64 t1116,.int .i64 t1117,.int .i64 t1118] 63 (0,0)) (zk BK1119) hg (Kd.R_ne HO_9.out BK1119.out (by decide)));replace HB := am_ (hb);have HO1150 := am_ (ho);clear HO_9;clear ho hb hg hat))
                 go_roundg kj24
                 case measure => have := HJ2.out;have := HK2.out;have := HJ24.out;omega
                 case rel => exact ⟨(y1148),(wrap64 (x10_2 + 1)),(by first | rfl | (simp;done) | (simp [*];done)),H',⟨by have := HJ2.out;have := HK2.out;have := HJ24.out;omega⟩,⟨by (with_reducible repeat (first | apply r1_ | apply r2_ | apply r3_));exact Kd.R_mono HO1150.out (fun _ hk => trivial)⟩,⟨by (with_reducible repeat (first | apply k1_ | apply k2_ | apply k3_));exact BK1114.out⟩,⟨by (with_reducible repeat (first | apply k1_ | apply k2_ | apply k3_));exact BK1119.out⟩,⟨zl_ HB⟩⟩
                ·rw [if_neg c68] at H
                 exact absurd H (by simp)
               ·replace c67 := Bool.eq_false_iff.mpr c67
                subst c67
                have H1 : (some false) = some r := by rw [if_neg (show ¬ (false = true) by decide)] at H;exact H
                clear H
                have H := H1
                clear H1
                obtain rfl := Option.some.inj H
                have hnb93 := NB1124_1114.out
                have hnc93 := NB1114_1124.out
                have hnb94 := NB1124_1119.out
                have hnc94 := NB1119_1124.out
                obtain ⟨hcz95_0,hcz95_1,hcz95_2,hcz95_3,hfz95_0,hfz95_1,hfz95_2,hfz95_3⟩ := zc4 BK1124
                go_wp2_with (first | ((with_reducible refine gate_callee (f := 38) rfl ?_);refine zgl (some 63) Tryd.func38 #[.int .i64 t1123,.int .i64 1,.int .i64 2,.agg #[.int .i64 x1125000_24,.int .i64 x1125001_24,.int .i64 x1125002_24,.int .i64 x1125003_24]] ?_;(with_reducible refine (impl_MakeReply.calls kj24 t1123 1 2 x1125000_24 x1125001_24 x1125002_24 x1125003_24 t1125 t1126 t1127 t1128 t1129 t1130 t1131 t1132 t1133 _ ?side1 A38.out).mono ?_);(case side1 => exact HLD.out.on (zl_ HB));rintro e w96 ⟨rfl,hb⟩;refine ⟨_,rfl,?_⟩;replace BK1114 := zb BK1114 hb;replace BK1119 := zb BK1119 hb;replace BK1124 := zb BK1124 hb;replace HB := zs_ HB hb;(try clear hb);(try clear hb2);(try clear hk);(try clear hi)) | ((with_reducible refine gate_dst (N := 13) rfl ?_);(try (refine gate_guard (by rfl) ?_;dsimp only));refine zbx (N := 13) (cs := #[.int .i64 0,.int .i64 0,.int .i64 0,.int .i64 0,.int .i64 0,.int .i64 0,.int .i64 0,.string ⟨#[]⟩]) (t := 73) ?_;intro gb1134 hg w97 hbox hb;have BK1134 := am_ (hbox);have GW1134 := zw_ HB hg;have GE1134 := zw_ HB hg;replace HB := zs_ HB hb;have NB1114_1134 := zl hg BK1114;have NB1134_1114 := zg hg BK1114;replace BK1114 := zb BK1114 hb;have NB1119_1134 := zl hg BK1119;have NB1134_1119 := zg hg BK1119;replace BK1119 := zb BK1119 hb;have NB1124_1134 := zl hg BK1124;have NB1134_1124 := zg hg BK1124;replace BK1124 := zb BK1124 hb;clear hb hbox hg;have hnb98 := NB1134_1114.out;have hnc98 := NB1114_1134.out;have hnb99 := NB1134_1119.out;have hnc99 := NB1119_1134.out;have hnb100 := NB1134_1124.out;have hnc100 := NB1124_1134.out;obtain ⟨hcz101_0,hcz101_1,hcz101_2,hcz101_3,hcz101_4,hcz101_5,hcz101_6,hcz101_7,hfz101_0,hfz101_1,hfz101_2,hfz101_3,hfz101_4,hfz101_5,hfz101_6,hfz101_7⟩ := zc8 BK1134;obtain ⟨hcz102_0,hcz102_1,hcz102_2,hcz102_3,hfz102_0,hfz102_1,hfz102_2,hfz102_3⟩ := zc4 BK1124) | ((with_reducible refine gate_callee (f := 39) rfl ?_);refine zgl (some 69) Tryd.func39 #[.int .i64 t1123,.int .i64 1,.int .i64 2,.agg #[.int .i64 x1125000_24,.int .i64 x1125001_24,.int .i64 x1125002_24,.int .i64 x1125003_24]] ?_;(with_reducible refine (spec_MakeReply.calls kj24 t1123 1 2 x1125000_24 x1125001_24 x1125002_24 x1125003_24 t1135 t1136 t1137 t1138 t1139 t1140 t1141 t1142 t1143 _ A39.out).mono ?_);rintro e w103 ⟨rfl,hb⟩;refine ⟨_,rfl,?_⟩;replace BK1114 := am_ (blk_below (g := gb1114) (o := .cells #[.int .i64 t1110,.int .i64 t1111,.int .i64 t1112,.int .i64 t1113] 63 (0,0)) (zq BK1114) hb);replace BK1119 := am_ (blk_below (g := gb1119) (o := .cells #[.int .i64 t1115,.int .i64 t1116,.int .i64 t1117,.int .i64 t1118] 63 (0,0)) (zq BK1119) hb);replace BK1124 := am_ (blk_below (g := gb1124) (o := .cells #[.int .i64 x1125000_24,.int .i64 x1125001_24,.int .i64 x1125002_24,.int .i64 x1125003_24] 63 (0,0)) (zq BK1124) hb);replace BK1134 := am_ (blk_below (g := gb1134) (o := .cells #[.int .i64 t1125,.int .i64 t1126,.int .i64 t1127,.int .i64 t1128,.int .i64 t1129,.int .i64 t1130,.int .i64 t1131,.string t1132] 73 (0,0)) (zq BK1134) hb);replace HB := zs_ HB hb;(try clear hb);(try clear hb2);(try clear hk);(try clear hi)) | ((with_reducible refine gate_dst (N := 15) rfl ?_);(try (refine gate_guard (by rfl) ?_;dsimp only));refine zbx (N := 15) (cs := #[.int .i64 0,.int .i64 0,.int .i64 0,.int .i64 0,.int .i64 0,.int .i64 0,.int .i64 0,.string ⟨#[]⟩]) (t := 73) ?_;intro gb1144 hg w104 hbox hb;have BK1144 := am_ (hbox);have GW1144 := zw_ HB hg;have GE1144 := zw_ HB hg;replace HB := zs_ HB hb;have NB1114_1144 := zl hg BK1114;have NB1144_1114 := zg hg BK1114;have NB1119_1144 := zl hg BK1119;have NB1144_1119 := zg hg BK1119;have NB1124_1144 := zl hg BK1124;have NB1144_1124 := zg hg BK1124;have NB1134_1144 := zl hg BK1134;have NB1144_1134 := zg hg BK1134;replace BK1134 := zb BK1134 hb;clear hb hbox hg;have hnb105 := NB1144_1114.out;have hnc105 := NB1114_1144.out;have hnb106 := NB1144_1119.out;have hnc106 := NB1119_1144.out;have hnb107 := NB1144_1124.out;have hnc107 := NB1124_1144.out;have hnb108 := NB1144_1134.out;have hnc108 := NB1134_1144.out;obtain ⟨hcz109_0,hcz109_1,hcz109_2,hcz109_3,hcz109_4,hcz109_5,hcz109_6,hcz109_7,hfz109_0,hfz109_1,hfz109_2,hfz109_3,hfz109_4,hfz109_5,hfz109_6,hfz109_7⟩ := zc8 BK1144;obtain ⟨hcz110_0,hcz110_1,hcz110_2,hcz110_3,hcz110_4,hcz110_5,hcz110_6,hcz110_7,hfz110_0,hfz110_1,hfz110_2,hfz110_3,hfz110_4,hfz110_5,hfz110_6,hfz110_7⟩ := zc8 BK1134) | ((with_reducible refine gate_callee (f := 40) rfl ?_);refine zgl (some 74) Tryd.func40 #[.agg #[.int .i64 t1125,.int .i64 t1126,.int .i64 t1127,.int .i64 t1128,.int .i64 t1129,.int .i64 t1130,.int .i64 t1131,.string t1132]] ?_;(with_reducible refine (impl_ReplyMac.calls kj24 t1125 t1126 t1127 t1128 t1129 t1130 t1131 t1132 t1145 t1146 _ ?side1 A40.out).mono ?_);(case side1 => exact HLD.out.on (zl_ HB));rintro e w111 ⟨rfl,hb⟩;refine ⟨_,rfl,?_⟩;replace BK1134 := am_ (blk_below (g := gb1134) (o := .cells #[.int .i64 t1125,.int .i64 t1126,.int .i64 t1127,.int .i64 t1128,.int .i64 t1129,.int .i64 t1130,.int .i64 t1131,.string t1132] 73 (0,0)) (zq BK1134) hb);replace BK1144 := am_ (blk_below (g := gb1144) (o := .cells #[.int .i64 t1135,.int .i64 t1136,.int .i64 t1137,.int .i64 t1138,.int .i64 t1139,.int .i64 t1140,.int .i64 t1141,.string t1142] 73 (0,0)) (zq BK1144) hb);replace HB := zs_ HB hb;(try clear hb);(try clear hb2);(try clear hk);(try clear hi);obtain ⟨hcz112_0,hcz112_1,hcz112_2,hcz112_3,hcz112_4,hcz112_5,hcz112_6,hcz112_7,hfz112_0,hfz112_1,hfz112_2,hfz112_3,hfz112_4,hfz112_5,hfz112_6,hfz112_7⟩ := zc8 BK1134;obtain ⟨hcz113_0,hcz113_1,hcz113_2,hcz113_3,hcz113_4,hcz113_5,hcz113_6,hcz113_7,hfz113_0,hfz113_1,hfz113_2,hfz113_3,hfz113_4,hfz113_5,hfz113_6,hfz113_7⟩ := zc8 BK1144) | (go_at_call 41;(with_reducible refine (impl_ReplyOK.calls kj24 (rd y1105 t1108) t1125 t1126 t1127 t1128 t1129 t1130 t1131 t1132 false _ ?side1 A66.out).mono ?_);(case side1 => exact HLD.out.on (zl_ HB));rintro e w114 ⟨rfl,hb⟩;replace HB := zs_ HB hb;(try clear hb);(try clear hb2);(try clear hk);(try clear hi)))
                go_ret
                exact ⟨zt_,zl_ HB⟩
              ·rw [if_neg c65] at H
               have c65b0 : (t1145.toList == t1132.toList) = false := beq_eq_false_iff_ne.mpr c65
               have c65b1 : (t1145.toList != t1132.toList) = true := bne_iff_ne.mpr c65
               obtain rfl := Option.some.inj H
               have hnb115 := NB1124_1114.out
               have hnc115 := NB1114_1124.out
               have hnb116 := NB1124_1119.out
               have hnc116 := NB1119_1124.out
               obtain ⟨hcz117_0,hcz117_1,hcz117_2,hcz117_3,hfz117_0,hfz117_1,hfz117_2,hfz117_3⟩ := zc4 BK1124
               go_wp2_with (first | ((with_reducible refine gate_callee (f := 38) rfl ?_);refine zgl (some 63) Tryd.func38 #[.int .i64 t1123,.int .i64 1,.int .i64 2,.agg #[.int .i64 x1125000_24,.int .i64 x1125001_24,.int .i64 x1125002_24,.int .i64 x1125003_24]] ?_;(with_reducible refine (impl_MakeReply.calls kj24 t1123 1 2 x1125000_24 x1125001_24 x1125002_24 x1125003_24 t1125 t1126 t1127 t1128 t1129 t1130 t1131 t1132 t1133 _ ?side1 A38.out).mono ?_);(case side1 => exact HLD.out.on (zl_ HB));rintro e w118 ⟨rfl,hb⟩;refine ⟨_,rfl,?_⟩;replace BK1114 := zb BK1114 hb;replace BK1119 := zb BK1119 hb;replace BK1124 := zb BK1124 hb;replace HB := zs_ HB hb;(try clear hb);(try clear hb2);(try clear hk);(try clear hi)) | ((with_reducible refine gate_dst (N := 13) rfl ?_);(try (refine gate_guard (by rfl) ?_;dsimp only));refine zbx (N := 13) (cs := #[.int .i64 0,.int .i64 0,.int .i64 0,.int .i64 0,.int .i64 0,.int .i64 0,.int .i64 0,.string ⟨#[]⟩]) (t := 73) ?_;intro gb1134 hg w119 hbox hb;have BK1134 := am_ (hbox);have GW1134 := zw_ HB hg;have GE1134 := zw_ HB hg;replace HB := zs_ HB hb;have NB1114_1134 := zl hg BK1114;have NB1134_1114 := zg hg BK1114;replace BK1114 := zb BK1114 hb;have NB1119_1134 := zl hg BK1119;have NB1134_1119 := zg hg BK1119;replace BK1119 := zb BK1119 hb;have NB1124_1134 := zl hg BK1124;have NB1134_1124 := zg hg BK1124;replace BK1124 := zb BK1124 hb;clear hb hbox hg;have hnb120 := NB1134_1114.out;have hnc120 := NB1114_1134.out;have hnb121 := NB1134_1119.out;have hnc121 := NB1119_1134.out;have hnb122 := NB1134_1124.out;have hnc122 := NB1124_1134.out;obtain ⟨hcz123_0,hcz123_1,hcz123_2,hcz123_3,hcz123_4,hcz123_5,hcz123_6,hcz123_7,hfz123_0,hfz123_1,hfz123_2,hfz123_3,hfz123_4,hfz123_5,hfz123_6,hfz123_7⟩ := zc8 BK1134;obtain ⟨hcz124_0,hcz124_1,hcz124_2,hcz124_3,hfz124_0,hfz124_1,hfz124_2,hfz124_3⟩ := zc4 BK1124) | ((with_reducible refine gate_callee (f := 39) rfl ?_);refine zgl (some 69) Tryd.func39 #[.int .i64 t1123,.int .i64 1,.int .i64 2,.agg #[.int .i64 x1125000_24,.int .i64 x1125001_24,.int .i64 x1125002_24,.int .i64 x1125003_24]] ?_;(with_reducible refine (spec_MakeReply.calls kj24 t1123 1 2 x1125000_24 x1125001_24 x1125002_24 x1125003_24 t1135 t1136 t1137 t1138 t1139 t1140 t1141 t1142 t1143 _ A39.out).mono ?_);rintro e w125 ⟨rfl,hb⟩;refine ⟨_,rfl,?_⟩;replace BK1114 := am_ (blk_below (g := gb1114) (o := .cells #[.int .i64 t1110,.int .i64 t1111,.int .i64 t1112,.int .i64 t1113] 63 (0,0)) (zq BK1114) hb);replace BK1119 := am_ (blk_below (g := gb1119) (o := .cells #[.int .i64 t1115,.int .i64 t1116,.int .i64 t1117,.int .i64 t1118] 63 (0,0)) (zq BK1119) hb);replace BK1124 := am_ (blk_below (g := gb1124) (o := .cells #[.int .i64 x1125000_24,.int .i64 x1125001_24,.int .i64 x1125002_24,.int .i64 x1125003_24] 63 (0,0)) (zq BK1124) hb);replace BK1134 := am_ (blk_below (g := gb1134) (o := .cells #[.int .i64 t1125,.int .i64 t1126,.int .i64 t1127,.int .i64 t1128,.int .i64 t1129,.int .i64 t1130,.int .i64 t1131,.string t1132] 73 (0,0)) (zq BK1134) hb);replace HB := zs_ HB hb;(try clear hb);(try clear hb2);(try clear hk);(try clear hi)) | ((with_reducible refine gate_dst (N := 15) rfl ?_);(try (refine gate_guard (by rfl) ?_;dsimp only));refine zbx (N := 15) (cs := #[.int .i64 0,.int .i64 0,.int .i64 0,.int .i64 0,.int .i64 0,.int .i64 0,.int .i64 0,.string ⟨#[]⟩]) (t := 73) ?_;intro gb1144 hg w126 hbox hb;have BK1144 := am_ (hbox);have GW1144 := zw_ HB hg;have GE1144 := zw_ HB hg;replace HB := zs_ HB hb;have NB1114_1144 := zl hg BK1114;have NB1144_1114 := zg hg BK1114;have NB1119_1144 := zl hg BK1119;have NB1144_1119 := zg hg BK1119;have NB1124_1144 := zl hg BK1124;have NB1144_1124 := zg hg BK1124;have NB1134_1144 := zl hg BK1134;have NB1144_1134 := zg hg BK1134;replace BK1134 := zb BK1134 hb;clear hb hbox hg;have hnb127 := NB1144_1114.out;have hnc127 := NB1114_1144.out;have hnb128 := NB1144_1119.out;have hnc128 := NB1119_1144.out;have hnb129 := NB1144_1124.out;have hnc129 := NB1124_1144.out;have hnb130 := NB1144_1134.out;have hnc130 := NB1134_1144.out;obtain ⟨hcz131_0,hcz131_1,hcz131_2,hcz131_3,hcz131_4,hcz131_5,hcz131_6,hcz131_7,hfz131_0,hfz131_1,hfz131_2,hfz131_3,hfz131_4,hfz131_5,hfz131_6,hfz131_7⟩ := zc8 BK1144;obtain ⟨hcz132_0,hcz132_1,hcz132_2,hcz132_3,hcz132_4,hcz132_5,hcz132_6,hcz132_7,hfz132_0,hfz132_1,hfz132_2,hfz132_3,hfz132_4,hfz132_5,hfz132_6,hfz132_7⟩ := zc8 BK1134) | ((with_reducible refine gate_callee (f := 40) rfl ?_);refine zgl (some 74) Tryd.func40 #[.agg #[.int .i64 t1125,.int .i64 t1126,.int .i64 t1127,.int .i64 t1128,.int .i64 t1129,.int .i64 t1130,.int .i64 t1131,.string t1132]] ?_;(with_reducible refine (impl_ReplyMac.calls kj24 t1125 t1126 t1127 t1128 t1129 t1130 t1131 t1132 t1145 t1146 _ ?side1 A40.out).mono ?_);(case side1 => exact HLD.out.on (zl_ HB));rintro e w133 ⟨rfl,hb⟩;refine ⟨_,rfl,?_⟩;replace BK1134 := am_ (blk_below (g := gb1134) (o := .cells #[.int .i64 t1125,.int .i64 t1126,.int .i64 t1127,.int .i64 t1128,.int .i64 t1129,.int .i64 t1130,.int .i64 t1131,.string t1132] 73 (0,0)) (zq BK1134) hb);replace BK1144 := am_ (blk_below (g := gb1144) (o := .cells #[.int .i64 t1135,.int .i64 t1136,.int .i64 t1137,.int .i64 t1138,.int .i64 t1139,.int .i64 t1140,.int .i64 t1141,.string t1142] 73 (0,0)) (zq BK1144) hb);replace HB := zs_ HB hb;(try clear hb);(try clear hb2);(try clear hk);(try clear hi);obtain ⟨hcz134_0,hcz134_1,hcz134_2,hcz134_3,hcz134_4,hcz134_5,hcz134_6,hcz134_7,hfz134_0,hfz134_1,hfz134_2,hfz134_3,hfz134_4,hfz134_5,hfz134_6,hfz134_7⟩ := zc8 BK1134;obtain ⟨hcz135_0,hcz135_1,hcz135_2,hcz135_3,hcz135_4,hcz135_5,hcz135_6,hcz135_7,hfz135_0,hfz135_1,hfz135_2,hfz135_3,hfz135_4,hfz135_5,hfz135_6,hfz135_7⟩ := zc8 BK1144))
               go_ret
               exact ⟨zt_,zl_ HB⟩
             ·rw [if_neg c64] at H
              have c64b0 : (t1146 == 0) = false := beq_eq_false_iff_ne.mpr c64
              have c64b1 : (t1146 != 0) = true := bne_iff_ne.mpr c64
              obtain rfl := Option.some.inj H
              have hnb136 := NB1124_1114.out
              have hnc136 := NB1114_1124.out
              have hnb137 := NB1124_1119.out
              have hnc137 := NB1119_1124.out
              obtain ⟨hcz138_0,hcz138_1,hcz138_2,hcz138_3,hfz138_0,hfz138_1,hfz138_2,hfz138_3⟩ := zc4 BK1124
              go_wp2_with (first | ((with_reducible refine gate_callee (f := 38) rfl ?_);refine zgl (some 63) Tryd.func38 #[.int .i64 t1123,.int .i64 1,.int .i64 2,.agg #[.int .i64 x1125000_24,.int .i64 x1125001_24,.int .i64 x1125002_24,.int .i64 x1125003_24]] ?_;(with_reducible refine (impl_MakeReply.calls kj24 t1123 1 2 x1125000_24 x1125001_24 x1125002_24 x1125003_24 t1125 t1126 t1127 t1128 t1129 t1130 t1131 t1132 t1133 _ ?side1 A38.out).mono ?_);(case side1 => exact HLD.out.on (zl_ HB));rintro e w139 ⟨rfl,hb⟩;refine ⟨_,rfl,?_⟩;replace BK1114 := zb BK1114 hb;replace BK1119 := zb BK1119 hb;replace BK1124 := zb BK1124 hb;replace HB := zs_ HB hb;(try clear hb);(try clear hb2);(try clear hk);(try clear hi)) | ((with_reducible refine gate_dst (N := 13) rfl ?_);(try (refine gate_guard (by rfl) ?_;dsimp only));refine zbx (N := 13) (cs := #[.int .i64 0,.int .i64 0,.int .i64 0,.int .i64 0,.int .i64 0,.int .i64 0,.int .i64 0,.string ⟨#[]⟩]) (t := 73) ?_;intro gb1134 hg w140 hbox hb;have BK1134 := am_ (hbox);have GW1134 := zw_ HB hg;have GE1134 := zw_ HB hg;replace HB := zs_ HB hb;have NB1114_1134 := zl hg BK1114;have NB1134_1114 := zg hg BK1114;replace BK1114 := zb BK1114 hb;have NB1119_1134 := zl hg BK1119;have NB1134_1119 := zg hg BK1119;replace BK1119 := zb BK1119 hb;have NB1124_1134 := zl hg BK1124;have NB1134_1124 := zg hg BK1124;replace BK1124 := zb BK1124 hb;clear hb hbox hg;have hnb141 := NB1134_1114.out;have hnc141 := NB1114_1134.out;have hnb142 := NB1134_1119.out;have hnc142 := NB1119_1134.out;have hnb143 := NB1134_1124.out;have hnc143 := NB1124_1134.out;obtain ⟨hcz144_0,hcz144_1,hcz144_2,hcz144_3,hcz144_4,hcz144_5,hcz144_6,hcz144_7,hfz144_0,hfz144_1,hfz144_2,hfz144_3,hfz144_4,hfz144_5,hfz144_6,hfz144_7⟩ := zc8 BK1134;obtain ⟨hcz145_0,hcz145_1,hcz145_2,hcz145_3,hfz145_0,hfz145_1,hfz145_2,hfz145_3⟩ := zc4 BK1124) | ((with_reducible refine gate_callee (f := 39) rfl ?_);refine zgl (some 69) Tryd.func39 #[.int .i64 t1123,.int .i64 1,.int .i64 2,.agg #[.int .i64 x1125000_24,.int .i64 x1125001_24,.int .i64 x1125002_24,.int .i64 x1125003_24]] ?_;(with_reducible refine (spec_MakeReply.calls kj24 t1123 1 2 x1125000_24 x1125001_24 x1125002_24 x1125003_24 t1135 t1136 t1137 t1138 t1139 t1140 t1141 t1142 t1143 _ A39.out).mono ?_);rintro e w146 ⟨rfl,hb⟩;refine ⟨_,rfl,?_⟩;replace BK1114 := am_ (blk_below (g := gb1114) (o := .cells #[.int .i64 t1110,.int .i64 t1111,.int .i64 t1112,.int .i64 t1113] 63 (0,0)) (zq BK1114) hb);replace BK1119 := am_ (blk_below (g := gb1119) (o := .cells #[.int .i64 t1115,.int .i64 t1116,.int .i64 t1117,.int .i64 t1118] 63 (0,0)) (zq BK1119) hb);replace BK1124 := am_ (blk_below (g := gb1124) (o := .cells #[.int .i64 x1125000_24,.int .i64 x1125001_24,.int .i64 x1125002_24,.int .i64 x1125003_24] 63 (0,0)) (zq BK1124) hb);replace BK1134 := am_ (blk_below (g := gb1134) (o := .cells #[.int .i64 t1125,.int .i64 t1126,.int .i64 t1127,.int .i64 t1128,.int .i64 t1129,.int .i64 t1130,.int .i64 t1131,.string t1132] 73 (0,0)) (zq BK1134) hb);replace HB := zs_ HB hb;(try clear hb);(try clear hb2);(try clear hk);(try clear hi)) | ((with_reducible refine gate_dst (N := 15) rfl ?_);(try (refine gate_guard (by rfl) ?_;dsimp only));refine zbx (N := 15) (cs := #[.int .i64 0,.int .i64 0,.int .i64 0,.int .i64 0,.int .i64 0,.int .i64 0,.int .i64 0,.string ⟨#[]⟩]) (t := 73) ?_;intro gb1144 hg w147 hbox hb;have BK1144 := am_ (hbox);have GW1144 := zw_ HB hg;have GE1144 := zw_ HB hg;replace HB := zs_ HB hb;have NB1114_1144 := zl hg BK1114;have NB1144_1114 := zg hg BK1114;have NB1119_1144 := zl hg BK1119;have NB1144_1119 := zg hg BK1119;have NB1124_1144 := zl hg BK1124;have NB1144_1124 := zg hg BK1124;have NB1134_1144 := zl hg BK1134;have NB1144_1134 := zg hg BK1134;replace BK1134 := zb BK1134 hb;clear hb hbox hg;have hnb148 := NB1144_1114.out;have hnc148 := NB1114_1144.out;have hnb149 := NB1144_1119.out;have hnc149 := NB1119_1144.out;have hnb150 := NB1144_1124.out;have hnc150 := NB1124_1144.out;have hnb151 := NB1144_1134.out;have hnc151 := NB1134_1144.out;obtain ⟨hcz152_0,hcz152_1,hcz152_2,hcz152_3,hcz152_4,hcz152_5,hcz152_6,hcz152_7,hfz152_0,hfz152_1,hfz152_2,hfz152_3,hfz152_4,hfz152_5,hfz152_6,hfz152_7⟩ := zc8 BK1144;obtain ⟨hcz153_0,hcz153_1,hcz153_2,hcz153_3,hcz153_4,hcz153_5,hcz153_6,hcz153_7,hfz153_0,hfz153_1,hfz153_2,hfz153_3,hfz153_4,hfz153_5,hfz153_6,hfz153_7⟩ := zc8 BK1134) | ((with_reducible refine gate_callee (f := 40) rfl ?_);refine zgl (some 74) Tryd.func40 #[.agg #[.int .i64 t1125,.int .i64 t1126,.int .i64 t1127,.int .i64 t1128,.int .i64 t1129,.int .i64 t1130,.int .i64 t1131,.string t1132]] ?_;(with_reducible refine (impl_ReplyMac.calls kj24 t1125 t1126 t1127 t1128 t1129 t1130 t1131 t1132 t1145 t1146 _ ?side1 A40.out).mono ?_);(case side1 => exact HLD.out.on (zl_ HB));rintro e w154 ⟨rfl,hb⟩;refine ⟨_,rfl,?_⟩;replace BK1134 := am_ (blk_below (g := gb1134) (o := .cells #[.int .i64 t1125,.int .i64 t1126,.int .i64 t1127,.int .i64 t1128,.int .i64 t1129,.int .i64 t1130,.int .i64 t1131,.string t1132] 73 (0,0)) (zq BK1134) hb);replace BK1144 := am_ (blk_below (g := gb1144) (o := .cells #[.int .i64 t1135,.int .i64 t1136,.int .i64 t1137,.int .i64 t1138,.int .i64 t1139,.int .i64 t1140,.int .i64 t1141,.string t1142] 73 (0,0)) (zq BK1144) hb);replace HB := zs_ HB hb;(try clear hb);(try clear hb2);(try clear hk);(try clear hi);obtain ⟨hcz155_0,hcz155_1,hcz155_2,hcz155_3,hcz155_4,hcz155_5,hcz155_6,hcz155_7,hfz155_0,hfz155_1,hfz155_2,hfz155_3,hfz155_4,hfz155_5,hfz155_6,hfz155_7⟩ := zc8 BK1134;obtain ⟨hcz156_0,hcz156_1,hcz156_2,hcz156_3,hcz156_4,hcz156_5,hcz156_6,hcz156_7,hfz156_0,hfz156_1,hfz156_2,hfz156_3,hfz156_4,hfz156_5,hfz156_6,hfz156_7⟩ := zc8 BK1144))
              go_ret
              exact ⟨zt_,zl_ HB⟩
           ·rw [if_neg c41] at H
            have c41b0 : (t1133 == 0) = false := beq_eq_false_iff_ne.mpr c41
            have c41b1 : (t1133 != 0) = true := bne_iff_ne.mpr c41
            obtain rfl := Option.some.inj H
            have hnb157 := NB1124_1114.out
            have hnc157 := NB1114_1124.out
            have hnb158 := NB1124_1119.out
            have hnc158 := NB1119_1124.out
            obtain ⟨hcz159_0,hcz159_1,hcz159_2,hcz159_3,hfz159_0,hfz159_1,hfz159_2,hfz159_3⟩ := zc4 BK1124
            go_wp2_with (first | ((with_reducible refine gate_callee (f := 38) rfl ?_);refine zgl (some 63) Tryd.func38 #[.int .i64 t1123,.int .i64 1,.int .i64 2,.agg #[.int .i64 x1125000_24,.int .i64 x1125001_24,.int .i64 x1125002_24,.int .i64 x1125003_24]] ?_;(with_reducible refine (impl_MakeReply.calls kj24 t1123 1 2 x1125000_24 x1125001_24 x1125002_24 x1125003_24 t1125 t1126 t1127 t1128 t1129 t1130 t1131 t1132 t1133 _ ?side1 A38.out).mono ?_);(case side1 => exact HLD.out.on (zl_ HB));rintro e w160 ⟨rfl,hb⟩;refine ⟨_,rfl,?_⟩;replace BK1114 := zb BK1114 hb;replace BK1119 := zb BK1119 hb;replace BK1124 := zb BK1124 hb;replace HB := zs_ HB hb;(try clear hb);(try clear hb2);(try clear hk);(try clear hi)) | ((with_reducible refine gate_dst (N := 13) rfl ?_);(try (refine gate_guard (by rfl) ?_;dsimp only));refine zbx (N := 13) (cs := #[.int .i64 0,.int .i64 0,.int .i64 0,.int .i64 0,.int .i64 0,.int .i64 0,.int .i64 0,.string ⟨#[]⟩]) (t := 73) ?_;intro gb1134 hg w161 hbox hb;have BK1134 := am_ (hbox);have GW1134 := zw_ HB hg;have GE1134 := zw_ HB hg;replace HB := zs_ HB hb;have NB1114_1134 := zl hg BK1114;have NB1134_1114 := zg hg BK1114;replace BK1114 := zb BK1114 hb;have NB1119_1134 := zl hg BK1119;have NB1134_1119 := zg hg BK1119;replace BK1119 := zb BK1119 hb;have NB1124_1134 := zl hg BK1124;have NB1134_1124 := zg hg BK1124;replace BK1124 := zb BK1124 hb;clear hb hbox hg;have hnb162 := NB1134_1114.out;have hnc162 := NB1114_1134.out;have hnb163 := NB1134_1119.out;have hnc163 := NB1119_1134.out;have hnb164 := NB1134_1124.out;have hnc164 := NB1124_1134.out;obtain ⟨hcz165_0,hcz165_1,hcz165_2,hcz165_3,hcz165_4,hcz165_5,hcz165_6,hcz165_7,hfz165_0,hfz165_1,hfz165_2,hfz165_3,hfz165_4,hfz165_5,hfz165_6,hfz165_7⟩ := zc8 BK1134;obtain ⟨hcz166_0,hcz166_1,hcz166_2,hcz166_3,hfz166_0,hfz166_1,hfz166_2,hfz166_3⟩ := zc4 BK1124) | ((with_reducible refine gate_callee (f := 39) rfl ?_);refine zgl (some 69) Tryd.func39 #[.int .i64 t1123,.int .i64 1,.int .i64 2,.agg #[.int .i64 x1125000_24,.int .i64 x1125001_24,.int .i64 x1125002_24,.int .i64 x1125003_24]] ?_;(with_reducible refine (spec_MakeReply.calls kj24 t1123 1 2 x1125000_24 x1125001_24 x1125002_24 x1125003_24 t1135 t1136 t1137 t1138 t1139 t1140 t1141 t1142 t1143 _ A39.out).mono ?_);rintro e w167 ⟨rfl,hb⟩;refine ⟨_,rfl,?_⟩;replace BK1114 := am_ (blk_below (g := gb1114) (o := .cells #[.int .i64 t1110,.int .i64 t1111,.int .i64 t1112,.int .i64 t1113] 63 (0,0)) (zq BK1114) hb);replace BK1119 := am_ (blk_below (g := gb1119) (o := .cells #[.int .i64 t1115,.int .i64 t1116,.int .i64 t1117,.int .i64 t1118] 63 (0,0)) (zq BK1119) hb);replace BK1124 := am_ (blk_below (g := gb1124) (o := .cells #[.int .i64 x1125000_24,.int .i64 x1125001_24,.int .i64 x1125002_24,.int .i64 x1125003_24] 63 (0,0)) (zq BK1124) hb);replace BK1134 := am_ (blk_below (g := gb1134) (o := .cells #[.int .i64 t1125,.int .i64 t1126,.int .i64 t1127,.int .i64 t1128,.int .i64 t1129,.int .i64 t1130,.int .i64 t1131,.string t1132] 73 (0,0)) (zq BK1134) hb);replace HB := zs_ HB hb;(try clear hb);(try clear hb2);(try clear hk);(try clear hi)) | ((with_reducible refine gate_dst (N := 15) rfl ?_);(try (refine gate_guard (by rfl) ?_;dsimp only));refine zbx (N := 15) (cs := #[.int .i64 0,.int .i64 0,.int .i64 0,.int .i64 0,.int .i64 0,.int .i64 0,.int .i64 0,.string ⟨#[]⟩]) (t := 73) ?_;intro gb1144 hg w168 hbox hb;have BK1144 := am_ (hbox);have GW1144 := zw_ HB hg;have GE1144 := zw_ HB hg;replace HB := zs_ HB hb;have NB1114_1144 := zl hg BK1114;have NB1144_1114 := zg hg BK1114;have NB1119_1144 := zl hg BK1119;have NB1144_1119 := zg hg BK1119;have NB1124_1144 := zl hg BK1124;have NB1144_1124 := zg hg BK1124;have NB1134_1144 := zl hg BK1134;have NB1144_1134 := zg hg BK1134;replace BK1134 := zb BK1134 hb;clear hb hbox hg;have hnb169 := NB1144_1114.out;have hnc169 := NB1114_1144.out;have hnb170 := NB1144_1119.out;have hnc170 := NB1119_1144.out;have hnb171 := NB1144_1124.out;have hnc171 := NB1124_1144.out;have hnb172 := NB1144_1134.out;have hnc172 := NB1134_1144.out;obtain ⟨hcz173_0,hcz173_1,hcz173_2,hcz173_3,hcz173_4,hcz173_5,hcz173_6,hcz173_7,hfz173_0,hfz173_1,hfz173_2,hfz173_3,hfz173_4,hfz173_5,hfz173_6,hfz173_7⟩ := zc8 BK1144;obtain ⟨hcz174_0,hcz174_1,hcz174_2,hcz174_3,hcz174_4,hcz174_5,hcz174_6,hcz174_7,hfz174_0,hfz174_1,hfz174_2,hfz174_3,hfz174_4,hfz174_5,hfz174_6,hfz174_7⟩ := zc8 BK1134) | ((with_reducible refine gate_callee (f := 40) rfl ?_);refine zgl (some 74) Tryd.func40 #[.agg #[.int .i64 t1125,.int .i64 t1126,.int .i64 t1127,.int .i64 t1128,.int .i64 t1129,.int .i64 t1130,.int .i64 t1131,.string t1132]] ?_;(with_reducible refine (impl_ReplyMac.calls kj24 t1125 t1126 t1127 t1128 t1129 t1130 t1131 t1132 t1145 t1146 _ ?side1 A40.out).mono ?_);(case side1 => exact HLD.out.on (zl_ HB));rintro e w175 ⟨rfl,hb⟩;refine ⟨_,rfl,?_⟩;replace HB := zs_ HB hb;(try clear hb);(try clear hb2);(try clear hk);(try clear hi)))
            go_ret
            exact ⟨zt_,zl_ HB⟩
        ·rw [if_neg c23] at H
         have c23b0 : decide (x10_2 < 12) = false := decide_eq_false c23
         clear c23
         replace H := Option.bind_eq_some_iff.mp H
         obtain ⟨⟨t1151,t1152,t1153,t1154,t1155⟩,A1760,H⟩ := H
         try dsimp only at H
         have A176 := am_ A1760
         clear A1760
         replace H := Option.bind_eq_some_iff.mp H
         obtain ⟨⟨t1157,t1158,t1159,t1160,t1161⟩,A1770,H⟩ := H
         try dsimp only at H
         have A177 := am_ A1770
         clear A1770
         replace H := Option.bind_eq_some_iff.mp H
         obtain ⟨⟨t1163,t1164,t1165,t1166,t1167⟩,A1780,H⟩ := H
         try dsimp only at H
         have A178 := am_ A1780
         clear A1780
         by_cases c179 : t1155 = t1161
         ·rw [if_pos c179] at H
          have c179b0 : (t1155 == t1161) = true := beq_iff_eq.mpr c179
          have c179b1 : (t1155 != t1161) = false := bne_eq_false_iff_eq.mpr c179
          clear c179
          by_cases c180 : (!(t1151 == t1157) || (!(t1152 == t1158) || (!(t1153 == t1159) || (!(t1154 == t1160))))) = true
          ·rw [if_pos c180] at H
           have c180k := am_ c180
           have c180b0 : (!(t1151 == t1157) || (!(t1152 == t1158) || (!(t1153 == t1159) || (!(t1154 == t1160))))) = true := c180k.out
           (try simp only [*,Bool.not_true,Bool.not_false,Bool.false_or,Bool.true_or,Bool.or_false,Bool.or_true,Bool.true_and,Bool.and_true,Bool.false_and,Bool.and_false] at c180)
           have c180bs := c180
           clear c180k
           clear c180
           obtain rfl := Option.some.inj H
           obtain ⟨Ao181,co181,eo181⟩ := Kd.R_slice HO_9.out
           subst eo181
           go_wp2_with (first | ((with_reducible refine gate_callee (f := 34) rfl ?_);refine zgl (some 107) Tryd.func34 #[.int .i64 (rd y1105 t1108),.int .i64 1,.int .i64 2,.slice Ao181 x9_2.length co181] ?_;(with_reducible refine (impl_CountReplies.calls k2 (rd y1105 t1108) 1 2 _ _ x9_2 t1151 t1152 t1153 t1154 t1155 _ ?side1 ?side2 ?side3 A176.out).mono ?_);(case side1 => repeat (first | exact (Kd.R_reads' HO_9.out).2.2 | (with_reducible refine Kd.C_alloc ?_ _) | (with_reducible refine Kd.C_drewN ?_ _) | (with_reducible refine Kd.C_drew ?_)));(case side2 => exact (Kd.R_reads' HO_9.out).2.1);(case side3 => exact HLD.out.on (zl_ HB));rintro e w182 ⟨rfl,hb⟩;refine ⟨_,rfl,?_⟩;replace HO_9 := zrb HO_9 hb;replace BK1114 := zb BK1114 hb;replace BK1119 := zb BK1119 hb;replace HB := zs_ HB hb;(try clear hb);(try clear hb2);(try clear hk);(try clear hi)) | ((with_reducible refine gate_dst (N := 19) rfl ?_);(try (refine gate_guard (by rfl) ?_;dsimp only));refine zbx (N := 19) (cs := #[.int .i64 0,.int .i64 0,.int .i64 0,.int .i64 0]) (t := 63) ?_;intro gb1156 hg w183 hbox hb;replace HO_9 := zrb HO_9 hb;have BK1156 := am_ (hbox);have GW1156 := zw_ HB hg;have GE1156 := zw_ HB hg;replace HB := zs_ HB hb;have NB1114_1156 := zl hg BK1114;have NB1156_1114 := zg hg BK1114;replace BK1114 := zb BK1114 hb;have NB1119_1156 := zl hg BK1119;have NB1156_1119 := zg hg BK1119;replace BK1119 := zb BK1119 hb;clear hb hbox hg;have hnb184 := NB1156_1114.out;have hnc184 := NB1114_1156.out;have hnb185 := NB1156_1119.out;have hnc185 := NB1119_1156.out;obtain ⟨hcz186_0,hcz186_1,hcz186_2,hcz186_3,hfz186_0,hfz186_1,hfz186_2,hfz186_3⟩ := zc4 BK1156) | ((with_reducible refine gate_callee (f := 32) rfl ?_);refine zgl (some 113) Tryd.func32 #[.int .i64 (rd y1105 t1108),.int .i64 1,.int .i64 2,.slice Ao181 x9_2.length co181] ?_;(with_reducible refine (spec_CountReplies.calls k2 (rd y1105 t1108) 1 2 _ _ x9_2 t1157 t1158 t1159 t1160 t1161 _ ?side1 ?side2 A177.out).mono ?_);(case side1 => refine (Kd.R_reads' (e := 73) (base := w.heap.size) (ok := fun k_ => True) (n := x9_2.length) (c := co181) ?_).2.2;exact (by (with_reducible repeat (first | apply r1_ | apply r2_ | apply r3_));exact (Kd.R_mono (zrf (Kd.R_types HO_9.out BK1156.out (by decide))) (fun _ h_ => h_.1))));(case side2 => exact (Kd.R_reads' HO_9.out).2.1);rintro e w187 ⟨rfl,hb⟩;refine ⟨_,rfl,?_⟩;replace HO_9 := am_ (Kd.R_below (by (with_reducible repeat (first | apply r1_ | apply r2_ | apply r3_));exact (Kd.R_mono (zrf (Kd.R_types HO_9.out BK1156.out (by decide))) (fun _ h_ => h_.1))) hb);replace BK1114 := am_ (blk_below (g := gb1114) (o := .cells #[.int .i64 t1110,.int .i64 t1111,.int .i64 t1112,.int .i64 t1113] 63 (0,0)) (zq BK1114) hb);replace BK1119 := am_ (blk_below (g := gb1119) (o := .cells #[.int .i64 t1115,.int .i64 t1116,.int .i64 t1117,.int .i64 t1118] 63 (0,0)) (zq BK1119) hb);replace BK1156 := am_ (blk_below (g := gb1156) (o := .cells #[.int .i64 t1151,.int .i64 t1152,.int .i64 t1153,.int .i64 t1154] 63 (0,0)) (zq BK1156) hb);replace HB := zs_ HB hb;(try clear hb);(try clear hb2);(try clear hk);(try clear hi)) | ((with_reducible refine gate_dst (N := 21) rfl ?_);(try (refine gate_guard (by rfl) ?_;dsimp only));refine zbx (N := 21) (cs := #[.int .i64 0,.int .i64 0,.int .i64 0,.int .i64 0]) (t := 63) ?_;intro gb1162 hg w188 hbox hb;replace HO_9 := zrb HO_9 hb;have BK1162 := am_ (hbox);have GW1162 := zw_ HB hg;have GE1162 := zw_ HB hg;replace HB := zs_ HB hb;have NB1114_1162 := zl hg BK1114;have NB1162_1114 := zg hg BK1114;replace BK1114 := zb BK1114 hb;have NB1119_1162 := zl hg BK1119;have NB1162_1119 := zg hg BK1119;replace BK1119 := zb BK1119 hb;have NB1156_1162 := zl hg BK1156;have NB1162_1156 := zg hg BK1156;replace BK1156 := zb BK1156 hb;clear hb hbox hg;have hnb189 := NB1162_1114.out;have hnc189 := NB1114_1162.out;have hnb190 := NB1162_1119.out;have hnc190 := NB1119_1162.out;have hnb191 := NB1162_1156.out;have hnc191 := NB1156_1162.out;obtain ⟨hcz192_0,hcz192_1,hcz192_2,hcz192_3,hfz192_0,hfz192_1,hfz192_2,hfz192_3⟩ := zc4 BK1162) | ((with_reducible refine gate_callee (f := 34) rfl ?_);refine zgl (some 119) Tryd.func34 #[.int .i64 (rd y1105 t1108),.int .i64 1,.int .i64 3,.slice Ao181 x9_2.length co181] ?_;(with_reducible refine (impl_CountReplies.calls k2 (rd y1105 t1108) 1 3 _ _ x9_2 t1163 t1164 t1165 t1166 t1167 _ ?side1 ?side2 ?side3 A178.out).mono ?_);(case side1 => refine (Kd.R_reads' (e := 73) (base := w.heap.size) (ok := fun k_ => True) (n := x9_2.length) (c := co181) ?_).2.2;exact (by (with_reducible repeat (first | apply r1_ | apply r2_ | apply r3_));exact (Kd.R_mono (zrf (Kd.R_types HO_9.out BK1162.out (by decide))) (fun _ h_ => h_.1))));(case side2 => exact (Kd.R_reads' HO_9.out).2.1);(case side3 => exact HLD.out.on (zl_ HB));rintro e w193 ⟨rfl,hb⟩;refine ⟨_,rfl,?_⟩;replace HO_9 := am_ (Kd.R_below (by (with_reducible repeat (first | apply r1_ | apply r2_ | apply r3_));exact (Kd.R_mono (zrf (Kd.R_types HO_9.out BK1162.out (by decide))) (fun _ h_ => h_.1))) hb);replace BK1114 := am_ (blk_below (g := gb1114) (o := .cells #[.int .i64 t1110,.int .i64 t1111,.int .i64 t1112,.int .i64 t1113] 63 (0,0)) (zq BK1114) hb);replace BK1119 := am_ (blk_below (g := gb1119) (o := .cells #[.int .i64 t1115,.int .i64 t1116,.int .i64 t1117,.int .i64 t1118] 63 (0,0)) (zq BK1119) hb);replace BK1156 := am_ (blk_below (g := gb1156) (o := .cells #[.int .i64 t1151,.int .i64 t1152,.int .i64 t1153,.int .i64 t1154] 63 (0,0)) (zq BK1156) hb);replace BK1162 := am_ (blk_below (g := gb1162) (o := .cells #[.int .i64 t1157,.int .i64 t1158,.int .i64 t1159,.int .i64 t1160] 63 (0,0)) (zq BK1162) hb);replace HB := zs_ HB hb;(try clear hb);(try clear hb2);(try clear hk);(try clear hi)) | ((with_reducible refine gate_dst (N := 23) rfl ?_);(try (refine gate_guard (by rfl) ?_;dsimp only));refine zbx (N := 23) (cs := #[.int .i64 0,.int .i64 0,.int .i64 0,.int .i64 0]) (t := 63) ?_;intro gb1168 hg w194 hbox hb;replace HO_9 := zrb HO_9 hb;have BK1168 := am_ (hbox);have GW1168 := zw_ HB hg;have GE1168 := zw_ HB hg;replace HB := zs_ HB hb;have NB1114_1168 := zl hg BK1114;have NB1168_1114 := zg hg BK1114;replace BK1114 := zb BK1114 hb;have NB1119_1168 := zl hg BK1119;have NB1168_1119 := zg hg BK1119;replace BK1119 := zb BK1119 hb;have NB1156_1168 := zl hg BK1156;have NB1168_1156 := zg hg BK1156;replace BK1156 := zb BK1156 hb;have NB1162_1168 := zl hg BK1162;have NB1168_1162 := zg hg BK1162;replace BK1162 := zb BK1162 hb;clear hb hbox hg;have hnb195 := NB1168_1114.out;have hnc195 := NB1114_1168.out;have hnb196 := NB1168_1119.out;have hnc196 := NB1119_1168.out;have hnb197 := NB1168_1156.out;have hnc197 := NB1156_1168.out;have hnb198 := NB1168_1162.out;have hnc198 := NB1162_1168.out;obtain ⟨hcz199_0,hcz199_1,hcz199_2,hcz199_3,hfz199_0,hfz199_1,hfz199_2,hfz199_3⟩ := zc4 BK1168;obtain ⟨hcz200_0,hcz200_1,hcz200_2,hcz200_3,hfz200_0,hfz200_1,hfz200_2,hfz200_3⟩ := zc4 BK1156;obtain ⟨hcz201_0,hcz201_1,hcz201_2,hcz201_3,hfz201_0,hfz201_1,hfz201_2,hfz201_3⟩ := zc4 BK1162))
           go_ret
           exact ⟨zt_,zl_ HB⟩
          ·rw [if_neg c180] at H
           have c180k := am_ c180
           have c180b0 : (!(t1151 == t1157) || (!(t1152 == t1158) || (!(t1153 == t1159) || (!(t1154 == t1160))))) = false := by simpa using c180k.out
           (try simp only [*,Bool.not_true,Bool.not_false,Bool.false_or,Bool.true_or,Bool.or_false,Bool.or_true,Bool.true_and,Bool.and_true,Bool.false_and,Bool.and_false] at c180)
           have c180bs := c180
           clear c180k
           clear c180
           by_cases c202 : t1167 = 19
           ·rw [if_pos c202] at H
            have c202b0 : (t1167 == 19) = true := beq_iff_eq.mpr c202
            have c202b1 : (t1167 != 19) = false := bne_eq_false_iff_eq.mpr c202
            clear c202
            by_cases c203 : t1155 = 19
            ·rw [if_pos c203] at H
             have c203b0 : (t1155 == 19) = true := beq_iff_eq.mpr c203
             have c203b1 : (t1155 != 19) = false := bne_eq_false_iff_eq.mpr c203
             clear c203
             obtain rfl := Option.some.inj H
             obtain ⟨Ao204,co204,eo204⟩ := Kd.R_slice HO_9.out
             subst eo204
             go_wp2_with (first | ((with_reducible refine gate_callee (f := 34) rfl ?_);refine zgl (some 107) Tryd.func34 #[.int .i64 (rd y1105 t1108),.int .i64 1,.int .i64 2,.slice Ao204 x9_2.length co204] ?_;(with_reducible refine (impl_CountReplies.calls k2 (rd y1105 t1108) 1 2 _ _ x9_2 t1151 t1152 t1153 t1154 t1155 _ ?side1 ?side2 ?side3 A176.out).mono ?_);(case side1 => repeat (first | exact (Kd.R_reads' HO_9.out).2.2 | (with_reducible refine Kd.C_alloc ?_ _) | (with_reducible refine Kd.C_drewN ?_ _) | (with_reducible refine Kd.C_drew ?_)));(case side2 => exact (Kd.R_reads' HO_9.out).2.1);(case side3 => exact HLD.out.on (zl_ HB));rintro e w205 ⟨rfl,hb⟩;refine ⟨_,rfl,?_⟩;replace HO_9 := zrb HO_9 hb;replace BK1114 := zb BK1114 hb;replace BK1119 := zb BK1119 hb;replace HB := zs_ HB hb;(try clear hb);(try clear hb2);(try clear hk);(try clear hi)) | ((with_reducible refine gate_dst (N := 19) rfl ?_);(try (refine gate_guard (by rfl) ?_;dsimp only));refine zbx (N := 19) (cs := #[.int .i64 0,.int .i64 0,.int .i64 0,.int .i64 0]) (t := 63) ?_;intro gb1156 hg w206 hbox hb;replace HO_9 := zrb HO_9 hb;have BK1156 := am_ (hbox);have GW1156 := zw_ HB hg;have GE1156 := zw_ HB hg;replace HB := zs_ HB hb;have NB1114_1156 := zl hg BK1114;have NB1156_1114 := zg hg BK1114;replace BK1114 := zb BK1114 hb;have NB1119_1156 := zl hg BK1119;have NB1156_1119 := zg hg BK1119;replace BK1119 := zb BK1119 hb;clear hb hbox hg;have hnb207 := NB1156_1114.out;have hnc207 := NB1114_1156.out;have hnb208 := NB1156_1119.out;have hnc208 := NB1119_1156.out;obtain ⟨hcz209_0,hcz209_1,hcz209_2,hcz209_3,hfz209_0,hfz209_1,hfz209_2,hfz209_3⟩ := zc4 BK1156) | ((with_reducible refine gate_callee (f := 32) rfl ?_);refine zgl (some 113) Tryd.func32 #[.int .i64 (rd y1105 t1108),.int .i64 1,.int .i64 2,.slice Ao204 x9_2.length co204] ?_;(with_reducible refine (spec_CountReplies.calls k2 (rd y1105 t1108) 1 2 _ _ x9_2 t1157 t1158 t1159 t1160 t1161 _ ?side1 ?side2 A177.out).mono ?_);(case side1 => refine (Kd.R_reads' (e := 73) (base := w.heap.size) (ok := fun k_ => True) (n := x9_2.length) (c := co204) ?_).2.2;exact (by (with_reducible repeat (first | apply r1_ | apply r2_ | apply r3_));exact (Kd.R_mono (zrf (Kd.R_types HO_9.out BK1156.out (by decide))) (fun _ h_ => h_.1))));(case side2 => exact (Kd.R_reads' HO_9.out).2.1);rintro e w210 ⟨rfl,hb⟩;refine ⟨_,rfl,?_⟩;replace HO_9 := am_ (Kd.R_below (by (with_reducible repeat (first | apply r1_ | apply r2_ | apply r3_));exact (Kd.R_mono (zrf (Kd.R_types HO_9.out BK1156.out (by decide))) (fun _ h_ => h_.1))) hb);replace BK1114 := am_ (blk_below (g := gb1114) (o := .cells #[.int .i64 t1110,.int .i64 t1111,.int .i64 t1112,.int .i64 t1113] 63 (0,0)) (zq BK1114) hb);replace BK1119 := am_ (blk_below (g := gb1119) (o := .cells #[.int .i64 t1115,.int .i64 t1116,.int .i64 t1117,.int .i64 t1118] 63 (0,0)) (zq BK1119) hb);replace BK1156 := am_ (blk_below (g := gb1156) (o := .cells #[.int .i64 t1151,.int .i64 t1152,.int .i64 t1153,.int .i64 t1154] 63 (0,0)) (zq BK1156) hb);replace HB := zs_ HB hb;(try clear hb);(try clear hb2);(try clear hk);(try clear hi)) | ((with_reducible refine gate_dst (N := 21) rfl ?_);(try (refine gate_guard (by rfl) ?_;dsimp only));refine zbx (N := 21) (cs := #[.int .i64 0,.int .i64 0,.int .i64 0,.int .i64 0]) (t := 63) ?_;intro gb1162 hg w211 hbox hb;replace HO_9 := zrb HO_9 hb;have BK1162 := am_ (hbox);have GW1162 := zw_ HB hg;have GE1162 := zw_ HB hg;replace HB := zs_ HB hb;have NB1114_1162 := zl hg BK1114;have NB1162_1114 := zg hg BK1114;replace BK1114 := zb BK1114 hb;have NB1119_1162 := zl hg BK1119;have NB1162_1119 := zg hg BK1119;replace BK1119 := zb BK1119 hb;have NB1156_1162 := zl hg BK1156;have NB1162_1156 := zg hg BK1156;replace BK1156 := zb BK1156 hb;clear hb hbox hg;have hnb212 := NB1162_1114.out;have hnc212 := NB1114_1162.out;have hnb213 := NB1162_1119.out;have hnc213 := NB1119_1162.out;have hnb214 := NB1162_1156.out;have hnc214 := NB1156_1162.out;obtain ⟨hcz215_0,hcz215_1,hcz215_2,hcz215_3,hfz215_0,hfz215_1,hfz215_2,hfz215_3⟩ := zc4 BK1162) | ((with_reducible refine gate_callee (f := 34) rfl ?_);refine zgl (some 119) Tryd.func34 #[.int .i64 (rd y1105 t1108),.int .i64 1,.int .i64 3,.slice Ao204 x9_2.length co204] ?_;(with_reducible refine (impl_CountReplies.calls k2 (rd y1105 t1108) 1 3 _ _ x9_2 t1163 t1164 t1165 t1166 t1167 _ ?side1 ?side2 ?side3 A178.out).mono ?_);(case side1 => refine (Kd.R_reads' (e := 73) (base := w.heap.size) (ok := fun k_ => True) (n := x9_2.length) (c := co204) ?_).2.2;exact (by (with_reducible repeat (first | apply r1_ | apply r2_ | apply r3_));exact (Kd.R_mono (zrf (Kd.R_types HO_9.out BK1162.out (by decide))) (fun _ h_ => h_.1))));(case side2 => exact (Kd.R_reads' HO_9.out).2.1);(case side3 => exact HLD.out.on (zl_ HB));rintro e w216 ⟨rfl,hb⟩;refine ⟨_,rfl,?_⟩;replace HO_9 := am_ (Kd.R_below (by (with_reducible repeat (first | apply r1_ | apply r2_ | apply r3_));exact (Kd.R_mono (zrf (Kd.R_types HO_9.out BK1162.out (by decide))) (fun _ h_ => h_.1))) hb);replace BK1114 := am_ (blk_below (g := gb1114) (o := .cells #[.int .i64 t1110,.int .i64 t1111,.int .i64 t1112,.int .i64 t1113] 63 (0,0)) (zq BK1114) hb);replace BK1119 := am_ (blk_below (g := gb1119) (o := .cells #[.int .i64 t1115,.int .i64 t1116,.int .i64 t1117,.int .i64 t1118] 63 (0,0)) (zq BK1119) hb);replace BK1156 := am_ (blk_below (g := gb1156) (o := .cells #[.int .i64 t1151,.int .i64 t1152,.int .i64 t1153,.int .i64 t1154] 63 (0,0)) (zq BK1156) hb);replace BK1162 := am_ (blk_below (g := gb1162) (o := .cells #[.int .i64 t1157,.int .i64 t1158,.int .i64 t1159,.int .i64 t1160] 63 (0,0)) (zq BK1162) hb);replace HB := zs_ HB hb;(try clear hb);(try clear hb2);(try clear hk);(try clear hi)) | ((with_reducible refine gate_dst (N := 23) rfl ?_);(try (refine gate_guard (by rfl) ?_;dsimp only));refine zbx (N := 23) (cs := #[.int .i64 0,.int .i64 0,.int .i64 0,.int .i64 0]) (t := 63) ?_;intro gb1168 hg w217 hbox hb;replace HO_9 := zrb HO_9 hb;have BK1168 := am_ (hbox);have GW1168 := zw_ HB hg;have GE1168 := zw_ HB hg;replace HB := zs_ HB hb;have NB1114_1168 := zl hg BK1114;have NB1168_1114 := zg hg BK1114;replace BK1114 := zb BK1114 hb;have NB1119_1168 := zl hg BK1119;have NB1168_1119 := zg hg BK1119;replace BK1119 := zb BK1119 hb;have NB1156_1168 := zl hg BK1156;have NB1168_1156 := zg hg BK1156;replace BK1156 := zb BK1156 hb;have NB1162_1168 := zl hg BK1162;have NB1168_1162 := zg hg BK1162;replace BK1162 := zb BK1162 hb;clear hb hbox hg;have hnb218 := NB1168_1114.out;have hnc218 := NB1114_1168.out;have hnb219 := NB1168_1119.out;have hnc219 := NB1119_1168.out;have hnb220 := NB1168_1156.out;have hnc220 := NB1156_1168.out;have hnb221 := NB1168_1162.out;have hnc221 := NB1162_1168.out;obtain ⟨hcz222_0,hcz222_1,hcz222_2,hcz222_3,hfz222_0,hfz222_1,hfz222_2,hfz222_3⟩ := zc4 BK1168;obtain ⟨hcz223_0,hcz223_1,hcz223_2,hcz223_3,hfz223_0,hfz223_1,hfz223_2,hfz223_3⟩ := zc4 BK1156;obtain ⟨hcz224_0,hcz224_1,hcz224_2,hcz224_3,hfz224_0,hfz224_1,hfz224_2,hfz224_3⟩ := zc4 BK1162))
             go_ret
             exact ⟨zt_,zl_ HB⟩
            ·rw [if_neg c203] at H
             have c203b0 : (t1155 == 19) = false := beq_eq_false_iff_ne.mpr c203
             have c203b1 : (t1155 != 19) = true := bne_iff_ne.mpr c203
             by_cases c225 : t1155 = 0
             ·rw [if_pos c225] at H
              have c225b0 : (t1155 == 0) = true := beq_iff_eq.mpr c225
              have c225b1 : (t1155 != 0) = false := bne_eq_false_iff_eq.mpr c225
              clear c225
              obtain rfl := Option.some.inj H
              obtain ⟨Ao226,co226,eo226⟩ := Kd.R_slice HO_9.out
              subst eo226
              go_wp2_with (first | ((with_reducible refine gate_callee (f := 34) rfl ?_);refine zgl (some 107) Tryd.func34 #[.int .i64 (rd y1105 t1108),.int .i64 1,.int .i64 2,.slice Ao226 x9_2.length co226] ?_;(with_reducible refine (impl_CountReplies.calls k2 (rd y1105 t1108) 1 2 _ _ x9_2 t1151 t1152 t1153 t1154 t1155 _ ?side1 ?side2 ?side3 A176.out).mono ?_);(case side1 => repeat (first | exact (Kd.R_reads' HO_9.out).2.2 | (with_reducible refine Kd.C_alloc ?_ _) | (with_reducible refine Kd.C_drewN ?_ _) | (with_reducible refine Kd.C_drew ?_)));(case side2 => exact (Kd.R_reads' HO_9.out).2.1);(case side3 => exact HLD.out.on (zl_ HB));rintro e w227 ⟨rfl,hb⟩;refine ⟨_,rfl,?_⟩;replace HO_9 := zrb HO_9 hb;replace BK1114 := zb BK1114 hb;replace BK1119 := zb BK1119 hb;replace HB := zs_ HB hb;(try clear hb);(try clear hb2);(try clear hk);(try clear hi)) | ((with_reducible refine gate_dst (N := 19) rfl ?_);(try (refine gate_guard (by rfl) ?_;dsimp only));refine zbx (N := 19) (cs := #[.int .i64 0,.int .i64 0,.int .i64 0,.int .i64 0]) (t := 63) ?_;intro gb1156 hg w228 hbox hb;replace HO_9 := zrb HO_9 hb;have BK1156 := am_ (hbox);have GW1156 := zw_ HB hg;have GE1156 := zw_ HB hg;replace HB := zs_ HB hb;have NB1114_1156 := zl hg BK1114;have NB1156_1114 := zg hg BK1114;replace BK1114 := zb BK1114 hb;have NB1119_1156 := zl hg BK1119;have NB1156_1119 := zg hg BK1119;replace BK1119 := zb BK1119 hb;clear hb hbox hg;have hnb229 := NB1156_1114.out;have hnc229 := NB1114_1156.out;have hnb230 := NB1156_1119.out;have hnc230 := NB1119_1156.out;obtain ⟨hcz231_0,hcz231_1,hcz231_2,hcz231_3,hfz231_0,hfz231_1,hfz231_2,hfz231_3⟩ := zc4 BK1156) | ((with_reducible refine gate_callee (f := 32) rfl ?_);refine zgl (some 113) Tryd.func32 #[.int .i64 (rd y1105 t1108),.int .i64 1,.int .i64 2,.slice Ao226 x9_2.length co226] ?_;(with_reducible refine (spec_CountReplies.calls k2 (rd y1105 t1108) 1 2 _ _ x9_2 t1157 t1158 t1159 t1160 t1161 _ ?side1 ?side2 A177.out).mono ?_);(case side1 => refine (Kd.R_reads' (e := 73) (base := w.heap.size) (ok := fun k_ => True) (n := x9_2.length) (c := co226) ?_).2.2;exact (by (with_reducible repeat (first | apply r1_ | apply r2_ | apply r3_));exact (Kd.R_mono (zrf (Kd.R_types HO_9.out BK1156.out (by decide))) (fun _ h_ => h_.1))));(case side2 => exact (Kd.R_reads' HO_9.out).2.1);rintro e w232 ⟨rfl,hb⟩;refine ⟨_,rfl,?_⟩;replace HO_9 := am_ (Kd.R_below (by (with_reducible repeat (first | apply r1_ | apply r2_ | apply r3_));exact (Kd.R_mono (zrf (Kd.R_types HO_9.out BK1156.out (by decide))) (fun _ h_ => h_.1))) hb);replace BK1114 := am_ (blk_below (g := gb1114) (o := .cells #[.int .i64 t1110,.int .i64 t1111,.int .i64 t1112,.int .i64 t1113] 63 (0,0)) (zq BK1114) hb);replace BK1119 := am_ (blk_below (g := gb1119) (o := .cells #[.int .i64 t1115,.int .i64 t1116,.int .i64 t1117,.int .i64 t1118] 63 (0,0)) (zq BK1119) hb);replace BK1156 := am_ (blk_below (g := gb1156) (o := .cells #[.int .i64 t1151,.int .i64 t1152,.int .i64 t1153,.int .i64 t1154] 63 (0,0)) (zq BK1156) hb);replace HB := zs_ HB hb;(try clear hb);(try clear hb2);(try clear hk);(try clear hi)) | ((with_reducible refine gate_dst (N := 21) rfl ?_);(try (refine gate_guard (by rfl) ?_;dsimp only));refine zbx (N := 21) (cs := #[.int .i64 0,.int .i64 0,.int .i64 0,.int .i64 0]) (t := 63) ?_;intro gb1162 hg w233 hbox hb;replace HO_9 := zrb HO_9 hb;have BK1162 := am_ (hbox);have GW1162 := zw_ HB hg;have GE1162 := zw_ HB hg;replace HB := zs_ HB hb;have NB1114_1162 := zl hg BK1114;have NB1162_1114 := zg hg BK1114;replace BK1114 := zb BK1114 hb;have NB1119_1162 := zl hg BK1119;have NB1162_1119 := zg hg BK1119;replace BK1119 := zb BK1119 hb;have NB1156_1162 := zl hg BK1156;have NB1162_1156 := zg hg BK1156;replace BK1156 := zb BK1156 hb;clear hb hbox hg;have hnb234 := NB1162_1114.out;have hnc234 := NB1114_1162.out;have hnb235 := NB1162_1119.out;have hnc235 := NB1119_1162.out;have hnb236 := NB1162_1156.out;have hnc236 := NB1156_1162.out;obtain ⟨hcz237_0,hcz237_1,hcz237_2,hcz237_3,hfz237_0,hfz237_1,hfz237_2,hfz237_3⟩ := zc4 BK1162) | ((with_reducible refine gate_callee (f := 34) rfl ?_);refine zgl (some 119) Tryd.func34 #[.int .i64 (rd y1105 t1108),.int .i64 1,.int .i64 3,.slice Ao226 x9_2.length co226] ?_;(with_reducible refine (impl_CountReplies.calls k2 (rd y1105 t1108) 1 3 _ _ x9_2 t1163 t1164 t1165 t1166 t1167 _ ?side1 ?side2 ?side3 A178.out).mono ?_);(case side1 => refine (Kd.R_reads' (e := 73) (base := w.heap.size) (ok := fun k_ => True) (n := x9_2.length) (c := co226) ?_).2.2;exact (by (with_reducible repeat (first | apply r1_ | apply r2_ | apply r3_));exact (Kd.R_mono (zrf (Kd.R_types HO_9.out BK1162.out (by decide))) (fun _ h_ => h_.1))));(case side2 => exact (Kd.R_reads' HO_9.out).2.1);(case side3 => exact HLD.out.on (zl_ HB));rintro e w238 ⟨rfl,hb⟩;refine ⟨_,rfl,?_⟩;replace HO_9 := am_ (Kd.R_below (by (with_reducible repeat (first | apply r1_ | apply r2_ | apply r3_));exact (Kd.R_mono (zrf (Kd.R_types HO_9.out BK1162.out (by decide))) (fun _ h_ => h_.1))) hb);replace BK1114 := am_ (blk_below (g := gb1114) (o := .cells #[.int .i64 t1110,.int .i64 t1111,.int .i64 t1112,.int .i64 t1113] 63 (0,0)) (zq BK1114) hb);replace BK1119 := am_ (blk_below (g := gb1119) (o := .cells #[.int .i64 t1115,.int .i64 t1116,.int .i64 t1117,.int .i64 t1118] 63 (0,0)) (zq BK1119) hb);replace BK1156 := am_ (blk_below (g := gb1156) (o := .cells #[.int .i64 t1151,.int .i64 t1152,.int .i64 t1153,.int .i64 t1154] 63 (0,0)) (zq BK1156) hb);replace BK1162 := am_ (blk_below (g := gb1162) (o := .cells #[.int .i64 t1157,.int .i64 t1158,.int .i64 t1159,.int .i64 t1160] 63 (0,0)) (zq BK1162) hb);replace HB := zs_ HB hb;(try clear hb);(try clear hb2);(try clear hk);(try clear hi)) | ((with_reducible refine gate_dst (N := 23) rfl ?_);(try (refine gate_guard (by rfl) ?_;dsimp only));refine zbx (N := 23) (cs := #[.int .i64 0,.int .i64 0,.int .i64 0,.int .i64 0]) (t := 63) ?_;intro gb1168 hg w239 hbox hb;replace HO_9 := zrb HO_9 hb;have BK1168 := am_ (hbox);have GW1168 := zw_ HB hg;have GE1168 := zw_ HB hg;replace HB := zs_ HB hb;have NB1114_1168 := zl hg BK1114;have NB1168_1114 := zg hg BK1114;replace BK1114 := zb BK1114 hb;have NB1119_1168 := zl hg BK1119;have NB1168_1119 := zg hg BK1119;replace BK1119 := zb BK1119 hb;have NB1156_1168 := zl hg BK1156;have NB1168_1156 := zg hg BK1156;replace BK1156 := zb BK1156 hb;have NB1162_1168 := zl hg BK1162;have NB1168_1162 := zg hg BK1162;replace BK1162 := zb BK1162 hb;clear hb hbox hg;have hnb240 := NB1168_1114.out;have hnc240 := NB1114_1168.out;have hnb241 := NB1168_1119.out;have hnc241 := NB1119_1168.out;have hnb242 := NB1168_1156.out;have hnc242 := NB1156_1168.out;have hnb243 := NB1168_1162.out;have hnc243 := NB1162_1168.out;obtain ⟨hcz244_0,hcz244_1,hcz244_2,hcz244_3,hfz244_0,hfz244_1,hfz244_2,hfz244_3⟩ := zc4 BK1168;obtain ⟨hcz245_0,hcz245_1,hcz245_2,hcz245_3,hfz245_0,hfz245_1,hfz245_2,hfz245_3⟩ := zc4 BK1156;obtain ⟨hcz246_0,hcz246_1,hcz246_2,hcz246_3,hfz246_0,hfz246_1,hfz246_2,hfz246_3⟩ := zc4 BK1162;have hnb247 := NB1114_1119.out;have hnc247 := NB1119_1114.out;obtain ⟨hcz248_0,hcz248_1,hcz248_2,hcz248_3,hfz248_0,hfz248_1,hfz248_2,hfz248_3⟩ := zc4 BK1114))
              go_ret
              exact ⟨zt_,zl_ HB⟩
             ·rw [if_neg c225] at H
              have c225b0 : (t1155 == 0) = false := beq_eq_false_iff_ne.mpr c225
              have c225b1 : (t1155 != 0) = true := bne_iff_ne.mpr c225
              obtain rfl := Option.some.inj H
              obtain ⟨Ao249,co249,eo249⟩ := Kd.R_slice HO_9.out
              subst eo249
              go_wp2_with (first | ((with_reducible refine gate_callee (f := 34) rfl ?_);refine zgl (some 107) Tryd.func34 #[.int .i64 (rd y1105 t1108),.int .i64 1,.int .i64 2,.slice Ao249 x9_2.length co249] ?_;(with_reducible refine (impl_CountReplies.calls k2 (rd y1105 t1108) 1 2 _ _ x9_2 t1151 t1152 t1153 t1154 t1155 _ ?side1 ?side2 ?side3 A176.out).mono ?_);(case side1 => repeat (first | exact (Kd.R_reads' HO_9.out).2.2 | (with_reducible refine Kd.C_alloc ?_ _) | (with_reducible refine Kd.C_drewN ?_ _) | (with_reducible refine Kd.C_drew ?_)));(case side2 => exact (Kd.R_reads' HO_9.out).2.1);(case side3 => exact HLD.out.on (zl_ HB));rintro e w250 ⟨rfl,hb⟩;refine ⟨_,rfl,?_⟩;replace HO_9 := zrb HO_9 hb;replace BK1114 := zb BK1114 hb;replace BK1119 := zb BK1119 hb;replace HB := zs_ HB hb;(try clear hb);(try clear hb2);(try clear hk);(try clear hi)) | ((with_reducible refine gate_dst (N := 19) rfl ?_);(try (refine gate_guard (by rfl) ?_;dsimp only));refine zbx (N := 19) (cs := #[.int .i64 0,.int .i64 0,.int .i64 0,.int .i64 0]) (t := 63) ?_;intro gb1156 hg w251 hbox hb;replace HO_9 := zrb HO_9 hb;have BK1156 := am_ (hbox);have GW1156 := zw_ HB hg;have GE1156 := zw_ HB hg;replace HB := zs_ HB hb;have NB1114_1156 := zl hg BK1114;have NB1156_1114 := zg hg BK1114;replace BK1114 := zb BK1114 hb;have NB1119_1156 := zl hg BK1119;have NB1156_1119 := zg hg BK1119;replace BK1119 := zb BK1119 hb;clear hb hbox hg;have hnb252 := NB1156_1114.out;have hnc252 := NB1114_1156.out;have hnb253 := NB1156_1119.out;have hnc253 := NB1119_1156.out;obtain ⟨hcz254_0,hcz254_1,hcz254_2,hcz254_3,hfz254_0,hfz254_1,hfz254_2,hfz254_3⟩ := zc4 BK1156) | ((with_reducible refine gate_callee (f := 32) rfl ?_);refine zgl (some 113) Tryd.func32 #[.int .i64 (rd y1105 t1108),.int .i64 1,.int .i64 2,.slice Ao249 x9_2.length co249] ?_;(with_reducible refine (spec_CountReplies.calls k2 (rd y1105 t1108) 1 2 _ _ x9_2 t1157 t1158 t1159 t1160 t1161 _ ?side1 ?side2 A177.out).mono ?_);(case side1 => refine (Kd.R_reads' (e := 73) (base := w.heap.size) (ok := fun k_ => True) (n := x9_2.length) (c := co249) ?_).2.2;exact (by (with_reducible repeat (first | apply r1_ | apply r2_ | apply r3_));exact (Kd.R_mono (zrf (Kd.R_types HO_9.out BK1156.out (by decide))) (fun _ h_ => h_.1))));(case side2 => exact (Kd.R_reads' HO_9.out).2.1);rintro e w255 ⟨rfl,hb⟩;refine ⟨_,rfl,?_⟩;replace HO_9 := am_ (Kd.R_below (by (with_reducible repeat (first | apply r1_ | apply r2_ | apply r3_));exact (Kd.R_mono (zrf (Kd.R_types HO_9.out BK1156.out (by decide))) (fun _ h_ => h_.1))) hb);replace BK1114 := am_ (blk_below (g := gb1114) (o := .cells #[.int .i64 t1110,.int .i64 t1111,.int .i64 t1112,.int .i64 t1113] 63 (0,0)) (zq BK1114) hb);replace BK1119 := am_ (blk_below (g := gb1119) (o := .cells #[.int .i64 t1115,.int .i64 t1116,.int .i64 t1117,.int .i64 t1118] 63 (0,0)) (zq BK1119) hb);replace BK1156 := am_ (blk_below (g := gb1156) (o := .cells #[.int .i64 t1151,.int .i64 t1152,.int .i64 t1153,.int .i64 t1154] 63 (0,0)) (zq BK1156) hb);replace HB := zs_ HB hb;(try clear hb);(try clear hb2);(try clear hk);(try clear hi)) | ((with_reducible refine gate_dst (N := 21) rfl ?_);(try (refine gate_guard (by rfl) ?_;dsimp only));refine zbx (N := 21) (cs := #[.int .i64 0,.int .i64 0,.int .i64 0,.int .i64 0]) (t := 63) ?_;intro gb1162 hg w256 hbox hb;replace HO_9 := zrb HO_9 hb;have BK1162 := am_ (hbox);have GW1162 := zw_ HB hg;have GE1162 := zw_ HB hg;replace HB := zs_ HB hb;have NB1114_1162 := zl hg BK1114;have NB1162_1114 := zg hg BK1114;replace BK1114 := zb BK1114 hb;have NB1119_1162 := zl hg BK1119;have NB1162_1119 := zg hg BK1119;replace BK1119 := zb BK1119 hb;have NB1156_1162 := zl hg BK1156;have NB1162_1156 := zg hg BK1156;replace BK1156 := zb BK1156 hb;clear hb hbox hg;have hnb257 := NB1162_1114.out;have hnc257 := NB1114_1162.out;have hnb258 := NB1162_1119.out;have hnc258 := NB1119_1162.out;have hnb259 := NB1162_1156.out;have hnc259 := NB1156_1162.out;obtain ⟨hcz260_0,hcz260_1,hcz260_2,hcz260_3,hfz260_0,hfz260_1,hfz260_2,hfz260_3⟩ := zc4 BK1162) | ((with_reducible refine gate_callee (f := 34) rfl ?_);refine zgl (some 119) Tryd.func34 #[.int .i64 (rd y1105 t1108),.int .i64 1,.int .i64 3,.slice Ao249 x9_2.length co249] ?_;(with_reducible refine (impl_CountReplies.calls k2 (rd y1105 t1108) 1 3 _ _ x9_2 t1163 t1164 t1165 t1166 t1167 _ ?side1 ?side2 ?side3 A178.out).mono ?_);(case side1 => refine (Kd.R_reads' (e := 73) (base := w.heap.size) (ok := fun k_ => True) (n := x9_2.length) (c := co249) ?_).2.2;exact (by (with_reducible repeat (first | apply r1_ | apply r2_ | apply r3_));exact (Kd.R_mono (zrf (Kd.R_types HO_9.out BK1162.out (by decide))) (fun _ h_ => h_.1))));(case side2 => exact (Kd.R_reads' HO_9.out).2.1);(case side3 => exact HLD.out.on (zl_ HB));rintro e w261 ⟨rfl,hb⟩;refine ⟨_,rfl,?_⟩;replace BK1114 := am_ (blk_below (g := gb1114) (o := .cells #[.int .i64 t1110,.int .i64 t1111,.int .i64 t1112,.int .i64 t1113] 63 (0,0)) (zq BK1114) hb);replace BK1119 := am_ (blk_below (g := gb1119) (o := .cells #[.int .i64 t1115,.int .i64 t1116,.int .i64 t1117,.int .i64 t1118] 63 (0,0)) (zq BK1119) hb);replace BK1156 := am_ (blk_below (g := gb1156) (o := .cells #[.int .i64 t1151,.int .i64 t1152,.int .i64 t1153,.int .i64 t1154] 63 (0,0)) (zq BK1156) hb);replace BK1162 := am_ (blk_below (g := gb1162) (o := .cells #[.int .i64 t1157,.int .i64 t1158,.int .i64 t1159,.int .i64 t1160] 63 (0,0)) (zq BK1162) hb);replace HB := zs_ HB hb;(try clear hb);(try clear hb2);(try clear hk);(try clear hi)) | ((with_reducible refine gate_dst (N := 23) rfl ?_);(try (refine gate_guard (by rfl) ?_;dsimp only));refine zbx (N := 23) (cs := #[.int .i64 0,.int .i64 0,.int .i64 0,.int .i64 0]) (t := 63) ?_;intro gb1168 hg w262 hbox hb;have BK1168 := am_ (hbox);have GW1168 := zw_ HB hg;have GE1168 := zw_ HB hg;replace HB := zs_ HB hb;have NB1114_1168 := zl hg BK1114;have NB1168_1114 := zg hg BK1114;have NB1119_1168 := zl hg BK1119;have NB1168_1119 := zg hg BK1119;have NB1156_1168 := zl hg BK1156;have NB1168_1156 := zg hg BK1156;replace BK1156 := zb BK1156 hb;have NB1162_1168 := zl hg BK1162;have NB1168_1162 := zg hg BK1162;replace BK1162 := zb BK1162 hb;clear hb hbox hg;have hnb263 := NB1168_1114.out;have hnc263 := NB1114_1168.out;have hnb264 := NB1168_1119.out;have hnc264 := NB1119_1168.out;have hnb265 := NB1168_1156.out;have hnc265 := NB1156_1168.out;have hnb266 := NB1168_1162.out;have hnc266 := NB1162_1168.out;obtain ⟨hcz267_0,hcz267_1,hcz267_2,hcz267_3,hfz267_0,hfz267_1,hfz267_2,hfz267_3⟩ := zc4 BK1168;obtain ⟨hcz268_0,hcz268_1,hcz268_2,hcz268_3,hfz268_0,hfz268_1,hfz268_2,hfz268_3⟩ := zc4 BK1156;obtain ⟨hcz269_0,hcz269_1,hcz269_2,hcz269_3,hfz269_0,hfz269_1,hfz269_2,hfz269_3⟩ := zc4 BK1162))
              go_ret
              exact ⟨zt_,zl_ HB⟩
           ·rw [if_neg c202] at H
            have c202b0 : (t1167 == 19) = false := beq_eq_false_iff_ne.mpr c202
            have c202b1 : (t1167 != 19) = true := bne_iff_ne.mpr c202
            obtain rfl := Option.some.inj H
            obtain ⟨Ao270,co270,eo270⟩ := Kd.R_slice HO_9.out
            subst eo270
            go_wp2_with (first | ((with_reducible refine gate_callee (f := 34) rfl ?_);refine zgl (some 107) Tryd.func34 #[.int .i64 (rd y1105 t1108),.int .i64 1,.int .i64 2,.slice Ao270 x9_2.length co270] ?_;(with_reducible refine (impl_CountReplies.calls k2 (rd y1105 t1108) 1 2 _ _ x9_2 t1151 t1152 t1153 t1154 t1155 _ ?side1 ?side2 ?side3 A176.out).mono ?_);(case side1 => repeat (first | exact (Kd.R_reads' HO_9.out).2.2 | (with_reducible refine Kd.C_alloc ?_ _) | (with_reducible refine Kd.C_drewN ?_ _) | (with_reducible refine Kd.C_drew ?_)));(case side2 => exact (Kd.R_reads' HO_9.out).2.1);(case side3 => exact HLD.out.on (zl_ HB));rintro e w271 ⟨rfl,hb⟩;refine ⟨_,rfl,?_⟩;replace HO_9 := zrb HO_9 hb;replace BK1114 := zb BK1114 hb;replace BK1119 := zb BK1119 hb;replace HB := zs_ HB hb;(try clear hb);(try clear hb2);(try clear hk);(try clear hi)) | ((with_reducible refine gate_dst (N := 19) rfl ?_);(try (refine gate_guard (by rfl) ?_;dsimp only));refine zbx (N := 19) (cs := #[.int .i64 0,.int .i64 0,.int .i64 0,.int .i64 0]) (t := 63) ?_;intro gb1156 hg w272 hbox hb;replace HO_9 := zrb HO_9 hb;have BK1156 := am_ (hbox);have GW1156 := zw_ HB hg;have GE1156 := zw_ HB hg;replace HB := zs_ HB hb;have NB1114_1156 := zl hg BK1114;have NB1156_1114 := zg hg BK1114;replace BK1114 := zb BK1114 hb;have NB1119_1156 := zl hg BK1119;have NB1156_1119 := zg hg BK1119;replace BK1119 := zb BK1119 hb;clear hb hbox hg;have hnb273 := NB1156_1114.out;have hnc273 := NB1114_1156.out;have hnb274 := NB1156_1119.out;have hnc274 := NB1119_1156.out;obtain ⟨hcz275_0,hcz275_1,hcz275_2,hcz275_3,hfz275_0,hfz275_1,hfz275_2,hfz275_3⟩ := zc4 BK1156) | ((with_reducible refine gate_callee (f := 32) rfl ?_);refine zgl (some 113) Tryd.func32 #[.int .i64 (rd y1105 t1108),.int .i64 1,.int .i64 2,.slice Ao270 x9_2.length co270] ?_;(with_reducible refine (spec_CountReplies.calls k2 (rd y1105 t1108) 1 2 _ _ x9_2 t1157 t1158 t1159 t1160 t1161 _ ?side1 ?side2 A177.out).mono ?_);(case side1 => refine (Kd.R_reads' (e := 73) (base := w.heap.size) (ok := fun k_ => True) (n := x9_2.length) (c := co270) ?_).2.2;exact (by (with_reducible repeat (first | apply r1_ | apply r2_ | apply r3_));exact (Kd.R_mono (zrf (Kd.R_types HO_9.out BK1156.out (by decide))) (fun _ h_ => h_.1))));(case side2 => exact (Kd.R_reads' HO_9.out).2.1);rintro e w276 ⟨rfl,hb⟩;refine ⟨_,rfl,?_⟩;replace HO_9 := am_ (Kd.R_below (by (with_reducible repeat (first | apply r1_ | apply r2_ | apply r3_));exact (Kd.R_mono (zrf (Kd.R_types HO_9.out BK1156.out (by decide))) (fun _ h_ => h_.1))) hb);replace BK1114 := am_ (blk_below (g := gb1114) (o := .cells #[.int .i64 t1110,.int .i64 t1111,.int .i64 t1112,.int .i64 t1113] 63 (0,0)) (zq BK1114) hb);replace BK1119 := am_ (blk_below (g := gb1119) (o := .cells #[.int .i64 t1115,.int .i64 t1116,.int .i64 t1117,.int .i64 t1118] 63 (0,0)) (zq BK1119) hb);replace BK1156 := am_ (blk_below (g := gb1156) (o := .cells #[.int .i64 t1151,.int .i64 t1152,.int .i64 t1153,.int .i64 t1154] 63 (0,0)) (zq BK1156) hb);replace HB := zs_ HB hb;(try clear hb);(try clear hb2);(try clear hk);(try clear hi)) | ((with_reducible refine gate_dst (N := 21) rfl ?_);(try (refine gate_guard (by rfl) ?_;dsimp only));refine zbx (N := 21) (cs := #[.int .i64 0,.int .i64 0,.int .i64 0,.int .i64 0]) (t := 63) ?_;intro gb1162 hg w277 hbox hb;replace HO_9 := zrb HO_9 hb;have BK1162 := am_ (hbox);have GW1162 := zw_ HB hg;have GE1162 := zw_ HB hg;replace HB := zs_ HB hb;have NB1114_1162 := zl hg BK1114;have NB1162_1114 := zg hg BK1114;replace BK1114 := zb BK1114 hb;have NB1119_1162 := zl hg BK1119;have NB1162_1119 := zg hg BK1119;replace BK1119 := zb BK1119 hb;have NB1156_1162 := zl hg BK1156;have NB1162_1156 := zg hg BK1156;replace BK1156 := zb BK1156 hb;clear hb hbox hg;have hnb278 := NB1162_1114.out;have hnc278 := NB1114_1162.out;have hnb279 := NB1162_1119.out;have hnc279 := NB1119_1162.out;have hnb280 := NB1162_1156.out;have hnc280 := NB1156_1162.out;obtain ⟨hcz281_0,hcz281_1,hcz281_2,hcz281_3,hfz281_0,hfz281_1,hfz281_2,hfz281_3⟩ := zc4 BK1162) | ((with_reducible refine gate_callee (f := 34) rfl ?_);refine zgl (some 119) Tryd.func34 #[.int .i64 (rd y1105 t1108),.int .i64 1,.int .i64 3,.slice Ao270 x9_2.length co270] ?_;(with_reducible refine (impl_CountReplies.calls k2 (rd y1105 t1108) 1 3 _ _ x9_2 t1163 t1164 t1165 t1166 t1167 _ ?side1 ?side2 ?side3 A178.out).mono ?_);(case side1 => refine (Kd.R_reads' (e := 73) (base := w.heap.size) (ok := fun k_ => True) (n := x9_2.length) (c := co270) ?_).2.2;exact (by (with_reducible repeat (first | apply r1_ | apply r2_ | apply r3_));exact (Kd.R_mono (zrf (Kd.R_types HO_9.out BK1162.out (by decide))) (fun _ h_ => h_.1))));(case side2 => exact (Kd.R_reads' HO_9.out).2.1);(case side3 => exact HLD.out.on (zl_ HB));rintro e w282 ⟨rfl,hb⟩;refine ⟨_,rfl,?_⟩;replace BK1114 := am_ (blk_below (g := gb1114) (o := .cells #[.int .i64 t1110,.int .i64 t1111,.int .i64 t1112,.int .i64 t1113] 63 (0,0)) (zq BK1114) hb);replace BK1119 := am_ (blk_below (g := gb1119) (o := .cells #[.int .i64 t1115,.int .i64 t1116,.int .i64 t1117,.int .i64 t1118] 63 (0,0)) (zq BK1119) hb);replace BK1156 := am_ (blk_below (g := gb1156) (o := .cells #[.int .i64 t1151,.int .i64 t1152,.int .i64 t1153,.int .i64 t1154] 63 (0,0)) (zq BK1156) hb);replace BK1162 := am_ (blk_below (g := gb1162) (o := .cells #[.int .i64 t1157,.int .i64 t1158,.int .i64 t1159,.int .i64 t1160] 63 (0,0)) (zq BK1162) hb);replace HB := zs_ HB hb;(try clear hb);(try clear hb2);(try clear hk);(try clear hi)) | ((with_reducible refine gate_dst (N := 23) rfl ?_);(try (refine gate_guard (by rfl) ?_;dsimp only));refine zbx (N := 23) (cs := #[.int .i64 0,.int .i64 0,.int .i64 0,.int .i64 0]) (t := 63) ?_;intro gb1168 hg w283 hbox hb;have BK1168 := am_ (hbox);have GW1168 := zw_ HB hg;have GE1168 := zw_ HB hg;replace HB := zs_ HB hb;have NB1114_1168 := zl hg BK1114;have NB1168_1114 := zg hg BK1114;have NB1119_1168 := zl hg BK1119;have NB1168_1119 := zg hg BK1119;have NB1156_1168 := zl hg BK1156;have NB1168_1156 := zg hg BK1156;replace BK1156 := zb BK1156 hb;have NB1162_1168 := zl hg BK1162;have NB1168_1162 := zg hg BK1162;replace BK1162 := zb BK1162 hb;clear hb hbox hg;have hnb284 := NB1168_1114.out;have hnc284 := NB1114_1168.out;have hnb285 := NB1168_1119.out;have hnc285 := NB1119_1168.out;have hnb286 := NB1168_1156.out;have hnc286 := NB1156_1168.out;have hnb287 := NB1168_1162.out;have hnc287 := NB1162_1168.out;obtain ⟨hcz288_0,hcz288_1,hcz288_2,hcz288_3,hfz288_0,hfz288_1,hfz288_2,hfz288_3⟩ := zc4 BK1168;obtain ⟨hcz289_0,hcz289_1,hcz289_2,hcz289_3,hfz289_0,hfz289_1,hfz289_2,hfz289_3⟩ := zc4 BK1156;obtain ⟨hcz290_0,hcz290_1,hcz290_2,hcz290_3,hfz290_0,hfz290_1,hfz290_2,hfz290_3⟩ := zc4 BK1162))
            go_ret
            exact ⟨zt_,zl_ HB⟩
         ·rw [if_neg c179] at H
          have c179b0 : (t1155 == t1161) = false := beq_eq_false_iff_ne.mpr c179
          have c179b1 : (t1155 != t1161) = true := bne_iff_ne.mpr c179
          obtain rfl := Option.some.inj H
          obtain ⟨Ao291,co291,eo291⟩ := Kd.R_slice HO_9.out
          subst eo291
          go_wp2_with (first | ((with_reducible refine gate_callee (f := 34) rfl ?_);refine zgl (some 107) Tryd.func34 #[.int .i64 (rd y1105 t1108),.int .i64 1,.int .i64 2,.slice Ao291 x9_2.length co291] ?_;(with_reducible refine (impl_CountReplies.calls k2 (rd y1105 t1108) 1 2 _ _ x9_2 t1151 t1152 t1153 t1154 t1155 _ ?side1 ?side2 ?side3 A176.out).mono ?_);(case side1 => repeat (first | exact (Kd.R_reads' HO_9.out).2.2 | (with_reducible refine Kd.C_alloc ?_ _) | (with_reducible refine Kd.C_drewN ?_ _) | (with_reducible refine Kd.C_drew ?_)));(case side2 => exact (Kd.R_reads' HO_9.out).2.1);(case side3 => exact HLD.out.on (zl_ HB));rintro e w292 ⟨rfl,hb⟩;refine ⟨_,rfl,?_⟩;replace HO_9 := zrb HO_9 hb;replace BK1114 := zb BK1114 hb;replace BK1119 := zb BK1119 hb;replace HB := zs_ HB hb;(try clear hb);(try clear hb2);(try clear hk);(try clear hi)) | ((with_reducible refine gate_dst (N := 19) rfl ?_);(try (refine gate_guard (by rfl) ?_;dsimp only));refine zbx (N := 19) (cs := #[.int .i64 0,.int .i64 0,.int .i64 0,.int .i64 0]) (t := 63) ?_;intro gb1156 hg w293 hbox hb;replace HO_9 := zrb HO_9 hb;have BK1156 := am_ (hbox);have GW1156 := zw_ HB hg;have GE1156 := zw_ HB hg;replace HB := zs_ HB hb;have NB1114_1156 := zl hg BK1114;have NB1156_1114 := zg hg BK1114;replace BK1114 := zb BK1114 hb;have NB1119_1156 := zl hg BK1119;have NB1156_1119 := zg hg BK1119;replace BK1119 := zb BK1119 hb;clear hb hbox hg;have hnb294 := NB1156_1114.out;have hnc294 := NB1114_1156.out;have hnb295 := NB1156_1119.out;have hnc295 := NB1119_1156.out;obtain ⟨hcz296_0,hcz296_1,hcz296_2,hcz296_3,hfz296_0,hfz296_1,hfz296_2,hfz296_3⟩ := zc4 BK1156) | ((with_reducible refine gate_callee (f := 32) rfl ?_);refine zgl (some 113) Tryd.func32 #[.int .i64 (rd y1105 t1108),.int .i64 1,.int .i64 2,.slice Ao291 x9_2.length co291] ?_;(with_reducible refine (spec_CountReplies.calls k2 (rd y1105 t1108) 1 2 _ _ x9_2 t1157 t1158 t1159 t1160 t1161 _ ?side1 ?side2 A177.out).mono ?_);(case side1 => refine (Kd.R_reads' (e := 73) (base := w.heap.size) (ok := fun k_ => True) (n := x9_2.length) (c := co291) ?_).2.2;exact (by (with_reducible repeat (first | apply r1_ | apply r2_ | apply r3_));exact (Kd.R_mono (zrf (Kd.R_types HO_9.out BK1156.out (by decide))) (fun _ h_ => h_.1))));(case side2 => exact (Kd.R_reads' HO_9.out).2.1);rintro e w297 ⟨rfl,hb⟩;refine ⟨_,rfl,?_⟩;replace HO_9 := am_ (Kd.R_below (by (with_reducible repeat (first | apply r1_ | apply r2_ | apply r3_));exact (Kd.R_mono (zrf (Kd.R_types HO_9.out BK1156.out (by decide))) (fun _ h_ => h_.1))) hb);replace BK1114 := am_ (blk_below (g := gb1114) (o := .cells #[.int .i64 t1110,.int .i64 t1111,.int .i64 t1112,.int .i64 t1113] 63 (0,0)) (zq BK1114) hb);replace BK1119 := am_ (blk_below (g := gb1119) (o := .cells #[.int .i64 t1115,.int .i64 t1116,.int .i64 t1117,.int .i64 t1118] 63 (0,0)) (zq BK1119) hb);replace BK1156 := am_ (blk_below (g := gb1156) (o := .cells #[.int .i64 t1151,.int .i64 t1152,.int .i64 t1153,.int .i64 t1154] 63 (0,0)) (zq BK1156) hb);replace HB := zs_ HB hb;(try clear hb);(try clear hb2);(try clear hk);(try clear hi)) | ((with_reducible refine gate_dst (N := 21) rfl ?_);(try (refine gate_guard (by rfl) ?_;dsimp only));refine zbx (N := 21) (cs := #[.int .i64 0,.int .i64 0,.int .i64 0,.int .i64 0]) (t := 63) ?_;intro gb1162 hg w298 hbox hb;replace HO_9 := zrb HO_9 hb;have BK1162 := am_ (hbox);have GW1162 := zw_ HB hg;have GE1162 := zw_ HB hg;replace HB := zs_ HB hb;have NB1114_1162 := zl hg BK1114;have NB1162_1114 := zg hg BK1114;replace BK1114 := zb BK1114 hb;have NB1119_1162 := zl hg BK1119;have NB1162_1119 := zg hg BK1119;replace BK1119 := zb BK1119 hb;have NB1156_1162 := zl hg BK1156;have NB1162_1156 := zg hg BK1156;replace BK1156 := zb BK1156 hb;clear hb hbox hg;have hnb299 := NB1162_1114.out;have hnc299 := NB1114_1162.out;have hnb300 := NB1162_1119.out;have hnc300 := NB1119_1162.out;have hnb301 := NB1162_1156.out;have hnc301 := NB1156_1162.out;obtain ⟨hcz302_0,hcz302_1,hcz302_2,hcz302_3,hfz302_0,hfz302_1,hfz302_2,hfz302_3⟩ := zc4 BK1162) | ((with_reducible refine gate_callee (f := 34) rfl ?_);refine zgl (some 119) Tryd.func34 #[.int .i64 (rd y1105 t1108),.int .i64 1,.int .i64 3,.slice Ao291 x9_2.length co291] ?_;(with_reducible refine (impl_CountReplies.calls k2 (rd y1105 t1108) 1 3 _ _ x9_2 t1163 t1164 t1165 t1166 t1167 _ ?side1 ?side2 ?side3 A178.out).mono ?_);(case side1 => refine (Kd.R_reads' (e := 73) (base := w.heap.size) (ok := fun k_ => True) (n := x9_2.length) (c := co291) ?_).2.2;exact (by (with_reducible repeat (first | apply r1_ | apply r2_ | apply r3_));exact (Kd.R_mono (zrf (Kd.R_types HO_9.out BK1162.out (by decide))) (fun _ h_ => h_.1))));(case side2 => exact (Kd.R_reads' HO_9.out).2.1);(case side3 => exact HLD.out.on (zl_ HB));rintro e w303 ⟨rfl,hb⟩;refine ⟨_,rfl,?_⟩;replace BK1114 := am_ (blk_below (g := gb1114) (o := .cells #[.int .i64 t1110,.int .i64 t1111,.int .i64 t1112,.int .i64 t1113] 63 (0,0)) (zq BK1114) hb);replace BK1119 := am_ (blk_below (g := gb1119) (o := .cells #[.int .i64 t1115,.int .i64 t1116,.int .i64 t1117,.int .i64 t1118] 63 (0,0)) (zq BK1119) hb);replace BK1156 := am_ (blk_below (g := gb1156) (o := .cells #[.int .i64 t1151,.int .i64 t1152,.int .i64 t1153,.int .i64 t1154] 63 (0,0)) (zq BK1156) hb);replace BK1162 := am_ (blk_below (g := gb1162) (o := .cells #[.int .i64 t1157,.int .i64 t1158,.int .i64 t1159,.int .i64 t1160] 63 (0,0)) (zq BK1162) hb);replace HB := zs_ HB hb;(try clear hb);(try clear hb2);(try clear hk);(try clear hi)) | ((with_reducible refine gate_dst (N := 23) rfl ?_);(try (refine gate_guard (by rfl) ?_;dsimp only));refine zbx (N := 23) (cs := #[.int .i64 0,.int .i64 0,.int .i64 0,.int .i64 0]) (t := 63) ?_;intro gb1168 hg w304 hbox hb;have BK1168 := am_ (hbox);have GW1168 := zw_ HB hg;have GE1168 := zw_ HB hg;replace HB := zs_ HB hb;have NB1114_1168 := zl hg BK1114;have NB1168_1114 := zg hg BK1114;have NB1119_1168 := zl hg BK1119;have NB1168_1119 := zg hg BK1119;have NB1156_1168 := zl hg BK1156;have NB1168_1156 := zg hg BK1156;have NB1162_1168 := zl hg BK1162;have NB1168_1162 := zg hg BK1162;clear hb hbox hg;have hnb305 := NB1168_1114.out;have hnc305 := NB1114_1168.out;have hnb306 := NB1168_1119.out;have hnc306 := NB1119_1168.out;have hnb307 := NB1168_1156.out;have hnc307 := NB1156_1168.out;have hnb308 := NB1168_1162.out;have hnc308 := NB1162_1168.out;obtain ⟨hcz309_0,hcz309_1,hcz309_2,hcz309_3,hfz309_0,hfz309_1,hfz309_2,hfz309_3⟩ := zc4 BK1168))
          go_ret
          exact ⟨zt_,zl_ HB⟩
     ·rw [if_neg c8] at H
      exact absurd H (by simp)
    ·rw [if_neg c7] at H
     exact absurd H (by simp)
end Go.Proofs.YtlifdodphkimpaaDoor.B
end
