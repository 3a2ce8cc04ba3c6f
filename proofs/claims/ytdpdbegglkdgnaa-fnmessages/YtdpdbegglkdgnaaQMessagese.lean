/- A part of the proof that FnMessages returns true at every input: plain functions, contracts and lemmas. No conditions. -/
import Derived.Test.YtdpdbegglkdgnaaQMessagesd
set_option linter.unusedVariables false
set_option linter.unusedSimpArgs false
set_option linter.unusedSectionVars false
section
namespace Go.Proofs.Ytdpdbegglkdgnaa.A
open Go.RowKit Go.Proofs.YtdpdbegglkdgnaaW.PrintWords Go.Proofs.YtdpdbegglkdgnaaW.PrintLast Go.Proofs.YtdpdbegglkdgnaaW.PrintMore
attribute [local go_sem] max2_int min2_int max_two min_two max_three min_three max_four min_four
def spec_l01Hash.T18 : Bool × List (List Nat × List Nat) := (true,[([],[]),([],[]),([],[]),([1,2],[1,2]),([3],[3]),([4],[4]),([5],[5]),([],[]),([],[]),([7,8],[7,8]),([9],[9]),([10],[10]),([11],[11]),([],[]),([],[]),([13,14],[13,14]),([15],[15]),([16],[16]),([17],[17]),([],[]),([],[]),([19,20],[19,20]),([21],[21]),([22],[22]),([6,12,18,23],[6,12,18,23]),([0,24],[0,24]),([25,25,0,1,2,3,4,5,6,7,8,9,10,11,12,13,14,15,16,17,18,19,20,21,22,23,24,25],[0,25])])
def spec_l01Hash.B18 : List Nat := [0,0,0,6,14,30,62,0,0,384,896,1920,3968,0,0,24576,57344,122880,253952,0,0,1572864,3670016,7864320,16777214,33554431,67108863]
theorem spec_l01Hash.tab18 : rtab .any (opsOf Try.f46 18) = spec_l01Hash.T18 := by kernel_rfl
theorem spec_l01Hash.bits18 : waitsOk spec_l01Hash.T18.2 spec_l01Hash.B18 = true := by kernel_rfl
set_option maxHeartbeats 8000000 in
set_option maxRecDepth 100000 in
theorem spec_l01Hash.calls (k : Nat) (A0 : Option Addr) (c0 : Nat) (l0 : List Int) (r : ByteArray) (w : World) (hr0 : Kd.C (Kd.int .u8) w A0 l0.length l0) (hc0 : l0.length ≤ c0) (h : spec_l01Hash.f k l0 = some r) :
  Calls Try.prog 46 #[.slice A0 l0.length c0] w fun e w' => e = .returned (.string r) ∧ Below w.heap.size w w' := by
 have HR0 := am_ hr0
 have HC0 := am_ hc0
 clear hr0 hc0
 have HB := am_ (Below.refl w.heap.size w)
 have H : ((some (([] : List Int) : List Int)).bind fun y202 => (if y202.length + l0.length < 140737488355328 then ((some (y202 ++ l0 : List Int)).bind fun y205 => (if y205.length < 140737488355328 then (spec_l01Hash.l0 k l0 (([1779033703,3144134277,1013904242,2773480762,1359893119,2600822924,528734635,1541459225] : List Int)) (y205 ++ [128])) else (none))) else (none))) = some r := h
 clear h
 obtain ⟨y199,hy199⟩ : ∃ y_ : List Int,y_ = (([1779033703,3144134277,1013904242,2773480762,1359893119,2600822924,528734635,1541459225] : List Int)) := ⟨_,rfl⟩
 replace H : ((some (([] : List Int) : List Int)).bind fun y202 => (if y202.length + l0.length < 140737488355328 then ((some (y202 ++ l0 : List Int)).bind fun y205 => (if y205.length < 140737488355328 then (spec_l01Hash.l0 k l0 y199 (y205 ++ [128])) else (none))) else (none))) = some r := by first | (rw [hy199];with_reducible exact H) | (have H2_ := (Option.bind_some _ _).symm.trans H;rw [hy199];with_reducible exact H2_) | (have H2_ := (Option.bind_some _ _).symm.trans H;with_reducible exact H2_) | with_reducible exact H | (rw [hy199];exact H) | exact H
 have Ny199 := am_ hy199
 clear hy199
 obtain ⟨y202,hy202⟩ : ∃ y_ : List Int,y_ = (([] : List Int)) := ⟨_,rfl⟩
 replace H : (if y202.length + l0.length < 140737488355328 then ((some (y202 ++ l0 : List Int)).bind fun y205 => (if y205.length < 140737488355328 then (spec_l01Hash.l0 k l0 y199 (y205 ++ [128])) else (none))) else (none)) = some r := by first | (rw [hy202];with_reducible exact H) | (have H2_ := (Option.bind_some _ _).symm.trans H;rw [hy202];with_reducible exact H2_) | (have H2_ := (Option.bind_some _ _).symm.trans H;with_reducible exact H2_) | with_reducible exact H | (rw [hy202];exact H) | exact H
 have Ny202 := am_ hy202
 clear hy202
 by_cases c2 : y202.length + l0.length < 140737488355328
 ·rw [if_pos c2] at H
  have LMc2 := am_ c2
  clear c2
  obtain ⟨y205,hy205⟩ : ∃ y_ : List Int,y_ = (y202 ++ l0) := ⟨_,rfl⟩
  replace H : (if y205.length < 140737488355328 then (spec_l01Hash.l0 k l0 y199 (y205 ++ [128])) else (none)) = some r := by first | (rw [hy205];with_reducible exact H) | (have H2_ := (Option.bind_some _ _).symm.trans H;rw [hy205];with_reducible exact H2_) | (have H2_ := (Option.bind_some _ _).symm.trans H;with_reducible exact H2_) | with_reducible exact H | (rw [hy205];exact H) | exact H
  have Ny205 := am_ hy205
  clear hy205
  by_cases c3 : y205.length < 140737488355328
  ·rw [if_pos c3] at H
   have LMc3 := am_ c3
   clear c3
   obtain ⟨y208,hy208⟩ : ∃ y_ : List Int,y_ = (y205 ++ [128]) := ⟨_,rfl⟩
   replace H : (spec_l01Hash.l0 k l0 y199 y208) = some r := by first | (rw [hy208];with_reducible exact H) | (have H2_ := (Option.bind_some _ _).symm.trans H;rw [hy208];with_reducible exact H2_) | (have H2_ := (Option.bind_some _ _).symm.trans H;with_reducible exact H2_) | with_reducible exact H | (rw [hy208];exact H) | exact H
   have Ny208 := am_ hy208
   clear hy208
   have H' := am_ H
   clear H
   go_enter Try.func46,Try.ntmps46
   go_wp2_with (first | ((with_reducible refine gate_dst (N := 10) rfl ?_);refine Kd.R_lit (Kd.int .u32) _ 88 ?hg (N := 10) ?hd (xs := ([1779033703,3144134277,1013904242,2773480762,1359893119,2600822924,528734635,1541459225] : List Int)) (inner := [.int .u32 1779033703,.int .u32 3144134277,.int .u32 1013904242,.int .u32 2773480762,.int .u32 1359893119,.int .u32 2600822924,.int .u32 528734635,.int .u32 1541459225]) (ok := fun _ => True) (okp := fun _ => True) ?hr ?hp (fun _ hk => hk) trivial (Below.refl _ _) (Nat.le_refl _) (by simp) ?_;(case hd => rfl);(case hg => rfl);(case hr => first | (go_simp;done) | (go_simp;rfl));(case hp => exact (Reps.one (show Kd.M (Kd.int .u32) _ _ _ 1779033703 [.int .u32 1779033703] from rfl) (Reps.one (show Kd.M (Kd.int .u32) _ _ _ 3144134277 [.int .u32 3144134277] from rfl) (Reps.one (show Kd.M (Kd.int .u32) _ _ _ 1013904242 [.int .u32 1013904242] from rfl) (Reps.one (show Kd.M (Kd.int .u32) _ _ _ 2773480762 [.int .u32 2773480762] from rfl) (Reps.one (show Kd.M (Kd.int .u32) _ _ _ 1359893119 [.int .u32 1359893119] from rfl) (Reps.one (show Kd.M (Kd.int .u32) _ _ _ 2600822924 [.int .u32 2600822924] from rfl) (Reps.one (show Kd.M (Kd.int .u32) _ _ _ 528734635 [.int .u32 528734635] from rfl) (Reps.one (show Kd.M (Kd.int .u32) _ _ _ 1541459225 [.int .u32 1541459225] from rfl) (Reps.none _ _))))))))));intro v200 w4 ho5 hb hg_ hnew_;clear hg_ hnew_;(first | rw [← Ny199.out] at ho5 | (simp only [Int.reduceToNat] at ho5;rw [← Ny199.out] at ho5));have n0_ := am_ (Kd.R_lower ho5 (below_size (by repeat (first | (with_reducible first | exact HB.out | apply b1_ | apply b2_ | apply b3_) | exact HB.out))));have n1_ := am_ (below_step (by repeat (first | (with_reducible first | exact HB.out | apply b1_ | apply b2_ | apply b3_) | exact HB.out)) hb);clear HB;have HO201 := n0_;have HB := n1_;clear n0_ n1_;clear hb ho5) | ((with_reducible refine gate_dst (N := 11) rfl ?_);refine Kd.R_lit (Kd.int .u8) _ 5 ?hg (N := 11) ?hd (xs := ([] : List Int)) (inner := []) (ok := fun _ => True) (okp := fun _ => True) ?hr ?hp (fun _ hk => hk) trivial (Below.refl _ _) (Nat.le_refl _) (by simp) ?_;(case hd => rfl);(case hg => rfl);(case hr => first | (go_simp;done) | (go_simp;rfl));(case hp => exact (Reps.none _ _));intro v203 w6 ho7 hb hg_ hnew_;clear hg_ hnew_;(first | rw [← Ny202.out] at ho7 | (simp only [Int.reduceToNat] at ho7;rw [← Ny202.out] at ho7));have n0_ := am_ (Kd.R_below (by (with_reducible repeat (first | apply r1_ | apply r2_ | apply r3_));exact HO201.out) hb);have n1_ := am_ (Kd.R_lower ho7 (below_size (by repeat (first | (with_reducible first | exact HB.out | apply b1_ | apply b2_ | apply b3_) | exact HB.out))));have n2_ := am_ (below_step (by repeat (first | (with_reducible first | exact HB.out | apply b1_ | apply b2_ | apply b3_) | exact HB.out)) hb);clear HO201;clear HB;have HO201 := n0_;have HO204 := n1_;have HB := n2_;clear n0_ n1_ n2_;clear hb ho7) | ((with_reducible refine gate_builtin (b := .append) (xs := #[.tmp 11,.tmp 12]) rfl ?_);at_builtin;refine Kd.R_append_rows (Kd.int .u8) (w0 := w) w.heap.size rfl (.tmp 11) (.tmp 12) 22 5 (.int .u8 0) 1 rfl Try.underlying22 info5 rfl (by decide) (by omega) v203 y202 l0 _ _ _ (fun _ => True) (fun _ => False) rfl rfl ?aO ?aR (fun _ _ h => h) (fun _ h => h.elim) ?aF ?aB ?aS ?aL ?_;(case aR => repeat (first | exact (Kd.C_below HR0.out HB.out) | (with_reducible refine Kd.C_alloc ?_ _) | (with_reducible refine Kd.C_drewN ?_ _) | (with_reducible refine Kd.C_drew ?_)));(case aB => exact (by repeat (first | (with_reducible first | exact HB.out | apply b1_ | apply b2_ | apply b3_) | exact HB.out)));(case aF => exact (fun _ _ => trivial));(case aO => exact (by (with_reducible repeat (first | apply r1_ | apply r2_ | apply r3_));exact HO204.out));(case aS => exact (below_size (by repeat (first | (with_reducible first | exact HB.out | apply b1_ | apply b2_ | apply b3_) | exact HB.out))));(case aL => have := LMc2.out;omega);intro v206 w8 ho hb hg hat;rw [← Ny205.out] at ho;have n0_ := am_ (Kd.R_over' (by (with_reducible repeat (first | apply r1_ | apply r2_ | apply r3_));exact HO201.out) (Kd.R_typed (by (with_reducible repeat (first | apply r1_ | apply r2_ | apply r3_));exact HO204.out)) (by decide) hg);have n1_ := am_ (hb);have n2_ := am_ (ho);clear HO201;clear HB;clear HO204;have HO201 := n0_;have HB := n1_;have HO207 := n2_;clear n0_ n1_ n2_;clear ho hb hg hat) | ((with_reducible refine gate_builtin (b := .append) (xs := #[.tmp 13,.tmp 14]) rfl ?_);at_builtin;refine Kd.R_append (Kd.int .u8) (w0 := w) w.heap.size rfl (.tmp 13) (.tmp 14) 22 5 (.int .u8 0) 1 rfl Try.underlying22 info5 rfl (by decide) (by omega) v206 y205 128 [.int .u8 128] (fun _ => True) (fun _ => False) rfl rfl ?aP (fun _ hk => hk.elim) ?aF ?aO ?aB ?aS ?aL ?_;(case aP => exact rfl);(case aB => exact (by repeat (first | (with_reducible first | exact HB.out | apply b1_ | apply b2_ | apply b3_) | exact HB.out)));(case aF => exact (fun _ _ => trivial));(case aO => exact (by (with_reducible repeat (first | apply r1_ | apply r2_ | apply r3_));exact HO207.out));(case aS => exact (below_size (by repeat (first | (with_reducible first | exact HB.out | apply b1_ | apply b2_ | apply b3_) | exact HB.out))));(case aL => have := LMc3.out;omega);intro v209 w9 ho hb hg hat;rw [← Ny208.out] at ho;have n0_ := am_ (Kd.R_over' (by (with_reducible repeat (first | apply r1_ | apply r2_ | apply r3_));exact HO201.out) (Kd.R_typed (by (with_reducible repeat (first | apply r1_ | apply r2_ | apply r3_));exact HO207.out)) (by decide) hg);have n1_ := am_ (hb);have n2_ := am_ (ho);clear HO201;clear HB;clear HO207;have HO201 := n0_;have HB := n1_;have HO210 := n2_;clear n0_ n1_ n2_;clear ho hb hg hat))
   go_loopg [4] k (fun kq v4 w' => ∃ (x4_1 : List Int),Aside0 (spec_l01Hash.l0 kq l0 y199 x4_1 = some r) ∧ Aside0 (kq ≤ k) ∧ Aside0 (Kd.R (Kd.int .u32) 88 w' w.heap.size (fun _ => True) v200 y199) ∧ Aside0 (Kd.R (Kd.int .u8) 5 w' w.heap.size (fun _ => True) v4 x4_1) ∧ Aside0 (Below w.heap.size w w'))
   case atStart => exact ⟨(y208),H',⟨Nat.le_refl _⟩,⟨by (with_reducible repeat (first | apply r1_ | apply r2_ | apply r3_));exact HO201.out⟩,⟨by (with_reducible repeat (first | apply r1_ | apply r2_ | apply r3_));exact HO210.out⟩,⟨by repeat (first | (with_reducible first | exact HB.out | apply b1_ | apply b2_ | apply b3_) | exact HB.out)⟩⟩
   case round =>
    clear H'
    try clear c2
    try clear p2
    try clear c3
    try clear c4
    obtain ⟨x4_1,HA,HK1,HO_3,HO_4,HB⟩ := hrel
    cases gk with
    | zero => exact absurd HA.out (by simp [spec_l01Hash.l0])
    | succ k1 =>
     have H := HA.out
     clear HA
     simp only [spec_l01Hash.l0] at H
     by_cases c10 : ((x4_1.length : Int) % 64) = 56
     ·rw [if_pos c10] at H
      have c10b0 : (((x4_1.length : Int) % 64) == 56) = true := beq_iff_eq.mpr c10
      have c10b1 : (((x4_1.length : Int) % 64) != 56) = false := bne_eq_false_iff_eq.mpr c10
      clear c10
      have H' := am_ H
      clear H
      obtain ⟨Ao11,co11,eo11⟩ := Kd.R_slice HO_4.out
      subst eo11
      go_wp2
      go_loopg [4,5] k1 (fun kq v4 v5 w' => ∃ (x4_2 : List Int) (x5_2 : Int),v5 = .int .i64 x5_2 ∧ Aside0 (spec_l01Hash.l1 kq l0 y199 x4_2 x5_2 = some r) ∧ Aside0 (kq ≤ k1) ∧ Aside0 (Kd.R (Kd.int .u32) 88 w' w.heap.size (fun _ => True) v200 y199) ∧ Aside0 (Kd.R (Kd.int .u8) 5 w' w.heap.size (fun _ => True) v4 x4_2) ∧ Aside0 (Below w.heap.size w w'))
      case atStart => exact ⟨(x4_1),(7),(by first | rfl | (simp;done) | (simp [*];done)),H',⟨Nat.le_refl _⟩,⟨by (with_reducible repeat (first | apply r1_ | apply r2_ | apply r3_));exact HO_3.out⟩,⟨by (with_reducible repeat (first | apply r1_ | apply r2_ | apply r3_));exact HO_4.out⟩,⟨by repeat (first | (with_reducible first | exact HB.out | apply b1_ | apply b2_ | apply b3_) | exact HB.out)⟩⟩
      case round =>
       clear H'
       try clear c1
       try clear c2
       try clear p2
       try clear c3
       try clear c4
       try clear c10
       try clear c10b0
       try clear c10b1
       try clear p2
       obtain ⟨x4_2,x5_2,rfl,HA,HK2,HO_3,HO_4,HB⟩ := hrel
       cases gk with
       | zero => exact absurd HA.out (by simp [spec_l01Hash.l1])
       | succ k2 =>
        have H := HA.out
        clear HA
        simp only [spec_l01Hash.l1] at H
        by_cases c12 : x5_2 ≥ 0
        ·rw [if_pos c12] at H
         have c12b0 : decide (0 ≤ x5_2) = true := decide_eq_true c12
         clear c12
         obtain ⟨ji13,hji13⟩ : ∃ j_ : Int,(IntKind.u64.wrap (wrap64 (8 * x5_2))) = j_ := ⟨_,rfl⟩
         replace H : (if 0 ≤ (ji13) then (if x4_2.length < 140737488355328 then (spec_l01Hash.l1 k2 l0 y199 (x4_2 ++ [(shr .i64 (wrap64 (8 * (l0.length : Int))) (ji13)) % 256]) (wrap64 (x5_2 - 1))) else (none)) else (none)) = some r := by first | (rw [hji13] at H;exact H) | (simp only [hji13] at H ⊢;exact H)
         by_cases c14 : 0 ≤ (ji13)
         ·rw [if_pos c14] at H
          have c14b0 := eq_true c14
          have c14b1 : decide (0 ≤ (ji13)) = true := decide_eq_true c14
          clear c14
          obtain ⟨ji15,hji15⟩ : ∃ j_ : Int,(shr .i64 (wrap64 (8 * (l0.length : Int))) (ji13)) = j_ := ⟨_,rfl⟩
          replace H : (if x4_2.length < 140737488355328 then (spec_l01Hash.l1 k2 l0 y199 (x4_2 ++ [(ji15) % 256]) (wrap64 (x5_2 - 1))) else (none)) = some r := by first | (rw [hji15] at H;exact H) | (simp only [hji15] at H ⊢;exact H)
          have hji15_ : ((wrap64 (8 * (l0.length : Int))) / 2 ^ min (ji13).toNat 64) = ji15 := hji15
          have hji15z : (ji13) ≤ 64 → ((wrap64 (8 * (l0.length : Int))) / 2 ^ (ji13).toNat) = ji15 := shr_small hji15
          by_cases c16 : x4_2.length < 140737488355328
          ·rw [if_pos c16] at H
           have LMc16 := am_ c16
           clear c16
           obtain ⟨y214,hy214⟩ : ∃ y_ : List Int,y_ = (x4_2 ++ [(ji15) % 256]) := ⟨_,rfl⟩
           replace H : (spec_l01Hash.l1 k2 l0 y199 y214 (wrap64 (x5_2 - 1))) = some r := by first | (rw [hy214];with_reducible exact H) | (have H2_ := (Option.bind_some _ _).symm.trans H;rw [hy214];with_reducible exact H2_) | (have H2_ := (Option.bind_some _ _).symm.trans H;with_reducible exact H2_) | with_reducible exact H | (rw [hy214];exact H) | exact H
           have Ny214 := am_ hy214
           clear hy214
           have H' := am_ H
           clear H
           go_wp2_with (first | ((with_reducible refine gate_builtin (b := .append) (xs := #[.tmp 27,.tmp 36]) rfl ?_);at_builtin;refine Kd.R_append (Kd.int .u8) (w0 := w) w.heap.size rfl (.tmp 27) (.tmp 36) 22 5 (.int .u8 0) 1 rfl Try.underlying22 info5 rfl (by decide) (by omega) u4 x4_2 ((ji15) % 256) [.int .u8 ((ji15) % 256)] (fun _ => True) (fun _ => False) rfl rfl ?aP (fun _ hk => hk.elim) ?aF ?aO ?aB ?aS ?aL ?_;(case aP => exact rfl);(case aB => exact (by repeat (first | (with_reducible first | exact HB.out | apply b1_ | apply b2_ | apply b3_) | exact HB.out)));(case aF => exact (fun _ _ => trivial));(case aO => exact (by (with_reducible repeat (first | apply r1_ | apply r2_ | apply r3_));exact HO_4.out));(case aS => exact (below_size (by repeat (first | (with_reducible first | exact HB.out | apply b1_ | apply b2_ | apply b3_) | exact HB.out))));(case aL => have := LMc16.out;omega);intro v215 w17 ho hb hg hat;rw [← Ny214.out] at ho;have n0_ := am_ (Kd.R_over' (by (with_reducible repeat (first | apply r1_ | apply r2_ | apply r3_));exact HO_3.out) (Kd.R_typed (by (with_reducible repeat (first | apply r1_ | apply r2_ | apply r3_));exact HO_4.out)) (by decide) hg);have n1_ := am_ (hb);have n2_ := am_ (ho);clear HO_3;clear HB;clear HO_4;have HO_3 := n0_;have HB := n1_;have HO216 := n2_;clear n0_ n1_ n2_;clear ho hb hg hat))
           go_roundg k2
           case measure => have := HK1.out;have := HK2.out;omega
           case rel => exact ⟨(y214),(wrap64 (x5_2 - 1)),(by first | rfl | (simp;done) | (simp [*];done)),H',⟨by have := HK1.out;have := HK2.out;omega⟩,⟨by (with_reducible repeat (first | apply r1_ | apply r2_ | apply r3_));exact HO_3.out⟩,⟨by (with_reducible repeat (first | apply r1_ | apply r2_ | apply r3_));exact HO216.out⟩,⟨by repeat (first | (with_reducible first | exact HB.out | apply b1_ | apply b2_ | apply b3_) | exact HB.out)⟩⟩
          ·rw [if_neg c16] at H
           exact absurd H (by simp)
         ·rw [if_neg c14] at H
          exact absurd H (by simp)
        ·rw [if_neg c12] at H
         have c12b0 : decide (0 ≤ x5_2) = false := decide_eq_false c12
         clear c12
         replace H := Option.bind_eq_some_iff.mp H
         obtain ⟨t217,A180,H⟩ := H
         try dsimp only at H
         have A18 := am_ A180
         clear A180
         have H' := am_ H
         clear H
         go_wp2_with (first | ((with_reducible refine gate_callee (f := 65) rfl ?_);refine goesL_ (some 38) rfl rfl Try.func65 (by kernel_rfl) rfl #[] rfl (by (try simp only [m1_,m2_,m3_]);first | done | rfl | (simp only [d1_,d2_];rfl)) ?_;(with_reducible refine (spec_l01Consts.calls  t217 _ A18.out).mono ?_);rintro e w19 ⟨v218,rfl,ho0,hb⟩;refine ⟨_,rfl,?_⟩;have n0_ := am_ (Kd.R_elder' (by (with_reducible repeat (first | apply r1_ | apply r2_ | apply r3_));exact HO_3.out) (Kd.R_base ho0) hb);have n1_ := am_ (Kd.R_below (by (with_reducible repeat (first | apply r1_ | apply r2_ | apply r3_));exact HO_4.out) hb);have n2_ := am_ (Kd.R_lower (Kd.R_new' ho0 (Kd.R_lt (by (with_reducible repeat (first | apply r1_ | apply r2_ | apply r3_));exact HO_3.out))) (below_size (by repeat (first | (with_reducible first | exact HB.out | apply b1_ | apply b2_ | apply b3_) | exact HB.out))));have n3_ := am_ (below_step (by repeat (first | (with_reducible first | exact HB.out | apply b1_ | apply b2_ | apply b3_) | exact HB.out)) hb);clear HO_3;clear HO_4;clear HB;have HO_3 := n0_;have HO_4 := n1_;have HO219 := n2_;have HB := n3_;clear n0_ n1_ n2_ n3_;(try clear hb);(try clear hb2);(try clear hk);(try clear hi);(try clear ho0)))
         go_loopg [7] k2 (fun kq v7 w' => ∃ (x3_3 : List Int) (x7_3 : Int),v7 = .int .i64 x7_3 ∧ Aside0 (spec_l01Hash.l2 kq x3_3 x4_2 t217 x7_3 = some r) ∧ Aside0 (kq ≤ k2) ∧ Aside0 (Kd.R (Kd.int .u32) 88 w' w.heap.size (fun k_ => some k_ ≠ (v218 : Value).ownBlock) v200 x3_3) ∧ Aside0 (Kd.R (Kd.int .u8) 5 w' w.heap.size (fun _ => True) u4 x4_2) ∧ Aside0 (Kd.R (Kd.int .u32) 88 w' w.heap.size (fun k_ => some k_ ≠ (v200 : Value).ownBlock) v218 t217) ∧ Aside0 (Below w.heap.size w w'))
         case atStart => exact ⟨(y199),(0),(by first | rfl | (simp;done) | (simp [*];done)),H',⟨Nat.le_refl _⟩,⟨by (with_reducible repeat (first | apply r1_ | apply r2_ | apply r3_));exact Kd.R_mono HO_3.out (fun _ hk => hk.2)⟩,⟨by (with_reducible repeat (first | apply r1_ | apply r2_ | apply r3_));exact HO_4.out⟩,⟨by (with_reducible repeat (first | apply r1_ | apply r2_ | apply r3_));exact Kd.R_mono HO219.out (fun _ hk => hk.2)⟩,⟨by repeat (first | (with_reducible first | exact HB.out | apply b1_ | apply b2_ | apply b3_) | exact HB.out)⟩⟩
         case round =>
          clear H'
          try clear c1
          try clear c2
          try clear p2
          try clear c3
          try clear c4
          try clear c6
          try clear p6
          try clear c10
          try clear c10b0
          try clear c10b1
          try clear c12
          try clear c12b0
          try clear c14
          try clear c14b0
          try clear c14b1
          try clear c16
          try clear p2
          obtain ⟨x3_3,x7_3,rfl,HA,HK3,HO_3,HO_4,HO_6,HB⟩ := hrel
          cases gk with
          | zero => exact absurd HA.out (by simp [spec_l01Hash.l2])
          | succ k3 =>
           have H := HA.out
           clear HA
           simp only [spec_l01Hash.l2] at H
           by_cases c20 : x7_3 < (x4_2.length : Int)
           ·rw [if_pos c20] at H
            obtain ⟨je_,hje_⟩ : ∃ j_ : Int,(wrap64 (x7_3 + 64)) = j_ := ⟨_,rfl⟩
            rw [hje_] at H
            have hje_w : (IntKind.i64.wrap (x7_3 + 64)) = je_ := (i64_w _).trans hje_
            clear hje_
            have c20b0 : decide (x7_3 < (x4_2.length : Int)) = true := decide_eq_true c20
            clear c20
            by_cases c21 : 0 ≤ x7_3
            ·rw [if_pos c21] at H
             have c21b0 := eq_true c21
             have c21b1 : decide (0 ≤ x7_3) = true := decide_eq_true c21
             clear c21
             by_cases c22 : x7_3 ≤ (je_)
             ·rw [if_pos c22] at H
              have c22b0 := eq_true c22
              have c22b1 : decide (x7_3 ≤ (je_)) = true := decide_eq_true c22
              by_cases c23 : (je_) ≤ (x4_2.length : Int)
              ·rw [if_pos c23] at H
               have c23b0 := eq_true c23
               have c23b1 : decide ((je_) ≤ (x4_2.length : Int)) = true := decide_eq_true c23
               obtain ⟨y220,hy220⟩ : ∃ y_ : List Int,y_ = ((x4_2.take ((je_) : Int).toNat).drop (x7_3 : Int).toNat) := ⟨_,rfl⟩
               replace H : ((spec_l01Block.f k3 x3_3 y220 t217).bind fun t224 => (spec_l01Hash.l2 k3 t224 x4_2 t217 (je_))) = some r := by first | (rw [hy220];with_reducible exact H) | (have H2_ := (Option.bind_some _ _).symm.trans H;rw [hy220];with_reducible exact H2_) | (have H2_ := (Option.bind_some _ _).symm.trans H;with_reducible exact H2_) | with_reducible exact H | (rw [hy220];exact H) | exact H
               have Ny220 := am_ hy220
               clear hy220
               replace H := Option.bind_eq_some_iff.mp H
               obtain ⟨t224,A240,H⟩ := H
               try dsimp only at H
               have A24 := am_ A240
               clear A240
               have H' := am_ H
               clear H
               obtain ⟨Ao25,co25,eo25⟩ := Kd.R_slice HO_4.out
               subst eo25
               have q26 : ((je_) : Int) ≤ ((x4_2.length : Int) : Int) := o1_ (by first | (with_reducible assumption) | assumption)
               obtain ⟨i026,hi026,_,hsz26,_⟩ := info_parts info5
               have hroom26 : x4_2.length ≤ co25 := (Kd.R_reads' HO_4.out).2.1
               have hC26 : Kd.C (Kd.int .u8) _ Ao25 x4_2.length x4_2 := (Kd.R_reads' HO_4.out).2.2
               have ql26 : (x7_3 : Int) ≤ ((je_) : Int) := o1_ (by first | (with_reducible assumption) | assumption)
               have q026 : (0 : Int) ≤ (x7_3 : Int) := o1_ (by first | (with_reducible assumption) | assumption)
               have hcut26 := cut_mid (P := Try.prog) 22 5 .i64 .i64 Try.underlying22 hi026 1 hsz26 Ao25 x4_2.length co25 x7_3 (je_) q026 ql26 q26 hroom26
               have hr26 := Kd.C_mid (lo := (x7_3 : Int).toNat) (hi := ((je_) : Int).toNat) (c := co25) hC26 (by omega) (by omega) hroom26
               obtain ⟨A26,hA26⟩ : ∃ A1,A1 = (if co25 = (x7_3 : Int).toNat then Ao25 else (Ao25 : Option Addr).map (·.add ((x7_3 : Int).toNat * 1))) := ⟨_,rfl⟩
               obtain ⟨c26,hc26⟩ : ∃ c1,c1 = co25 - (x7_3 : Int).toNat := ⟨_,rfl⟩
               have hy26 : y220.length = ((je_) : Int).toNat - (x7_3 : Int).toNat := (by rw [Ny220.out,d1_,d2_] <;> omega)
               rw [show ((x4_2).take ((je_) : Int).toNat).drop (x7_3 : Int).toNat = y220 from Ny220.out.symm] at hr26
               replace hr26 : Kd.C (Kd.int .u8) _ A26 y220.length y220 := (by rw [hA26];exact hr26)
               rw [← hy26,← hA26,← hc26] at hcut26
               have HR223 := am_ hr26
               have HC223 := am_ (show y220.length ≤ c26 from by rw [hy26,hc26];exact Nat.sub_le_sub_right (Nat.le_trans (by omega) hroom26) _)
               clear hr26 hC26 hroom26 hi026 hsz26 hc26
               have KY26 := am_ hy26
               have KA26 := am_ hA26
               clear hy26 hA26
               have KL26 := am_ (show ((je_) : Int).toNat ≤ x4_2.length from by omega)
               have KM26 := am_ (show (x7_3 : Int).toNat ≤ ((je_) : Int).toNat from by omega)
               replace q26 := eq_true q26
               obtain ⟨Ao27,co27,eo27⟩ := Kd.R_slice HO_3.out
               subst eo27
               obtain ⟨Ao28,co28,eo28⟩ := Kd.R_slice HO_6.out
               subst eo28
               go_wp2_with (first | ((with_reducible refine gate_callee (f := 66) rfl ?_);refine goesL_ (some 52) rfl rfl Try.func66 (by kernel_rfl) rfl #[.slice Ao27 x3_3.length co27,.slice A26 y220.length c26,.slice Ao28 t217.length co28] rfl (by (try simp only [m1_,m2_,m3_]);first | done | rfl | (simp only [d1_,d2_];rfl)) ?_;(with_reducible refine (spec_l01Block.calls k3 (fun k_ => some k_ = (.slice Ao27 x3_3.length co27 : Value).ownBlock) (.slice Ao27 x3_3.length co27) x3_3 _ _ y220 _ _ t217 t224 w _ ?side1 ?side2 ?side3 ?side4 ?side5 ?side6 A24.out).mono ?_);(case side1 => repeat (first | (with_reducible first | exact HB.out | apply b1_ | apply b2_ | apply b3_) | exact HB.out));(case side2 => exact Kd.R_tight rfl HO_3.out);(case side3 => exact fun W1_ hk1_ => (show Kd.C (Kd.int .u8) W1_ A26 y220.length y220 from by rw [Ny220.out,KA26.out];exact Kd.C_mid (lo := (x7_3 : Int).toNat) (hi := ((je_) : Int).toNat) (c := co25) (Kd.C_kept_own ((Kd.R_apart' HO_4.out (Kd.R_typed HO_3.out) (by decide))) (fun k_ hk_ hs_ => (hk_.2) hs_) W1_ hk1_) KM26.out KL26.out ((Kd.R_reads' HO_4.out).2.1)));(case side4 => exact HC223.out);(case side5 => exact Kd.C_kept_own (HO_6.out) (fun k_ hk_ hs_ => (hk_) hs_));(case side6 => exact (Kd.R_reads' HO_6.out).2.1);rintro e w29 ⟨rfl,hy0,hb,hkp⟩;refine ⟨_,rfl,?_⟩;have n0_ := am_ (Kd.R_reok rfl hy0 (fun k_ e_ => HO_3.out.1 k_ e_));have n1_ := am_ (Kd.R_mono (ok' := fun k_ => True) (Kd.R_keptB ((Kd.R_apart' HO_4.out (Kd.R_typed HO_3.out) (by decide))) hkp (fun k_ hk_ hs_ => (hk_.2) hs_)) (fun k_ hk_ => trivial));have n2_ := am_ (Kd.R_mono (ok' := fun k_ => some k_ ≠ (.slice Ao27 x3_3.length co27 : Value).ownBlock) (Kd.R_keptB (HO_6.out) hkp (fun k_ hk_ hs_ => (hk_) hs_)) (fun k_ hk_ => hk_.1));have n3_ := am_ (hb);clear HO_3;clear HO_4;clear HO_6;clear HB;have HO_3 := n0_;have HO_4 := n1_;have HO_6 := n2_;have HB := n3_;clear n0_ n1_ n2_ n3_;(try clear hb);(try clear hkp);(try clear hy0)))
               go_roundg k3
               case measure => have := HK1.out;have := HK2.out;have := HK3.out;omega
               case rel => exact ⟨(t224),(je_),(by first | rfl | (simp;done) | (simp [*];done)),H',⟨by have := HK1.out;have := HK2.out;have := HK3.out;omega⟩,⟨by (with_reducible repeat (first | apply r1_ | apply r2_ | apply r3_));exact HO_3.out⟩,⟨by (with_reducible repeat (first | apply r1_ | apply r2_ | apply r3_));exact HO_4.out⟩,⟨by (with_reducible repeat (first | apply r1_ | apply r2_ | apply r3_));exact HO_6.out⟩,⟨by repeat (first | (with_reducible first | exact HB.out | apply b1_ | apply b2_ | apply b3_) | exact HB.out)⟩⟩
              ·rw [if_neg c23] at H
               exact absurd H (by simp)
             ·rw [if_neg c22] at H
              exact absurd H (by simp)
            ·rw [if_neg c21] at H
             exact absurd H (by simp)
           ·rw [if_neg c20] at H
            have c20b0 : decide (x7_3 < (x4_2.length : Int)) = false := decide_eq_false c20
            clear c20
            obtain ⟨y225,hy225⟩ : ∃ y_ : List Int,y_ = (([] : List Int)) := ⟨_,rfl⟩
            replace H : (spec_l01Hash.l3 k3 x3_3 y225 0) = some r := by first | (rw [hy225];with_reducible exact H) | (have H2_ := (Option.bind_some _ _).symm.trans H;rw [hy225];with_reducible exact H2_) | (have H2_ := (Option.bind_some _ _).symm.trans H;with_reducible exact H2_) | with_reducible exact H | (rw [hy225];exact H) | exact H
            have Ny225 := am_ hy225
            clear hy225
            have H' := am_ H
            clear H
            obtain ⟨Ao30,co30,eo30⟩ := Kd.R_slice HO_4.out
            subst eo30
            go_wp2_with (first | ((with_reducible refine gate_dst (N := 53) rfl ?_);refine Kd.R_lit (Kd.int .u8) _ 5 ?hg (N := 53) ?hd (xs := ([] : List Int)) (inner := []) (ok := fun _ => True) (okp := fun _ => True) ?hr ?hp (fun _ hk => hk) trivial (Below.refl _ _) (Nat.le_refl _) (by simp) ?_;(case hd => rfl);(case hg => rfl);(case hr => first | (go_simp;done) | (go_simp;rfl));(case hp => exact (Reps.none _ _));intro v226 w31 ho32 hb hg_ hnew_;clear hg_ hnew_;(first | rw [← Ny225.out] at ho32 | (simp only [Int.reduceToNat] at ho32;rw [← Ny225.out] at ho32));have n0_ := am_ (Kd.R_below (by (with_reducible repeat (first | apply r1_ | apply r2_ | apply r3_));exact HO_3.out) hb);have n1_ := am_ (Kd.R_elder' (by (with_reducible repeat (first | apply r1_ | apply r2_ | apply r3_));exact HO_4.out) (Kd.R_base ho32) hb);have n2_ := am_ (Kd.R_below (by (with_reducible repeat (first | apply r1_ | apply r2_ | apply r3_));exact HO_6.out) hb);have n3_ := am_ (Kd.R_lower (Kd.R_new' ho32 (Kd.R_lt (by (with_reducible repeat (first | apply r1_ | apply r2_ | apply r3_));exact HO_4.out))) (below_size (by repeat (first | (with_reducible first | exact HB.out | apply b1_ | apply b2_ | apply b3_) | exact HB.out))));have n4_ := am_ (below_step (by repeat (first | (with_reducible first | exact HB.out | apply b1_ | apply b2_ | apply b3_) | exact HB.out)) hb);clear HO_3;clear HO_4;clear HO_6;clear HB;have HO_3 := n0_;have HO_4 := n1_;have HO_6 := n2_;have HO227 := n3_;have HB := n4_;clear n0_ n1_ n2_ n3_ n4_;clear hb ho32))
            go_loopg [8,9] k3 (fun kq v8 v9 w' => ∃ (x8_4 : List Int) (x9_4 : Int),v9 = .int .i64 x9_4 ∧ Aside0 (spec_l01Hash.l3 kq x3_3 x8_4 x9_4 = some r) ∧ Aside0 (kq ≤ k3) ∧ Aside0 (Kd.R (Kd.int .u32) 88 w' w.heap.size (fun _ => True) v200 x3_3) ∧ Aside0 (Kd.R (Kd.int .u8) 5 w' w.heap.size (fun _ => True) v8 x8_4) ∧ Aside0 (Below w.heap.size w w'))
            case atStart => exact ⟨(y225),(0),(by first | rfl | (simp;done) | (simp [*];done)),H',⟨Nat.le_refl _⟩,⟨by (with_reducible repeat (first | apply r1_ | apply r2_ | apply r3_));exact Kd.R_mono HO_3.out (fun _ hk => trivial)⟩,⟨by (with_reducible repeat (first | apply r1_ | apply r2_ | apply r3_));exact Kd.R_mono HO227.out (fun _ hk => trivial)⟩,⟨by repeat (first | (with_reducible first | exact HB.out | apply b1_ | apply b2_ | apply b3_) | exact HB.out)⟩⟩
            case round =>
             clear H'
             try clear c1
             try clear c2
             try clear p2
             try clear q2
             try clear c3
             try clear c4
             try clear c6
             try clear p6
             try clear c10
             try clear c10b0
             try clear c10b1
             try clear c12
             try clear c12b0
             try clear c14
             try clear c14b0
             try clear c14b1
             try clear c16
             try clear c20
             try clear c20b0
             try clear c21
             try clear c21b0
             try clear c21b1
             try clear c22
             try clear c22b0
             try clear c22b1
             try clear c23
             try clear c23b0
             try clear c23b1
             try clear c26
             try clear q26
             try clear p2
             try clear p6
             try clear q026
             try clear q26
             obtain ⟨x8_4,x9_4,rfl,HA,HK4,HO_3,HO_8,HB⟩ := hrel
             cases gk with
             | zero => exact absurd HA.out (by simp [spec_l01Hash.l3])
             | succ k4 =>
              have H := HA.out
              clear HA
              simp only [spec_l01Hash.l3] at H
              by_cases c33 : x9_4 < 8
              ·rw [if_pos c33] at H
               have c33b0 : decide (x9_4 < 8) = true := decide_eq_true c33
               clear c33
               by_cases c34 : 0 ≤ x9_4
               ·rw [if_pos c34] at H
                have c34b0 : decide (0 ≤ x9_4) = true := decide_eq_true c34
                clear c34
                by_cases c35 : x9_4 < (x3_3.length : Int)
                ·rw [if_pos c35] at H
                 have c35b0 : decide (x9_4 < (x3_3.length : Int)) = true := decide_eq_true c35
                 clear c35
                 obtain ⟨y232,hy232⟩ : ∃ y_ : List Int,y_ = (([((rd x3_3 x9_4) / 16777216) % 256,((rd x3_3 x9_4) / 65536) % 256,((rd x3_3 x9_4) / 256) % 256,(rd x3_3 x9_4) % 256] : List Int)) := ⟨_,rfl⟩
                 replace H : (if x8_4.length + y232.length < 140737488355328 then (spec_l01Hash.l3 k4 x3_3 (x8_4 ++ y232) (wrap64 (x9_4 + 1))) else (none)) = some r := by first | (rw [hy232];with_reducible exact H) | (have H2_ := (Option.bind_some _ _).symm.trans H;rw [hy232];with_reducible exact H2_) | (have H2_ := (Option.bind_some _ _).symm.trans H;with_reducible exact H2_) | with_reducible exact H | (rw [hy232];exact H) | exact H
                 have Ny232 := am_ hy232
                 clear hy232
                 by_cases c36 : x8_4.length + y232.length < 140737488355328
                 ·rw [if_pos c36] at H
                  have LMc36 := am_ c36
                  clear c36
                  obtain ⟨y235,hy235⟩ : ∃ y_ : List Int,y_ = (x8_4 ++ y232) := ⟨_,rfl⟩
                  replace H : (spec_l01Hash.l3 k4 x3_3 y235 (wrap64 (x9_4 + 1))) = some r := by first | (rw [hy235];with_reducible exact H) | (have H2_ := (Option.bind_some _ _).symm.trans H;rw [hy235];with_reducible exact H2_) | (have H2_ := (Option.bind_some _ _).symm.trans H;with_reducible exact H2_) | with_reducible exact H | (rw [hy235];exact H) | exact H
                  have Ny235 := am_ hy235
                  clear hy235
                  have H' := am_ H
                  clear H
                  try go_wp2
                  have n0_ := am_ (Kd.R_drew HO_3.out)
                  have n1_ := am_ (Kd.R_drew HO_8.out)
                  have n2_ := am_ (below_drew1 HB.out)
                  clear HO_3
                  clear HO_8
                  clear HB
                  have HO_3 := n0_
                  have HO_8 := n1_
                  have HB := n2_
                  clear n0_ n1_ n2_
                  obtain ⟨Ao38,co38,eo38⟩ := Kd.R_slice HO_3.out
                  (first | subst eo38 | (injection eo38 with f1_ f2_ f3_;have f4_ := f1_.symm;have f5_ := f3_.symm;clear f1_ f2_ f3_;subst f4_;subst f5_))
                  have p228 : 0 ≤ (x9_4 : Int) := o1_ (by first | (with_reducible assumption) | assumption)
                  have q228 : x9_4 < (x3_3.length : Int) := o1_ (by first | (with_reducible assumption) | assumption)
                  obtain ⟨ad228,e228,hx228_0⟩ := Kd.at_int (Kd.R_reads' HO_3.out).2.2 x9_4 p228 q228
                  cases e228
                  replace p228 := eq_true p228
                  replace q228 := eq_true q228
                  have p229 : 0 ≤ (x9_4 : Int) := o1_ (by first | (with_reducible assumption) | assumption)
                  have q229 : x9_4 < (x3_3.length : Int) := o1_ (by first | (with_reducible assumption) | assumption)
                  obtain ⟨ad229,e229,hx229_0⟩ := Kd.at_int (Kd.R_reads' HO_3.out).2.2 x9_4 p229 q229
                  obtain rfl : ad228 = ad229 := (by injection e229)
                  replace p229 := eq_true p229
                  replace q229 := eq_true q229
                  have p230 : 0 ≤ (x9_4 : Int) := o1_ (by first | (with_reducible assumption) | assumption)
                  have q230 : x9_4 < (x3_3.length : Int) := o1_ (by first | (with_reducible assumption) | assumption)
                  obtain ⟨ad230,e230,hx230_0⟩ := Kd.at_int (Kd.R_reads' HO_3.out).2.2 x9_4 p230 q230
                  obtain rfl : ad228 = ad230 := (by injection e230)
                  replace p230 := eq_true p230
                  replace q230 := eq_true q230
                  have p231 : 0 ≤ (x9_4 : Int) := o1_ (by first | (with_reducible assumption) | assumption)
                  have q231 : x9_4 < (x3_3.length : Int) := o1_ (by first | (with_reducible assumption) | assumption)
                  obtain ⟨ad231,e231,hx231_0⟩ := Kd.at_int (Kd.R_reads' HO_3.out).2.2 x9_4 p231 q231
                  obtain rfl : ad228 = ad231 := (by injection e231)
                  replace p231 := eq_true p231
                  replace q231 := eq_true q231
                  refine start_ (n := 27) (S := fun w' => w'.cell? (ad228.add (x9_4).toNat) = some (.int .u32 (rd x3_3 x9_4)) ∧ w'.cell? (ad228.add (x9_4).toNat) = some (.int .u32 (rd x3_3 x9_4)) ∧ w'.cell? (ad228.add (x9_4).toNat) = some (.int .u32 (rd x3_3 x9_4)) ∧ w'.cell? (ad228.add (x9_4).toNat) = some (.int .u32 (rd x3_3 x9_4))) (ds := [25]) #[false,false,false,false,false,false,false,false,false,false,false,false,false,false,false,false,false,false,false,false,false,false,false,false,false,false,false] (by kernel_rfl) rfl rfl ⟨hx228_0,hx229_0,hx230_0,hx231_0⟩ (fun hHeld => ?_);refine with_tabW spec_l01Hash.tab18 spec_l01Hash.bits18 (fun HT_ HW_ => ?_)
                  generalize wr.drew = w37 at HO_3 HO_8 HB hx228_0 hx229_0 hx230_0 hx231_0 hHeld ⊢
                  refine pure_ (i := 0) (N := some 58) (v := ?_) (a' := ?_) #[true,false,false,false,false,false,false,false,false,false,false,false,false,false,false,false,false,false,false,false,false,false,false,false,false,false,false] rfl rfl (any_of HT_.out (by kernel_rfl)) (fun _ _ _ h => h) (Or.inl ⟨by rfl,?_⟩) ?_ ?_
                  rotate_left
                  ·intro w'
                   go_simp
                   with_reducible rfl
                  rotate_left
                  ·simp only [Act.put,p1_,p2_,p3_,i64_w,i32_w]
                   rfl
                  refine pure_ (i := 1) (N := some 59) (v := ?_) (a' := ?_) #[true,true,false,false,false,false,false,false,false,false,false,false,false,false,false,false,false,false,false,false,false,false,false,false,false,false,false] rfl rfl (any_of HT_.out (by kernel_rfl)) (fun _ _ _ h => h) (Or.inl ⟨by rfl,?_⟩) ?_ ?_
                  rotate_left
                  ·intro w'
                   go_simp
                   with_reducible rfl
                  rotate_left
                  ·simp only [Act.put,p1_,p2_,p3_,i64_w,i32_w]
                   rfl
                  refine pure_ (i := 2) (N := some 60) (v := ?_) (a' := ?_) #[true,true,true,false,false,false,false,false,false,false,false,false,false,false,false,false,false,false,false,false,false,false,false,false,false,false,false] rfl rfl (any_of HT_.out (by kernel_rfl)) (fun _ _ _ h => h) (Or.inl ⟨by rfl,?_⟩) ?_ ?_
                  rotate_left
                  ·intro w'
                   go_simp
                   with_reducible rfl
                  rotate_left
                  ·simp only [Act.put,p1_,p2_,p3_,i64_w,i32_w]
                   rfl
                  refine pure_ (i := 3) (N := some 61) (v := ?_) (a' := ?_) #[true,true,true,true,false,false,false,false,false,false,false,false,false,false,false,false,false,false,false,false,false,false,false,false,false,false,false] rfl rfl (any_of HT_.out (by kernel_rfl)) (fun _ _ _ h => h) (Or.inl ⟨by rfl,?_⟩) ?_ ?_
                  rotate_left
                  ·intro w'
                   go_simp
                   with_reducible rfl
                  rotate_left
                  ·simp only [Act.put,p1_,p2_,p3_,i64_w,i32_w]
                   rfl
                  refine pure_ (i := 7) (N := some 65) (v := ?_) (a' := ?_) #[true,true,true,true,false,false,false,true,false,false,false,false,false,false,false,false,false,false,false,false,false,false,false,false,false,false,false] rfl rfl (any_of HT_.out (by kernel_rfl)) (fun _ _ _ h => h) (Or.inl ⟨by rfl,?_⟩) ?_ ?_
                  rotate_left
                  ·intro w'
                   go_simp
                   with_reducible rfl
                  rotate_left
                  ·simp only [Act.put,p1_,p2_,p3_,i64_w,i32_w]
                   rfl
                  refine pure_ (i := 8) (N := some 66) (v := ?_) (a' := ?_) #[true,true,true,true,false,false,false,true,true,false,false,false,false,false,false,false,false,false,false,false,false,false,false,false,false,false,false] rfl rfl (any_of HT_.out (by kernel_rfl)) (fun _ _ _ h => h) (Or.inl ⟨by rfl,?_⟩) ?_ ?_
                  rotate_left
                  ·intro w'
                   go_simp
                   with_reducible rfl
                  rotate_left
                  ·simp only [Act.put,p1_,p2_,p3_,i64_w,i32_w]
                   rfl
                  refine pure_ (i := 9) (N := some 67) (v := ?_) (a' := ?_) #[true,true,true,true,false,false,false,true,true,true,false,false,false,false,false,false,false,false,false,false,false,false,false,false,false,false,false] rfl rfl (any_of HT_.out (by kernel_rfl)) (fun _ _ _ h => h) (Or.inl ⟨by rfl,?_⟩) ?_ ?_
                  rotate_left
                  ·intro w'
                   go_simp
                   with_reducible rfl
                  rotate_left
                  ·simp only [Act.put,p1_,p2_,p3_,i64_w,i32_w]
                   rfl
                  refine pure_ (i := 13) (N := some 71) (v := ?_) (a' := ?_) #[true,true,true,true,false,false,false,true,true,true,false,false,false,true,false,false,false,false,false,false,false,false,false,false,false,false,false] rfl rfl (any_of HT_.out (by kernel_rfl)) (fun _ _ _ h => h) (Or.inl ⟨by rfl,?_⟩) ?_ ?_
                  rotate_left
                  ·intro w'
                   go_simp
                   with_reducible rfl
                  rotate_left
                  ·simp only [Act.put,p1_,p2_,p3_,i64_w,i32_w]
                   rfl
                  refine pure_ (i := 14) (N := some 72) (v := ?_) (a' := ?_) #[true,true,true,true,false,false,false,true,true,true,false,false,false,true,true,false,false,false,false,false,false,false,false,false,false,false,false] rfl rfl (any_of HT_.out (by kernel_rfl)) (fun _ _ _ h => h) (Or.inl ⟨by rfl,?_⟩) ?_ ?_
                  rotate_left
                  ·intro w'
                   go_simp
                   with_reducible rfl
                  rotate_left
                  ·simp only [Act.put,p1_,p2_,p3_,i64_w,i32_w]
                   rfl
                  refine pure_ (i := 15) (N := some 73) (v := ?_) (a' := ?_) #[true,true,true,true,false,false,false,true,true,true,false,false,false,true,true,true,false,false,false,false,false,false,false,false,false,false,false] rfl rfl (any_of HT_.out (by kernel_rfl)) (fun _ _ _ h => h) (Or.inl ⟨by rfl,?_⟩) ?_ ?_
                  rotate_left
                  ·intro w'
                   go_simp
                   with_reducible rfl
                  rotate_left
                  ·simp only [Act.put,p1_,p2_,p3_,i64_w,i32_w]
                   rfl
                  refine pure_ (i := 19) (N := some 77) (v := ?_) (a' := ?_) #[true,true,true,true,false,false,false,true,true,true,false,false,false,true,true,true,false,false,false,true,false,false,false,false,false,false,false] rfl rfl (any_of HT_.out (by kernel_rfl)) (fun _ _ _ h => h) (Or.inl ⟨by rfl,?_⟩) ?_ ?_
                  rotate_left
                  ·intro w'
                   go_simp
                   with_reducible rfl
                  rotate_left
                  ·simp only [Act.put,p1_,p2_,p3_,i64_w,i32_w]
                   rfl
                  refine pure_ (i := 20) (N := some 78) (v := ?_) (a' := ?_) #[true,true,true,true,false,false,false,true,true,true,false,false,false,true,true,true,false,false,false,true,true,false,false,false,false,false,false] rfl rfl (any_of HT_.out (by kernel_rfl)) (fun _ _ _ h => h) (Or.inl ⟨by rfl,?_⟩) ?_ ?_
                  rotate_left
                  ·intro w'
                   go_simp
                   with_reducible rfl
                  rotate_left
                  ·simp only [Act.put,p1_,p2_,p3_,i64_w,i32_w]
                   rfl
                  refine pure_ (i := 21) (N := some 79) (v := ?_) (a' := ?_) #[true,true,true,true,false,false,false,true,true,true,false,false,false,true,true,true,false,false,false,true,true,true,false,false,false,false,false] rfl rfl (any_of HT_.out (by kernel_rfl)) (fun _ _ _ h => h) (Or.inl ⟨by rfl,?_⟩) ?_ ?_
                  rotate_left
                  ·intro w'
                   go_simp
                   with_reducible rfl
                  rotate_left
                  ·simp only [Act.put,p1_,p2_,p3_,i64_w,i32_w]
                   rfl
                  refine take_ (i := 4) (N := some 62) (v := ?_) (a' := ?_) #[true,true,true,true,true,false,false,true,true,true,false,false,false,true,true,true,false,false,false,true,true,true,false,false,false,false,false] rfl rfl (take_ofW HT_.out HW_.out (by kernel_rfl)) (fun _ _ _ h => h) (Or.inl ⟨by rfl,?_⟩) hHeld ?_ ?_
                  rotate_left
                  ·rintro w' ⟨s0,s1,s2,s3⟩
                   go_simp
                   with_reducible rfl
                  rotate_left
                  ·simp only [Act.put,p1_,p2_,p3_,i64_w,i32_w]
                   rfl
                  refine pure_ (i := 5) (N := some 63) (v := ?_) (a' := ?_) #[true,true,true,true,true,true,false,true,true,true,false,false,false,true,true,true,false,false,false,true,true,true,false,false,false,false,false] rfl rfl (any_of HT_.out (by kernel_rfl)) (fun _ _ _ h => h) (Or.inl ⟨by rfl,?_⟩) ?_ ?_
                  rotate_left
                  ·intro w'
                   go_simp
                   with_reducible rfl
                  rotate_left
                  ·simp only [Act.put,p1_,p2_,p3_,i64_w,i32_w]
                   rfl
                  refine pure_ (i := 6) (N := some 64) (v := ?_) (a' := ?_) #[true,true,true,true,true,true,true,true,true,true,false,false,false,true,true,true,false,false,false,true,true,true,false,false,false,false,false] rfl rfl (any_of HT_.out (by kernel_rfl)) (fun _ _ _ h => h) (Or.inl ⟨by rfl,?_⟩) ?_ ?_
                  rotate_left
                  ·intro w'
                   go_simp
                   with_reducible rfl
                  rotate_left
                  ·simp only [Act.put,p1_,p2_,p3_,i64_w,i32_w]
                   rfl
                  refine take_ (i := 10) (N := some 68) (v := ?_) (a' := ?_) #[true,true,true,true,true,true,true,true,true,true,true,false,false,true,true,true,false,false,false,true,true,true,false,false,false,false,false] rfl rfl (take_ofW HT_.out HW_.out (by kernel_rfl)) (fun _ _ _ h => h) (Or.inl ⟨by rfl,?_⟩) hHeld ?_ ?_
                  rotate_left
                  ·rintro w' ⟨s0,s1,s2,s3⟩
                   go_simp
                   with_reducible rfl
                  rotate_left
                  ·simp only [Act.put,p1_,p2_,p3_,i64_w,i32_w]
                   rfl
                  refine pure_ (i := 11) (N := some 69) (v := ?_) (a' := ?_) #[true,true,true,true,true,true,true,true,true,true,true,true,false,true,true,true,false,false,false,true,true,true,false,false,false,false,false] rfl rfl (any_of HT_.out (by kernel_rfl)) (fun _ _ _ h => h) (Or.inl ⟨by rfl,?_⟩) ?_ ?_
                  rotate_left
                  ·intro w'
                   go_simp
                   with_reducible rfl
                  rotate_left
                  ·simp only [Act.put,p1_,p2_,p3_,i64_w,i32_w]
                   rfl
                  refine pure_ (i := 12) (N := some 70) (v := ?_) (a' := ?_) #[true,true,true,true,true,true,true,true,true,true,true,true,true,true,true,true,false,false,false,true,true,true,false,false,false,false,false] rfl rfl (any_of HT_.out (by kernel_rfl)) (fun _ _ _ h => h) (Or.inl ⟨by rfl,?_⟩) ?_ ?_
                  rotate_left
                  ·intro w'
                   go_simp
                   with_reducible rfl
                  rotate_left
                  ·simp only [Act.put,p1_,p2_,p3_,i64_w,i32_w]
                   rfl
                  refine take_ (i := 16) (N := some 74) (v := ?_) (a' := ?_) #[true,true,true,true,true,true,true,true,true,true,true,true,true,true,true,true,true,false,false,true,true,true,false,false,false,false,false] rfl rfl (take_ofW HT_.out HW_.out (by kernel_rfl)) (fun _ _ _ h => h) (Or.inl ⟨by rfl,?_⟩) hHeld ?_ ?_
                  rotate_left
                  ·rintro w' ⟨s0,s1,s2,s3⟩
                   go_simp
                   with_reducible rfl
                  rotate_left
                  ·simp only [Act.put,p1_,p2_,p3_,i64_w,i32_w]
                   rfl
                  refine pure_ (i := 17) (N := some 75) (v := ?_) (a' := ?_) #[true,true,true,true,true,true,true,true,true,true,true,true,true,true,true,true,true,true,false,true,true,true,false,false,false,false,false] rfl rfl (any_of HT_.out (by kernel_rfl)) (fun _ _ _ h => h) (Or.inl ⟨by rfl,?_⟩) ?_ ?_
                  rotate_left
                  ·intro w'
                   go_simp
                   with_reducible rfl
                  rotate_left
                  ·simp only [Act.put,p1_,p2_,p3_,i64_w,i32_w]
                   rfl
                  refine pure_ (i := 18) (N := some 76) (v := ?_) (a' := ?_) #[true,true,true,true,true,true,true,true,true,true,true,true,true,true,true,true,true,true,true,true,true,true,false,false,false,false,false] rfl rfl (any_of HT_.out (by kernel_rfl)) (fun _ _ _ h => h) (Or.inl ⟨by rfl,?_⟩) ?_ ?_
                  rotate_left
                  ·intro w'
                   go_simp
                   with_reducible rfl
                  rotate_left
                  ·simp only [Act.put,p1_,p2_,p3_,i64_w,i32_w]
                   rfl
                  refine take_ (i := 22) (N := some 80) (v := ?_) (a' := ?_) #[true,true,true,true,true,true,true,true,true,true,true,true,true,true,true,true,true,true,true,true,true,true,true,false,false,false,false] rfl rfl (take_ofW HT_.out HW_.out (by kernel_rfl)) (fun _ _ _ h => h) (Or.inl ⟨by rfl,?_⟩) hHeld ?_ ?_
                  rotate_left
                  ·rintro w' ⟨s0,s1,s2,s3⟩
                   go_simp
                   with_reducible rfl
                  rotate_left
                  ·simp only [Act.put,p1_,p2_,p3_,i64_w,i32_w]
                   rfl
                  refine pure_ (i := 23) (N := some 81) (v := ?_) (a' := ?_) #[true,true,true,true,true,true,true,true,true,true,true,true,true,true,true,true,true,true,true,true,true,true,true,true,false,false,false] rfl rfl (any_of HT_.out (by kernel_rfl)) (fun _ _ _ h => h) (Or.inl ⟨by rfl,?_⟩) ?_ ?_
                  rotate_left
                  ·intro w'
                   go_simp
                   with_reducible rfl
                  rotate_left
                  ·simp only [Act.put,p1_,p2_,p3_,i64_w,i32_w]
                   rfl
                  refine one_ (i := 24) (N := some 82) #[true,true,true,true,true,true,true,true,true,true,true,true,true,true,true,true,true,true,true,true,true,true,true,true,true,false,false] rfl rfl (one_of HT_.out (by kernel_rfl)) (by decide) (fun K hK => ?_)
                  refine Kd.R_lit_step (Kd.int .u8) _ 5 ?hg (N := 82) ?hd (xs := ([((rd x3_3 x9_4) / 16777216) % 256,((rd x3_3 x9_4) / 65536) % 256,((rd x3_3 x9_4) / 256) % 256,(rd x3_3 x9_4) % 256] : List Int)) (inner := [.int .u8 (((rd x3_3 x9_4) / 16777216) % 256),.int .u8 (((rd x3_3 x9_4) / 65536) % 256),.int .u8 (((rd x3_3 x9_4) / 256) % 256),.int .u8 ((rd x3_3 x9_4) % 256)]) (ok := fun _ => True) (okp := fun _ => True) ?hr ?hp (fun _ hk => hk) trivial (Below.refl _ _) (Nat.le_refl _) (by simp) ?_;(case hd => rfl);(case hg => rfl);(case hr => first | (go_simp;done) | (go_simp;rfl));(case hp => exact (Reps.one (show Kd.M (Kd.int .u8) _ _ _ (((rd x3_3 x9_4) / 16777216) % 256) [.int .u8 (((rd x3_3 x9_4) / 16777216) % 256)] from rfl) (Reps.one (show Kd.M (Kd.int .u8) _ _ _ (((rd x3_3 x9_4) / 65536) % 256) [.int .u8 (((rd x3_3 x9_4) / 65536) % 256)] from rfl) (Reps.one (show Kd.M (Kd.int .u8) _ _ _ (((rd x3_3 x9_4) / 256) % 256) [.int .u8 (((rd x3_3 x9_4) / 256) % 256)] from rfl) (Reps.one (show Kd.M (Kd.int .u8) _ _ _ ((rd x3_3 x9_4) % 256) [.int .u8 ((rd x3_3 x9_4) % 256)] from rfl) (Reps.none _ _))))))
                  intro v233 w39 ho40 hb hg_ hnew_
                  have HS0_ := (hb.cell (World.block_lt_of_cell? _ _ (hHeld.1))).trans (hHeld.1)
                  have HS1_ := (hb.cell (World.block_lt_of_cell? _ _ (hHeld.2.1))).trans (hHeld.2.1)
                  have HS2_ := (hb.cell (World.block_lt_of_cell? _ _ (hHeld.2.2.1))).trans (hHeld.2.2.1)
                  have HS3_ := (hb.cell (World.block_lt_of_cell? _ _ (hHeld.2.2.2))).trans (hHeld.2.2.2)
                  clear hg_ hnew_
                  (first | rw [← Ny232.out] at ho40 | (simp only [Int.reduceToNat] at ho40;rw [← Ny232.out] at ho40))
                  have n0_ := am_ (Kd.R_below (by (with_reducible repeat (first | apply r1_ | apply r2_ | apply r3_));exact HO_3.out) hb)
                  have n1_ := am_ (Kd.R_elder' (by (with_reducible repeat (first | apply r1_ | apply r2_ | apply r3_));exact HO_8.out) (Kd.R_base ho40) hb)
                  have n2_ := am_ (Kd.R_lower (Kd.R_new' ho40 (Kd.R_lt (by (with_reducible repeat (first | apply r1_ | apply r2_ | apply r3_));exact HO_8.out))) (below_size (by repeat (first | (with_reducible first | exact HB.out | apply b1_ | apply b2_ | apply b3_) | exact HB.out))))
                  have n3_ := am_ (below_step (by repeat (first | (with_reducible first | exact HB.out | apply b1_ | apply b2_ | apply b3_) | exact HB.out)) hb)
                  clear HO_3
                  clear HO_8
                  clear HB
                  have HO_3 := n0_
                  have HO_8 := n1_
                  have HO234 := n2_
                  have HB := n3_
                  clear n0_ n1_ n2_ n3_
                  clear hb ho40
                  obtain ⟨Ao42,co42,eo42⟩ := Kd.R_slice HO234.out
                  (first | subst eo42 | (injection eo42 with f1_ f2_ f3_;have f4_ := f1_.symm;have f5_ := f3_.symm;clear f1_ f2_ f3_;subst f4_;subst f5_))
                  refine hK.out _ _ ⟨HS0_,HS1_,HS2_,HS3_⟩ (fun hHeld => ?_)
                  clear hK K
                  refine norm_ (a' := ?_) ?_ ?_
                  rotate_left
                  ·show Act.put _ (some 82) _ = _
                   simp only [Act.put,p1_,p2_,p3_,i64_w,i32_w]
                   rfl
                  refine last_ (i := 25) (N := some 83) #[true,true,true,true,true,true,true,true,true,true,true,true,true,true,true,true,true,true,true,true,true,true,true,true,true,true,false] rfl rfl (one_of HT_.out (by kernel_rfl)) (by decide) (fun K hK => ?_)
                  refine Kd.R_append_rows_step (Kd.int .u8) (w0 := w) w.heap.size (by rfl) (.tmp 58) (.tmp 82) 22 5 (.int .u8 0) 1 rfl Try.underlying22 info5 rfl (by decide) (by omega) u8 x8_4 y232 _ _ _ (fun k_ => some k_ ≠ (.slice Ao42 y232.length co42 : Value).ownBlock) (fun _ => False) rfl rfl ?aO ?aR (fun _ _ h => h) (fun _ h => h.elim) ?aF ?aB ?aS ?aL ?_
                  (case aR => repeat (first | exact (Kd.R_reads' HO234.out).2.2 | (with_reducible refine Kd.C_alloc ?_ _) | (with_reducible refine Kd.C_drewN ?_ _) | (with_reducible refine Kd.C_drew ?_)))
                  (case aB => exact (by repeat (first | (with_reducible first | exact HB.out | apply b1_ | apply b2_ | apply b3_) | exact HB.out)))
                  (case aF => exact (fun k_ hk => Kd.fresh' (Kd.R_lt (by (with_reducible repeat (first | apply r1_ | apply r2_ | apply r3_));exact HO234.out)) k_ hk))
                  (case aO => exact (by (with_reducible repeat (first | apply r1_ | apply r2_ | apply r3_));exact Kd.R_mono HO_8.out (fun _ hk => hk.2)))
                  (case aS => exact (below_size (by repeat (first | (with_reducible first | exact HB.out | apply b1_ | apply b2_ | apply b3_) | exact HB.out))))
                  (case aL => have := LMc36.out;omega)
                  intro v236 w41 ho hb hg hat
                  rw [← Ny235.out] at ho
                  have n0_ := am_ (Kd.R_over' (by (with_reducible repeat (first | apply r1_ | apply r2_ | apply r3_));exact HO_3.out) (Kd.R_typed (by (with_reducible repeat (first | apply r1_ | apply r2_ | apply r3_));exact HO_8.out)) (by decide) hg)
                  have n1_ := am_ (Kd.R_after (ok := (fun _ => True)) (by (with_reducible repeat (first | apply r1_ | apply r2_ | apply r3_));exact HO234.out) hg hat)
                  have n2_ := am_ (hb)
                  have n3_ := am_ (ho)
                  clear HO_3
                  clear HO234
                  clear HB
                  clear HO_8
                  have HO_3 := n0_
                  have HO234 := n1_
                  have HB := n2_
                  have HO237 := n3_
                  clear n0_ n1_ n2_ n3_
                  clear ho hb hg hat
                  refine hK.out _ _ ?_
                  clear hK K
                  refine norm_ (a' := ?_) ?_ ?_
                  rotate_left
                  ·show Act.put _ (some 83) _ = _
                   simp only [Act.put,p1_,p2_,p3_,i64_w,i32_w]
                   rfl
                  refine pure_ (i := 26) (N := some 8) (v := ?_) (a' := ?_) #[true,true,true,true,true,true,true,true,true,true,true,true,true,true,true,true,true,true,true,true,true,true,true,true,true,true,true] rfl rfl (any_of HT_.out (by kernel_rfl)) (fun _ _ _ h => h) (Or.inl ⟨by rfl,?_⟩) ?_ ?_
                  rotate_left
                  ·intro w'
                   go_simp
                   with_reducible rfl
                  rotate_left
                  ·simp only [Act.put,p1_,p2_,p3_,i64_w,i32_w]
                   rfl
                  refine done_ (done_of HT_.out (by kernel_rfl)) ?_
                  try go_wp2
                  go_roundg k4
                  case measure => have := HK1.out;have := HK2.out;have := HK3.out;have := HK4.out;omega
                  case rel => exact ⟨(y235),(wrap64 (x9_4 + 1)),(by first | rfl | (simp;done) | (simp [*];done)),H',⟨by have := HK1.out;have := HK2.out;have := HK3.out;have := HK4.out;omega⟩,⟨by (with_reducible repeat (first | apply r1_ | apply r2_ | apply r3_));exact HO_3.out⟩,⟨by (with_reducible repeat (first | apply r1_ | apply r2_ | apply r3_));exact Kd.R_mono HO237.out (fun _ hk => trivial)⟩,⟨by repeat (first | (with_reducible first | exact HB.out | apply b1_ | apply b2_ | apply b3_) | exact HB.out)⟩⟩
                 ·rw [if_neg c36] at H
                  exact absurd H (by simp)
                ·rw [if_neg c35] at H
                 exact absurd H (by simp)
               ·rw [if_neg c34] at H
                exact absurd H (by simp)
              ·rw [if_neg c33] at H
               have c33b0 : decide (x9_4 < 8) = false := decide_eq_false c33
               clear c33
               obtain rfl := Option.some.inj H
               have hcv43 := own_string (P := Try.prog) Try.underlying22 Try.underlying5 Try.underlying9 (Kd.own_of_R HO_8.out)
               go_wp2
               go_ret
               exact ⟨by first | rfl | (simp [e1_,e2_] <;> rfl) | (simp [*,e1_,e2_] <;> rfl) | (simp [e3_,e4_];done) | (simp [*,e3_,e4_];done),by repeat (first | (with_reducible first | exact HB.out | apply b1_ | apply b2_ | apply b3_) | exact HB.out)⟩
     ·rw [if_neg c10] at H
      have c10b0 : (((x4_1.length : Int) % 64) == 56) = false := beq_eq_false_iff_ne.mpr c10
      have c10b1 : (((x4_1.length : Int) % 64) != 56) = true := bne_iff_ne.mpr c10
      by_cases c44 : x4_1.length < 140737488355328
      ·rw [if_pos c44] at H
       have LMc44 := am_ c44
       clear c44
       obtain ⟨y211,hy211⟩ : ∃ y_ : List Int,y_ = (x4_1 ++ [0]) := ⟨_,rfl⟩
       replace H : (spec_l01Hash.l0 k1 l0 y199 y211) = some r := by first | (rw [hy211];with_reducible exact H) | (have H2_ := (Option.bind_some _ _).symm.trans H;rw [hy211];with_reducible exact H2_) | (have H2_ := (Option.bind_some _ _).symm.trans H;with_reducible exact H2_) | with_reducible exact H | (rw [hy211];exact H) | exact H
       have Ny211 := am_ hy211
       clear hy211
       have H' := am_ H
       clear H
       obtain ⟨Ao45,co45,eo45⟩ := Kd.R_slice HO_4.out
       subst eo45
       go_wp2_with (first | ((with_reducible refine gate_builtin (b := .append) (xs := #[.tmp 20,.tmp 21]) rfl ?_);at_builtin;refine Kd.R_append (Kd.int .u8) (w0 := w) w.heap.size rfl (.tmp 20) (.tmp 21) 22 5 (.int .u8 0) 1 rfl Try.underlying22 info5 rfl (by decide) (by omega) (.slice Ao45 x4_1.length co45) x4_1 0 [.int .u8 0] (fun _ => True) (fun _ => False) rfl rfl ?aP (fun _ hk => hk.elim) ?aF ?aO ?aB ?aS ?aL ?_;(case aP => exact rfl);(case aB => exact (by repeat (first | (with_reducible first | exact HB.out | apply b1_ | apply b2_ | apply b3_) | exact HB.out)));(case aF => exact (fun _ _ => trivial));(case aO => exact (by (with_reducible repeat (first | apply r1_ | apply r2_ | apply r3_));exact HO_4.out));(case aS => exact (below_size (by repeat (first | (with_reducible first | exact HB.out | apply b1_ | apply b2_ | apply b3_) | exact HB.out))));(case aL => have := LMc44.out;omega);intro v212 w46 ho hb hg hat;rw [← Ny211.out] at ho;have n0_ := am_ (Kd.R_over' (by (with_reducible repeat (first | apply r1_ | apply r2_ | apply r3_));exact HO_3.out) (Kd.R_typed (by (with_reducible repeat (first | apply r1_ | apply r2_ | apply r3_));exact HO_4.out)) (by decide) hg);have n1_ := am_ (hb);have n2_ := am_ (ho);clear HO_3;clear HB;clear HO_4;have HO_3 := n0_;have HB := n1_;have HO213 := n2_;clear n0_ n1_ n2_;clear ho hb hg hat))
       go_roundg k1
       case measure => have := HK1.out;omega
       case rel => exact ⟨(y211),H',⟨by have := HK1.out;omega⟩,⟨by (with_reducible repeat (first | apply r1_ | apply r2_ | apply r3_));exact HO_3.out⟩,⟨by (with_reducible repeat (first | apply r1_ | apply r2_ | apply r3_));exact HO213.out⟩,⟨by repeat (first | (with_reducible first | exact HB.out | apply b1_ | apply b2_ | apply b3_) | exact HB.out)⟩⟩
      ·rw [if_neg c44] at H
       exact absurd H (by simp)
  ·rw [if_neg c3] at H
   exact absurd H (by simp)
 ·rw [if_neg c2] at H
  exact absurd H (by simp)
def spec_l00Src_batch.T8 : Bool × List (List Nat × List Nat) := (true,[([],[]),([0],[0]),([],[]),([],[]),([3],[3]),([],[]),([5],[5]),([6],[6]),([7,4],[7]),([8],[8]),([2,4,9],[2,4,9]),([10],[10]),([1,11,8],[1,11]),([0,1,2,3,4,5,6,7,8,9,10,11,12],[]),([13,12,12,0,1,2,3,4,5,6,7,8,9,10,11,12],[12,13])])
def spec_l00Src_batch.B8 : List Nat := [0,1,0,0,8,0,32,96,248,504,1020,2044,4095,8191,16383]
theorem spec_l00Src_batch.tab8 : rtab .any (opsOf Try.f38 8) = spec_l00Src_batch.T8 := by kernel_rfl
theorem spec_l00Src_batch.bits8 : waitsOk spec_l00Src_batch.T8.2 spec_l00Src_batch.B8 = true := by kernel_rfl
set_option maxHeartbeats 8000000 in
set_option maxRecDepth 100000 in
theorem spec_l00Src_batch.calls (k : Nat) (g : Nat) (s0_0 : List Int) (s0_1 : Int) (s0_2 : Int) (r1 : Bool) (r2 : Int) (r3 : Int) (r4 : Int) (r5 : Int) (r6 : ByteArray) (r7 : List (S70)) (r8 : Int) (r9 : Int) (w0 w : World) (hI : IsS72 w0 w g s0_0 s0_1 s0_2) (hB : Below w0.heap.size w0 w) (h : spec_l00Src_batch.f k s0_0 s0_1 s0_2 = some (r1,r2,r3,r4,r5,r6,r7,r8,r9)) :
  Calls Try.prog 38 #[.pointer (some ⟨g,0,none⟩)] w fun e w' => ∃ v6_ : Value,e = .returned (.agg #[.bool r1,.int .i64 r2,.int .i64 r3,.int .i64 r4,.int .i64 r5,.string r6,v6_]) ∧ Kd.R k70 70 w' w.heap.size (fun _ => True) v6_ r7 ∧ IsS72 w0 w' g s0_0 r8 r9 ∧ Below w0.heap.size w0 w' ∧ KeepBut w w' g none := by
 have hu41 := Try.underlying41
 have hu70 := Try.underlying70
 have HI0 := am_ hI
 have HK := am_ (KeepBut.refl w g none)
 have HL := am_ hB.size
 clear hI
 have HW0 := am_ hB.size
 have HB := am_ hB
 clear hB
 have H : ((spec_l00Src_chance.f s0_0 s0_1 s0_2 6).bind fun bt242 => (if bt242.1 = true then (some (true,0,0,0,0,(⟨#[]⟩ : ByteArray),(([] : List (S70))),bt242.2.1,bt242.2.2)) else ((spec_l00Src_request.f s0_0 bt242.2.1 bt242.2.2).bind fun bt248 => (spec_l00Src_batch.l0 k 0 s0_0 bt248.2.2.2.2.2.1 bt248.2.2.2.2.2.2 false bt248.1 bt248.2.1 bt248.2.2.1 bt248.2.2.2.1 bt248.2.2.2.2.1 (([] : List (S70))))))) = some (r1,r2,r3,r4,r5,r6,r7,r8,r9) := h
 clear h
 replace H := Option.bind_eq_some_iff.mp H
 obtain ⟨⟨t242,t243,t244⟩,A20,H⟩ := H
 try dsimp only at H
 have A2 := am_ A20
 clear A20
 by_cases c3 : t242 = true
 ·subst c3
  have H1 : (some (true,0,0,0,0,(⟨#[]⟩ : ByteArray),(([] : List (S70))),t243,t244)) = some (r1,r2,r3,r4,r5,r6,r7,r8,r9) := by rw [if_pos rfl] at H;exact H
  clear H
  have H := H1
  clear H1
  obtain ⟨y245,hy245⟩ : ∃ y_ : List (S70),y_ = (([] : List (S70))) := ⟨_,rfl⟩
  replace H : (some (true,0,0,0,0,(⟨#[]⟩ : ByteArray),y245,t243,t244)) = some (r1,r2,r3,r4,r5,r6,r7,r8,r9) := by first | (rw [hy245];with_reducible exact H) | (have H2_ := (Option.bind_some _ _).symm.trans H;rw [hy245];with_reducible exact H2_) | (have H2_ := (Option.bind_some _ _).symm.trans H;with_reducible exact H2_) | with_reducible exact H | (rw [hy245];exact H) | exact H
  have Ny245 := am_ hy245
  clear hy245
  simp only [Option.some.injEq,Prod.mk.injEq] at H
  obtain ⟨rfl,rfl,rfl,rfl,rfl,rfl,rfl,rfl,rfl⟩ := H
  go_enter Try.func38,Try.ntmps38
  go_wp2_with (first | ((with_reducible refine gate_dst (N := 2) rfl ?_);refine box_event ?hg (N := 2) ?hd (cs := #[.bool false,.int .i64 0,.int .i64 0,.int .i64 0,.int .i64 0,.string ⟨#[]⟩,.slice none 0 0]) (t := 41) ?hr ?_;(case hd => rfl);(case hg => rfl);(case hr => first | (go_simp;done) | (go_simp;rfl));intro gb241 hg w4 hbox hb;have n0_ := am_ (IsS72.below (by repeat (first | (with_reducible first | exact HI0.out | apply IsS72.alloc | apply IsS72.drewN | apply IsS72.drew | apply IsS72.set_1 | apply IsS72.set_2) | exact HI0.out)) hb);have n1_ := am_ (KeepBut.trans (by repeat (first | (with_reducible first | exact HK.out | apply KeepBut.set_ | apply keep_drewN | apply keep_drew | apply keep_alloc) | exact HK.out)) (KeepBut.of_below hb g none) (.inl rfl));have n2_ := am_ (below_step (by repeat (first | (with_reducible first | exact HB.out | apply b1_ | apply b2_ | apply b3_ | refine below_set ?_ (IsS72.ge HI0.out)) | exact HB.out)) hb);have n3_ := am_ (hbox);have n4_ := am_ ((by rw [hg];exact (keep_size (w := w) (g := g) (row := none) (by repeat (first | (with_reducible first | exact HK.out | apply KeepBut.set_ | apply keep_drewN | apply keep_drew | apply keep_alloc) | exact HK.out))) : w.heap.size ≤ gb241));have n5_ := am_ ((Nat.le_trans HW0.out (by rw [hg];exact (keep_size (w := w) (g := g) (row := none) (by repeat (first | (with_reducible first | exact HK.out | apply KeepBut.set_ | apply keep_drewN | apply keep_drew | apply keep_alloc) | exact HK.out))) : w.heap.size ≤ gb241) : w0.heap.size ≤ gb241));have n6_ := am_ ((by rw [hg];exact Nat.ne_of_lt (IsS72.lt (show IsS72 w0 _ g s0_0 s0_1 s0_2 from by repeat (first | (with_reducible first | exact HI0.out | apply IsS72.alloc | apply IsS72.drewN | apply IsS72.drew | apply IsS72.set_1 | apply IsS72.set_2) | exact HI0.out))) : g ≠ gb241));have n7_ := am_ ((by rw [hg];exact Nat.ne_of_gt (IsS72.lt (show IsS72 w0 _ g s0_0 s0_1 s0_2 from by repeat (first | (with_reducible first | exact HI0.out | apply IsS72.alloc | apply IsS72.drewN | apply IsS72.drew | apply IsS72.set_1 | apply IsS72.set_2) | exact HI0.out))) : gb241 ≠ g));clear HI0;clear HK;clear HB;have HI0 := n0_;have HK := n1_;have HB := n2_;have BK241 := n3_;have GW241 := n4_;have GE241 := n5_;have NB0_241 := n6_;have NB241_0 := n7_;clear n0_ n1_ n2_ n3_ n4_ n5_ n6_ n7_;clear hb hbox hg) | ((with_reducible refine gate_callee (f := 60) rfl ?_);refine goesL_ (some 6) rfl rfl Try.func60 (by kernel_rfl) rfl #[.pointer (some ⟨g,0,none⟩),.int .i64 6] rfl (by (try simp only [m1_,m2_,m3_]);first | done | rfl | (simp only [d1_,d2_];rfl)) ?_;(with_reducible refine (spec_l00Src_chance.calls g s0_0 s0_1 s0_2 6 true t243 t244 w0 _ ?side1 ?side2 A2.out).mono ?_);(case side1 => repeat (first | (with_reducible first | exact HI0.out | apply IsS72.alloc | apply IsS72.drewN | apply IsS72.drew | apply IsS72.set_1 | apply IsS72.set_2 | refine IsS72.far ?_ NB0_241.out _) | exact HI0.out));(case side2 => repeat (first | (with_reducible first | exact HB.out | apply b1_ | apply b2_ | apply b3_ | refine below_set ?_ (IsS72.ge HI0.out) | refine below_set ?_ GE241.out) | exact HB.out));rintro e w5 ⟨rfl,hi,hb,hk⟩;refine ⟨_,rfl,?_⟩;have n0_ := am_ (KeepBut.blk hk (g' := gb241) (o := .cells #[.bool false,.int .i64 0,.int .i64 0,.int .i64 0,.int .i64 0,.string ⟨#[]⟩,.slice none 0 0] 41 (0,0)) (by (with_reducible repeat (first | apply k1_ | apply k2_ | apply k3_));exact BK241.out) NB241_0.out (by simp));have n1_ := am_ (KeepBut.trans (by repeat (first | (with_reducible first | exact HK.out | apply KeepBut.set_ | apply keep_drewN | apply keep_drew | apply keep_alloc | refine keep_far ?_ GW241.out _) | exact HK.out)) hk (.inl rfl));have n2_ := am_ (hb);have n3_ := am_ (hi);clear BK241;clear HK;clear HB;clear HI0;have BK241 := n0_;have HK := n1_;have HB := n2_;have HI0 := n3_;clear n0_ n1_ n2_ n3_;(try clear hb);(try clear hb2);(try clear hk);(try clear hi)) | ((with_reducible refine gate_dst (N := 7) rfl ?_);refine Kd.R_lit k70 _ 70 ?hg (N := 7) ?hd (xs := ([] : List (S70))) (inner := []) (ok := fun _ => True) (okp := fun _ => True) ?hr ?hp (fun _ hk => hk) trivial (Below.refl _ _) (Nat.le_refl _) (by simp) ?_;(case hd => rfl);(case hg => rfl);(case hr => first | (go_simp;done) | (go_simp;rfl));(case hp => exact (Reps.none _ _));intro v246 w6 ho7 hb hg_ hnew_;clear hg_ hnew_;(first | rw [← Ny245.out] at ho7 | (simp only [Int.reduceToNat] at ho7;rw [← Ny245.out] at ho7));have n0_ := am_ (Kd.R_lower ho7 (keep_size (w := w) (g := g) (row := none) (by repeat (first | (with_reducible first | exact HK.out | apply KeepBut.set_ | apply keep_drewN | apply keep_drew | apply keep_alloc | refine keep_far ?_ GW241.out _) | exact HK.out))));have n1_ := am_ (IsS72.below (by repeat (first | (with_reducible first | exact HI0.out | apply IsS72.alloc | apply IsS72.drewN | apply IsS72.drew | apply IsS72.set_1 | apply IsS72.set_2 | refine IsS72.far ?_ NB0_241.out _) | exact HI0.out)) hb);have n2_ := am_ (blk_below (g := gb241) (o := .cells #[.bool false,.int .i64 0,.int .i64 0,.int .i64 0,.int .i64 0,.string ⟨#[]⟩,.slice none 0 0] 41 (0,0)) (by (with_reducible repeat (first | apply k1_ | apply k2_ | apply k3_));exact BK241.out) hb);have n3_ := am_ (KeepBut.trans (by repeat (first | (with_reducible first | exact HK.out | apply KeepBut.set_ | apply keep_drewN | apply keep_drew | apply keep_alloc | refine keep_far ?_ GW241.out _) | exact HK.out)) (KeepBut.of_below hb g none) (.inl rfl));have n4_ := am_ (below_step (by repeat (first | (with_reducible first | exact HB.out | apply b1_ | apply b2_ | apply b3_ | refine below_set ?_ (IsS72.ge HI0.out) | refine below_set ?_ GE241.out) | exact HB.out)) hb);clear HI0;clear BK241;clear HK;clear HB;have HO247 := n0_;have HI0 := n1_;have BK241 := n2_;have HK := n3_;have HB := n4_;clear n0_ n1_ n2_ n3_ n4_;clear hb ho7;obtain ⟨Ao8,co8,eo8⟩ := Kd.R_slice HO247.out;subst eo8;have hnb9 := NB241_0.out;have hnc9 := NB0_241.out;obtain ⟨hcz10_0,hcz10_1,hcz10_2,hcz10_3,hcz10_4,hcz10_5,hcz10_6,hfz10_0,hfz10_1,hfz10_2,hfz10_3,hfz10_4,hfz10_5,hfz10_6⟩ := bc7_ BK241.out))
  refine bodyPost_ret (results_cell_row rfl _ _ gb241 41 #[.bool true,.int .i64 0,.int .i64 0,.int .i64 0,.int .i64 0,.string ⟨#[]⟩,.slice Ao8 y245.length co8] (0,0) _ rfl (by (with_reducible repeat (first | apply k1_ | apply k2_ | apply k3_));refine blk_put (cs := #[.bool true,.int .i64 0,.int .i64 0,.int .i64 0,.int .i64 0,.string ⟨#[]⟩,.slice none 0 0]) ?_ 6 _ rfl;(with_reducible repeat (first | apply k1_ | apply k2_ | apply k3_));refine blk_put (cs := #[.bool true,.int .i64 0,.int .i64 0,.int .i64 0,.int .i64 0,.string ⟨#[]⟩,.slice none 0 0]) ?_ 5 _ rfl;(with_reducible repeat (first | apply k1_ | apply k2_ | apply k3_));refine blk_put (cs := #[.bool true,.int .i64 0,.int .i64 0,.int .i64 0,.int .i64 0,.string ⟨#[]⟩,.slice none 0 0]) ?_ 4 _ rfl;(with_reducible repeat (first | apply k1_ | apply k2_ | apply k3_));refine blk_put (cs := #[.bool true,.int .i64 0,.int .i64 0,.int .i64 0,.int .i64 0,.string ⟨#[]⟩,.slice none 0 0]) ?_ 3 _ rfl;(with_reducible repeat (first | apply k1_ | apply k2_ | apply k3_));refine blk_put (cs := #[.bool true,.int .i64 0,.int .i64 0,.int .i64 0,.int .i64 0,.string ⟨#[]⟩,.slice none 0 0]) ?_ 2 _ rfl;(with_reducible repeat (first | apply k1_ | apply k2_ | apply k3_));refine blk_put (cs := #[.bool true,.int .i64 0,.int .i64 0,.int .i64 0,.int .i64 0,.string ⟨#[]⟩,.slice none 0 0]) ?_ 1 _ rfl;(with_reducible repeat (first | apply k1_ | apply k2_ | apply k3_));refine blk_put (cs := #[.bool false,.int .i64 0,.int .i64 0,.int .i64 0,.int .i64 0,.string ⟨#[]⟩,.slice none 0 0]) ?_ 0 _ rfl;(with_reducible repeat (first | apply k1_ | apply k2_ | apply k3_));exact BK241.out) Try.underlying41 rfl (by kernel_rfl)) rfl ?_
  exact ⟨_,by first | rfl | (simp [e1_,e2_] <;> rfl) | (simp [*,e1_,e2_] <;> rfl) | (simp [e3_,e4_];done) | (simp [*,e3_,e4_];done),by (with_reducible repeat (first | apply r1_ | apply r2_ | apply r3_));exact Kd.R_mono (Kd.Rf (Kd.Rf (Kd.Rf (Kd.Rf (Kd.Rf (Kd.Rf (Kd.Rf (Kd.R_types HO247.out BK241.out (by decide))))))))) (fun _ hk => trivial),by repeat (first | (with_reducible first | exact HI0.out | apply IsS72.alloc | apply IsS72.drewN | apply IsS72.drew | apply IsS72.set_1 | apply IsS72.set_2 | refine IsS72.far ?_ NB0_241.out _) | exact HI0.out),by repeat (first | (with_reducible first | exact HB.out | apply b1_ | apply b2_ | apply b3_ | refine below_set ?_ (IsS72.ge HI0.out) | refine below_set ?_ GE241.out) | exact HB.out),by repeat (first | (with_reducible first | exact HK.out | apply KeepBut.set_ | apply keep_drewN | apply keep_drew | apply keep_alloc | refine keep_far ?_ GW241.out _) | exact HK.out)⟩
 ·replace c3 := Bool.eq_false_iff.mpr c3
  subst c3
  have H1 : ((spec_l00Src_request.f s0_0 t243 t244).bind fun bt248 => (spec_l00Src_batch.l0 k 0 s0_0 bt248.2.2.2.2.2.1 bt248.2.2.2.2.2.2 false bt248.1 bt248.2.1 bt248.2.2.1 bt248.2.2.2.1 bt248.2.2.2.2.1 (([] : List (S70))))) = some (r1,r2,r3,r4,r5,r6,r7,r8,r9) := by rw [if_neg (show ¬ (false = true) by decide)] at H;exact H
  clear H
  have H := H1
  clear H1
  replace H := Option.bind_eq_some_iff.mp H
  obtain ⟨⟨t248,t249,t250,t251,t252,t253,t254⟩,A110,H⟩ := H
  try dsimp only at H
  have A11 := am_ A110
  clear A110
  obtain ⟨y255,hy255⟩ : ∃ y_ : List (S70),y_ = (([] : List (S70))) := ⟨_,rfl⟩
  replace H : (spec_l00Src_batch.l0 k 0 s0_0 t253 t254 false t248 t249 t250 t251 t252 y255) = some (r1,r2,r3,r4,r5,r6,r7,r8,r9) := by first | (rw [hy255];with_reducible exact H) | (have H2_ := (Option.bind_some _ _).symm.trans H;rw [hy255];with_reducible exact H2_) | (have H2_ := (Option.bind_some _ _).symm.trans H;with_reducible exact H2_) | with_reducible exact H | (rw [hy255];exact H) | exact H
  have Ny255 := am_ hy255
  clear hy255
  have H' := am_ H
  clear H
  go_enter Try.func38,Try.ntmps38
  go_wp2_with (first | ((with_reducible refine gate_dst (N := 2) rfl ?_);refine box_event ?hg (N := 2) ?hd (cs := #[.bool false,.int .i64 0,.int .i64 0,.int .i64 0,.int .i64 0,.string ⟨#[]⟩,.slice none 0 0]) (t := 41) ?hr ?_;(case hd => rfl);(case hg => rfl);(case hr => first | (go_simp;done) | (go_simp;rfl));intro gb241 hg w12 hbox hb;have n0_ := am_ (IsS72.below (by repeat (first | (with_reducible first | exact HI0.out | apply IsS72.alloc | apply IsS72.drewN | apply IsS72.drew | apply IsS72.set_1 | apply IsS72.set_2) | exact HI0.out)) hb);have n1_ := am_ (KeepBut.trans (by repeat (first | (with_reducible first | exact HK.out | apply KeepBut.set_ | apply keep_drewN | apply keep_drew | apply keep_alloc) | exact HK.out)) (KeepBut.of_below hb g none) (.inl rfl));have n2_ := am_ (below_step (by repeat (first | (with_reducible first | exact HB.out | apply b1_ | apply b2_ | apply b3_ | refine below_set ?_ (IsS72.ge HI0.out)) | exact HB.out)) hb);have n3_ := am_ (hbox);have n4_ := am_ ((by rw [hg];exact (keep_size (w := w) (g := g) (row := none) (by repeat (first | (with_reducible first | exact HK.out | apply KeepBut.set_ | apply keep_drewN | apply keep_drew | apply keep_alloc) | exact HK.out))) : w.heap.size ≤ gb241));have n5_ := am_ ((Nat.le_trans HW0.out (by rw [hg];exact (keep_size (w := w) (g := g) (row := none) (by repeat (first | (with_reducible first | exact HK.out | apply KeepBut.set_ | apply keep_drewN | apply keep_drew | apply keep_alloc) | exact HK.out))) : w.heap.size ≤ gb241) : w0.heap.size ≤ gb241));have n6_ := am_ ((by rw [hg];exact Nat.ne_of_lt (IsS72.lt (show IsS72 w0 _ g s0_0 s0_1 s0_2 from by repeat (first | (with_reducible first | exact HI0.out | apply IsS72.alloc | apply IsS72.drewN | apply IsS72.drew | apply IsS72.set_1 | apply IsS72.set_2) | exact HI0.out))) : g ≠ gb241));have n7_ := am_ ((by rw [hg];exact Nat.ne_of_gt (IsS72.lt (show IsS72 w0 _ g s0_0 s0_1 s0_2 from by repeat (first | (with_reducible first | exact HI0.out | apply IsS72.alloc | apply IsS72.drewN | apply IsS72.drew | apply IsS72.set_1 | apply IsS72.set_2) | exact HI0.out))) : gb241 ≠ g));clear HI0;clear HK;clear HB;have HI0 := n0_;have HK := n1_;have HB := n2_;have BK241 := n3_;have GW241 := n4_;have GE241 := n5_;have NB0_241 := n6_;have NB241_0 := n7_;clear n0_ n1_ n2_ n3_ n4_ n5_ n6_ n7_;clear hb hbox hg) | ((with_reducible refine gate_callee (f := 60) rfl ?_);refine goesL_ (some 6) rfl rfl Try.func60 (by kernel_rfl) rfl #[.pointer (some ⟨g,0,none⟩),.int .i64 6] rfl (by (try simp only [m1_,m2_,m3_]);first | done | rfl | (simp only [d1_,d2_];rfl)) ?_;(with_reducible refine (spec_l00Src_chance.calls g s0_0 s0_1 s0_2 6 false t243 t244 w0 _ ?side1 ?side2 A2.out).mono ?_);(case side1 => repeat (first | (with_reducible first | exact HI0.out | apply IsS72.alloc | apply IsS72.drewN | apply IsS72.drew | apply IsS72.set_1 | apply IsS72.set_2 | refine IsS72.far ?_ NB0_241.out _) | exact HI0.out));(case side2 => repeat (first | (with_reducible first | exact HB.out | apply b1_ | apply b2_ | apply b3_ | refine below_set ?_ (IsS72.ge HI0.out) | refine below_set ?_ GE241.out) | exact HB.out));rintro e w13 ⟨rfl,hi,hb,hk⟩;refine ⟨_,rfl,?_⟩;have n0_ := am_ (KeepBut.blk hk (g' := gb241) (o := .cells #[.bool false,.int .i64 0,.int .i64 0,.int .i64 0,.int .i64 0,.string ⟨#[]⟩,.slice none 0 0] 41 (0,0)) (by (with_reducible repeat (first | apply k1_ | apply k2_ | apply k3_));exact BK241.out) NB241_0.out (by simp));have n1_ := am_ (KeepBut.trans (by repeat (first | (with_reducible first | exact HK.out | apply KeepBut.set_ | apply keep_drewN | apply keep_drew | apply keep_alloc | refine keep_far ?_ GW241.out _) | exact HK.out)) hk (.inl rfl));have n2_ := am_ (hb);have n3_ := am_ (hi);clear BK241;clear HK;clear HB;clear HI0;have BK241 := n0_;have HK := n1_;have HB := n2_;have HI0 := n3_;clear n0_ n1_ n2_ n3_;(try clear hb);(try clear hb2);(try clear hk);(try clear hi)) | ((with_reducible refine gate_callee (f := 31) rfl ?_);refine goesL_ (some 10) rfl rfl Try.func31 (by kernel_rfl) rfl #[.pointer (some ⟨g,0,none⟩)] rfl (by (try simp only [m1_,m2_,m3_]);first | done | rfl | (simp only [d1_,d2_];rfl)) ?_;(with_reducible refine (spec_l00Src_request.calls g s0_0 t243 t244 t248 t249 t250 t251 t252 t253 t254 w0 _ ?side1 ?side2 A11.out).mono ?_);(case side1 => repeat (first | (with_reducible first | exact HI0.out | apply IsS72.alloc | apply IsS72.drewN | apply IsS72.drew | apply IsS72.set_1 | apply IsS72.set_2 | refine IsS72.far ?_ NB0_241.out _) | exact HI0.out));(case side2 => repeat (first | (with_reducible first | exact HB.out | apply b1_ | apply b2_ | apply b3_ | refine below_set ?_ (IsS72.ge HI0.out) | refine below_set ?_ GE241.out) | exact HB.out));rintro e w14 ⟨rfl,hi,hb,hk⟩;refine ⟨_,rfl,?_⟩;have n0_ := am_ (KeepBut.blk hk (g' := gb241) (o := .cells #[.bool false,.int .i64 0,.int .i64 0,.int .i64 0,.int .i64 0,.string ⟨#[]⟩,.slice none 0 0] 41 (0,0)) (by (with_reducible repeat (first | apply k1_ | apply k2_ | apply k3_));exact BK241.out) NB241_0.out (by simp));have n1_ := am_ (KeepBut.trans (by repeat (first | (with_reducible first | exact HK.out | apply KeepBut.set_ | apply keep_drewN | apply keep_drew | apply keep_alloc | refine keep_far ?_ GW241.out _) | exact HK.out)) hk (.inl rfl));have n2_ := am_ (hb);have n3_ := am_ (hi);clear BK241;clear HK;clear HB;clear HI0;have BK241 := n0_;have HK := n1_;have HB := n2_;have HI0 := n3_;clear n0_ n1_ n2_ n3_;(try clear hb);(try clear hb2);(try clear hk);(try clear hi)) | ((with_reducible refine gate_dst (N := 11) rfl ?_);refine Kd.R_lit k70 _ 70 ?hg (N := 11) ?hd (xs := ([] : List (S70))) (inner := []) (ok := fun _ => True) (okp := fun _ => True) ?hr ?hp (fun _ hk => hk) trivial (Below.refl _ _) (Nat.le_refl _) (by simp) ?_;(case hd => rfl);(case hg => rfl);(case hr => first | (go_simp;done) | (go_simp;rfl));(case hp => exact (Reps.none _ _));intro v256 w15 ho16 hb hg_ hnew_;clear hg_ hnew_;(first | rw [← Ny255.out] at ho16 | (simp only [Int.reduceToNat] at ho16;rw [← Ny255.out] at ho16));have n0_ := am_ (Kd.R_lower ho16 (keep_size (w := w) (g := g) (row := none) (by repeat (first | (with_reducible first | exact HK.out | apply KeepBut.set_ | apply keep_drewN | apply keep_drew | apply keep_alloc | refine keep_far ?_ GW241.out _) | exact HK.out))));have n1_ := am_ (IsS72.below (by repeat (first | (with_reducible first | exact HI0.out | apply IsS72.alloc | apply IsS72.drewN | apply IsS72.drew | apply IsS72.set_1 | apply IsS72.set_2 | refine IsS72.far ?_ NB0_241.out _) | exact HI0.out)) hb);have n2_ := am_ (blk_below (g := gb241) (o := .cells #[.bool false,.int .i64 0,.int .i64 0,.int .i64 0,.int .i64 0,.string ⟨#[]⟩,.slice none 0 0] 41 (0,0)) (by (with_reducible repeat (first | apply k1_ | apply k2_ | apply k3_));exact BK241.out) hb);have n3_ := am_ (KeepBut.trans (by repeat (first | (with_reducible first | exact HK.out | apply KeepBut.set_ | apply keep_drewN | apply keep_drew | apply keep_alloc | refine keep_far ?_ GW241.out _) | exact HK.out)) (KeepBut.of_below hb g none) (.inl rfl));have n4_ := am_ (below_step (by repeat (first | (with_reducible first | exact HB.out | apply b1_ | apply b2_ | apply b3_ | refine below_set ?_ (IsS72.ge HI0.out) | refine below_set ?_ GE241.out) | exact HB.out)) hb);clear HI0;clear BK241;clear HK;clear HB;have HO257 := n0_;have HI0 := n1_;have BK241 := n2_;have HK := n3_;have HB := n4_;clear n0_ n1_ n2_ n3_ n4_;clear hb ho16;obtain ⟨Ao17,co17,eo17⟩ := Kd.R_slice HO257.out;subst eo17) | ((with_reducible refine gate_dst (N := 3) rfl ?_);refine box_event ?hg (N := 3) ?hd (cs := #[.bool false,.int .i64 0,.int .i64 0,.int .i64 0,.int .i64 0,.string ⟨#[]⟩,.slice none 0 0]) (t := 41) ?hr ?_;(case hd => rfl);(case hg => rfl);(case hr => first | (go_simp;done) | (go_simp;rfl));intro gb258 hg w18 hbox hb;have n0_ := am_ (Kd.R_below (by (with_reducible repeat (first | apply r1_ | apply r2_ | apply r3_));exact HO257.out) hb);have n1_ := am_ (IsS72.below (by repeat (first | (with_reducible first | exact HI0.out | apply IsS72.alloc | apply IsS72.drewN | apply IsS72.drew | apply IsS72.set_1 | apply IsS72.set_2 | refine IsS72.far ?_ NB0_241.out _) | exact HI0.out)) hb);have n2_ := am_ (blk_below (g := gb241) (o := .cells #[.bool false,.int .i64 0,.int .i64 0,.int .i64 0,.int .i64 0,.string ⟨#[]⟩,.slice none 0 0] 41 (0,0)) (by (with_reducible repeat (first | apply k1_ | apply k2_ | apply k3_));exact BK241.out) hb);have n3_ := am_ (KeepBut.trans (by repeat (first | (with_reducible first | exact HK.out | apply KeepBut.set_ | apply keep_drewN | apply keep_drew | apply keep_alloc | refine keep_far ?_ GW241.out _) | exact HK.out)) (KeepBut.of_below hb g none) (.inl rfl));have n4_ := am_ (below_step (by repeat (first | (with_reducible first | exact HB.out | apply b1_ | apply b2_ | apply b3_ | refine below_set ?_ (IsS72.ge HI0.out) | refine below_set ?_ GE241.out) | exact HB.out)) hb);have n5_ := am_ (hbox);have n6_ := am_ ((by rw [hg];exact (keep_size (w := w) (g := g) (row := none) (by repeat (first | (with_reducible first | exact HK.out | apply KeepBut.set_ | apply keep_drewN | apply keep_drew | apply keep_alloc | refine keep_far ?_ GW241.out _) | exact HK.out))) : w.heap.size ≤ gb258));have n7_ := am_ ((Nat.le_trans HW0.out (by rw [hg];exact (keep_size (w := w) (g := g) (row := none) (by repeat (first | (with_reducible first | exact HK.out | apply KeepBut.set_ | apply keep_drewN | apply keep_drew | apply keep_alloc | refine keep_far ?_ GW241.out _) | exact HK.out))) : w.heap.size ≤ gb258) : w0.heap.size ≤ gb258));have n8_ := am_ ((by rw [hg];exact Nat.ne_of_lt (blk_lt (g := gb241) (o := .cells #[.bool false,.int .i64 0,.int .i64 0,.int .i64 0,.int .i64 0,.string ⟨#[]⟩,.slice none 0 0] 41 (0,0)) (by (with_reducible repeat (first | apply k1_ | apply k2_ | apply k3_));exact BK241.out)) : gb241 ≠ gb258));have n9_ := am_ ((by rw [hg];exact Nat.ne_of_gt (blk_lt (g := gb241) (o := .cells #[.bool false,.int .i64 0,.int .i64 0,.int .i64 0,.int .i64 0,.string ⟨#[]⟩,.slice none 0 0] 41 (0,0)) (by (with_reducible repeat (first | apply k1_ | apply k2_ | apply k3_));exact BK241.out)) : gb258 ≠ gb241));have n10_ := am_ ((by rw [hg];exact Nat.ne_of_lt (IsS72.lt (show IsS72 w0 _ g s0_0 t253 t254 from by repeat (first | (with_reducible first | exact HI0.out | apply IsS72.alloc | apply IsS72.drewN | apply IsS72.drew | apply IsS72.set_1 | apply IsS72.set_2 | refine IsS72.far ?_ NB0_241.out _) | exact HI0.out))) : g ≠ gb258));have n11_ := am_ ((by rw [hg];exact Nat.ne_of_gt (IsS72.lt (show IsS72 w0 _ g s0_0 t253 t254 from by repeat (first | (with_reducible first | exact HI0.out | apply IsS72.alloc | apply IsS72.drewN | apply IsS72.drew | apply IsS72.set_1 | apply IsS72.set_2 | refine IsS72.far ?_ NB0_241.out _) | exact HI0.out))) : gb258 ≠ g));clear HO257;clear HI0;clear BK241;clear HK;clear HB;have HO257 := n0_;have HI0 := n1_;have BK241 := n2_;have HK := n3_;have HB := n4_;have BK258 := n5_;have GW258 := n6_;have GE258 := n7_;have NB241_258 := n8_;have NB258_241 := n9_;have NB0_258 := n10_;have NB258_0 := n11_;clear n0_ n1_ n2_ n3_ n4_ n5_ n6_ n7_ n8_ n9_ n10_ n11_;clear hb hbox hg;have hnb19 := NB258_241.out;have hnc19 := NB241_258.out;have hnb20 := NB258_0.out;have hnc20 := NB0_258.out;obtain ⟨hcz21_0,hcz21_1,hcz21_2,hcz21_3,hcz21_4,hcz21_5,hcz21_6,hfz21_0,hfz21_1,hfz21_2,hfz21_3,hfz21_4,hfz21_5,hfz21_6⟩ := bc7_ BK258.out))
  go_loopg [4] k (fun kq v4 w' => ∃ (x4_1 : Int) (x1001_1 : Int) (x1002_1 : Int) (x259006_1 : List (S70)) (u259006 : Value),v4 = .int .i64 x4_1 ∧ Aside0 (spec_l00Src_batch.l0 kq x4_1 s0_0 x1001_1 x1002_1 false t248 t249 t250 t251 t252 x259006_1 = some (r1,r2,r3,r4,r5,r6,r7,r8,r9)) ∧ Aside0 (kq ≤ k) ∧ Aside0 (Kd.R k70 70 w' w.heap.size (fun _ => True) u259006 x259006_1) ∧ Aside0 (w'.heap[gb241]? = some (.cells #[.bool false,.int .i64 0,.int .i64 0,.int .i64 0,.int .i64 0,.string ⟨#[]⟩,(.slice none 0 0)] 41 (0,0))) ∧ Aside0 (w'.heap[gb258]? = some (.cells #[.bool false,.int .i64 t248,.int .i64 t249,.int .i64 t250,.int .i64 t251,.string t252,u259006] 41 (0,0))) ∧ Aside0 (IsS72 w0 w' g s0_0 x1001_1 x1002_1) ∧ Aside0 (KeepBut w w' g none) ∧ Aside0 (Below w0.heap.size w0 w'))
  case atStart => exact ⟨(0),(t253),(t254),(y255),(.slice Ao17 y255.length co17),(by first | rfl | (simp;done) | (simp [*];done)),H',⟨Nat.le_refl _⟩,⟨by (with_reducible repeat (first | apply r1_ | apply r2_ | apply r3_));exact Kd.R_mono (Kd.Rf (Kd.Rf (Kd.Rf (Kd.Rf (Kd.Rf (Kd.Rf (Kd.Rf (Kd.R_types HO257.out BK258.out (by decide))))))))) (fun _ hk => trivial)⟩,⟨by (repeat (first | (with_reducible first | apply k1_ | apply k2_ | apply k3_) | refine blk_far ?_ NB241_258.out _));exact BK241.out⟩,⟨by (with_reducible repeat (first | apply k1_ | apply k2_ | apply k3_));refine blk_put (cs := #[.bool false,.int .i64 t248,.int .i64 t249,.int .i64 t250,.int .i64 t251,.string t252,.slice none 0 0]) ?_ 6 _ rfl;(with_reducible repeat (first | apply k1_ | apply k2_ | apply k3_));refine blk_put (cs := #[.bool false,.int .i64 t248,.int .i64 t249,.int .i64 t250,.int .i64 t251,.string ⟨#[]⟩,.slice none 0 0]) ?_ 5 _ rfl;(with_reducible repeat (first | apply k1_ | apply k2_ | apply k3_));refine blk_put (cs := #[.bool false,.int .i64 t248,.int .i64 t249,.int .i64 t250,.int .i64 0,.string ⟨#[]⟩,.slice none 0 0]) ?_ 4 _ rfl;(with_reducible repeat (first | apply k1_ | apply k2_ | apply k3_));refine blk_put (cs := #[.bool false,.int .i64 t248,.int .i64 t249,.int .i64 0,.int .i64 0,.string ⟨#[]⟩,.slice none 0 0]) ?_ 3 _ rfl;(with_reducible repeat (first | apply k1_ | apply k2_ | apply k3_));refine blk_put (cs := #[.bool false,.int .i64 t248,.int .i64 0,.int .i64 0,.int .i64 0,.string ⟨#[]⟩,.slice none 0 0]) ?_ 2 _ rfl;(with_reducible repeat (first | apply k1_ | apply k2_ | apply k3_));refine blk_put (cs := #[.bool false,.int .i64 0,.int .i64 0,.int .i64 0,.int .i64 0,.string ⟨#[]⟩,.slice none 0 0]) ?_ 1 _ rfl;(with_reducible repeat (first | apply k1_ | apply k2_ | apply k3_));refine blk_put (cs := #[.bool false,.int .i64 0,.int .i64 0,.int .i64 0,.int .i64 0,.string ⟨#[]⟩,.slice none 0 0]) ?_ 0 _ rfl;(with_reducible repeat (first | apply k1_ | apply k2_ | apply k3_));exact BK258.out⟩,⟨by repeat (first | (with_reducible first | exact HI0.out | apply IsS72.alloc | apply IsS72.drewN | apply IsS72.drew | apply IsS72.set_1 | apply IsS72.set_2 | refine IsS72.far ?_ NB0_241.out _ | refine IsS72.far ?_ NB0_258.out _) | exact HI0.out)⟩,⟨by repeat (first | (with_reducible first | exact HK.out | apply KeepBut.set_ | apply keep_drewN | apply keep_drew | apply keep_alloc | refine keep_far ?_ GW241.out _ | refine keep_far ?_ GW258.out _) | exact HK.out)⟩,⟨by repeat (first | (with_reducible first | exact HB.out | apply b1_ | apply b2_ | apply b3_ | refine below_set ?_ (IsS72.ge HI0.out) | refine below_set ?_ GE241.out | refine below_set ?_ GE258.out) | exact HB.out)⟩⟩
  case round =>
   clear H'
   try clear c1
   try clear c2
   try clear p2
   try clear c3
   try clear c6
   try clear c9
   try clear c19
   try clear c20
   try clear hcz10_0
   try clear hcz10_1
   try clear hcz10_2
   try clear hcz10_3
   try clear hcz10_4
   try clear hcz10_5
   try clear hcz10_6
   try clear hcz21_0
   try clear hcz21_1
   try clear hcz21_2
   try clear hcz21_3
   try clear hcz21_4
   try clear hcz21_5
   try clear hcz21_6
   try clear hfz10_0
   try clear hfz10_1
   try clear hfz10_2
   try clear hfz10_3
   try clear hfz10_4
   try clear hfz10_5
   try clear hfz10_6
   try clear hfz21_0
   try clear hfz21_1
   try clear hfz21_2
   try clear hfz21_3
   try clear hfz21_4
   try clear hfz21_5
   try clear hfz21_6
   obtain ⟨x4_1,x1001_1,x1002_1,x259006_1,u259006,rfl,HA,HK1,HO_259006,BK241,BK258,HI0,HK,HB⟩ := hrel
   cases gk with
   | zero => exact absurd HA.out (by simp [spec_l00Src_batch.l0])
   | succ k1 =>
    have H := HA.out
    clear HA
    simp only [spec_l00Src_batch.l0] at H
    by_cases c22 : x4_1 < 4
    ·rw [if_pos c22] at H
     have c22b0 : decide (x4_1 < 4) = true := decide_eq_true c22
     clear c22
     replace H := Option.bind_eq_some_iff.mp H
     obtain ⟨⟨t259,t260,t261⟩,A230,H⟩ := H
     try dsimp only at H
     have A23 := am_ A230
     clear A230
     by_cases c24 : t259 = true
     ·subst c24
      have H1 : (spec_l00Src_batch.l0 k1 (wrap64 (x4_1 + 1)) s0_0 t260 t261 false t248 t249 t250 t251 t252 x259006_1) = some (r1,r2,r3,r4,r5,r6,r7,r8,r9) := by rw [if_pos rfl] at H;exact H
      clear H
      have H := H1
      clear H1
      have H' := am_ H
      clear H
      go_wp2_with (first | ((with_reducible refine gate_callee (f := 60) rfl ?_);refine goesL_ (some 18) rfl rfl Try.func60 (by kernel_rfl) rfl #[.pointer (some ⟨g,0,none⟩),.int .i64 4] rfl (by (try simp only [m1_,m2_,m3_]);first | done | rfl | (simp only [d1_,d2_];rfl)) ?_;(with_reducible refine (spec_l00Src_chance.calls g s0_0 x1001_1 x1002_1 4 true t260 t261 w0 _ ?side1 ?side2 A23.out).mono ?_);(case side1 => repeat (first | (with_reducible first | exact HI0.out | apply IsS72.alloc | apply IsS72.drewN | apply IsS72.drew | apply IsS72.set_1 | apply IsS72.set_2 | refine IsS72.far ?_ NB0_241.out _ | refine IsS72.far ?_ NB0_258.out _) | exact HI0.out));(case side2 => repeat (first | (with_reducible first | exact HB.out | apply b1_ | apply b2_ | apply b3_ | refine below_set ?_ (IsS72.ge HI0.out) | refine below_set ?_ GE241.out | refine below_set ?_ GE258.out) | exact HB.out));rintro e w25 ⟨rfl,hi,hb,hk⟩;refine ⟨_,rfl,?_⟩;have n0_ := am_ (Kd.R_mono (Kd.R_keep (IsS72.apart (show IsS72 w0 _ g s0_0 x1001_1 x1002_1 from by repeat (first | (with_reducible first | exact HI0.out | apply IsS72.alloc | apply IsS72.drewN | apply IsS72.drew | apply IsS72.set_1 | apply IsS72.set_2 | refine IsS72.far ?_ NB0_241.out _ | refine IsS72.far ?_ NB0_258.out _) | exact HI0.out)) (by (with_reducible repeat (first | apply r1_ | apply r2_ | apply r3_));exact HO_259006.out) (by decide)) hk (fun _ h => h.2)) (fun _ h => h.1));have n1_ := am_ (KeepBut.blk hk (g' := gb241) (o := .cells #[.bool false,.int .i64 0,.int .i64 0,.int .i64 0,.int .i64 0,.string ⟨#[]⟩,.slice none 0 0] 41 (0,0)) (by (with_reducible repeat (first | apply k1_ | apply k2_ | apply k3_));exact BK241.out) NB241_0.out (by simp));have n2_ := am_ (KeepBut.blk hk (g' := gb258) (o := .cells #[.bool false,.int .i64 t248,.int .i64 t249,.int .i64 t250,.int .i64 t251,.string t252,u259006] 41 (0,0)) (by (with_reducible repeat (first | apply k1_ | apply k2_ | apply k3_));exact BK258.out) NB258_0.out (by simp));have n3_ := am_ (KeepBut.trans (by repeat (first | (with_reducible first | exact HK.out | apply KeepBut.set_ | apply keep_drewN | apply keep_drew | apply keep_alloc | refine keep_far ?_ GW241.out _ | refine keep_far ?_ GW258.out _) | exact HK.out)) hk (.inl rfl));have n4_ := am_ (hb);have n5_ := am_ (hi);clear HO_259006;clear BK241;clear BK258;clear HK;clear HB;clear HI0;have HO_259006 := n0_;have BK241 := n1_;have BK258 := n2_;have HK := n3_;have HB := n4_;have HI0 := n5_;clear n0_ n1_ n2_ n3_ n4_ n5_;(try clear hb);(try clear hb2);(try clear hk);(try clear hi)))
      go_roundg k1
      case measure => have := HK1.out;omega
      case rel => exact ⟨(wrap64 (x4_1 + 1)),(t260),(t261),(x259006_1),(u259006),(by first | rfl | (simp;done) | (simp [*];done)),H',⟨by have := HK1.out;omega⟩,⟨by (with_reducible repeat (first | apply r1_ | apply r2_ | apply r3_));exact HO_259006.out⟩,⟨by (with_reducible repeat (first | apply k1_ | apply k2_ | apply k3_));exact BK241.out⟩,⟨by (with_reducible repeat (first | apply k1_ | apply k2_ | apply k3_));exact BK258.out⟩,⟨by repeat (first | (with_reducible first | exact HI0.out | apply IsS72.alloc | apply IsS72.drewN | apply IsS72.drew | apply IsS72.set_1 | apply IsS72.set_2 | refine IsS72.far ?_ NB0_241.out _ | refine IsS72.far ?_ NB0_258.out _) | exact HI0.out)⟩,⟨by repeat (first | (with_reducible first | exact HK.out | apply KeepBut.set_ | apply keep_drewN | apply keep_drew | apply keep_alloc | refine keep_far ?_ GW241.out _ | refine keep_far ?_ GW258.out _) | exact HK.out)⟩,⟨by repeat (first | (with_reducible first | exact HB.out | apply b1_ | apply b2_ | apply b3_ | refine below_set ?_ (IsS72.ge HI0.out) | refine below_set ?_ GE241.out | refine below_set ?_ GE258.out) | exact HB.out)⟩⟩
     ·replace c24 := Bool.eq_false_iff.mpr c24
      subst c24
      have H1 : ((spec_l00Src_next.f s0_0 t260 t261 100).bind fun bt262 => ((spec_l01Hash.f k1 (([(x4_1) % 256] : List Int))).bind fun t268 => (if 0 ≤ 8 then (if 8 ≤ (t268.size : Int) then (if x259006_1.length < 4398046511104 then (spec_l00Src_batch.l0 k1 (wrap64 (x4_1 + 1)) s0_0 bt262.2.1 bt262.2.2 false t248 t249 t250 t251 t252 (x259006_1 ++ [(⟨x4_1,bt262.1,t268.extract 0 8⟩ : S70)])) else (none)) else (none)) else (none)))) = some (r1,r2,r3,r4,r5,r6,r7,r8,r9) := by rw [if_neg (show ¬ (false = true) by decide)] at H;exact H
      clear H
      have H := H1
      clear H1
      replace H := Option.bind_eq_some_iff.mp H
      obtain ⟨⟨t262,t263,t264⟩,A260,H⟩ := H
      try dsimp only at H
      have A26 := am_ A260
      clear A260
      obtain ⟨y265,hy265⟩ : ∃ y_ : List Int,y_ = (([(x4_1) % 256] : List Int)) := ⟨_,rfl⟩
      replace H : ((spec_l01Hash.f k1 y265).bind fun t268 => (if 0 ≤ 8 then (if 8 ≤ (t268.size : Int) then (if x259006_1.length < 4398046511104 then (spec_l00Src_batch.l0 k1 (wrap64 (x4_1 + 1)) s0_0 t263 t264 false t248 t249 t250 t251 t252 (x259006_1 ++ [(⟨x4_1,t262,t268.extract 0 8⟩ : S70)])) else (none)) else (none)) else (none))) = some (r1,r2,r3,r4,r5,r6,r7,r8,r9) := by first | (rw [hy265];with_reducible exact H) | (have H2_ := (Option.bind_some _ _).symm.trans H;rw [hy265];with_reducible exact H2_) | (have H2_ := (Option.bind_some _ _).symm.trans H;with_reducible exact H2_) | with_reducible exact H | (rw [hy265];exact H) | exact H
      have Ny265 := am_ hy265
      clear hy265
      replace H := Option.bind_eq_some_iff.mp H
      obtain ⟨t268,A270,H⟩ := H
      try dsimp only at H
      have A27 := am_ A270
      clear A270
      by_cases c28 : 0 ≤ 8
      ·rw [if_pos c28] at H
       have c28b0 := eq_true c28
       have c28b1 : decide (0 ≤ 8) = true := decide_eq_true c28
       clear c28
       by_cases c29 : 8 ≤ (t268.size : Int)
       ·rw [if_pos c29] at H
        have c29b0 := eq_true c29
        have c29b1 : decide (8 ≤ (t268.size : Int)) = true := decide_eq_true c29
        clear c29
        by_cases c30 : x259006_1.length < 4398046511104
        ·rw [if_pos c30] at H
         have LMc30 := am_ c30
         clear c30
         obtain ⟨y269,hy269⟩ : ∃ y_ : List (S70),y_ = (x259006_1 ++ [(⟨x4_1,t262,t268.extract 0 8⟩ : S70)]) := ⟨_,rfl⟩
         replace H : (spec_l00Src_batch.l0 k1 (wrap64 (x4_1 + 1)) s0_0 t263 t264 false t248 t249 t250 t251 t252 y269) = some (r1,r2,r3,r4,r5,r6,r7,r8,r9) := by first | (rw [hy269];with_reducible exact H) | (have H2_ := (Option.bind_some _ _).symm.trans H;rw [hy269];with_reducible exact H2_) | (have H2_ := (Option.bind_some _ _).symm.trans H;with_reducible exact H2_) | with_reducible exact H | (rw [hy269];exact H) | exact H
         have Ny269 := am_ hy269
         clear hy269
         have H' := am_ H
         clear H
         try go_wp2_with (first | ((with_reducible refine gate_callee (f := 60) rfl ?_);refine goesL_ (some 18) rfl rfl Try.func60 (by kernel_rfl) rfl #[.pointer (some ⟨g,0,none⟩),.int .i64 4] rfl (by (try simp only [m1_,m2_,m3_]);first | done | rfl | (simp only [d1_,d2_];rfl)) ?_;(with_reducible refine (spec_l00Src_chance.calls g s0_0 x1001_1 x1002_1 4 false t260 t261 w0 _ ?side1 ?side2 A23.out).mono ?_);(case side1 => repeat (first | (with_reducible first | exact HI0.out | apply IsS72.alloc | apply IsS72.drewN | apply IsS72.drew | apply IsS72.set_1 | apply IsS72.set_2 | refine IsS72.far ?_ NB0_241.out _ | refine IsS72.far ?_ NB0_258.out _) | exact HI0.out));(case side2 => repeat (first | (with_reducible first | exact HB.out | apply b1_ | apply b2_ | apply b3_ | refine below_set ?_ (IsS72.ge HI0.out) | refine below_set ?_ GE241.out | refine below_set ?_ GE258.out) | exact HB.out));rintro e w31 ⟨rfl,hi,hb,hk⟩;refine ⟨_,rfl,?_⟩;have n0_ := am_ (Kd.R_mono (Kd.R_keep (IsS72.apart (show IsS72 w0 _ g s0_0 x1001_1 x1002_1 from by repeat (first | (with_reducible first | exact HI0.out | apply IsS72.alloc | apply IsS72.drewN | apply IsS72.drew | apply IsS72.set_1 | apply IsS72.set_2 | refine IsS72.far ?_ NB0_241.out _ | refine IsS72.far ?_ NB0_258.out _) | exact HI0.out)) (by (with_reducible repeat (first | apply r1_ | apply r2_ | apply r3_));exact HO_259006.out) (by decide)) hk (fun _ h => h.2)) (fun _ h => h.1));have n1_ := am_ (KeepBut.blk hk (g' := gb241) (o := .cells #[.bool false,.int .i64 0,.int .i64 0,.int .i64 0,.int .i64 0,.string ⟨#[]⟩,.slice none 0 0] 41 (0,0)) (by (with_reducible repeat (first | apply k1_ | apply k2_ | apply k3_));exact BK241.out) NB241_0.out (by simp));have n2_ := am_ (KeepBut.blk hk (g' := gb258) (o := .cells #[.bool false,.int .i64 t248,.int .i64 t249,.int .i64 t250,.int .i64 t251,.string t252,u259006] 41 (0,0)) (by (with_reducible repeat (first | apply k1_ | apply k2_ | apply k3_));exact BK258.out) NB258_0.out (by simp));have n3_ := am_ (KeepBut.trans (by repeat (first | (with_reducible first | exact HK.out | apply KeepBut.set_ | apply keep_drewN | apply keep_drew | apply keep_alloc | refine keep_far ?_ GW241.out _ | refine keep_far ?_ GW258.out _) | exact HK.out)) hk (.inl rfl));have n4_ := am_ (hb);have n5_ := am_ (hi);clear HO_259006;clear BK241;clear BK258;clear HK;clear HB;clear HI0;have HO_259006 := n0_;have BK241 := n1_;have BK258 := n2_;have HK := n3_;have HB := n4_;have HI0 := n5_;clear n0_ n1_ n2_ n3_ n4_ n5_;(try clear hb);(try clear hb2);(try clear hk);(try clear hi);obtain ⟨Ao32,co32,eo32⟩ := Kd.R_slice HO_259006.out;subst eo32))
         have n0_ := am_ (Kd.R_drew HO_259006.out)
         have n1_ := am_ (blk_drew BK241.out)
         have n2_ := am_ (blk_drew BK258.out)
         have n3_ := am_ (IsS72.drew HI0.out)
         have n4_ := am_ (keep_drew HK.out)
         have n5_ := am_ (below_drew1 HB.out)
         clear HO_259006
         clear BK241
         clear BK258
         clear HI0
         clear HK
         clear HB
         have HO_259006 := n0_
         have BK241 := n1_
         have BK258 := n2_
         have HI0 := n3_
         have HK := n4_
         have HB := n5_
         clear n0_ n1_ n2_ n3_ n4_ n5_
         refine start_ (n := 15) (S := fun w' => w'.cell? ⟨gb258,0,none⟩ = some (.bool false) ∧ w'.cell? ⟨gb258,1,none⟩ = some (.int .i64 t248) ∧ w'.cell? ⟨gb258,2,none⟩ = some (.int .i64 t249) ∧ w'.cell? ⟨gb258,3,none⟩ = some (.int .i64 t250) ∧ w'.cell? ⟨gb258,4,none⟩ = some (.int .i64 t251) ∧ w'.cell? ⟨gb258,5,none⟩ = some (.string t252) ∧ w'.cell? ⟨gb258,6,none⟩ = some (.slice Ao32 x259006_1.length co32)) (ds := [14]) #[false,false,false,false,false,false,false,false,false,false,false,false,false,false,false] (by kernel_rfl) rfl rfl ⟨(blk_cell BK258.out 0).trans rfl,(blk_cell BK258.out 1).trans rfl,(blk_cell BK258.out 2).trans rfl,(blk_cell BK258.out 3).trans rfl,(blk_cell BK258.out 4).trans rfl,(blk_cell BK258.out 5).trans rfl,(blk_cell BK258.out 6).trans rfl⟩ (fun hHeld => ?_);refine with_tabW spec_l00Src_batch.tab8 spec_l00Src_batch.bits8 (fun HT_ HW_ => ?_)
         generalize w31.drew = w33 at HO_259006 BK241 BK258 HI0 HK HB hHeld ⊢
         refine pure_ (i := 0) (N := some 20) (v := ?_) (a' := ?_) #[true,false,false,false,false,false,false,false,false,false,false,false,false,false,false] rfl rfl (any_of HT_.out (by kernel_rfl)) (fun _ _ _ h => h) (Or.inl ⟨by rfl,?_⟩) ?_ ?_
         rotate_left
         ·intro w'
          go_simp
          with_reducible rfl
         rotate_left
         ·simp only [Act.put,p1_,p2_,p3_,i64_w,i32_w]
          rfl
         refine pure_ (i := 2) (N := some 22) (v := ?_) (a' := ?_) #[true,false,true,false,false,false,false,false,false,false,false,false,false,false,false] rfl rfl (any_of HT_.out (by kernel_rfl)) (fun _ _ _ h => h) (Or.inl ⟨by rfl,?_⟩) ?_ ?_
         rotate_left
         ·intro w'
          go_simp
          with_reducible rfl
         rotate_left
         ·simp only [Act.put,p1_,p2_,p3_,i64_w,i32_w]
          rfl
         refine pure_ (i := 3) (N := some 23) (v := ?_) (a' := ?_) #[true,false,true,true,false,false,false,false,false,false,false,false,false,false,false] rfl rfl (any_of HT_.out (by kernel_rfl)) (fun _ _ _ h => h) (Or.inl ⟨by rfl,?_⟩) ?_ ?_
         rotate_left
         ·intro w'
          go_simp
          with_reducible rfl
         rotate_left
         ·simp only [Act.put,p1_,p2_,p3_,i64_w,i32_w]
          rfl
         refine pure_ (i := 5) (N := some 25) (v := ?_) (a' := ?_) #[true,false,true,true,false,true,false,false,false,false,false,false,false,false,false] rfl rfl (any_of HT_.out (by kernel_rfl)) (fun _ _ _ h => h) (Or.inl ⟨by rfl,?_⟩) ?_ ?_
         rotate_left
         ·intro w'
          go_simp
          with_reducible rfl
         rotate_left
         ·simp only [Act.put,p1_,p2_,p3_,i64_w,i32_w]
          rfl
         refine pure_ (i := 6) (N := some 26) (v := ?_) (a' := ?_) #[true,false,true,true,false,true,true,false,false,false,false,false,false,false,false] rfl rfl (any_of HT_.out (by kernel_rfl)) (fun _ _ _ h => h) (Or.inl ⟨by rfl,?_⟩) ?_ ?_
         rotate_left
         ·intro w'
          go_simp
          with_reducible rfl
         rotate_left
         ·simp only [Act.put,p1_,p2_,p3_,i64_w,i32_w]
          rfl
         refine take_ (i := 1) (N := some 21) (v := ?_) (a' := ?_) #[true,true,true,true,false,true,true,false,false,false,false,false,false,false,false] rfl rfl (take_ofW HT_.out HW_.out (by kernel_rfl)) (fun _ _ _ h => h) (Or.inl ⟨by rfl,?_⟩) hHeld ?_ ?_
         rotate_left
         ·rintro w' ⟨s0,s1,s2,s3,s4,s5,s6⟩
          go_simp
          with_reducible rfl
         rotate_left
         ·simp only [Act.put,p1_,p2_,p3_,i64_w,i32_w]
          rfl
         refine join_ (σ := Value) 7 #[true,true,true,true,true,true,true,true,false,false,false,false,false,false,false] (fun s_ => [(24,.int .i64 t262),(27,s_)]) (fun s_ w' => (w'.cell? ⟨gb258,0,none⟩ = some (.bool false) ∧ w'.cell? ⟨gb258,1,none⟩ = some (.int .i64 t248) ∧ w'.cell? ⟨gb258,2,none⟩ = some (.int .i64 t249) ∧ w'.cell? ⟨gb258,3,none⟩ = some (.int .i64 t250) ∧ w'.cell? ⟨gb258,4,none⟩ = some (.int .i64 t251) ∧ w'.cell? ⟨gb258,5,none⟩ = some (.string t252) ∧ w'.cell? ⟨gb258,6,none⟩ = some (.slice Ao32 x259006_1.length co32)) ∧ (Kd.R (Kd.int .u8) 5 w' w.heap.size (fun _ => True) s_ y265) ∧ (Kd.R k70 70 w' w.heap.size (fun _ => True) (.slice Ao32 x259006_1.length co32) x259006_1) ∧ (w'.heap[gb241]? = some (.cells #[.bool false,.int .i64 0,.int .i64 0,.int .i64 0,.int .i64 0,.string ⟨#[]⟩,.slice none 0 0] 41 (0,0))) ∧ (w'.heap[gb258]? = some (.cells #[.bool false,.int .i64 t248,.int .i64 t249,.int .i64 t250,.int .i64 t251,.string t252,.slice Ao32 x259006_1.length co32] 41 (0,0))) ∧ (IsS72 w0 w' g s0_0 t263 t264) ∧ (KeepBut w w' g none) ∧ (Below w0.heap.size w0 w')) ?_ ?_
         rotate_left
         ·intro hCont
          refine two_ (i := 4) (j := 7) (Ni := some 24) (Nj := some 27) #[true,true,true,true,true,true,true,false,false,false,false,false,false,false,false] #[true,true,true,true,false,true,true,true,false,false,false,false,false,false,false] rfl rfl rfl rfl (two_of HT_.out (by kernel_rfl)) (by decide) (by decide) (fun K hK => ?_) (fun K hK => ?_)
          ·skip
           refine goes_ Try.func45 (by kernel_rfl) rfl #[.pointer (some ⟨g,0,none⟩),.int .i64 100] (by rfl) rfl rfl (by (try simp only [m1_,m2_,m3_]);first | done | rfl | (simp only [d1_,d2_];rfl)) ?_
           with_reducible refine (spec_l00Src_next.calls g s0_0 t260 t261 100 t262 t263 t264 w0 _ ?side1 ?side2 A26.out).mono ?_
           (case side1 => repeat (first | (with_reducible first | exact HI0.out | apply IsS72.alloc | apply IsS72.drewN | apply IsS72.drew | apply IsS72.set_1 | apply IsS72.set_2 | refine IsS72.far ?_ NB0_241.out _ | refine IsS72.far ?_ NB0_258.out _) | exact HI0.out))
           (case side2 => repeat (first | (with_reducible first | exact HB.out | apply b1_ | apply b2_ | apply b3_ | refine below_set ?_ (IsS72.ge HI0.out) | refine below_set ?_ GE241.out | refine below_set ?_ GE258.out) | exact HB.out))
           rintro e w34 ⟨rfl,hi,hb,hk⟩
           refine ⟨_,rfl,?_⟩
           have n0_ := am_ (Kd.R_mono (Kd.R_keep (IsS72.apart (show IsS72 w0 _ g s0_0 t260 t261 from by repeat (first | (with_reducible first | exact HI0.out | apply IsS72.alloc | apply IsS72.drewN | apply IsS72.drew | apply IsS72.set_1 | apply IsS72.set_2 | refine IsS72.far ?_ NB0_241.out _ | refine IsS72.far ?_ NB0_258.out _) | exact HI0.out)) (by (with_reducible repeat (first | apply r1_ | apply r2_ | apply r3_));exact HO_259006.out) (by decide)) hk (fun _ h => h.2)) (fun _ h => h.1))
           have n1_ := am_ (KeepBut.blk hk (g' := gb241) (o := .cells #[.bool false,.int .i64 0,.int .i64 0,.int .i64 0,.int .i64 0,.string ⟨#[]⟩,.slice none 0 0] 41 (0,0)) (by (with_reducible repeat (first | apply k1_ | apply k2_ | apply k3_));exact BK241.out) NB241_0.out (by simp))
           have n2_ := am_ (KeepBut.blk hk (g' := gb258) (o := .cells #[.bool false,.int .i64 t248,.int .i64 t249,.int .i64 t250,.int .i64 t251,.string t252,.slice Ao32 x259006_1.length co32] 41 (0,0)) (by (with_reducible repeat (first | apply k1_ | apply k2_ | apply k3_));exact BK258.out) NB258_0.out (by simp))
           have n3_ := am_ (KeepBut.trans (by repeat (first | (with_reducible first | exact HK.out | apply KeepBut.set_ | apply keep_drewN | apply keep_drew | apply keep_alloc | refine keep_far ?_ GW241.out _ | refine keep_far ?_ GW258.out _) | exact HK.out)) hk (.inl rfl))
           have n4_ := am_ (hb)
           have n5_ := am_ (hi)
           clear HO_259006
           clear BK241
           clear BK258
           clear HK
           clear HB
           clear HI0
           have HO_259006 := n0_
           have BK241 := n1_
           have BK258 := n2_
           have HK := n3_
           have HB := n4_
           have HI0 := n5_
           clear n0_ n1_ n2_ n3_ n4_ n5_
           (try clear hb)
           (try clear hb2)
           (try clear hk)
           (try clear hi)
           refine hK.out _ _ ⟨(blk_cell BK258.out 0).trans rfl,(blk_cell BK258.out 1).trans rfl,(blk_cell BK258.out 2).trans rfl,(blk_cell BK258.out 3).trans rfl,(blk_cell BK258.out 4).trans rfl,(blk_cell BK258.out 5).trans rfl,(blk_cell BK258.out 6).trans rfl⟩ (fun hHeld => ?_)
           clear hK K
           refine norm_ (a' := ?_) ?_ ?_
           rotate_left
           ·show Act.put _ (some 24) _ = _
            simp only [Act.put,p1_,p2_,p3_,i64_w,i32_w]
            rfl
           refine one_ (i := 7) (N := some 27) #[true,true,true,true,true,true,true,true,false,false,false,false,false,false,false] rfl rfl (one_of HT_.out (by kernel_rfl)) (by decide) (fun K hK => ?_)
           refine Kd.R_lit_step (Kd.int .u8) _ 5 ?hg (N := 27) ?hd (xs := ([(x4_1) % 256] : List Int)) (inner := [.int .u8 ((x4_1) % 256)]) (ok := fun _ => True) (okp := fun _ => True) ?hr ?hp (fun _ hk => hk) trivial (Below.refl _ _) (Nat.le_refl _) (by simp) ?_;(case hd => rfl);(case hg => rfl);(case hr => first | (go_simp;done) | (go_simp;rfl));(case hp => exact (Reps.one (show Kd.M (Kd.int .u8) _ _ _ ((x4_1) % 256) [.int .u8 ((x4_1) % 256)] from rfl) (Reps.none _ _)))
           intro v266 w35 ho36 hb hg_ hnew_
           clear hg_ hnew_
           (first | rw [← Ny265.out] at ho36 | (simp only [Int.reduceToNat] at ho36;rw [← Ny265.out] at ho36))
           have n0_ := am_ (Kd.R_below (by (with_reducible repeat (first | apply r1_ | apply r2_ | apply r3_));exact HO_259006.out) hb)
           have n1_ := am_ (Kd.R_lower ho36 (keep_size (w := w) (g := g) (row := none) (by repeat (first | (with_reducible first | exact HK.out | apply KeepBut.set_ | apply keep_drewN | apply keep_drew | apply keep_alloc | refine keep_far ?_ GW241.out _ | refine keep_far ?_ GW258.out _) | exact HK.out))))
           have n2_ := am_ (blk_below (g := gb241) (o := .cells #[.bool false,.int .i64 0,.int .i64 0,.int .i64 0,.int .i64 0,.string ⟨#[]⟩,.slice none 0 0] 41 (0,0)) (by (with_reducible repeat (first | apply k1_ | apply k2_ | apply k3_));exact BK241.out) hb)
           have n3_ := am_ (blk_below (g := gb258) (o := .cells #[.bool false,.int .i64 t248,.int .i64 t249,.int .i64 t250,.int .i64 t251,.string t252,.slice Ao32 x259006_1.length co32] 41 (0,0)) (by (with_reducible repeat (first | apply k1_ | apply k2_ | apply k3_));exact BK258.out) hb)
           have n4_ := am_ (IsS72.below (by repeat (first | (with_reducible first | exact HI0.out | apply IsS72.alloc | apply IsS72.drewN | apply IsS72.drew | apply IsS72.set_1 | apply IsS72.set_2 | refine IsS72.far ?_ NB0_241.out _ | refine IsS72.far ?_ NB0_258.out _) | exact HI0.out)) hb)
           have n5_ := am_ (KeepBut.trans (by repeat (first | (with_reducible first | exact HK.out | apply KeepBut.set_ | apply keep_drewN | apply keep_drew | apply keep_alloc | refine keep_far ?_ GW241.out _ | refine keep_far ?_ GW258.out _) | exact HK.out)) (KeepBut.of_below hb g none) (.inl rfl))
           have n6_ := am_ (below_step (by repeat (first | (with_reducible first | exact HB.out | apply b1_ | apply b2_ | apply b3_ | refine below_set ?_ (IsS72.ge HI0.out) | refine below_set ?_ GE241.out | refine below_set ?_ GE258.out) | exact HB.out)) hb)
           clear HO_259006
           clear BK241
           clear BK258
           clear HI0
           clear HK
           clear HB
           have HO_259006 := n0_
           have HO267 := n1_
           have BK241 := n2_
           have BK258 := n3_
           have HI0 := n4_
           have HK := n5_
           have HB := n6_
           clear n0_ n1_ n2_ n3_ n4_ n5_ n6_
           clear hb ho36
           refine hK.out _ _ ⟨(blk_cell BK258.out 0).trans rfl,(blk_cell BK258.out 1).trans rfl,(blk_cell BK258.out 2).trans rfl,(blk_cell BK258.out 3).trans rfl,(blk_cell BK258.out 4).trans rfl,(blk_cell BK258.out 5).trans rfl,(blk_cell BK258.out 6).trans rfl⟩ (fun hHeld => ?_)
           clear hK K
           refine norm_ (a' := ?_) ?_ ?_
           rotate_left
           ·show Act.put _ (some 27) _ = _
            simp only [Act.put,p1_,p2_,p3_,i64_w,i32_w]
            rfl
           exact norm_ (by simp only [putAll,Act.put,p1_,p2_,p3_]) (hCont (v266) _ ⟨hHeld,(by (with_reducible repeat (first | apply r1_ | apply r2_ | apply r3_));exact HO267.out),(by (with_reducible repeat (first | apply r1_ | apply r2_ | apply r3_));exact HO_259006.out),(by (with_reducible repeat (first | apply k1_ | apply k2_ | apply k3_));exact BK241.out),(by (with_reducible repeat (first | apply k1_ | apply k2_ | apply k3_));exact BK258.out),(by repeat (first | (with_reducible first | exact HI0.out | apply IsS72.alloc | apply IsS72.drewN | apply IsS72.drew | apply IsS72.set_1 | apply IsS72.set_2 | refine IsS72.far ?_ NB0_241.out _ | refine IsS72.far ?_ NB0_258.out _) | exact HI0.out)),(by repeat (first | (with_reducible first | exact HK.out | apply KeepBut.set_ | apply keep_drewN | apply keep_drew | apply keep_alloc | refine keep_far ?_ GW241.out _ | refine keep_far ?_ GW258.out _) | exact HK.out)),(by repeat (first | (with_reducible first | exact HB.out | apply b1_ | apply b2_ | apply b3_ | refine below_set ?_ (IsS72.ge HI0.out) | refine below_set ?_ GE241.out | refine below_set ?_ GE258.out) | exact HB.out))⟩)
          ·skip
           refine Kd.R_lit_step (Kd.int .u8) _ 5 ?hg (N := 27) ?hd (xs := ([(x4_1) % 256] : List Int)) (inner := [.int .u8 ((x4_1) % 256)]) (ok := fun _ => True) (okp := fun _ => True) ?hr ?hp (fun _ hk => hk) trivial (Below.refl _ _) (Nat.le_refl _) (by simp) ?_;(case hd => rfl);(case hg => rfl);(case hr => first | (go_simp;done) | (go_simp;rfl));(case hp => exact (Reps.one (show Kd.M (Kd.int .u8) _ _ _ ((x4_1) % 256) [.int .u8 ((x4_1) % 256)] from rfl) (Reps.none _ _)))
           intro v266 w34 ho35 hb hg_ hnew_
           clear hg_ hnew_
           (first | rw [← Ny265.out] at ho35 | (simp only [Int.reduceToNat] at ho35;rw [← Ny265.out] at ho35))
           have n0_ := am_ (Kd.R_below (by (with_reducible repeat (first | apply r1_ | apply r2_ | apply r3_));exact HO_259006.out) hb)
           have n1_ := am_ (Kd.R_lower ho35 (keep_size (w := w) (g := g) (row := none) (by repeat (first | (with_reducible first | exact HK.out | apply KeepBut.set_ | apply keep_drewN | apply keep_drew | apply keep_alloc | refine keep_far ?_ GW241.out _ | refine keep_far ?_ GW258.out _) | exact HK.out))))
           have n2_ := am_ (blk_below (g := gb241) (o := .cells #[.bool false,.int .i64 0,.int .i64 0,.int .i64 0,.int .i64 0,.string ⟨#[]⟩,.slice none 0 0] 41 (0,0)) (by (with_reducible repeat (first | apply k1_ | apply k2_ | apply k3_));exact BK241.out) hb)
           have n3_ := am_ (blk_below (g := gb258) (o := .cells #[.bool false,.int .i64 t248,.int .i64 t249,.int .i64 t250,.int .i64 t251,.string t252,.slice Ao32 x259006_1.length co32] 41 (0,0)) (by (with_reducible repeat (first | apply k1_ | apply k2_ | apply k3_));exact BK258.out) hb)
           have n4_ := am_ (IsS72.below (by repeat (first | (with_reducible first | exact HI0.out | apply IsS72.alloc | apply IsS72.drewN | apply IsS72.drew | apply IsS72.set_1 | apply IsS72.set_2 | refine IsS72.far ?_ NB0_241.out _ | refine IsS72.far ?_ NB0_258.out _) | exact HI0.out)) hb)
           have n5_ := am_ (KeepBut.trans (by repeat (first | (with_reducible first | exact HK.out | apply KeepBut.set_ | apply keep_drewN | apply keep_drew | apply keep_alloc | refine keep_far ?_ GW241.out _ | refine keep_far ?_ GW258.out _) | exact HK.out)) (KeepBut.of_below hb g none) (.inl rfl))
           have n6_ := am_ (below_step (by repeat (first | (with_reducible first | exact HB.out | apply b1_ | apply b2_ | apply b3_ | refine below_set ?_ (IsS72.ge HI0.out) | refine below_set ?_ GE241.out | refine below_set ?_ GE258.out) | exact HB.out)) hb)
           clear HO_259006
           clear BK241
           clear BK258
           clear HI0
           clear HK
           clear HB
           have HO_259006 := n0_
           have HO267 := n1_
           have BK241 := n2_
           have BK258 := n3_
           have HI0 := n4_
           have HK := n5_
           have HB := n6_
           clear n0_ n1_ n2_ n3_ n4_ n5_ n6_
           clear hb ho35
           refine hK.out _ _ ⟨(blk_cell BK258.out 0).trans rfl,(blk_cell BK258.out 1).trans rfl,(blk_cell BK258.out 2).trans rfl,(blk_cell BK258.out 3).trans rfl,(blk_cell BK258.out 4).trans rfl,(blk_cell BK258.out 5).trans rfl,(blk_cell BK258.out 6).trans rfl⟩ (fun hHeld => ?_)
           clear hK K
           refine norm_ (a' := ?_) ?_ ?_
           rotate_left
           ·show Act.put _ (some 27) _ = _
            simp only [Act.put,p1_,p2_,p3_,i64_w,i32_w]
            rfl
           refine one_ (i := 4) (N := some 24) #[true,true,true,true,true,true,true,true,false,false,false,false,false,false,false] rfl rfl (one_of HT_.out (by kernel_rfl)) (by decide) (fun K hK => ?_)
           refine goes_ Try.func45 (by kernel_rfl) rfl #[.pointer (some ⟨g,0,none⟩),.int .i64 100] (by rfl) rfl rfl (by (try simp only [m1_,m2_,m3_]);first | done | rfl | (simp only [d1_,d2_];rfl)) ?_
           with_reducible refine (spec_l00Src_next.calls g s0_0 t260 t261 100 t262 t263 t264 w0 _ ?side1 ?side2 A26.out).mono ?_
           (case side1 => repeat (first | (with_reducible first | exact HI0.out | apply IsS72.alloc | apply IsS72.drewN | apply IsS72.drew | apply IsS72.set_1 | apply IsS72.set_2 | refine IsS72.far ?_ NB0_241.out _ | refine IsS72.far ?_ NB0_258.out _) | exact HI0.out))
           (case side2 => repeat (first | (with_reducible first | exact HB.out | apply b1_ | apply b2_ | apply b3_ | refine below_set ?_ (IsS72.ge HI0.out) | refine below_set ?_ GE241.out | refine below_set ?_ GE258.out) | exact HB.out))
           rintro e w36 ⟨rfl,hi,hb,hk⟩
           refine ⟨_,rfl,?_⟩
           have n0_ := am_ (Kd.R_mono (Kd.R_keep (IsS72.apart (show IsS72 w0 _ g s0_0 t260 t261 from by repeat (first | (with_reducible first | exact HI0.out | apply IsS72.alloc | apply IsS72.drewN | apply IsS72.drew | apply IsS72.set_1 | apply IsS72.set_2 | refine IsS72.far ?_ NB0_241.out _ | refine IsS72.far ?_ NB0_258.out _) | exact HI0.out)) (by (with_reducible repeat (first | apply r1_ | apply r2_ | apply r3_));exact HO_259006.out) (by decide)) hk (fun _ h => h.2)) (fun _ h => h.1))
           have n1_ := am_ (KeepBut.blk hk (g' := gb241) (o := .cells #[.bool false,.int .i64 0,.int .i64 0,.int .i64 0,.int .i64 0,.string ⟨#[]⟩,.slice none 0 0] 41 (0,0)) (by (with_reducible repeat (first | apply k1_ | apply k2_ | apply k3_));exact BK241.out) NB241_0.out (by simp))
           have n2_ := am_ (KeepBut.blk hk (g' := gb258) (o := .cells #[.bool false,.int .i64 t248,.int .i64 t249,.int .i64 t250,.int .i64 t251,.string t252,.slice Ao32 x259006_1.length co32] 41 (0,0)) (by (with_reducible repeat (first | apply k1_ | apply k2_ | apply k3_));exact BK258.out) NB258_0.out (by simp))
           have n3_ := am_ (Kd.R_mono (Kd.R_keep (IsS72.apart (show IsS72 w0 _ g s0_0 t260 t261 from by repeat (first | (with_reducible first | exact HI0.out | apply IsS72.alloc | apply IsS72.drewN | apply IsS72.drew | apply IsS72.set_1 | apply IsS72.set_2 | refine IsS72.far ?_ NB0_241.out _ | refine IsS72.far ?_ NB0_258.out _) | exact HI0.out)) (by (with_reducible repeat (first | apply r1_ | apply r2_ | apply r3_));exact HO267.out) (by decide)) hk (fun _ h => h.2)) (fun _ h => h.1))
           have n4_ := am_ (KeepBut.trans (by repeat (first | (with_reducible first | exact HK.out | apply KeepBut.set_ | apply keep_drewN | apply keep_drew | apply keep_alloc | refine keep_far ?_ GW241.out _ | refine keep_far ?_ GW258.out _) | exact HK.out)) hk (.inl rfl))
           have n5_ := am_ (hb)
           have n6_ := am_ (hi)
           clear HO_259006
           clear BK241
           clear BK258
           clear HO267
           clear HK
           clear HB
           clear HI0
           have HO_259006 := n0_
           have BK241 := n1_
           have BK258 := n2_
           have HO267 := n3_
           have HK := n4_
           have HB := n5_
           have HI0 := n6_
           clear n0_ n1_ n2_ n3_ n4_ n5_ n6_
           (try clear hb)
           (try clear hb2)
           (try clear hk)
           (try clear hi)
           refine hK.out _ _ ⟨(blk_cell BK258.out 0).trans rfl,(blk_cell BK258.out 1).trans rfl,(blk_cell BK258.out 2).trans rfl,(blk_cell BK258.out 3).trans rfl,(blk_cell BK258.out 4).trans rfl,(blk_cell BK258.out 5).trans rfl,(blk_cell BK258.out 6).trans rfl⟩ (fun hHeld => ?_)
           clear hK K
           refine norm_ (a' := ?_) ?_ ?_
           rotate_left
           ·show Act.put _ (some 24) _ = _
            simp only [Act.put,p1_,p2_,p3_,i64_w,i32_w]
            rfl
           exact norm_ (by simp only [putAll,Act.put,p1_,p2_,p3_]) (hCont (v266) _ ⟨hHeld,(by (with_reducible repeat (first | apply r1_ | apply r2_ | apply r3_));exact HO267.out),(by (with_reducible repeat (first | apply r1_ | apply r2_ | apply r3_));exact HO_259006.out),(by (with_reducible repeat (first | apply k1_ | apply k2_ | apply k3_));exact BK241.out),(by (with_reducible repeat (first | apply k1_ | apply k2_ | apply k3_));exact BK258.out),(by repeat (first | (with_reducible first | exact HI0.out | apply IsS72.alloc | apply IsS72.drewN | apply IsS72.drew | apply IsS72.set_1 | apply IsS72.set_2 | refine IsS72.far ?_ NB0_241.out _ | refine IsS72.far ?_ NB0_258.out _) | exact HI0.out)),(by repeat (first | (with_reducible first | exact HK.out | apply KeepBut.set_ | apply keep_drewN | apply keep_drew | apply keep_alloc | refine keep_far ?_ GW241.out _ | refine keep_far ?_ GW258.out _) | exact HK.out)),(by repeat (first | (with_reducible first | exact HB.out | apply b1_ | apply b2_ | apply b3_ | refine below_set ?_ (IsS72.ge HI0.out) | refine below_set ?_ GE241.out | refine below_set ?_ GE258.out) | exact HB.out))⟩)
         rintro v266 w37 ⟨hS_,h0_,h1_,h2_,h3_,h4_,h5_,h6_⟩
         have n0_ : Aside0 (Kd.R (Kd.int .u8) 5 w37 w.heap.size (fun _ => True) v266 y265) := ⟨h0_⟩
         have n1_ : Aside0 (Kd.R k70 70 w37 w.heap.size (fun _ => True) (.slice Ao32 x259006_1.length co32) x259006_1) := ⟨h1_⟩
         have n2_ : Aside0 (w37.heap[gb241]? = some (.cells #[.bool false,.int .i64 0,.int .i64 0,.int .i64 0,.int .i64 0,.string ⟨#[]⟩,.slice none 0 0] 41 (0,0))) := ⟨h2_⟩
         have n3_ : Aside0 (w37.heap[gb258]? = some (.cells #[.bool false,.int .i64 t248,.int .i64 t249,.int .i64 t250,.int .i64 t251,.string t252,.slice Ao32 x259006_1.length co32] 41 (0,0))) := ⟨h3_⟩
         have n4_ : Aside0 (IsS72 w0 w37 g s0_0 t263 t264) := ⟨h4_⟩
         have n5_ : Aside0 (KeepBut w w37 g none) := ⟨h5_⟩
         have n6_ : Aside0 (Below w0.heap.size w0 w37) := ⟨h6_⟩
         clear HO_259006
         clear BK241
         clear BK258
         clear HI0
         clear HK
         clear HB
         clear h0_ h1_ h2_ h3_ h4_ h5_ h6_
         have HO267 := n0_
         have HO_259006 := n1_
         have BK241 := n2_
         have BK258 := n3_
         have HI0 := n4_
         have HK := n5_
         have HB := n6_
         clear n0_ n1_ n2_ n3_ n4_ n5_ n6_
         have hHeld : w37.cell? ⟨gb258,0,none⟩ = some (.bool false) ∧ w37.cell? ⟨gb258,1,none⟩ = some (.int .i64 t248) ∧ w37.cell? ⟨gb258,2,none⟩ = some (.int .i64 t249) ∧ w37.cell? ⟨gb258,3,none⟩ = some (.int .i64 t250) ∧ w37.cell? ⟨gb258,4,none⟩ = some (.int .i64 t251) ∧ w37.cell? ⟨gb258,5,none⟩ = some (.string t252) ∧ w37.cell? ⟨gb258,6,none⟩ = some (.slice Ao32 x259006_1.length co32) := hS_
         obtain ⟨Ao38,co38,eo38⟩ := Kd.R_slice HO267.out
         (first | subst eo38 | (injection eo38 with f1_ f2_ f3_;have f4_ := f1_.symm;have f5_ := f3_.symm;clear f1_ f2_ f3_;subst f4_;subst f5_))
         refine norm_ (a' := ?_) ?_ ?_
         rotate_left
         ·simp only [putAll,Act.put,p1_,p2_,p3_]
          rfl
         refine one_ (i := 8) (N := some 28) #[true,true,true,true,true,true,true,true,true,false,false,false,false,false,false] rfl rfl (one_of HT_.out (by kernel_rfl)) (by decide) (fun K hK => ?_)
         refine goes_ Try.func46 (by kernel_rfl) rfl #[.slice Ao38 y265.length co38] (by rfl) rfl rfl (by (try simp only [m1_,m2_,m3_]);first | done | rfl | (simp only [d1_,d2_];rfl)) ?_
         with_reducible refine (spec_l01Hash.calls k1 _ _ y265 t268 _ ?side1 ?side2 A27.out).mono ?_
         (case side1 => repeat (first | exact (Kd.R_reads' HO267.out).2.2 | (with_reducible refine Kd.C_alloc ?_ _) | (with_reducible refine Kd.C_drewN ?_ _) | (with_reducible refine Kd.C_drew ?_)))
         (case side2 => exact (Kd.R_reads' HO267.out).2.1)
         rintro e w39 ⟨rfl,hb⟩
         refine ⟨_,rfl,?_⟩
         have n0_ := am_ (Kd.R_below (by (with_reducible repeat (first | apply r1_ | apply r2_ | apply r3_));exact HO_259006.out) hb)
         have n1_ := am_ (Kd.R_below (by (with_reducible repeat (first | apply r1_ | apply r2_ | apply r3_));exact HO267.out) hb)
         have n2_ := am_ (blk_below (g := gb241) (o := .cells #[.bool false,.int .i64 0,.int .i64 0,.int .i64 0,.int .i64 0,.string ⟨#[]⟩,.slice none 0 0] 41 (0,0)) (by (with_reducible repeat (first | apply k1_ | apply k2_ | apply k3_));exact BK241.out) hb)
         have n3_ := am_ (blk_below (g := gb258) (o := .cells #[.bool false,.int .i64 t248,.int .i64 t249,.int .i64 t250,.int .i64 t251,.string t252,.slice Ao32 x259006_1.length co32] 41 (0,0)) (by (with_reducible repeat (first | apply k1_ | apply k2_ | apply k3_));exact BK258.out) hb)
         have n4_ := am_ (IsS72.below (by repeat (first | (with_reducible first | exact HI0.out | apply IsS72.alloc | apply IsS72.drewN | apply IsS72.drew | apply IsS72.set_1 | apply IsS72.set_2 | refine IsS72.far ?_ NB0_241.out _ | refine IsS72.far ?_ NB0_258.out _) | exact HI0.out)) hb)
         have n5_ := am_ (KeepBut.trans (by repeat (first | (with_reducible first | exact HK.out | apply KeepBut.set_ | apply keep_drewN | apply keep_drew | apply keep_alloc | refine keep_far ?_ GW241.out _ | refine keep_far ?_ GW258.out _) | exact HK.out)) (KeepBut.of_below hb g none) (.inl rfl))
         have n6_ := am_ (below_step (by repeat (first | (with_reducible first | exact HB.out | apply b1_ | apply b2_ | apply b3_ | refine below_set ?_ (IsS72.ge HI0.out) | refine below_set ?_ GE241.out | refine below_set ?_ GE258.out) | exact HB.out)) hb)
         clear HO_259006
         clear HO267
         clear BK241
         clear BK258
         clear HI0
         clear HK
         clear HB
         have HO_259006 := n0_
         have HO267 := n1_
         have BK241 := n2_
         have BK258 := n3_
         have HI0 := n4_
         have HK := n5_
         have HB := n6_
         clear n0_ n1_ n2_ n3_ n4_ n5_ n6_
         (try clear hb)
         (try clear hb2)
         (try clear hk)
         (try clear hi)
         refine hK.out _ _ ⟨(blk_cell BK258.out 0).trans rfl,(blk_cell BK258.out 1).trans rfl,(blk_cell BK258.out 2).trans rfl,(blk_cell BK258.out 3).trans rfl,(blk_cell BK258.out 4).trans rfl,(blk_cell BK258.out 5).trans rfl,(blk_cell BK258.out 6).trans rfl⟩ (fun hHeld => ?_)
         clear hK K
         refine norm_ (a' := ?_) ?_ ?_
         rotate_left
         ·show Act.put _ (some 28) _ = _
          simp only [Act.put,p1_,p2_,p3_,i64_w,i32_w]
          rfl
         refine pure_ (i := 9) (N := some 29) (v := ?_) (a' := ?_) #[true,true,true,true,true,true,true,true,true,true,false,false,false,false,false] rfl rfl (any_of HT_.out (by kernel_rfl)) (fun _ _ _ h => h) (Or.inl ⟨by rfl,?_⟩) ?_ ?_
         rotate_left
         ·intro w'
          go_simp
          with_reducible rfl
         rotate_left
         ·simp only [Act.put,p1_,p2_,p3_,i64_w,i32_w]
          rfl
         refine pure_ (i := 10) (N := some 30) (v := ?_) (a' := ?_) #[true,true,true,true,true,true,true,true,true,true,true,false,false,false,false] rfl rfl (any_of HT_.out (by kernel_rfl)) (fun _ _ _ h => h) (Or.inl ⟨by rfl,?_⟩) ?_ ?_
         rotate_left
         ·intro w'
          go_simp
          with_reducible rfl
         rotate_left
         ·simp only [Act.put,p1_,p2_,p3_,i64_w,i32_w]
          rfl
         refine one_ (i := 11) (N := some 31) #[true,true,true,true,true,true,true,true,true,true,true,true,false,false,false] rfl rfl (one_of HT_.out (by kernel_rfl)) (by decide) (fun K hK => ?_)
         refine value_ (w1 := ?_) (v := ?_) (by rfl) rfl ?_ ?_
         rotate_left 2
         ·go_simp
          constructor
          ·rfl
          ·rfl
         refine hK.out _ _ ⟨(blk_cell (blk_alloc BK258.out _) 0).trans rfl,(blk_cell (blk_alloc BK258.out _) 1).trans rfl,(blk_cell (blk_alloc BK258.out _) 2).trans rfl,(blk_cell (blk_alloc BK258.out _) 3).trans rfl,(blk_cell (blk_alloc BK258.out _) 4).trans rfl,(blk_cell (blk_alloc BK258.out _) 5).trans rfl,(blk_cell (blk_alloc BK258.out _) 6).trans rfl⟩ (fun hHeld => ?_)
         clear hK K
         refine norm_ (a' := ?_) ?_ ?_
         rotate_left
         ·show Act.put _ (some 31) _ = _
          simp only [Act.put,p1_,p2_,p3_,i64_w,i32_w]
          rfl
         refine one_ (i := 12) (N := some 32) #[true,true,true,true,true,true,true,true,true,true,true,true,true,false,false] rfl rfl (one_of HT_.out (by kernel_rfl)) (by decide) (fun K hK => ?_)
         refine Kd.R_append_step k70 w.heap.size (by rfl) (.tmp 21) (.tmp 31) 39 70 (.agg #[(.int .i64 0),(.int .i64 0),(.string ⟨#[]⟩)]) 32 rfl Try.underlying39 info70 rfl (by decide) (by omega) (.slice Ao32 x259006_1.length co32) x259006_1 (⟨x4_1,t262,t268.extract 0 8⟩ : S70) [.int .i64 x4_1,.int .i64 t262,.string (t268.extract 0 8)] (fun _ => True) (fun _ => False) rfl rfl ?aP (fun _ hk => hk.elim) ?aF ?aO (Below.refl _ _) ?aS ?aL ?_
         (case aP => exact k70_mkM _ _ _ (⟨x4_1,t262,t268.extract 0 8⟩ : S70))
         (case aF => exact (fun _ _ => trivial))
         (case aO => exact (by (with_reducible repeat (first | apply r1_ | apply r2_ | apply r3_));exact HO_259006.out))
         (case aS => exact (keep_size (w := w) (g := g) (row := none) (by repeat (first | (with_reducible first | exact HK.out | apply KeepBut.set_ | apply keep_drewN | apply keep_drew | apply keep_alloc | refine keep_far ?_ GW241.out _ | refine keep_far ?_ GW258.out _) | exact HK.out))))
         (case aL => have := LMc30.out;omega)
         intro v270 w40 ho hb hg hat
         rw [← Ny269.out] at ho
         have n0_ := am_ (blk_grown (g := gb241) (o := .cells #[.bool false,.int .i64 0,.int .i64 0,.int .i64 0,.int .i64 0,.string ⟨#[]⟩,.slice none 0 0] 41 (0,0)) (by (with_reducible repeat (first | apply k1_ | apply k2_ | apply k3_));exact BK241.out) hg (Kd.R_ne HO_259006.out BK241.out (by decide)))
         have n1_ := am_ (blk_grown (g := gb258) (o := .cells #[.bool false,.int .i64 t248,.int .i64 t249,.int .i64 t250,.int .i64 t251,.string t252,.slice Ao32 x259006_1.length co32] 41 (0,0)) (by (with_reducible repeat (first | apply k1_ | apply k2_ | apply k3_));exact BK258.out) hg (Kd.R_ne HO_259006.out BK258.out (by decide)))
         have n2_ := am_ (IsS72.grown (by repeat (first | (with_reducible first | exact HI0.out | apply IsS72.alloc | apply IsS72.drewN | apply IsS72.drew | apply IsS72.set_1 | apply IsS72.set_2 | refine IsS72.far ?_ NB0_241.out _ | refine IsS72.far ?_ NB0_258.out _) | exact HI0.out)) hg (IsS72.own_ne HI0.out HO_259006.out (by decide)))
         have n3_ := am_ (Kd.R_over' (by (with_reducible repeat (first | apply r1_ | apply r2_ | apply r3_));exact HO267.out) (Kd.R_typed (by (with_reducible repeat (first | apply r1_ | apply r2_ | apply r3_));exact HO_259006.out)) (by decide) hg)
         have n4_ := am_ (below_weaken (by repeat (first | (with_reducible first | exact HB.out | apply b1_ | apply b2_ | apply b3_ | refine below_set ?_ (IsS72.ge HI0.out) | refine below_set ?_ GE241.out | refine below_set ?_ GE258.out) | exact HB.out)) HL.out hb)
         have n5_ := am_ (KeepBut.trans (by repeat (first | (with_reducible first | exact HK.out | apply KeepBut.set_ | apply keep_drewN | apply keep_drew | apply keep_alloc | refine keep_far ?_ GW241.out _ | refine keep_far ?_ GW258.out _) | exact HK.out)) (KeepBut.of_grown hg g) (Kd.R_base2 HO_259006.out))
         have n6_ := am_ (ho)
         clear BK241
         clear BK258
         clear HI0
         clear HO267
         clear HB
         clear HK
         clear HO_259006
         have BK241 := n0_
         have BK258 := n1_
         have HI0 := n2_
         have HO267 := n3_
         have HB := n4_
         have HK := n5_
         have HO271 := n6_
         clear n0_ n1_ n2_ n3_ n4_ n5_ n6_
         clear ho hb hg hat
         obtain ⟨Ao41,co41,eo41⟩ := Kd.R_slice HO271.out
         (first | subst eo41 | (injection eo41 with f1_ f2_ f3_;have f4_ := f1_.symm;have f5_ := f3_.symm;clear f1_ f2_ f3_;subst f4_;subst f5_))
         refine hK.out _ _ ⟨(blk_cell BK258.out 0).trans rfl,(blk_cell BK258.out 1).trans rfl,(blk_cell BK258.out 2).trans rfl,(blk_cell BK258.out 3).trans rfl,(blk_cell BK258.out 4).trans rfl,(blk_cell BK258.out 5).trans rfl,(blk_cell BK258.out 6).trans rfl⟩ (fun hHeld => ?_)
         clear hK K
         refine norm_ (a' := ?_) ?_ ?_
         rotate_left
         ·show Act.put _ (some 32) _ = _
          simp only [Act.put,p1_,p2_,p3_,i64_w,i32_w]
          rfl
         refine pure_ (i := 13) (N := some 33) (v := ?_) (a' := ?_) #[true,true,true,true,true,true,true,true,true,true,true,true,true,true,false] rfl rfl (any_of HT_.out (by kernel_rfl)) (fun _ _ _ h => h) (Or.inl ⟨by rfl,?_⟩) ?_ ?_
         rotate_left
         ·intro w'
          go_simp
          with_reducible rfl
         rotate_left
         ·simp only [Act.put,p1_,p2_,p3_,i64_w,i32_w]
          rfl
         refine last_ (i := 14) (N := none) #[true,true,true,true,true,true,true,true,true,true,true,true,true,true,true] rfl rfl (one_of HT_.out (by kernel_rfl)) (by decide) (fun K hK => ?_)
         have hs42 : w40.cell? ⟨gb258,6,none⟩ = some (.slice Ao32 x259006_1.length co32) := (blk_cell BK258.out 6).trans rfl
         have hfs42 := blk_frozen BK258.out 6
         have hns42_0 := NB241_258.out
         have hms42_0 := NB258_241.out
         refine skip_ (w1 := ?_) (by rfl) rfl ?_ ?_
         rotate_left
         ·go_simp
          rfl
         refine hK.out _ _ ?_
         clear hK K
         refine done_ (done_of HT_.out (by kernel_rfl)) ?_
         try go_wp2
         go_roundg k1
         case measure => have := HK1.out;omega
         case rel => exact ⟨(wrap64 (x4_1 + 1)),(t263),(t264),(y269),(.slice Ao41 y269.length co41),(by first | rfl | (simp;done) | (simp [*];done)),H',⟨by have := HK1.out;omega⟩,⟨by (with_reducible repeat (first | apply r1_ | apply r2_ | apply r3_));exact Kd.R_mono (Kd.Rf (Kd.R_types HO271.out BK258.out (by decide))) (fun _ hk => trivial)⟩,⟨by (repeat (first | (with_reducible first | apply k1_ | apply k2_ | apply k3_) | refine blk_far ?_ NB241_258.out _));exact BK241.out⟩,⟨by (with_reducible repeat (first | apply k1_ | apply k2_ | apply k3_));refine blk_put (cs := #[.bool false,.int .i64 t248,.int .i64 t249,.int .i64 t250,.int .i64 t251,.string t252,.slice Ao32 x259006_1.length co32]) ?_ 6 _ rfl;(with_reducible repeat (first | apply k1_ | apply k2_ | apply k3_));exact BK258.out⟩,⟨by repeat (first | (with_reducible first | exact HI0.out | apply IsS72.alloc | apply IsS72.drewN | apply IsS72.drew | apply IsS72.set_1 | apply IsS72.set_2 | refine IsS72.far ?_ NB0_241.out _ | refine IsS72.far ?_ NB0_258.out _) | exact HI0.out)⟩,⟨by repeat (first | (with_reducible first | exact HK.out | apply KeepBut.set_ | apply keep_drewN | apply keep_drew | apply keep_alloc | refine keep_far ?_ GW241.out _ | refine keep_far ?_ GW258.out _) | exact HK.out)⟩,⟨by repeat (first | (with_reducible first | exact HB.out | apply b1_ | apply b2_ | apply b3_ | refine below_set ?_ (IsS72.ge HI0.out) | refine below_set ?_ GE241.out | refine below_set ?_ GE258.out) | exact HB.out)⟩⟩
        ·rw [if_neg c30] at H
         exact absurd H (by simp)
       ·rw [if_neg c29] at H
        exact absurd H (by simp)
      ·rw [if_neg c28] at H
       exact absurd H (by simp)
    ·rw [if_neg c22] at H
     have c22b0 : decide (x4_1 < 4) = false := decide_eq_false c22
     clear c22
     simp only [Option.some.injEq,Prod.mk.injEq] at H
     obtain ⟨rfl,rfl,rfl,rfl,rfl,rfl,rfl,rfl,rfl⟩ := H
     have hnb43 := NB258_241.out
     have hnc43 := NB241_258.out
     have hnb44 := NB258_0.out
     have hnc44 := NB0_258.out
     obtain ⟨hcz45_0,hcz45_1,hcz45_2,hcz45_3,hcz45_4,hcz45_5,hcz45_6,hfz45_0,hfz45_1,hfz45_2,hfz45_3,hfz45_4,hfz45_5,hfz45_6⟩ := bc7_ BK258.out
     have hnb46 := NB241_0.out
     have hnc46 := NB0_241.out
     obtain ⟨hcz47_0,hcz47_1,hcz47_2,hcz47_3,hcz47_4,hcz47_5,hcz47_6,hfz47_0,hfz47_1,hfz47_2,hfz47_3,hfz47_4,hfz47_5,hfz47_6⟩ := bc7_ BK241.out
     obtain ⟨Ao48,co48,eo48⟩ := Kd.R_slice HO_259006.out
     subst eo48
     go_wp2
     refine bodyPost_ret (results_cell_row rfl _ _ gb241 41 #[.bool false,.int .i64 t248,.int .i64 t249,.int .i64 t250,.int .i64 t251,.string t252,.slice Ao48 x259006_1.length co48] (0,0) _ rfl (by (with_reducible repeat (first | apply k1_ | apply k2_ | apply k3_));refine blk_put (cs := #[.bool false,.int .i64 t248,.int .i64 t249,.int .i64 t250,.int .i64 t251,.string t252,.slice none 0 0]) ?_ 6 _ rfl;(with_reducible repeat (first | apply k1_ | apply k2_ | apply k3_));refine blk_put (cs := #[.bool false,.int .i64 t248,.int .i64 t249,.int .i64 t250,.int .i64 t251,.string ⟨#[]⟩,.slice none 0 0]) ?_ 5 _ rfl;(with_reducible repeat (first | apply k1_ | apply k2_ | apply k3_));refine blk_put (cs := #[.bool false,.int .i64 t248,.int .i64 t249,.int .i64 t250,.int .i64 0,.string ⟨#[]⟩,.slice none 0 0]) ?_ 4 _ rfl;(with_reducible repeat (first | apply k1_ | apply k2_ | apply k3_));refine blk_put (cs := #[.bool false,.int .i64 t248,.int .i64 t249,.int .i64 0,.int .i64 0,.string ⟨#[]⟩,.slice none 0 0]) ?_ 3 _ rfl;(with_reducible repeat (first | apply k1_ | apply k2_ | apply k3_));refine blk_put (cs := #[.bool false,.int .i64 t248,.int .i64 0,.int .i64 0,.int .i64 0,.string ⟨#[]⟩,.slice none 0 0]) ?_ 2 _ rfl;(with_reducible repeat (first | apply k1_ | apply k2_ | apply k3_));refine blk_put (cs := #[.bool false,.int .i64 0,.int .i64 0,.int .i64 0,.int .i64 0,.string ⟨#[]⟩,.slice none 0 0]) ?_ 1 _ rfl;(with_reducible repeat (first | apply k1_ | apply k2_ | apply k3_));refine blk_put (cs := #[.bool false,.int .i64 0,.int .i64 0,.int .i64 0,.int .i64 0,.string ⟨#[]⟩,.slice none 0 0]) ?_ 0 _ rfl;(with_reducible repeat (first | apply k1_ | apply k2_ | apply k3_));exact BK241.out) Try.underlying41 rfl (by kernel_rfl)) rfl ?_
     exact ⟨_,by first | rfl | (simp [e1_,e2_] <;> rfl) | (simp [*,e1_,e2_] <;> rfl) | (simp [e3_,e4_];done) | (simp [*,e3_,e4_];done),by (with_reducible repeat (first | apply r1_ | apply r2_ | apply r3_));exact Kd.R_mono (Kd.Rf (Kd.Rf (Kd.Rf (Kd.Rf (Kd.Rf (Kd.Rf (Kd.Rf (Kd.R_types HO_259006.out BK241.out (by decide))))))))) (fun _ hk => trivial),by repeat (first | (with_reducible first | exact HI0.out | apply IsS72.alloc | apply IsS72.drewN | apply IsS72.drew | apply IsS72.set_1 | apply IsS72.set_2 | refine IsS72.far ?_ NB0_241.out _ | refine IsS72.far ?_ NB0_258.out _) | exact HI0.out),by repeat (first | (with_reducible first | exact HB.out | apply b1_ | apply b2_ | apply b3_ | refine below_set ?_ (IsS72.ge HI0.out) | refine below_set ?_ GE241.out | refine below_set ?_ GE258.out) | exact HB.out),by repeat (first | (with_reducible first | exact HK.out | apply KeepBut.set_ | apply keep_drewN | apply keep_drew | apply keep_alloc | refine keep_far ?_ GW241.out _ | refine keep_far ?_ GW258.out _) | exact HK.out)⟩
def spec_l02Request.T1 : Bool × List (List Nat × List Nat) := (true,[([],[]),([0],[0]),([1],[1]),([2],[2]),([],[]),([4],[4]),([5],[5]),([3,6,6],[3,6]),([7,7,0,1,2,3,4,5,6,7],[7])])
def spec_l02Request.B1 : List Nat := [0,1,3,7,0,16,48,127,255]
theorem spec_l02Request.tab1 : rtab .any (opsOf Try.f34 1) = spec_l02Request.T1 := by kernel_rfl
theorem spec_l02Request.bits1 : waitsOk spec_l02Request.T1.2 spec_l02Request.B1 = true := by kernel_rfl
def spec_l02Request.T2 : Bool × List (List Nat × List Nat) := (true,[([],[]),([],[]),([1],[1]),([2],[2]),([3],[3]),([0,4],[0,4]),([],[]),([6],[6]),([7,5],[7]),([5,8,8],[5,8]),([9,9,0,1,2,3,4,5,6,7,8,9],[0,9])])
def spec_l02Request.B2 : List Nat := [0,0,2,6,14,31,0,64,255,511,1023]
theorem spec_l02Request.tab2 : rtab .any (opsOf Try.f34 2) = spec_l02Request.T2 := by kernel_rfl
theorem spec_l02Request.bits2 : waitsOk spec_l02Request.T2.2 spec_l02Request.B2 = true := by kernel_rfl
def spec_l02Request.T3 : Bool × List (List Nat × List Nat) := (true,[([],[]),([],[]),([1],[1]),([2],[2]),([3],[3]),([4],[4]),([0,5],[0,5]),([],[]),([7],[7]),([6,8,6],[6,8]),([9,9,0,1,2,3,4,5,6,7,8,9],[9])])
def spec_l02Request.B3 : List Nat := [0,0,2,6,14,30,63,0,128,511,1023]
theorem spec_l02Request.tab3 : rtab .any (opsOf Try.f34 3) = spec_l02Request.T3 := by kernel_rfl
theorem spec_l02Request.bits3 : waitsOk spec_l02Request.T3.2 spec_l02Request.B3 = true := by kernel_rfl
set_option maxHeartbeats 8000000 in
set_option maxRecDepth 100000 in
theorem spec_l02Request.calls (k : Nat) (a0_0 : Int) (a0_1 : Int) (a0_2 : Int) (a0_3 : Int) (a0_4 : ByteArray) (r : List Int) (w : World) (h : spec_l02Request.f k a0_0 a0_1 a0_2 a0_3 a0_4 = some r) :
  Calls Try.prog 34 #[.agg #[.int .i64 a0_0,.int .i64 a0_1,.int .i64 a0_2,.int .i64 a0_3,.string a0_4]] w fun e w' => ∃ v0_ : Value,e = .returned (v0_) ∧ Kd.R (Kd.int .u8) 5 w' w.heap.size (fun _ => True) v0_ r ∧ Below w.heap.size w w' := by
 have hu33 := Try.underlying33
 have HB := am_ (Below.refl w.heap.size w)
 have H : ((some (([(a0_0) % 256] : List Int) : List Int)).bind fun y279 => ((spec_l02Number.f k a0_1 2).bind fun t282 => (if y279.length + t282.length < 140737488355328 then ((some (y279 ++ t282 : List Int)).bind fun y285 => (if y285.length < 140737488355328 then ((some (y285 ++ [(a0_2) % 256] : List Int)).bind fun y288 => ((spec_l02Number.f k a0_3 2).bind fun t291 => (if y288.length + t291.length < 140737488355328 then ((some (y288 ++ t291 : List Int)).bind fun y294 => (if y294.length < 140737488355328 then ((some (y294 ++ [((a0_4.size : Int)) % 256] : List Int)).bind fun y297 => (if y297.length + a0_4.size < 140737488355328 then (some (y297 ++ bytesOf a0_4)) else (none))) else (none))) else (none)))) else (none))) else (none)))) = some r := h
 clear h
 obtain ⟨y279,hy279⟩ : ∃ y_ : List Int,y_ = (([(a0_0) % 256] : List Int)) := ⟨_,rfl⟩
 replace H : ((spec_l02Number.f k a0_1 2).bind fun t282 => (if y279.length + t282.length < 140737488355328 then ((some (y279 ++ t282 : List Int)).bind fun y285 => (if y285.length < 140737488355328 then ((some (y285 ++ [(a0_2) % 256] : List Int)).bind fun y288 => ((spec_l02Number.f k a0_3 2).bind fun t291 => (if y288.length + t291.length < 140737488355328 then ((some (y288 ++ t291 : List Int)).bind fun y294 => (if y294.length < 140737488355328 then ((some (y294 ++ [((a0_4.size : Int)) % 256] : List Int)).bind fun y297 => (if y297.length + a0_4.size < 140737488355328 then (some (y297 ++ bytesOf a0_4)) else (none))) else (none))) else (none)))) else (none))) else (none))) = some r := by first | (rw [hy279];with_reducible exact H) | (have H2_ := (Option.bind_some _ _).symm.trans H;rw [hy279];with_reducible exact H2_) | (have H2_ := (Option.bind_some _ _).symm.trans H;with_reducible exact H2_) | with_reducible exact H | (rw [hy279];exact H) | exact H
 have Ny279 := am_ hy279
 clear hy279
 replace H := Option.bind_eq_some_iff.mp H
 obtain ⟨t282,A20,H⟩ := H
 try dsimp only at H
 have A2 := am_ A20
 clear A20
 by_cases c3 : y279.length + t282.length < 140737488355328
 ·rw [if_pos c3] at H
  have LMc3 := am_ c3
  clear c3
  obtain ⟨y285,hy285⟩ : ∃ y_ : List Int,y_ = (y279 ++ t282) := ⟨_,rfl⟩
  replace H : (if y285.length < 140737488355328 then ((some (y285 ++ [(a0_2) % 256] : List Int)).bind fun y288 => ((spec_l02Number.f k a0_3 2).bind fun t291 => (if y288.length + t291.length < 140737488355328 then ((some (y288 ++ t291 : List Int)).bind fun y294 => (if y294.length < 140737488355328 then ((some (y294 ++ [((a0_4.size : Int)) % 256] : List Int)).bind fun y297 => (if y297.length + a0_4.size < 140737488355328 then (some (y297 ++ bytesOf a0_4)) else (none))) else (none))) else (none)))) else (none)) = some r := by first | (rw [hy285];with_reducible exact H) | (have H2_ := (Option.bind_some _ _).symm.trans H;rw [hy285];with_reducible exact H2_) | (have H2_ := (Option.bind_some _ _).symm.trans H;with_reducible exact H2_) | with_reducible exact H | (rw [hy285];exact H) | exact H
  have Ny285 := am_ hy285
  clear hy285
  by_cases c4 : y285.length < 140737488355328
  ·rw [if_pos c4] at H
   have LMc4 := am_ c4
   clear c4
   obtain ⟨y288,hy288⟩ : ∃ y_ : List Int,y_ = (y285 ++ [(a0_2) % 256]) := ⟨_,rfl⟩
   replace H : ((spec_l02Number.f k a0_3 2).bind fun t291 => (if y288.length + t291.length < 140737488355328 then ((some (y288 ++ t291 : List Int)).bind fun y294 => (if y294.length < 140737488355328 then ((some (y294 ++ [((a0_4.size : Int)) % 256] : List Int)).bind fun y297 => (if y297.length + a0_4.size < 140737488355328 then (some (y297 ++ bytesOf a0_4)) else (none))) else (none))) else (none))) = some r := by first | (rw [hy288];with_reducible exact H) | (have H2_ := (Option.bind_some _ _).symm.trans H;rw [hy288];with_reducible exact H2_) | (have H2_ := (Option.bind_some _ _).symm.trans H;with_reducible exact H2_) | with_reducible exact H | (rw [hy288];exact H) | exact H
   have Ny288 := am_ hy288
   clear hy288
   replace H := Option.bind_eq_some_iff.mp H
   obtain ⟨t291,A50,H⟩ := H
   try dsimp only at H
   have A5 := am_ A50
   clear A50
   by_cases c6 : y288.length + t291.length < 140737488355328
   ·rw [if_pos c6] at H
    have LMc6 := am_ c6
    clear c6
    obtain ⟨y294,hy294⟩ : ∃ y_ : List Int,y_ = (y288 ++ t291) := ⟨_,rfl⟩
    replace H : (if y294.length < 140737488355328 then ((some (y294 ++ [((a0_4.size : Int)) % 256] : List Int)).bind fun y297 => (if y297.length + a0_4.size < 140737488355328 then (some (y297 ++ bytesOf a0_4)) else (none))) else (none)) = some r := by first | (rw [hy294];with_reducible exact H) | (have H2_ := (Option.bind_some _ _).symm.trans H;rw [hy294];with_reducible exact H2_) | (have H2_ := (Option.bind_some _ _).symm.trans H;with_reducible exact H2_) | with_reducible exact H | (rw [hy294];exact H) | exact H
    have Ny294 := am_ hy294
    clear hy294
    by_cases c7 : y294.length < 140737488355328
    ·rw [if_pos c7] at H
     have LMc7 := am_ c7
     clear c7
     obtain ⟨y297,hy297⟩ : ∃ y_ : List Int,y_ = (y294 ++ [((a0_4.size : Int)) % 256]) := ⟨_,rfl⟩
     replace H : (if y297.length + a0_4.size < 140737488355328 then (some (y297 ++ bytesOf a0_4)) else (none)) = some r := by first | (rw [hy297];with_reducible exact H) | (have H2_ := (Option.bind_some _ _).symm.trans H;rw [hy297];with_reducible exact H2_) | (have H2_ := (Option.bind_some _ _).symm.trans H;with_reducible exact H2_) | with_reducible exact H | (rw [hy297];exact H) | exact H
     have Ny297 := am_ hy297
     clear hy297
     by_cases c8 : y297.length + a0_4.size < 140737488355328
     ·rw [if_pos c8] at H
      have LMc8 := am_ c8
      clear c8
      obtain ⟨y300,hy300⟩ : ∃ y_ : List Int,y_ = (y297 ++ bytesOf a0_4) := ⟨_,rfl⟩
      replace H : (some y300) = some r := by first | (rw [hy300];with_reducible exact H) | (have H2_ := (Option.bind_some _ _).symm.trans H;rw [hy300];with_reducible exact H2_) | (have H2_ := (Option.bind_some _ _).symm.trans H;with_reducible exact H2_) | with_reducible exact H | (rw [hy300];exact H) | exact H
      have Ny300 := am_ hy300
      clear hy300
      obtain rfl := Option.some.inj H
      go_enter Try.func34,Try.ntmps34
      try go_wp2_with (first | ((with_reducible refine gate_dst (N := 1) rfl ?_);refine box_event ?hg (N := 1) ?hd (cs := #[.int .i64 a0_0,.int .i64 a0_1,.int .i64 a0_2,.int .i64 a0_3,.string a0_4]) (t := 33) ?hr ?_;(case hd => rfl);(case hg => rfl);(case hr => first | (go_simp;done) | (go_simp;rfl));intro gb278 hg w9 hbox hb;have n0_ := am_ (below_step (by repeat (first | (with_reducible first | exact HB.out | apply b1_ | apply b2_ | apply b3_) | exact HB.out)) hb);have n1_ := am_ (hbox);have n2_ := am_ ((by rw [hg];exact (below_size (by repeat (first | (with_reducible first | exact HB.out | apply b1_ | apply b2_ | apply b3_) | exact HB.out))) : w.heap.size ≤ gb278));have n3_ := am_ ((by rw [hg];exact (below_size (by repeat (first | (with_reducible first | exact HB.out | apply b1_ | apply b2_ | apply b3_) | exact HB.out))) : w.heap.size ≤ gb278));clear HB;have HB := n0_;have BK278 := n1_;have GW278 := n2_;have GE278 := n3_;clear n0_ n1_ n2_ n3_;clear hb hbox hg))
      have n0_ := am_ (blk_drew BK278.out)
      have n1_ := am_ (below_drew1 HB.out)
      clear BK278
      clear HB
      have BK278 := n0_
      have HB := n1_
      clear n0_ n1_
      refine start_ (n := 9) (S := fun w' => w'.cell? ⟨gb278,0,none⟩ = some (.int .i64 a0_0) ∧ w'.cell? ⟨gb278,1,none⟩ = some (.int .i64 a0_1) ∧ w'.cell? ⟨gb278,2,none⟩ = some (.int .i64 a0_2) ∧ w'.cell? ⟨gb278,3,none⟩ = some (.int .i64 a0_3) ∧ w'.cell? ⟨gb278,4,none⟩ = some (.string a0_4)) (ds := []) #[false,false,false,false,false,false,false,false,false] (by kernel_rfl) rfl rfl ⟨(blk_cell BK278.out 0).trans rfl,(blk_cell BK278.out 1).trans rfl,(blk_cell BK278.out 2).trans rfl,(blk_cell BK278.out 3).trans rfl,(blk_cell BK278.out 4).trans rfl⟩ (fun hHeld => ?_);refine with_tabW spec_l02Request.tab1 spec_l02Request.bits1 (fun HT_ HW_ => ?_)
      generalize w9.drew = w10 at BK278 HB hHeld ⊢
      refine pure_ (i := 0) (N := some 4) (v := ?_) (a' := ?_) #[true,false,false,false,false,false,false,false,false] rfl rfl (any_of HT_.out (by kernel_rfl)) (fun _ _ _ h => h) (Or.inl ⟨by rfl,?_⟩) ?_ ?_
      rotate_left
      ·intro w'
       go_simp
       with_reducible rfl
      rotate_left
      ·simp only [Act.put,p1_,p2_,p3_,i64_w,i32_w]
       rfl
      refine pure_ (i := 4) (N := some 8) (v := ?_) (a' := ?_) #[true,false,false,false,true,false,false,false,false] rfl rfl (any_of HT_.out (by kernel_rfl)) (fun _ _ _ h => h) (Or.inl ⟨by rfl,?_⟩) ?_ ?_
      rotate_left
      ·intro w'
       go_simp
       with_reducible rfl
      rotate_left
      ·simp only [Act.put,p1_,p2_,p3_,i64_w,i32_w]
       rfl
      refine take_ (i := 1) (N := some 5) (v := ?_) (a' := ?_) #[true,true,false,false,true,false,false,false,false] rfl rfl (take_ofW HT_.out HW_.out (by kernel_rfl)) (fun _ _ _ h => h) (Or.inl ⟨by rfl,?_⟩) hHeld ?_ ?_
      rotate_left
      ·rintro w' ⟨s0,s1,s2,s3,s4⟩
       go_simp
       with_reducible rfl
      rotate_left
      ·simp only [Act.put,p1_,p2_,p3_,i64_w,i32_w]
       rfl
      refine pure_ (i := 2) (N := some 6) (v := ?_) (a' := ?_) #[true,true,true,false,true,false,false,false,false] rfl rfl (any_of HT_.out (by kernel_rfl)) (fun _ _ _ h => h) (Or.inl ⟨by rfl,?_⟩) ?_ ?_
      rotate_left
      ·intro w'
       go_simp
       with_reducible rfl
      rotate_left
      ·simp only [Act.put,p1_,p2_,p3_,i64_w,i32_w]
       rfl
      refine take_ (i := 5) (N := some 9) (v := ?_) (a' := ?_) #[true,true,true,false,true,true,false,false,false] rfl rfl (take_ofW HT_.out HW_.out (by kernel_rfl)) (fun _ _ _ h => h) (Or.inl ⟨by rfl,?_⟩) hHeld ?_ ?_
      rotate_left
      ·rintro w' ⟨s0,s1,s2,s3,s4⟩
       go_simp
       with_reducible rfl
      rotate_left
      ·simp only [Act.put,p1_,p2_,p3_,i64_w,i32_w]
       rfl
      refine join_ (σ := Value × Value) 2 #[true,true,true,true,true,true,true,false,false] (fun s_ => [(7,s_.1),(10,s_.2)]) (fun s_ w' => (w'.cell? ⟨gb278,0,none⟩ = some (.int .i64 a0_0) ∧ w'.cell? ⟨gb278,1,none⟩ = some (.int .i64 a0_1) ∧ w'.cell? ⟨gb278,2,none⟩ = some (.int .i64 a0_2) ∧ w'.cell? ⟨gb278,3,none⟩ = some (.int .i64 a0_3) ∧ w'.cell? ⟨gb278,4,none⟩ = some (.string a0_4)) ∧ (Kd.R (Kd.int .u8) 5 w' w.heap.size (fun k_ => some k_ ≠ (s_.2 : Value).ownBlock) s_.1 y279) ∧ (Kd.R (Kd.int .u8) 5 w' w.heap.size (fun k_ => some k_ ≠ (s_.1 : Value).ownBlock) s_.2 t282) ∧ (w'.heap[gb278]? = some (.cells #[.int .i64 a0_0,.int .i64 a0_1,.int .i64 a0_2,.int .i64 a0_3,.string a0_4] 33 (0,0))) ∧ (Below w.heap.size w w')) ?_ ?_
      rotate_left
      ·intro hCont
       refine two_ (i := 3) (j := 6) (Ni := some 7) (Nj := some 10) #[true,true,true,true,true,true,false,false,false] #[true,true,true,false,true,true,true,false,false] rfl rfl rfl rfl (two_of HT_.out (by kernel_rfl)) (by decide) (by decide) (fun K hK => ?_) (fun K hK => ?_)
       ·skip
        refine Kd.R_lit_step (Kd.int .u8) _ 5 ?hg (N := 7) ?hd (xs := ([(a0_0) % 256] : List Int)) (inner := [.int .u8 ((a0_0) % 256)]) (ok := fun _ => True) (okp := fun _ => True) ?hr ?hp (fun _ hk => hk) trivial (Below.refl _ _) (Nat.le_refl _) (by simp) ?_;(case hd => rfl);(case hg => rfl);(case hr => first | (go_simp;done) | (go_simp;rfl));(case hp => exact (Reps.one (show Kd.M (Kd.int .u8) _ _ _ ((a0_0) % 256) [.int .u8 ((a0_0) % 256)] from rfl) (Reps.none _ _)))
        intro v280 w11 ho12 hb hg_ hnew_
        clear hg_ hnew_
        (first | rw [← Ny279.out] at ho12 | (simp only [Int.reduceToNat] at ho12;rw [← Ny279.out] at ho12))
        have n0_ := am_ (Kd.R_lower ho12 (below_size (by repeat (first | (with_reducible first | exact HB.out | apply b1_ | apply b2_ | apply b3_ | refine below_set ?_ GE278.out) | exact HB.out))))
        have n1_ := am_ (blk_below (g := gb278) (o := .cells #[.int .i64 a0_0,.int .i64 a0_1,.int .i64 a0_2,.int .i64 a0_3,.string a0_4] 33 (0,0)) (by (with_reducible repeat (first | apply k1_ | apply k2_ | apply k3_));exact BK278.out) hb)
        have n2_ := am_ (below_step (by repeat (first | (with_reducible first | exact HB.out | apply b1_ | apply b2_ | apply b3_ | refine below_set ?_ GE278.out) | exact HB.out)) hb)
        clear BK278
        clear HB
        have HO281 := n0_
        have BK278 := n1_
        have HB := n2_
        clear n0_ n1_ n2_
        clear hb ho12
        refine hK.out _ _ ⟨(blk_cell BK278.out 0).trans rfl,(blk_cell BK278.out 1).trans rfl,(blk_cell BK278.out 2).trans rfl,(blk_cell BK278.out 3).trans rfl,(blk_cell BK278.out 4).trans rfl⟩ (fun hHeld => ?_)
        clear hK K
        refine norm_ (a' := ?_) ?_ ?_
        rotate_left
        ·show Act.put _ (some 7) _ = _
         simp only [Act.put,p1_,p2_,p3_,i64_w,i32_w]
         rfl
        refine one_ (i := 6) (N := some 10) #[true,true,true,true,true,true,true,false,false] rfl rfl (one_of HT_.out (by kernel_rfl)) (by decide) (fun K hK => ?_)
        refine goes_ Try.func58 (by kernel_rfl) rfl #[.int .i64 a0_1,.int .i64 2] (by rfl) rfl rfl (by (try simp only [m1_,m2_,m3_]);first | done | rfl | (simp only [d1_,d2_];rfl)) ?_
        with_reducible refine (spec_l02Number.calls k a0_1 2 t282 _ A2.out).mono ?_
        rintro e w13 ⟨v283,rfl,ho0,hb⟩
        refine ⟨_,rfl,?_⟩
        have n0_ := am_ (Kd.R_elder' (by (with_reducible repeat (first | apply r1_ | apply r2_ | apply r3_));exact HO281.out) (Kd.R_base ho0) hb)
        have n1_ := am_ (Kd.R_lower (Kd.R_new' ho0 (Kd.R_lt (by (with_reducible repeat (first | apply r1_ | apply r2_ | apply r3_));exact HO281.out))) (below_size (by repeat (first | (with_reducible first | exact HB.out | apply b1_ | apply b2_ | apply b3_ | refine below_set ?_ GE278.out) | exact HB.out))))
        have n2_ := am_ (blk_below (g := gb278) (o := .cells #[.int .i64 a0_0,.int .i64 a0_1,.int .i64 a0_2,.int .i64 a0_3,.string a0_4] 33 (0,0)) (by (with_reducible repeat (first | apply k1_ | apply k2_ | apply k3_));exact BK278.out) hb)
        have n3_ := am_ (below_step (by repeat (first | (with_reducible first | exact HB.out | apply b1_ | apply b2_ | apply b3_ | refine below_set ?_ GE278.out) | exact HB.out)) hb)
        clear HO281
        clear BK278
        clear HB
        have HO281 := n0_
        have HO284 := n1_
        have BK278 := n2_
        have HB := n3_
        clear n0_ n1_ n2_ n3_
        (try clear hb)
        (try clear hb2)
        (try clear hk)
        (try clear hi)
        (try clear ho0)
        refine hK.out _ _ ⟨(blk_cell BK278.out 0).trans rfl,(blk_cell BK278.out 1).trans rfl,(blk_cell BK278.out 2).trans rfl,(blk_cell BK278.out 3).trans rfl,(blk_cell BK278.out 4).trans rfl⟩ (fun hHeld => ?_)
        clear hK K
        refine norm_ (a' := ?_) ?_ ?_
        rotate_left
        ·show Act.put _ (some 10) _ = _
         simp only [Act.put,p1_,p2_,p3_,i64_w,i32_w]
         rfl
        exact norm_ (by simp only [putAll,Act.put,p1_,p2_,p3_]) (hCont (v280,v283) _ ⟨hHeld,(by (with_reducible repeat (first | apply r1_ | apply r2_ | apply r3_));exact Kd.R_mono HO281.out (fun _ hk => hk.2)),(by (with_reducible repeat (first | apply r1_ | apply r2_ | apply r3_));exact Kd.R_mono HO284.out (fun _ hk => hk.2)),(by (with_reducible repeat (first | apply k1_ | apply k2_ | apply k3_));exact BK278.out),(by repeat (first | (with_reducible first | exact HB.out | apply b1_ | apply b2_ | apply b3_ | refine below_set ?_ GE278.out) | exact HB.out))⟩)
       ·skip
        refine goes_ Try.func58 (by kernel_rfl) rfl #[.int .i64 a0_1,.int .i64 2] (by rfl) rfl rfl (by (try simp only [m1_,m2_,m3_]);first | done | rfl | (simp only [d1_,d2_];rfl)) ?_
        with_reducible refine (spec_l02Number.calls k a0_1 2 t282 _ A2.out).mono ?_
        rintro e w11 ⟨v283,rfl,ho0,hb⟩
        refine ⟨_,rfl,?_⟩
        have n0_ := am_ (Kd.R_lower ho0 (below_size (by repeat (first | (with_reducible first | exact HB.out | apply b1_ | apply b2_ | apply b3_ | refine below_set ?_ GE278.out) | exact HB.out))))
        have n1_ := am_ (blk_below (g := gb278) (o := .cells #[.int .i64 a0_0,.int .i64 a0_1,.int .i64 a0_2,.int .i64 a0_3,.string a0_4] 33 (0,0)) (by (with_reducible repeat (first | apply k1_ | apply k2_ | apply k3_));exact BK278.out) hb)
        have n2_ := am_ (below_step (by repeat (first | (with_reducible first | exact HB.out | apply b1_ | apply b2_ | apply b3_ | refine below_set ?_ GE278.out) | exact HB.out)) hb)
        clear BK278
        clear HB
        have HO284 := n0_
        have BK278 := n1_
        have HB := n2_
        clear n0_ n1_ n2_
        (try clear hb)
        (try clear hb2)
        (try clear hk)
        (try clear hi)
        (try clear ho0)
        refine hK.out _ _ ⟨(blk_cell BK278.out 0).trans rfl,(blk_cell BK278.out 1).trans rfl,(blk_cell BK278.out 2).trans rfl,(blk_cell BK278.out 3).trans rfl,(blk_cell BK278.out 4).trans rfl⟩ (fun hHeld => ?_)
        clear hK K
        refine norm_ (a' := ?_) ?_ ?_
        rotate_left
        ·show Act.put _ (some 10) _ = _
         simp only [Act.put,p1_,p2_,p3_,i64_w,i32_w]
         rfl
        refine one_ (i := 3) (N := some 7) #[true,true,true,true,true,true,true,false,false] rfl rfl (one_of HT_.out (by kernel_rfl)) (by decide) (fun K hK => ?_)
        refine Kd.R_lit_step (Kd.int .u8) _ 5 ?hg (N := 7) ?hd (xs := ([(a0_0) % 256] : List Int)) (inner := [.int .u8 ((a0_0) % 256)]) (ok := fun _ => True) (okp := fun _ => True) ?hr ?hp (fun _ hk => hk) trivial (Below.refl _ _) (Nat.le_refl _) (by simp) ?_;(case hd => rfl);(case hg => rfl);(case hr => first | (go_simp;done) | (go_simp;rfl));(case hp => exact (Reps.one (show Kd.M (Kd.int .u8) _ _ _ ((a0_0) % 256) [.int .u8 ((a0_0) % 256)] from rfl) (Reps.none _ _)))
        intro v280 w12 ho13 hb hg_ hnew_
        clear hg_ hnew_
        (first | rw [← Ny279.out] at ho13 | (simp only [Int.reduceToNat] at ho13;rw [← Ny279.out] at ho13))
        have n0_ := am_ (Kd.R_elder' (by (with_reducible repeat (first | apply r1_ | apply r2_ | apply r3_));exact HO284.out) (Kd.R_base ho13) hb)
        have n1_ := am_ (Kd.R_lower (Kd.R_new' ho13 (Kd.R_lt (by (with_reducible repeat (first | apply r1_ | apply r2_ | apply r3_));exact HO284.out))) (below_size (by repeat (first | (with_reducible first | exact HB.out | apply b1_ | apply b2_ | apply b3_ | refine below_set ?_ GE278.out) | exact HB.out))))
        have n2_ := am_ (blk_below (g := gb278) (o := .cells #[.int .i64 a0_0,.int .i64 a0_1,.int .i64 a0_2,.int .i64 a0_3,.string a0_4] 33 (0,0)) (by (with_reducible repeat (first | apply k1_ | apply k2_ | apply k3_));exact BK278.out) hb)
        have n3_ := am_ (below_step (by repeat (first | (with_reducible first | exact HB.out | apply b1_ | apply b2_ | apply b3_ | refine below_set ?_ GE278.out) | exact HB.out)) hb)
        clear HO284
        clear BK278
        clear HB
        have HO284 := n0_
        have HO281 := n1_
        have BK278 := n2_
        have HB := n3_
        clear n0_ n1_ n2_ n3_
        clear hb ho13
        refine hK.out _ _ ⟨(blk_cell BK278.out 0).trans rfl,(blk_cell BK278.out 1).trans rfl,(blk_cell BK278.out 2).trans rfl,(blk_cell BK278.out 3).trans rfl,(blk_cell BK278.out 4).trans rfl⟩ (fun hHeld => ?_)
        clear hK K
        refine norm_ (a' := ?_) ?_ ?_
        rotate_left
        ·show Act.put _ (some 7) _ = _
         simp only [Act.put,p1_,p2_,p3_,i64_w,i32_w]
         rfl
        exact norm_ (by simp only [putAll,Act.put,p1_,p2_,p3_]) (hCont (v280,v283) _ ⟨hHeld,(by (with_reducible repeat (first | apply r1_ | apply r2_ | apply r3_));exact Kd.R_mono HO281.out (fun _ hk => hk.2)),(by (with_reducible repeat (first | apply r1_ | apply r2_ | apply r3_));exact Kd.R_mono HO284.out (fun _ hk => hk.2)),(by (with_reducible repeat (first | apply k1_ | apply k2_ | apply k3_));exact BK278.out),(by repeat (first | (with_reducible first | exact HB.out | apply b1_ | apply b2_ | apply b3_ | refine below_set ?_ GE278.out) | exact HB.out))⟩)
      rintro ⟨v280,v283⟩ w14 ⟨hS_,h0_,h1_,h2_,h3_⟩
      have n0_ : Aside0 (Kd.R (Kd.int .u8) 5 w14 w.heap.size (fun k_ => some k_ ≠ (v283 : Value).ownBlock) v280 y279) := ⟨h0_⟩
      have n1_ : Aside0 (Kd.R (Kd.int .u8) 5 w14 w.heap.size (fun k_ => some k_ ≠ (v280 : Value).ownBlock) v283 t282) := ⟨h1_⟩
      have n2_ : Aside0 (w14.heap[gb278]? = some (.cells #[.int .i64 a0_0,.int .i64 a0_1,.int .i64 a0_2,.int .i64 a0_3,.string a0_4] 33 (0,0))) := ⟨h2_⟩
      have n3_ : Aside0 (Below w.heap.size w w14) := ⟨h3_⟩
      clear BK278
      clear HB
      clear h0_ h1_ h2_ h3_
      have HO281 := n0_
      have HO284 := n1_
      have BK278 := n2_
      have HB := n3_
      clear n0_ n1_ n2_ n3_
      have hHeld : w14.cell? ⟨gb278,0,none⟩ = some (.int .i64 a0_0) ∧ w14.cell? ⟨gb278,1,none⟩ = some (.int .i64 a0_1) ∧ w14.cell? ⟨gb278,2,none⟩ = some (.int .i64 a0_2) ∧ w14.cell? ⟨gb278,3,none⟩ = some (.int .i64 a0_3) ∧ w14.cell? ⟨gb278,4,none⟩ = some (.string a0_4) := hS_
      obtain ⟨Ao16,co16,eo16⟩ := Kd.R_slice HO284.out
      (first | subst eo16 | (injection eo16 with f1_ f2_ f3_;have f4_ := f1_.symm;have f5_ := f3_.symm;clear f1_ f2_ f3_;subst f4_;subst f5_))
      refine norm_ (a' := ?_) ?_ ?_
      rotate_left
      ·simp only [putAll,Act.put,p1_,p2_,p3_]
       rfl
      refine one_ (i := 7) (N := some 11) #[true,true,true,true,true,true,true,true,false] rfl rfl (one_of HT_.out (by kernel_rfl)) (by decide) (fun K hK => ?_)
      refine Kd.R_append_rows_step (Kd.int .u8) (w0 := w) w.heap.size (by rfl) (.tmp 7) (.tmp 10) 22 5 (.int .u8 0) 1 rfl Try.underlying22 info5 rfl (by decide) (by omega) v280 y279 t282 _ _ _ (fun k_ => some k_ ≠ (.slice Ao16 t282.length co16 : Value).ownBlock) (fun _ => False) rfl rfl ?aO ?aR (fun _ _ h => h) (fun _ h => h.elim) ?aF ?aB ?aS ?aL ?_
      (case aR => repeat (first | exact (Kd.R_reads' HO284.out).2.2 | (with_reducible refine Kd.C_alloc ?_ _) | (with_reducible refine Kd.C_drewN ?_ _) | (with_reducible refine Kd.C_drew ?_)))
      (case aB => exact (by repeat (first | (with_reducible first | exact HB.out | apply b1_ | apply b2_ | apply b3_ | refine below_set ?_ GE278.out) | exact HB.out)))
      (case aF => exact (fun k_ hk => Kd.fresh' (Kd.R_lt (by (with_reducible repeat (first | apply r1_ | apply r2_ | apply r3_));exact HO284.out)) k_ hk))
      (case aO => exact (by (with_reducible repeat (first | apply r1_ | apply r2_ | apply r3_));exact HO281.out))
      (case aS => exact (below_size (by repeat (first | (with_reducible first | exact HB.out | apply b1_ | apply b2_ | apply b3_ | refine below_set ?_ GE278.out) | exact HB.out))))
      (case aL => have := LMc3.out;omega)
      intro v286 w15 ho hb hg hat
      rw [← Ny285.out] at ho
      have n0_ := am_ (blk_grown (g := gb278) (o := .cells #[.int .i64 a0_0,.int .i64 a0_1,.int .i64 a0_2,.int .i64 a0_3,.string a0_4] 33 (0,0)) (by (with_reducible repeat (first | apply k1_ | apply k2_ | apply k3_));exact BK278.out) hg (Kd.R_ne HO281.out BK278.out (by decide)))
      have n1_ := am_ (Kd.R_after (ok := (fun _ => True)) (by (with_reducible repeat (first | apply r1_ | apply r2_ | apply r3_));exact Kd.R_mono HO284.out (fun _ hk => ⟨trivial,hk⟩)) hg hat)
      have n2_ := am_ (hb)
      have n3_ := am_ (ho)
      clear BK278
      clear HO284
      clear HB
      clear HO281
      have BK278 := n0_
      have HO284 := n1_
      have HB := n2_
      have HO287 := n3_
      clear n0_ n1_ n2_ n3_
      clear ho hb hg hat
      refine hK.out _ _ ⟨(blk_cell BK278.out 0).trans rfl,(blk_cell BK278.out 1).trans rfl,(blk_cell BK278.out 2).trans rfl,(blk_cell BK278.out 3).trans rfl,(blk_cell BK278.out 4).trans rfl⟩ (fun hHeld => ?_)
      clear hK K
      refine norm_ (a' := ?_) ?_ ?_
      rotate_left
      ·show Act.put _ (some 11) _ = _
       simp only [Act.put,p1_,p2_,p3_,i64_w,i32_w]
       rfl
      refine pure_ (i := 8) (N := some 3) (v := ?_) (a' := ?_) #[true,true,true,true,true,true,true,true,true] rfl rfl (any_of HT_.out (by kernel_rfl)) (fun _ _ _ h => h) (Or.inl ⟨by rfl,?_⟩) ?_ ?_
      rotate_left
      ·intro w'
       go_simp
       with_reducible rfl
      rotate_left
      ·simp only [Act.put,p1_,p2_,p3_,i64_w,i32_w]
       rfl
      refine done_ (done_of HT_.out (by kernel_rfl)) ?_
      try go_wp2
      have n0_ := am_ (Kd.R_drew HO284.out)
      have n1_ := am_ (Kd.R_drew HO287.out)
      have n2_ := am_ (blk_drew BK278.out)
      have n3_ := am_ (below_drew1 HB.out)
      clear HO284
      clear HO287
      clear BK278
      clear HB
      have HO284 := n0_
      have HO287 := n1_
      have BK278 := n2_
      have HB := n3_
      clear n0_ n1_ n2_ n3_
      refine start_ (n := 11) (S := fun w' => w'.cell? ⟨gb278,0,none⟩ = some (.int .i64 a0_0) ∧ w'.cell? ⟨gb278,1,none⟩ = some (.int .i64 a0_1) ∧ w'.cell? ⟨gb278,2,none⟩ = some (.int .i64 a0_2) ∧ w'.cell? ⟨gb278,3,none⟩ = some (.int .i64 a0_3) ∧ w'.cell? ⟨gb278,4,none⟩ = some (.string a0_4)) (ds := []) #[false,false,false,false,false,false,false,false,false,false,false] (by kernel_rfl) rfl rfl ⟨(blk_cell BK278.out 0).trans rfl,(blk_cell BK278.out 1).trans rfl,(blk_cell BK278.out 2).trans rfl,(blk_cell BK278.out 3).trans rfl,(blk_cell BK278.out 4).trans rfl⟩ (fun hHeld => ?_);refine with_tabW spec_l02Request.tab2 spec_l02Request.bits2 (fun HT_ HW_ => ?_)
      generalize w15.drew = w17 at HO284 HO287 BK278 HB hHeld ⊢
      refine pure_ (i := 0) (N := some 12) (v := ?_) (a' := ?_) #[true,false,false,false,false,false,false,false,false,false,false] rfl rfl (any_of HT_.out (by kernel_rfl)) (fun _ _ _ h => h) (Or.inl ⟨by rfl,?_⟩) ?_ ?_
      rotate_left
      ·intro w'
       go_simp
       with_reducible rfl
      rotate_left
      ·simp only [Act.put,p1_,p2_,p3_,i64_w,i32_w]
       rfl
      refine pure_ (i := 1) (N := some 13) (v := ?_) (a' := ?_) #[true,true,false,false,false,false,false,false,false,false,false] rfl rfl (any_of HT_.out (by kernel_rfl)) (fun _ _ _ h => h) (Or.inl ⟨by rfl,?_⟩) ?_ ?_
      rotate_left
      ·intro w'
       go_simp
       with_reducible rfl
      rotate_left
      ·simp only [Act.put,p1_,p2_,p3_,i64_w,i32_w]
       rfl
      refine pure_ (i := 6) (N := some 18) (v := ?_) (a' := ?_) #[true,true,false,false,false,false,true,false,false,false,false] rfl rfl (any_of HT_.out (by kernel_rfl)) (fun _ _ _ h => h) (Or.inl ⟨by rfl,?_⟩) ?_ ?_
      rotate_left
      ·intro w'
       go_simp
       with_reducible rfl
      rotate_left
      ·simp only [Act.put,p1_,p2_,p3_,i64_w,i32_w]
       rfl
      refine take_ (i := 2) (N := some 14) (v := ?_) (a' := ?_) #[true,true,true,false,false,false,true,false,false,false,false] rfl rfl (take_ofW HT_.out HW_.out (by kernel_rfl)) (fun _ _ _ h => h) (Or.inl ⟨by rfl,?_⟩) hHeld ?_ ?_
      rotate_left
      ·rintro w' ⟨s0,s1,s2,s3,s4⟩
       go_simp
       with_reducible rfl
      rotate_left
      ·simp only [Act.put,p1_,p2_,p3_,i64_w,i32_w]
       rfl
      refine pure_ (i := 3) (N := some 15) (v := ?_) (a' := ?_) #[true,true,true,true,false,false,true,false,false,false,false] rfl rfl (any_of HT_.out (by kernel_rfl)) (fun _ _ _ h => h) (Or.inl ⟨by rfl,?_⟩) ?_ ?_
      rotate_left
      ·intro w'
       go_simp
       with_reducible rfl
      rotate_left
      ·simp only [Act.put,p1_,p2_,p3_,i64_w,i32_w]
       rfl
      refine take_ (i := 7) (N := some 19) (v := ?_) (a' := ?_) #[true,true,true,true,false,false,true,true,false,false,false] rfl rfl (take_ofW HT_.out HW_.out (by kernel_rfl)) (fun _ _ _ h => h) (Or.inl ⟨by rfl,?_⟩) hHeld ?_ ?_
      rotate_left
      ·rintro w' ⟨s0,s1,s2,s3,s4⟩
       go_simp
       with_reducible rfl
      rotate_left
      ·simp only [Act.put,p1_,p2_,p3_,i64_w,i32_w]
       rfl
      refine one_ (i := 4) (N := some 16) #[true,true,true,true,true,false,true,true,false,false,false] rfl rfl (one_of HT_.out (by kernel_rfl)) (by decide) (fun K hK => ?_)
      refine value_ (w1 := ?_) (v := ?_) (by rfl) rfl ?_ ?_
      rotate_left 2
      ·go_simp
       constructor
       ·rfl
       ·rfl
      refine hK.out _ _ ⟨(blk_cell (blk_alloc BK278.out _) 0).trans rfl,(blk_cell (blk_alloc BK278.out _) 1).trans rfl,(blk_cell (blk_alloc BK278.out _) 2).trans rfl,(blk_cell (blk_alloc BK278.out _) 3).trans rfl,(blk_cell (blk_alloc BK278.out _) 4).trans rfl⟩ (fun hHeld => ?_)
      clear hK K
      refine norm_ (a' := ?_) ?_ ?_
      rotate_left
      ·show Act.put _ (some 16) _ = _
       simp only [Act.put,p1_,p2_,p3_,i64_w,i32_w]
       rfl
      refine one_ (i := 5) (N := some 17) #[true,true,true,true,true,true,true,true,false,false,false] rfl rfl (one_of HT_.out (by kernel_rfl)) (by decide) (fun K hK => ?_)
      refine Kd.R_append_step (Kd.int .u8) (w0 := w) w.heap.size (by rfl) (.tmp 12) (.tmp 16) 22 5 (.int .u8 0) 1 rfl Try.underlying22 info5 rfl (by decide) (by omega) v286 y285 ((a0_2) % 256) [.int .u8 ((a0_2) % 256)] (fun k_ => some k_ ≠ (.slice Ao16 t282.length co16 : Value).ownBlock) (fun _ => False) rfl rfl ?aP (fun _ hk => hk.elim) ?aF ?aO ?aB ?aS ?aL ?_
      (case aP => exact rfl)
      (case aB => exact (by repeat (first | (with_reducible first | exact HB.out | apply b1_ | apply b2_ | apply b3_ | refine below_set ?_ GE278.out) | exact HB.out)))
      (case aF => exact (fun k_ hk => Kd.fresh' (Kd.R_lt (by (with_reducible repeat (first | apply r1_ | apply r2_ | apply r3_));exact HO284.out)) k_ hk))
      (case aO => exact (by (with_reducible repeat (first | apply r1_ | apply r2_ | apply r3_));exact HO287.out))
      (case aS => exact (below_size (by repeat (first | (with_reducible first | exact HB.out | apply b1_ | apply b2_ | apply b3_ | refine below_set ?_ GE278.out) | exact HB.out))))
      (case aL => have := LMc4.out;omega)
      intro v289 w18 ho hb hg hat
      rw [← Ny288.out] at ho
      have n0_ := am_ (blk_grown (g := gb278) (o := .cells #[.int .i64 a0_0,.int .i64 a0_1,.int .i64 a0_2,.int .i64 a0_3,.string a0_4] 33 (0,0)) (by (with_reducible repeat (first | apply k1_ | apply k2_ | apply k3_));exact BK278.out) hg (Kd.R_ne HO287.out BK278.out (by decide)))
      have n1_ := am_ (Kd.R_after (ok := (fun _ => True)) (by (with_reducible repeat (first | apply r1_ | apply r2_ | apply r3_));exact HO284.out) hg hat)
      have n2_ := am_ (hb)
      have n3_ := am_ (ho)
      clear BK278
      clear HO284
      clear HB
      clear HO287
      have BK278 := n0_
      have HO284 := n1_
      have HB := n2_
      have HO290 := n3_
      clear n0_ n1_ n2_ n3_
      clear ho hb hg hat
      refine hK.out _ _ ⟨(blk_cell BK278.out 0).trans rfl,(blk_cell BK278.out 1).trans rfl,(blk_cell BK278.out 2).trans rfl,(blk_cell BK278.out 3).trans rfl,(blk_cell BK278.out 4).trans rfl⟩ (fun hHeld => ?_)
      clear hK K
      refine norm_ (a' := ?_) ?_ ?_
      rotate_left
      ·show Act.put _ (some 17) _ = _
       simp only [Act.put,p1_,p2_,p3_,i64_w,i32_w]
       rfl
      refine one_ (i := 8) (N := some 20) #[true,true,true,true,true,true,true,true,true,false,false] rfl rfl (one_of HT_.out (by kernel_rfl)) (by decide) (fun K hK => ?_)
      refine goes_ Try.func58 (by kernel_rfl) rfl #[.int .i64 a0_3,.int .i64 2] (by rfl) rfl rfl (by (try simp only [m1_,m2_,m3_]);first | done | rfl | (simp only [d1_,d2_];rfl)) ?_
      with_reducible refine (spec_l02Number.calls k a0_3 2 t291 _ A5.out).mono ?_
      rintro e w19 ⟨v292,rfl,ho0,hb⟩
      refine ⟨_,rfl,?_⟩
      have n0_ := am_ (Kd.R_elder' (by (with_reducible repeat (first | apply r1_ | apply r2_ | apply r3_));exact HO284.out) (Kd.R_base ho0) hb)
      have n1_ := am_ (Kd.R_elder' (by (with_reducible repeat (first | apply r1_ | apply r2_ | apply r3_));exact HO290.out) (Kd.R_base ho0) hb)
      have n2_ := am_ (Kd.R_lower (Kd.R_new' (Kd.R_new' ho0 (Kd.R_lt (by (with_reducible repeat (first | apply r1_ | apply r2_ | apply r3_));exact HO284.out))) (Kd.R_lt (by (with_reducible repeat (first | apply r1_ | apply r2_ | apply r3_));exact HO290.out))) (below_size (by repeat (first | (with_reducible first | exact HB.out | apply b1_ | apply b2_ | apply b3_ | refine below_set ?_ GE278.out) | exact HB.out))))
      have n3_ := am_ (blk_below (g := gb278) (o := .cells #[.int .i64 a0_0,.int .i64 a0_1,.int .i64 a0_2,.int .i64 a0_3,.string a0_4] 33 (0,0)) (by (with_reducible repeat (first | apply k1_ | apply k2_ | apply k3_));exact BK278.out) hb)
      have n4_ := am_ (below_step (by repeat (first | (with_reducible first | exact HB.out | apply b1_ | apply b2_ | apply b3_ | refine below_set ?_ GE278.out) | exact HB.out)) hb)
      clear HO284
      clear HO290
      clear BK278
      clear HB
      have HO284 := n0_
      have HO290 := n1_
      have HO293 := n2_
      have BK278 := n3_
      have HB := n4_
      clear n0_ n1_ n2_ n3_ n4_
      (try clear hb)
      (try clear hb2)
      (try clear hk)
      (try clear hi)
      (try clear ho0)
      obtain ⟨Ao21,co21,eo21⟩ := Kd.R_slice HO293.out
      (first | subst eo21 | (injection eo21 with f1_ f2_ f3_;have f4_ := f1_.symm;have f5_ := f3_.symm;clear f1_ f2_ f3_;subst f4_;subst f5_))
      refine hK.out _ _ ⟨(blk_cell BK278.out 0).trans rfl,(blk_cell BK278.out 1).trans rfl,(blk_cell BK278.out 2).trans rfl,(blk_cell BK278.out 3).trans rfl,(blk_cell BK278.out 4).trans rfl⟩ (fun hHeld => ?_)
      clear hK K
      refine norm_ (a' := ?_) ?_ ?_
      rotate_left
      ·show Act.put _ (some 20) _ = _
       simp only [Act.put,p1_,p2_,p3_,i64_w,i32_w]
       rfl
      refine one_ (i := 9) (N := some 21) #[true,true,true,true,true,true,true,true,true,true,false] rfl rfl (one_of HT_.out (by kernel_rfl)) (by decide) (fun K hK => ?_)
      refine Kd.R_append_rows_step (Kd.int .u8) (w0 := w) w.heap.size (by rfl) (.tmp 17) (.tmp 20) 22 5 (.int .u8 0) 1 rfl Try.underlying22 info5 rfl (by decide) (by omega) v289 y288 t291 _ _ _ (fun k_ => some k_ ≠ (.slice Ao16 t282.length co16 : Value).ownBlock ∧ some k_ ≠ (.slice Ao21 t291.length co21 : Value).ownBlock) (fun _ => False) rfl rfl ?aO ?aR (fun _ _ h => h) (fun _ h => h.elim) ?aF ?aB ?aS ?aL ?_
      (case aR => repeat (first | exact (Kd.R_reads' HO293.out).2.2 | (with_reducible refine Kd.C_alloc ?_ _) | (with_reducible refine Kd.C_drewN ?_ _) | (with_reducible refine Kd.C_drew ?_)))
      (case aB => exact (by repeat (first | (with_reducible first | exact HB.out | apply b1_ | apply b2_ | apply b3_ | refine below_set ?_ GE278.out) | exact HB.out)))
      (case aF => exact (fun k_ hk => ⟨Kd.fresh' (Kd.R_lt (by (with_reducible repeat (first | apply r1_ | apply r2_ | apply r3_));exact HO284.out)) k_ hk,Kd.fresh' (Kd.R_lt (by (with_reducible repeat (first | apply r1_ | apply r2_ | apply r3_));exact HO293.out)) k_ hk⟩))
      (case aO => exact (by (with_reducible repeat (first | apply r1_ | apply r2_ | apply r3_));exact HO290.out))
      (case aS => exact (below_size (by repeat (first | (with_reducible first | exact HB.out | apply b1_ | apply b2_ | apply b3_ | refine below_set ?_ GE278.out) | exact HB.out))))
      (case aL => have := LMc6.out;omega)
      intro v295 w20 ho hb hg hat
      rw [← Ny294.out] at ho
      have n0_ := am_ (blk_grown (g := gb278) (o := .cells #[.int .i64 a0_0,.int .i64 a0_1,.int .i64 a0_2,.int .i64 a0_3,.string a0_4] 33 (0,0)) (by (with_reducible repeat (first | apply k1_ | apply k2_ | apply k3_));exact BK278.out) hg (Kd.R_ne HO290.out BK278.out (by decide)))
      have n1_ := am_ (Kd.R_after (ok := (fun k_ => some k_ ≠ (.slice Ao21 t291.length co21 : Value).ownBlock)) (by (with_reducible repeat (first | apply r1_ | apply r2_ | apply r3_));exact Kd.R_mono HO284.out (fun _ hk => ⟨hk.2,hk.1.2⟩)) hg hat)
      have n2_ := am_ (Kd.R_after (ok := (fun k_ => some k_ ≠ (.slice Ao16 t282.length co16 : Value).ownBlock)) (by (with_reducible repeat (first | apply r1_ | apply r2_ | apply r3_));exact Kd.R_mono HO293.out (fun _ hk => ⟨hk.1.2,hk.2⟩)) hg hat)
      have n3_ := am_ (hb)
      have n4_ := am_ (ho)
      clear BK278
      clear HO284
      clear HO293
      clear HB
      clear HO290
      have BK278 := n0_
      have HO284 := n1_
      have HO293 := n2_
      have HB := n3_
      have HO296 := n4_
      clear n0_ n1_ n2_ n3_ n4_
      clear ho hb hg hat
      refine hK.out _ _ ⟨(blk_cell BK278.out 0).trans rfl,(blk_cell BK278.out 1).trans rfl,(blk_cell BK278.out 2).trans rfl,(blk_cell BK278.out 3).trans rfl,(blk_cell BK278.out 4).trans rfl⟩ (fun hHeld => ?_)
      clear hK K
      refine norm_ (a' := ?_) ?_ ?_
      rotate_left
      ·show Act.put _ (some 21) _ = _
       simp only [Act.put,p1_,p2_,p3_,i64_w,i32_w]
       rfl
      refine pure_ (i := 10) (N := some 3) (v := ?_) (a' := ?_) #[true,true,true,true,true,true,true,true,true,true,true] rfl rfl (any_of HT_.out (by kernel_rfl)) (fun _ _ _ h => h) (Or.inl ⟨by rfl,?_⟩) ?_ ?_
      rotate_left
      ·intro w'
       go_simp
       with_reducible rfl
      rotate_left
      ·simp only [Act.put,p1_,p2_,p3_,i64_w,i32_w]
       rfl
      refine done_ (done_of HT_.out (by kernel_rfl)) ?_
      try go_wp2
      have n0_ := am_ (Kd.R_drew HO284.out)
      have n1_ := am_ (Kd.R_drew HO293.out)
      have n2_ := am_ (Kd.R_drew HO296.out)
      have n3_ := am_ (blk_drew BK278.out)
      have n4_ := am_ (below_drew1 HB.out)
      clear HO284
      clear HO293
      clear HO296
      clear BK278
      clear HB
      have HO284 := n0_
      have HO293 := n1_
      have HO296 := n2_
      have BK278 := n3_
      have HB := n4_
      clear n0_ n1_ n2_ n3_ n4_
      refine start_ (n := 11) (S := fun w' => w'.cell? ⟨gb278,0,none⟩ = some (.int .i64 a0_0) ∧ w'.cell? ⟨gb278,1,none⟩ = some (.int .i64 a0_1) ∧ w'.cell? ⟨gb278,2,none⟩ = some (.int .i64 a0_2) ∧ w'.cell? ⟨gb278,3,none⟩ = some (.int .i64 a0_3) ∧ w'.cell? ⟨gb278,4,none⟩ = some (.string a0_4)) (ds := []) #[false,false,false,false,false,false,false,false,false,false,false] (by kernel_rfl) rfl rfl ⟨(blk_cell BK278.out 0).trans rfl,(blk_cell BK278.out 1).trans rfl,(blk_cell BK278.out 2).trans rfl,(blk_cell BK278.out 3).trans rfl,(blk_cell BK278.out 4).trans rfl⟩ (fun hHeld => ?_);refine with_tabW spec_l02Request.tab3 spec_l02Request.bits3 (fun HT_ HW_ => ?_)
      generalize w20.drew = w22 at HO284 HO293 HO296 BK278 HB hHeld ⊢
      refine pure_ (i := 0) (N := some 22) (v := ?_) (a' := ?_) #[true,false,false,false,false,false,false,false,false,false,false] rfl rfl (any_of HT_.out (by kernel_rfl)) (fun _ _ _ h => h) (Or.inl ⟨by rfl,?_⟩) ?_ ?_
      rotate_left
      ·intro w'
       go_simp
       with_reducible rfl
      rotate_left
      ·simp only [Act.put,p1_,p2_,p3_,i64_w,i32_w]
       rfl
      refine pure_ (i := 1) (N := some 23) (v := ?_) (a' := ?_) #[true,true,false,false,false,false,false,false,false,false,false] rfl rfl (any_of HT_.out (by kernel_rfl)) (fun _ _ _ h => h) (Or.inl ⟨by rfl,?_⟩) ?_ ?_
      rotate_left
      ·intro w'
       go_simp
       with_reducible rfl
      rotate_left
      ·simp only [Act.put,p1_,p2_,p3_,i64_w,i32_w]
       rfl
      refine pure_ (i := 7) (N := some 29) (v := ?_) (a' := ?_) #[true,true,false,false,false,false,false,true,false,false,false] rfl rfl (any_of HT_.out (by kernel_rfl)) (fun _ _ _ h => h) (Or.inl ⟨by rfl,?_⟩) ?_ ?_
      rotate_left
      ·intro w'
       go_simp
       with_reducible rfl
      rotate_left
      ·simp only [Act.put,p1_,p2_,p3_,i64_w,i32_w]
       rfl
      refine take_ (i := 2) (N := some 24) (v := ?_) (a' := ?_) #[true,true,true,false,false,false,false,true,false,false,false] rfl rfl (take_ofW HT_.out HW_.out (by kernel_rfl)) (fun _ _ _ h => h) (Or.inl ⟨by rfl,?_⟩) hHeld ?_ ?_
      rotate_left
      ·rintro w' ⟨s0,s1,s2,s3,s4⟩
       go_simp
       with_reducible rfl
      rotate_left
      ·simp only [Act.put,p1_,p2_,p3_,i64_w,i32_w]
       rfl
      refine pure_ (i := 3) (N := some 25) (v := ?_) (a' := ?_) #[true,true,true,true,false,false,false,true,false,false,false] rfl rfl (any_of HT_.out (by kernel_rfl)) (fun _ _ _ h => h) (Or.inl ⟨by rfl,?_⟩) ?_ ?_
      rotate_left
      ·intro w'
       go_simp
       with_reducible rfl
      rotate_left
      ·simp only [Act.put,p1_,p2_,p3_,i64_w,i32_w]
       rfl
      refine pure_ (i := 4) (N := some 26) (v := ?_) (a' := ?_) #[true,true,true,true,true,false,false,true,false,false,false] rfl rfl (any_of HT_.out (by kernel_rfl)) (fun _ _ _ h => h) (Or.inl ⟨by rfl,?_⟩) ?_ ?_
      rotate_left
      ·intro w'
       go_simp
       with_reducible rfl
      rotate_left
      ·simp only [Act.put,p1_,p2_,p3_,i64_w,i32_w]
       rfl
      refine take_ (i := 8) (N := some 30) (v := ?_) (a' := ?_) #[true,true,true,true,true,false,false,true,true,false,false] rfl rfl (take_ofW HT_.out HW_.out (by kernel_rfl)) (fun _ _ _ h => h) (Or.inl ⟨by rfl,?_⟩) hHeld ?_ ?_
      rotate_left
      ·rintro w' ⟨s0,s1,s2,s3,s4⟩
       go_simp
       with_reducible rfl
      rotate_left
      ·simp only [Act.put,p1_,p2_,p3_,i64_w,i32_w]
       rfl
      refine one_ (i := 5) (N := some 27) #[true,true,true,true,true,true,false,true,true,false,false] rfl rfl (one_of HT_.out (by kernel_rfl)) (by decide) (fun K hK => ?_)
      refine value_ (w1 := ?_) (v := ?_) (by rfl) rfl ?_ ?_
      rotate_left 2
      ·go_simp
       constructor
       ·rfl
       ·rfl
      refine hK.out _ _ ⟨(blk_cell (blk_alloc BK278.out _) 0).trans rfl,(blk_cell (blk_alloc BK278.out _) 1).trans rfl,(blk_cell (blk_alloc BK278.out _) 2).trans rfl,(blk_cell (blk_alloc BK278.out _) 3).trans rfl,(blk_cell (blk_alloc BK278.out _) 4).trans rfl⟩ (fun hHeld => ?_)
      clear hK K
      refine norm_ (a' := ?_) ?_ ?_
      rotate_left
      ·show Act.put _ (some 27) _ = _
       simp only [Act.put,p1_,p2_,p3_,i64_w,i32_w]
       rfl
      refine one_ (i := 6) (N := some 28) #[true,true,true,true,true,true,true,true,true,false,false] rfl rfl (one_of HT_.out (by kernel_rfl)) (by decide) (fun K hK => ?_)
      refine Kd.R_append_step (Kd.int .u8) (w0 := w) w.heap.size (by rfl) (.tmp 22) (.tmp 27) 22 5 (.int .u8 0) 1 rfl Try.underlying22 info5 rfl (by decide) (by omega) v295 y294 (((a0_4.size : Int)) % 256) [.int .u8 (((a0_4.size : Int)) % 256)] (fun k_ => some k_ ≠ (.slice Ao16 t282.length co16 : Value).ownBlock ∧ some k_ ≠ (.slice Ao21 t291.length co21 : Value).ownBlock) (fun _ => False) rfl rfl ?aP (fun _ hk => hk.elim) ?aF ?aO ?aB ?aS ?aL ?_
      (case aP => exact rfl)
      (case aB => exact (by repeat (first | (with_reducible first | exact HB.out | apply b1_ | apply b2_ | apply b3_ | refine below_set ?_ GE278.out) | exact HB.out)))
      (case aF => exact (fun k_ hk => ⟨Kd.fresh' (Kd.R_lt (by (with_reducible repeat (first | apply r1_ | apply r2_ | apply r3_));exact HO284.out)) k_ hk,Kd.fresh' (Kd.R_lt (by (with_reducible repeat (first | apply r1_ | apply r2_ | apply r3_));exact HO293.out)) k_ hk⟩))
      (case aO => exact (by (with_reducible repeat (first | apply r1_ | apply r2_ | apply r3_));exact HO296.out))
      (case aS => exact (below_size (by repeat (first | (with_reducible first | exact HB.out | apply b1_ | apply b2_ | apply b3_ | refine below_set ?_ GE278.out) | exact HB.out))))
      (case aL => have := LMc7.out;omega)
      intro v298 w23 ho hb hg hat
      rw [← Ny297.out] at ho
      have n0_ := am_ (blk_grown (g := gb278) (o := .cells #[.int .i64 a0_0,.int .i64 a0_1,.int .i64 a0_2,.int .i64 a0_3,.string a0_4] 33 (0,0)) (by (with_reducible repeat (first | apply k1_ | apply k2_ | apply k3_));exact BK278.out) hg (Kd.R_ne HO296.out BK278.out (by decide)))
      have n1_ := am_ (Kd.R_after (ok := (fun k_ => some k_ ≠ (.slice Ao21 t291.length co21 : Value).ownBlock)) (by (with_reducible repeat (first | apply r1_ | apply r2_ | apply r3_));exact HO284.out) hg hat)
      have n2_ := am_ (Kd.R_after (ok := (fun k_ => some k_ ≠ (.slice Ao16 t282.length co16 : Value).ownBlock)) (by (with_reducible repeat (first | apply r1_ | apply r2_ | apply r3_));exact HO293.out) hg hat)
      have n3_ := am_ (hb)
      have n4_ := am_ (ho)
      clear BK278
      clear HO284
      clear HO293
      clear HB
      clear HO296
      have BK278 := n0_
      have HO284 := n1_
      have HO293 := n2_
      have HB := n3_
      have HO299 := n4_
      clear n0_ n1_ n2_ n3_ n4_
      clear ho hb hg hat
      refine hK.out _ _ ⟨(blk_cell BK278.out 0).trans rfl,(blk_cell BK278.out 1).trans rfl,(blk_cell BK278.out 2).trans rfl,(blk_cell BK278.out 3).trans rfl,(blk_cell BK278.out 4).trans rfl⟩ (fun hHeld => ?_)
      clear hK K
      refine norm_ (a' := ?_) ?_ ?_
      rotate_left
      ·show Act.put _ (some 28) _ = _
       simp only [Act.put,p1_,p2_,p3_,i64_w,i32_w]
       rfl
      refine one_ (i := 9) (N := some 31) #[true,true,true,true,true,true,true,true,true,true,false] rfl rfl (one_of HT_.out (by kernel_rfl)) (by decide) (fun K hK => ?_)
      refine Kd.R_append_str_step (Kd.int .u8) rfl (w0 := w) w.heap.size (by rfl) (.tmp 28) _ 22 9 5 rfl Try.underlying22 Try.underlying9 info5 v298 y297 a0_4 (fun k_ => some k_ ≠ (.slice Ao16 t282.length co16 : Value).ownBlock ∧ some k_ ≠ (.slice Ao21 t291.length co21 : Value).ownBlock) rfl rfl ?aO ?aF ?aB ?aS ?aL ?_
      (case aB => exact (by repeat (first | (with_reducible first | exact HB.out | apply b1_ | apply b2_ | apply b3_ | refine below_set ?_ GE278.out) | exact HB.out)))
      (case aF => exact (fun k_ hk => ⟨Kd.fresh' (Kd.R_lt (by (with_reducible repeat (first | apply r1_ | apply r2_ | apply r3_));exact HO284.out)) k_ hk,Kd.fresh' (Kd.R_lt (by (with_reducible repeat (first | apply r1_ | apply r2_ | apply r3_));exact HO293.out)) k_ hk⟩))
      (case aO => exact (by (with_reducible repeat (first | apply r1_ | apply r2_ | apply r3_));exact HO299.out))
      (case aS => exact (below_size (by repeat (first | (with_reducible first | exact HB.out | apply b1_ | apply b2_ | apply b3_ | refine below_set ?_ GE278.out) | exact HB.out))))
      (case aL => have := LMc8.out;omega)
      intro v301 w24 ho hb hg hat
      rw [← Ny300.out] at ho
      have n0_ := am_ (blk_grown (g := gb278) (o := .cells #[.int .i64 a0_0,.int .i64 a0_1,.int .i64 a0_2,.int .i64 a0_3,.string a0_4] 33 (0,0)) (by (with_reducible repeat (first | apply k1_ | apply k2_ | apply k3_));exact BK278.out) hg (Kd.R_ne HO299.out BK278.out (by decide)))
      have n1_ := am_ (Kd.R_after (ok := (fun k_ => some k_ ≠ (.slice Ao21 t291.length co21 : Value).ownBlock)) (by (with_reducible repeat (first | apply r1_ | apply r2_ | apply r3_));exact HO284.out) hg hat)
      have n2_ := am_ (Kd.R_after (ok := (fun k_ => some k_ ≠ (.slice Ao16 t282.length co16 : Value).ownBlock)) (by (with_reducible repeat (first | apply r1_ | apply r2_ | apply r3_));exact HO293.out) hg hat)
      have n3_ := am_ (hb)
      have n4_ := am_ (ho)
      clear BK278
      clear HO284
      clear HO293
      clear HB
      clear HO299
      have BK278 := n0_
      have HO284 := n1_
      have HO293 := n2_
      have HB := n3_
      have HO302 := n4_
      clear n0_ n1_ n2_ n3_ n4_
      clear ho hb hg hat
      refine hK.out _ _ ⟨(blk_cell BK278.out 0).trans rfl,(blk_cell BK278.out 1).trans rfl,(blk_cell BK278.out 2).trans rfl,(blk_cell BK278.out 3).trans rfl,(blk_cell BK278.out 4).trans rfl⟩ (fun hHeld => ?_)
      clear hK K
      refine norm_ (a' := ?_) ?_ ?_
      rotate_left
      ·show Act.put _ (some 31) _ = _
       simp only [Act.put,p1_,p2_,p3_,i64_w,i32_w]
       rfl
      refine pure_ (i := 10) (N := some 2) (v := ?_) (a' := ?_) #[true,true,true,true,true,true,true,true,true,true,true] rfl rfl (any_of HT_.out (by kernel_rfl)) (fun _ _ _ h => h) (Or.inl ⟨by rfl,?_⟩) ?_ ?_
      rotate_left
      ·intro w'
       go_simp
       with_reducible rfl
      rotate_left
      ·simp only [Act.put,p1_,p2_,p3_,i64_w,i32_w]
       rfl
      refine done_ (done_of HT_.out (by kernel_rfl)) ?_
      try go_wp2
      go_ret
      exact ⟨_,by first | rfl | (simp [e1_,e2_] <;> rfl) | (simp [*,e1_,e2_] <;> rfl) | (simp [e3_,e4_];done) | (simp [*,e3_,e4_];done),by (with_reducible repeat (first | apply r1_ | apply r2_ | apply r3_));exact Kd.R_mono HO302.out (fun _ hk => trivial),by repeat (first | (with_reducible first | exact HB.out | apply b1_ | apply b2_ | apply b3_ | refine below_set ?_ GE278.out) | exact HB.out)⟩
     ·rw [if_neg c8] at H
      exact absurd H (by simp)
    ·rw [if_neg c7] at H
     exact absurd H (by simp)
   ·rw [if_neg c6] at H
    exact absurd H (by simp)
  ·rw [if_neg c4] at H
   exact absurd H (by simp)
 ·rw [if_neg c3] at H
  exact absurd H (by simp)
def spec_l02Batch.T7 : Bool × List (List Nat × List Nat) := (true,[([],[]),([],[]),([1],[1]),([],[]),([2,3],[2,3]),([4],[4]),([5],[5]),([6],[6]),([7],[7]),([0,8],[0,8]),([],[]),([10],[10]),([],[]),([11,12],[11,12]),([13],[13]),([14],[14]),([15,9],[15]),([9,16,16],[9,16]),([17,17,0,1,2,3,4,5,6,7,8,9,10,11,12,13,14,15,16,17],[0,17])])
def spec_l02Batch.B7 : List Nat := [0,0,2,0,14,30,62,126,254,511,0,1024,0,7168,15360,31744,65535,131071,262143]
theorem spec_l02Batch.tab7 : rtab .any (opsOf Try.f42 7) = spec_l02Batch.T7 := by kernel_rfl
theorem spec_l02Batch.bits7 : waitsOk spec_l02Batch.T7.2 spec_l02Batch.B7 = true := by kernel_rfl
set_option maxHeartbeats 8000000 in
set_option maxRecDepth 100000 in
theorem spec_l02Batch.calls (k : Nat) (a0_0 : Bool) (a0_1 : Int) (a0_2 : Int) (a0_3 : Int) (a0_4 : Int) (a0_5 : ByteArray) (A0_6 : Option Addr) (c0_6 : Nat) (l0_6 : List (S70)) (r : List Int) (w : World) (hr0_6 : Kd.C k70 w A0_6 l0_6.length l0_6) (hc0_6 : l0_6.length ≤ c0_6) (h : spec_l02Batch.f k a0_0 a0_1 a0_2 a0_3 a0_4 a0_5 l0_6 = some r) :
  Calls Try.prog 42 #[.agg #[.bool a0_0,.int .i64 a0_1,.int .i64 a0_2,.int .i64 a0_3,.int .i64 a0_4,.string a0_5,.slice A0_6 l0_6.length c0_6]] w fun e w' => ∃ v0_ : Value,e = .returned (v0_) ∧ Kd.R (Kd.int .u8) 5 w' w.heap.size (fun _ => True) v0_ r ∧ Below w.heap.size w w' := by
 have hu41 := Try.underlying41
 have hu33 := Try.underlying33
 have HR0_6 := am_ hr0_6
 have HC0_6 := am_ hc0_6
 clear hr0_6 hc0_6
 have HB := am_ (Below.refl w.heap.size w)
 have H : (if a0_0 = true then (some (([0] : List Int))) else (spec_l02Batch.l0 k (([(wrap64 (1 + (l0_6.length : Int))) % 256] : List Int)) 0 a0_0 a0_1 a0_2 a0_3 a0_4 a0_5 l0_6)) = some r := h
 clear h
 by_cases c2 : a0_0 = true
 ·subst c2
  have H1 : (some (([0] : List Int))) = some r := by rw [if_pos rfl] at H;exact H
  clear H
  have H := H1
  clear H1
  obtain ⟨y304,hy304⟩ : ∃ y_ : List Int,y_ = (([0] : List Int)) := ⟨_,rfl⟩
  replace H : (some y304) = some r := by first | (rw [hy304];with_reducible exact H) | (have H2_ := (Option.bind_some _ _).symm.trans H;rw [hy304];with_reducible exact H2_) | (have H2_ := (Option.bind_some _ _).symm.trans H;with_reducible exact H2_) | with_reducible exact H | (rw [hy304];exact H) | exact H
  have Ny304 := am_ hy304
  clear hy304
  obtain rfl := Option.some.inj H
  go_enter Try.func42,Try.ntmps42
  go_wp2_with (first | ((with_reducible refine gate_dst (N := 1) rfl ?_);refine box_event ?hg (N := 1) ?hd (cs := #[.bool true,.int .i64 a0_1,.int .i64 a0_2,.int .i64 a0_3,.int .i64 a0_4,.string a0_5,.slice A0_6 l0_6.length c0_6]) (t := 41) ?hr ?_;(case hd => rfl);(case hg => rfl);(case hr => first | (go_simp;done) | (go_simp;rfl));intro gb303 hg w3 hbox hb;have n0_ := am_ (below_step (by repeat (first | (with_reducible first | exact HB.out | apply b1_ | apply b2_ | apply b3_) | exact HB.out)) hb);have n1_ := am_ (hbox);have n2_ := am_ ((by rw [hg];exact (below_size (by repeat (first | (with_reducible first | exact HB.out | apply b1_ | apply b2_ | apply b3_) | exact HB.out))) : w.heap.size ≤ gb303));have n3_ := am_ ((by rw [hg];exact (below_size (by repeat (first | (with_reducible first | exact HB.out | apply b1_ | apply b2_ | apply b3_) | exact HB.out))) : w.heap.size ≤ gb303));clear HB;have HB := n0_;have BK303 := n1_;have GW303 := n2_;have GE303 := n3_;clear n0_ n1_ n2_ n3_;clear hb hbox hg;obtain ⟨hcz4_0,hcz4_1,hcz4_2,hcz4_3,hcz4_4,hcz4_5,hcz4_6,hfz4_0,hfz4_1,hfz4_2,hfz4_3,hfz4_4,hfz4_5,hfz4_6⟩ := bc7_ BK303.out) | ((with_reducible refine gate_dst (N := 7) rfl ?_);refine Kd.R_lit (Kd.int .u8) _ 5 ?hg (N := 7) ?hd (xs := ([0] : List Int)) (inner := [.int .u8 0]) (ok := fun _ => True) (okp := fun _ => True) ?hr ?hp (fun _ hk => hk) trivial (Below.refl _ _) (Nat.le_refl _) (by simp) ?_;(case hd => rfl);(case hg => rfl);(case hr => first | (go_simp;done) | (go_simp;rfl));(case hp => exact (Reps.one (show Kd.M (Kd.int .u8) _ _ _ 0 [.int .u8 0] from rfl) (Reps.none _ _)));intro v305 w5 ho6 hb hg_ hnew_;clear hg_ hnew_;(first | rw [← Ny304.out] at ho6 | (simp only [Int.reduceToNat] at ho6;rw [← Ny304.out] at ho6));have n0_ := am_ (Kd.R_lower ho6 (below_size (by repeat (first | (with_reducible first | exact HB.out | apply b1_ | apply b2_ | apply b3_ | refine below_set ?_ GE303.out) | exact HB.out))));have n1_ := am_ (blk_below (g := gb303) (o := .cells #[.bool true,.int .i64 a0_1,.int .i64 a0_2,.int .i64 a0_3,.int .i64 a0_4,.string a0_5,.slice A0_6 l0_6.length c0_6] 41 (0,0)) (by (with_reducible repeat (first | apply k1_ | apply k2_ | apply k3_));exact BK303.out) hb);have n2_ := am_ (below_step (by repeat (first | (with_reducible first | exact HB.out | apply b1_ | apply b2_ | apply b3_ | refine below_set ?_ GE303.out) | exact HB.out)) hb);clear BK303;clear HB;have HO306 := n0_;have BK303 := n1_;have HB := n2_;clear n0_ n1_ n2_;clear hb ho6))
  go_ret
  exact ⟨_,by first | rfl | (simp [e1_,e2_] <;> rfl) | (simp [*,e1_,e2_] <;> rfl) | (simp [e3_,e4_];done) | (simp [*,e3_,e4_];done),by (with_reducible repeat (first | apply r1_ | apply r2_ | apply r3_));exact HO306.out,by repeat (first | (with_reducible first | exact HB.out | apply b1_ | apply b2_ | apply b3_ | refine below_set ?_ GE303.out) | exact HB.out)⟩
 ·replace c2 := Bool.eq_false_iff.mpr c2
  subst c2
  have H1 : (spec_l02Batch.l0 k (([(wrap64 (1 + (l0_6.length : Int))) % 256] : List Int)) 0 false a0_1 a0_2 a0_3 a0_4 a0_5 l0_6) = some r := by rw [if_neg (show ¬ (false = true) by decide)] at H;exact H
  clear H
  have H := H1
  clear H1
  obtain ⟨y307,hy307⟩ : ∃ y_ : List Int,y_ = (([(wrap64 (1 + (l0_6.length : Int))) % 256] : List Int)) := ⟨_,rfl⟩
  replace H : (spec_l02Batch.l0 k y307 0 false a0_1 a0_2 a0_3 a0_4 a0_5 l0_6) = some r := by first | (rw [hy307];with_reducible exact H) | (have H2_ := (Option.bind_some _ _).symm.trans H;rw [hy307];with_reducible exact H2_) | (have H2_ := (Option.bind_some _ _).symm.trans H;with_reducible exact H2_) | with_reducible exact H | (rw [hy307];exact H) | exact H
  have Ny307 := am_ hy307
  clear hy307
  have H' := am_ H
  clear H
  go_enter Try.func42,Try.ntmps42
  go_wp2_with (first | ((with_reducible refine gate_dst (N := 1) rfl ?_);refine box_event ?hg (N := 1) ?hd (cs := #[.bool false,.int .i64 a0_1,.int .i64 a0_2,.int .i64 a0_3,.int .i64 a0_4,.string a0_5,.slice A0_6 l0_6.length c0_6]) (t := 41) ?hr ?_;(case hd => rfl);(case hg => rfl);(case hr => first | (go_simp;done) | (go_simp;rfl));intro gb303 hg w7 hbox hb;have n0_ := am_ (below_step (by repeat (first | (with_reducible first | exact HB.out | apply b1_ | apply b2_ | apply b3_) | exact HB.out)) hb);have n1_ := am_ (hbox);have n2_ := am_ ((by rw [hg];exact (below_size (by repeat (first | (with_reducible first | exact HB.out | apply b1_ | apply b2_ | apply b3_) | exact HB.out))) : w.heap.size ≤ gb303));have n3_ := am_ ((by rw [hg];exact (below_size (by repeat (first | (with_reducible first | exact HB.out | apply b1_ | apply b2_ | apply b3_) | exact HB.out))) : w.heap.size ≤ gb303));clear HB;have HB := n0_;have BK303 := n1_;have GW303 := n2_;have GE303 := n3_;clear n0_ n1_ n2_ n3_;clear hb hbox hg;obtain ⟨hcz8_0,hcz8_1,hcz8_2,hcz8_3,hcz8_4,hcz8_5,hcz8_6,hfz8_0,hfz8_1,hfz8_2,hfz8_3,hfz8_4,hfz8_5,hfz8_6⟩ := bc7_ BK303.out) | ((with_reducible refine gate_dst (N := 13) rfl ?_);refine Kd.R_lit (Kd.int .u8) _ 5 ?hg (N := 13) ?hd (xs := ([(wrap64 (1 + (l0_6.length : Int))) % 256] : List Int)) (inner := [.int .u8 ((wrap64 (1 + (l0_6.length : Int))) % 256)]) (ok := fun _ => True) (okp := fun _ => True) ?hr ?hp (fun _ hk => hk) trivial (Below.refl _ _) (Nat.le_refl _) (by simp) ?_;(case hd => rfl);(case hg => rfl);(case hr => first | (go_simp;done) | (go_simp;rfl));(case hp => exact (Reps.one (show Kd.M (Kd.int .u8) _ _ _ ((wrap64 (1 + (l0_6.length : Int))) % 256) [.int .u8 ((wrap64 (1 + (l0_6.length : Int))) % 256)] from rfl) (Reps.none _ _)));intro v308 w9 ho10 hb hg_ hnew_;clear hg_ hnew_;(first | rw [← Ny307.out] at ho10 | (simp only [Int.reduceToNat] at ho10;rw [← Ny307.out] at ho10));have n0_ := am_ (Kd.R_lower ho10 (below_size (by repeat (first | (with_reducible first | exact HB.out | apply b1_ | apply b2_ | apply b3_ | refine below_set ?_ GE303.out) | exact HB.out))));have n1_ := am_ (blk_below (g := gb303) (o := .cells #[.bool false,.int .i64 a0_1,.int .i64 a0_2,.int .i64 a0_3,.int .i64 a0_4,.string a0_5,.slice A0_6 l0_6.length c0_6] 41 (0,0)) (by (with_reducible repeat (first | apply k1_ | apply k2_ | apply k3_));exact BK303.out) hb);have n2_ := am_ (below_step (by repeat (first | (with_reducible first | exact HB.out | apply b1_ | apply b2_ | apply b3_ | refine below_set ?_ GE303.out) | exact HB.out)) hb);clear BK303;clear HB;have HO309 := n0_;have BK303 := n1_;have HB := n2_;clear n0_ n1_ n2_;clear hb ho10))
  go_loopg [3,4] k (fun kq v3 v4 w' => ∃ (x3_1 : List Int) (x4_1 : Int),v4 = .int .i64 x4_1 ∧ Aside0 (spec_l02Batch.l0 kq x3_1 x4_1 false a0_1 a0_2 a0_3 a0_4 a0_5 l0_6 = some r) ∧ Aside0 (kq ≤ k) ∧ Aside0 (Kd.R (Kd.int .u8) 5 w' w.heap.size (fun _ => True) v3 x3_1) ∧ Aside0 (w'.heap[gb303]? = some (.cells #[.bool false,.int .i64 a0_1,.int .i64 a0_2,.int .i64 a0_3,.int .i64 a0_4,.string a0_5,(.slice A0_6 l0_6.length c0_6)] 41 (0,0))) ∧ Aside0 (Below w.heap.size w w'))
  case atStart => exact ⟨(y307),(0),(by first | rfl | (simp;done) | (simp [*];done)),H',⟨Nat.le_refl _⟩,⟨by (with_reducible repeat (first | apply r1_ | apply r2_ | apply r3_));exact HO309.out⟩,⟨by (with_reducible repeat (first | apply k1_ | apply k2_ | apply k3_));exact BK303.out⟩,⟨by repeat (first | (with_reducible first | exact HB.out | apply b1_ | apply b2_ | apply b3_ | refine below_set ?_ GE303.out) | exact HB.out)⟩⟩
  case round =>
   clear H'
   try clear c2
   try clear p2
   try clear c4
   try clear p6
   try clear hcz4_0
   try clear hcz4_1
   try clear hcz4_2
   try clear hcz4_3
   try clear hcz4_4
   try clear hcz4_5
   try clear hcz4_6
   try clear hcz8_0
   try clear hcz8_1
   try clear hcz8_2
   try clear hcz8_3
   try clear hcz8_4
   try clear hcz8_5
   try clear hcz8_6
   try clear hfz4_0
   try clear hfz4_1
   try clear hfz4_2
   try clear hfz4_3
   try clear hfz4_4
   try clear hfz4_5
   try clear hfz4_6
   try clear hfz8_0
   try clear hfz8_1
   try clear hfz8_2
   try clear hfz8_3
   try clear hfz8_4
   try clear hfz8_5
   try clear hfz8_6
   obtain ⟨x3_1,x4_1,rfl,HA,HK1,HO_3,BK303,HB⟩ := hrel
   cases gk with
   | zero => exact absurd HA.out (by simp [spec_l02Batch.l0])
   | succ k1 =>
    have H := HA.out
    clear HA
    simp only [spec_l02Batch.l0] at H
    by_cases c11 : x4_1 < (l0_6.length : Int)
    ·rw [if_pos c11] at H
     have c11b0 : decide (x4_1 < (l0_6.length : Int)) = true := decide_eq_true c11
     clear c11
     by_cases c12 : 0 ≤ x4_1
     ·rw [if_pos c12] at H
      have c12b0 : decide (0 ≤ x4_1) = true := decide_eq_true c12
      clear c12
      by_cases c13 : x3_1.length < 140737488355328
      ·rw [if_pos c13] at H
       have LMc13 := am_ c13
       clear c13
       obtain ⟨y311,hy311⟩ : ∃ y_ : List Int,y_ = (x3_1 ++ [((rd_T70 l0_6 x4_1).f0) % 256]) := ⟨_,rfl⟩
       replace H : ((spec_l02Number.f k1 ((rd_T70 l0_6 x4_1).f1) 4).bind fun t315 => (if y311.length + t315.length < 140737488355328 then ((some (y311 ++ t315 : List Int)).bind fun y318 => (if y318.length + ((rd_T70 l0_6 x4_1).f2).size < 140737488355328 then (spec_l02Batch.l0 k1 (y318 ++ bytesOf ((rd_T70 l0_6 x4_1).f2)) (wrap64 (x4_1 + 1)) false a0_1 a0_2 a0_3 a0_4 a0_5 l0_6) else (none))) else (none))) = some r := by first | (rw [hy311];with_reducible exact H) | (have H2_ := (Option.bind_some _ _).symm.trans H;rw [hy311];with_reducible exact H2_) | (have H2_ := (Option.bind_some _ _).symm.trans H;with_reducible exact H2_) | with_reducible exact H | (rw [hy311];exact H) | exact H
       have Ny311 := am_ hy311
       clear hy311
       replace H := Option.bind_eq_some_iff.mp H
       obtain ⟨t315,A140,H⟩ := H
       try dsimp only at H
       have A14 := am_ A140
       clear A140
       by_cases c15 : y311.length + t315.length < 140737488355328
       ·rw [if_pos c15] at H
        have LMc15 := am_ c15
        clear c15
        obtain ⟨y318,hy318⟩ : ∃ y_ : List Int,y_ = (y311 ++ t315) := ⟨_,rfl⟩
        replace H : (if y318.length + ((rd_T70 l0_6 x4_1).f2).size < 140737488355328 then (spec_l02Batch.l0 k1 (y318 ++ bytesOf ((rd_T70 l0_6 x4_1).f2)) (wrap64 (x4_1 + 1)) false a0_1 a0_2 a0_3 a0_4 a0_5 l0_6) else (none)) = some r := by first | (rw [hy318];with_reducible exact H) | (have H2_ := (Option.bind_some _ _).symm.trans H;rw [hy318];with_reducible exact H2_) | (have H2_ := (Option.bind_some _ _).symm.trans H;with_reducible exact H2_) | with_reducible exact H | (rw [hy318];exact H) | exact H
        have Ny318 := am_ hy318
        clear hy318
        by_cases c16 : y318.length + ((rd_T70 l0_6 x4_1).f2).size < 140737488355328
        ·rw [if_pos c16] at H
         have LMc16 := am_ c16
         clear c16
         obtain ⟨y322,hy322⟩ : ∃ y_ : List Int,y_ = (y318 ++ bytesOf ((rd_T70 l0_6 x4_1).f2)) := ⟨_,rfl⟩
         replace H : (spec_l02Batch.l0 k1 y322 (wrap64 (x4_1 + 1)) false a0_1 a0_2 a0_3 a0_4 a0_5 l0_6) = some r := by first | (rw [hy322];with_reducible exact H) | (have H2_ := (Option.bind_some _ _).symm.trans H;rw [hy322];with_reducible exact H2_) | (have H2_ := (Option.bind_some _ _).symm.trans H;with_reducible exact H2_) | with_reducible exact H | (rw [hy322];exact H) | exact H
         have Ny322 := am_ hy322
         clear hy322
         have H' := am_ H
         clear H
         obtain ⟨hcz17_0,hcz17_1,hcz17_2,hcz17_3,hcz17_4,hcz17_5,hcz17_6,hfz17_0,hfz17_1,hfz17_2,hfz17_3,hfz17_4,hfz17_5,hfz17_6⟩ := bc7_ BK303.out
         try go_wp2
         have n0_ := am_ (Kd.R_drew HO_3.out)
         have n1_ := am_ (blk_drew BK303.out)
         have n2_ := am_ (below_drew1 HB.out)
         clear HO_3
         clear BK303
         clear HB
         have HO_3 := n0_
         have BK303 := n1_
         have HB := n2_
         clear n0_ n1_ n2_
         have p310 : 0 ≤ (x4_1 : Int) := o1_ (by first | (with_reducible assumption) | assumption)
         have q310 : x4_1 < (l0_6.length : Int) := o1_ (by first | (with_reducible assumption) | assumption)
         obtain ⟨ad310,e310,hx310_0,hx310_1,hx310_2⟩ := at_T70 HR0_6.out x4_1 p310 q310
         have hw310_2 := hx310_2
         have hw310_1 := hx310_1
         have hw310_0 := hx310_0
         cases e310
         replace hx310_0 := (HB.out.cell (World.block_lt_of_cell? w _ hx310_0)).trans hx310_0
         replace hx310_1 := (HB.out.cell (World.block_lt_of_cell? w _ hx310_1)).trans hx310_1
         replace hx310_2 := (HB.out.cell (World.block_lt_of_cell? w _ hx310_2)).trans hx310_2
         replace p310 := eq_true p310
         replace q310 := eq_true q310
         have p314 : 0 ≤ (x4_1 : Int) := o1_ (by first | (with_reducible assumption) | assumption)
         have q314 : x4_1 < (l0_6.length : Int) := o1_ (by first | (with_reducible assumption) | assumption)
         obtain ⟨ad314,e314,hx314_0,hx314_1,hx314_2⟩ := at_T70 HR0_6.out x4_1 p314 q314
         have hw314_2 := hx314_2
         have hw314_1 := hx314_1
         have hw314_0 := hx314_0
         obtain rfl : ad310 = ad314 := (by injection e314)
         replace hx314_0 := (HB.out.cell (World.block_lt_of_cell? w _ hx314_0)).trans hx314_0
         replace hx314_1 := (HB.out.cell (World.block_lt_of_cell? w _ hx314_1)).trans hx314_1
         replace hx314_2 := (HB.out.cell (World.block_lt_of_cell? w _ hx314_2)).trans hx314_2
         replace p314 := eq_true p314
         replace q314 := eq_true q314
         refine start_ (n := 19) (S := fun w' => w'.cell? ⟨gb303,0,none⟩ = some (.bool false) ∧ w'.cell? ⟨gb303,1,none⟩ = some (.int .i64 a0_1) ∧ w'.cell? ⟨gb303,2,none⟩ = some (.int .i64 a0_2) ∧ w'.cell? ⟨gb303,3,none⟩ = some (.int .i64 a0_3) ∧ w'.cell? ⟨gb303,4,none⟩ = some (.int .i64 a0_4) ∧ w'.cell? ⟨gb303,5,none⟩ = some (.string a0_5) ∧ w'.cell? ⟨gb303,6,none⟩ = some (.slice (some ad310) l0_6.length c0_6) ∧ w'.cell? (ad310.add ((x4_1).toNat * 3)) = some (.int .i64 ((rd_T70 l0_6 x4_1).f0)) ∧ w'.cell? ⟨(ad310.add ((x4_1).toNat * 3)).block,(ad310.add ((x4_1).toNat * 3)).off + 1,none⟩ = some (.int .i64 ((rd_T70 l0_6 x4_1).f1)) ∧ w'.cell? ⟨(ad310.add ((x4_1).toNat * 3)).block,(ad310.add ((x4_1).toNat * 3)).off + 2,none⟩ = some (.string ((rd_T70 l0_6 x4_1).f2)) ∧ w'.cell? (ad310.add ((x4_1).toNat * 3)) = some (.int .i64 ((rd_T70 l0_6 x4_1).f0)) ∧ w'.cell? ⟨(ad310.add ((x4_1).toNat * 3)).block,(ad310.add ((x4_1).toNat * 3)).off + 1,none⟩ = some (.int .i64 ((rd_T70 l0_6 x4_1).f1)) ∧ w'.cell? ⟨(ad310.add ((x4_1).toNat * 3)).block,(ad310.add ((x4_1).toNat * 3)).off + 2,none⟩ = some (.string ((rd_T70 l0_6 x4_1).f2))) (ds := []) #[false,false,false,false,false,false,false,false,false,false,false,false,false,false,false,false,false,false,false] (by kernel_rfl) rfl rfl ⟨(blk_cell BK303.out 0).trans rfl,(blk_cell BK303.out 1).trans rfl,(blk_cell BK303.out 2).trans rfl,(blk_cell BK303.out 3).trans rfl,(blk_cell BK303.out 4).trans rfl,(blk_cell BK303.out 5).trans rfl,(blk_cell BK303.out 6).trans rfl,((HB.out.cell (World.block_lt_of_cell? w _ hw310_0)).trans hw310_0),((HB.out.cell (World.block_lt_of_cell? w _ hw310_1)).trans hw310_1),((HB.out.cell (World.block_lt_of_cell? w _ hw310_2)).trans hw310_2),((HB.out.cell (World.block_lt_of_cell? w _ hw314_0)).trans hw314_0),((HB.out.cell (World.block_lt_of_cell? w _ hw314_1)).trans hw314_1),((HB.out.cell (World.block_lt_of_cell? w _ hw314_2)).trans hw314_2)⟩ (fun hHeld => ?_);refine with_tabW spec_l02Batch.tab7 spec_l02Batch.bits7 (fun HT_ HW_ => ?_)
         generalize wr.drew = w18 at HO_3 BK303 HB hx310_0 hx310_1 hx310_2 hx314_0 hx314_1 hx314_2 hHeld ⊢
         refine pure_ (i := 0) (N := some 21) (v := ?_) (a' := ?_) #[true,false,false,false,false,false,false,false,false,false,false,false,false,false,false,false,false,false,false] rfl rfl (any_of HT_.out (by kernel_rfl)) (fun _ _ _ h => h) (Or.inl ⟨by rfl,?_⟩) ?_ ?_
         rotate_left
         ·intro w'
          go_simp
          with_reducible rfl
         rotate_left
         ·simp only [Act.put,p1_,p2_,p3_,i64_w,i32_w]
          rfl
         refine pure_ (i := 1) (N := some 22) (v := ?_) (a' := ?_) #[true,true,false,false,false,false,false,false,false,false,false,false,false,false,false,false,false,false,false] rfl rfl (any_of HT_.out (by kernel_rfl)) (fun _ _ _ h => h) (Or.inl ⟨by rfl,?_⟩) ?_ ?_
         rotate_left
         ·intro w'
          go_simp
          with_reducible rfl
         rotate_left
         ·simp only [Act.put,p1_,p2_,p3_,i64_w,i32_w]
          rfl
         refine pure_ (i := 3) (N := some 24) (v := ?_) (a' := ?_) #[true,true,false,true,false,false,false,false,false,false,false,false,false,false,false,false,false,false,false] rfl rfl (any_of HT_.out (by kernel_rfl)) (fun _ _ _ h => h) (Or.inl ⟨by rfl,?_⟩) ?_ ?_
         rotate_left
         ·intro w'
          go_simp
          with_reducible rfl
         rotate_left
         ·simp only [Act.put,p1_,p2_,p3_,i64_w,i32_w]
          rfl
         refine pure_ (i := 10) (N := some 31) (v := ?_) (a' := ?_) #[true,true,false,true,false,false,false,false,false,false,true,false,false,false,false,false,false,false,false] rfl rfl (any_of HT_.out (by kernel_rfl)) (fun _ _ _ h => h) (Or.inl ⟨by rfl,?_⟩) ?_ ?_
         rotate_left
         ·intro w'
          go_simp
          with_reducible rfl
         rotate_left
         ·simp only [Act.put,p1_,p2_,p3_,i64_w,i32_w]
          rfl
         refine pure_ (i := 12) (N := some 33) (v := ?_) (a' := ?_) #[true,true,false,true,false,false,false,false,false,false,true,false,true,false,false,false,false,false,false] rfl rfl (any_of HT_.out (by kernel_rfl)) (fun _ _ _ h => h) (Or.inl ⟨by rfl,?_⟩) ?_ ?_
         rotate_left
         ·intro w'
          go_simp
          with_reducible rfl
         rotate_left
         ·simp only [Act.put,p1_,p2_,p3_,i64_w,i32_w]
          rfl
         refine take_ (i := 2) (N := some 23) (v := ?_) (a' := ?_) #[true,true,true,true,false,false,false,false,false,false,true,false,true,false,false,false,false,false,false] rfl rfl (take_ofW HT_.out HW_.out (by kernel_rfl)) (fun _ _ _ h => h) (Or.inl ⟨by rfl,?_⟩) hHeld ?_ ?_
         rotate_left
         ·rintro w' ⟨s0,s1,s2,s3,s4,s5,s6,s7,s8,s9,s10,s11,s12⟩
          go_simp
          with_reducible rfl
         rotate_left
         ·simp only [Act.put,p1_,p2_,p3_,i64_w,i32_w]
          rfl
         refine pure_ (i := 4) (N := some 25) (v := ?_) (a' := ?_) #[true,true,true,true,true,false,false,false,false,false,true,false,true,false,false,false,false,false,false] rfl rfl (any_of HT_.out (by kernel_rfl)) (fun _ _ _ h => h) (Or.inl ⟨by rfl,?_⟩) ?_ ?_
         rotate_left
         ·intro w'
          go_simp
          with_reducible rfl
         rotate_left
         ·simp only [Act.put,p1_,p2_,p3_,i64_w,i32_w]
          rfl
         refine pure_ (i := 5) (N := some 26) (v := ?_) (a' := ?_) #[true,true,true,true,true,true,false,false,false,false,true,false,true,false,false,false,false,false,false] rfl rfl (any_of HT_.out (by kernel_rfl)) (fun _ _ _ h => h) (Or.inl ⟨by rfl,?_⟩) ?_ ?_
         rotate_left
         ·intro w'
          go_simp
          with_reducible rfl
         rotate_left
         ·simp only [Act.put,p1_,p2_,p3_,i64_w,i32_w]
          rfl
         refine take_ (i := 6) (N := some 27) (v := ?_) (a' := ?_) #[true,true,true,true,true,true,true,false,false,false,true,false,true,false,false,false,false,false,false] rfl rfl (take_ofW HT_.out HW_.out (by kernel_rfl)) (fun _ _ _ h => h) (Or.inl ⟨by rfl,?_⟩) hHeld ?_ ?_
         rotate_left
         ·rintro w' ⟨s0,s1,s2,s3,s4,s5,s6,s7,s8,s9,s10,s11,s12⟩
          go_simp
          with_reducible rfl
         rotate_left
         ·simp only [Act.put,p1_,p2_,p3_,i64_w,i32_w]
          rfl
         refine pure_ (i := 7) (N := some 28) (v := ?_) (a' := ?_) #[true,true,true,true,true,true,true,true,false,false,true,false,true,false,false,false,false,false,false] rfl rfl (any_of HT_.out (by kernel_rfl)) (fun _ _ _ h => h) (Or.inl ⟨by rfl,?_⟩) ?_ ?_
         rotate_left
         ·intro w'
          go_simp
          with_reducible rfl
         rotate_left
         ·simp only [Act.put,p1_,p2_,p3_,i64_w,i32_w]
          rfl
         refine take_ (i := 11) (N := some 32) (v := ?_) (a' := ?_) #[true,true,true,true,true,true,true,true,false,false,true,true,true,false,false,false,false,false,false] rfl rfl (take_ofW HT_.out HW_.out (by kernel_rfl)) (fun _ _ _ h => h) (Or.inl ⟨by rfl,?_⟩) hHeld ?_ ?_
         rotate_left
         ·rintro w' ⟨s0,s1,s2,s3,s4,s5,s6,s7,s8,s9,s10,s11,s12⟩
          go_simp
          with_reducible rfl
         rotate_left
         ·simp only [Act.put,p1_,p2_,p3_,i64_w,i32_w]
          rfl
         refine pure_ (i := 13) (N := some 34) (v := ?_) (a' := ?_) #[true,true,true,true,true,true,true,true,false,false,true,true,true,true,false,false,false,false,false] rfl rfl (any_of HT_.out (by kernel_rfl)) (fun _ _ _ h => h) (Or.inl ⟨by rfl,?_⟩) ?_ ?_
         rotate_left
         ·intro w'
          go_simp
          with_reducible rfl
         rotate_left
         ·simp only [Act.put,p1_,p2_,p3_,i64_w,i32_w]
          rfl
         refine pure_ (i := 14) (N := some 35) (v := ?_) (a' := ?_) #[true,true,true,true,true,true,true,true,false,false,true,true,true,true,true,false,false,false,false] rfl rfl (any_of HT_.out (by kernel_rfl)) (fun _ _ _ h => h) (Or.inl ⟨by rfl,?_⟩) ?_ ?_
         rotate_left
         ·intro w'
          go_simp
          with_reducible rfl
         rotate_left
         ·simp only [Act.put,p1_,p2_,p3_,i64_w,i32_w]
          rfl
         refine take_ (i := 15) (N := some 36) (v := ?_) (a' := ?_) #[true,true,true,true,true,true,true,true,false,false,true,true,true,true,true,true,false,false,false] rfl rfl (take_ofW HT_.out HW_.out (by kernel_rfl)) (fun _ _ _ h => h) (Or.inl ⟨by rfl,?_⟩) hHeld ?_ ?_
         rotate_left
         ·rintro w' ⟨s0,s1,s2,s3,s4,s5,s6,s7,s8,s9,s10,s11,s12⟩
          go_simp
          with_reducible rfl
         rotate_left
         ·simp only [Act.put,p1_,p2_,p3_,i64_w,i32_w]
          rfl
         refine one_ (i := 8) (N := some 29) #[true,true,true,true,true,true,true,true,true,false,true,true,true,true,true,true,false,false,false] rfl rfl (one_of HT_.out (by kernel_rfl)) (by decide) (fun K hK => ?_)
         refine value_ (w1 := ?_) (v := ?_) (by rfl) rfl ?_ ?_
         rotate_left 2
         ·go_simp
          constructor
          ·rfl
          ·rfl
         refine hK.out _ _ ⟨(blk_cell (blk_alloc BK303.out _) 0).trans rfl,(blk_cell (blk_alloc BK303.out _) 1).trans rfl,(blk_cell (blk_alloc BK303.out _) 2).trans rfl,(blk_cell (blk_alloc BK303.out _) 3).trans rfl,(blk_cell (blk_alloc BK303.out _) 4).trans rfl,(blk_cell (blk_alloc BK303.out _) 5).trans rfl,(blk_cell (blk_alloc BK303.out _) 6).trans rfl,(World.cell?_alloc_lt _ _ _ (World.block_lt_of_cell? _ _ (((HB.out.cell (World.block_lt_of_cell? w _ hw310_0)).trans hw310_0)))).trans (((HB.out.cell (World.block_lt_of_cell? w _ hw310_0)).trans hw310_0)),(World.cell?_alloc_lt _ _ _ (World.block_lt_of_cell? _ _ (((HB.out.cell (World.block_lt_of_cell? w _ hw310_1)).trans hw310_1)))).trans (((HB.out.cell (World.block_lt_of_cell? w _ hw310_1)).trans hw310_1)),(World.cell?_alloc_lt _ _ _ (World.block_lt_of_cell? _ _ (((HB.out.cell (World.block_lt_of_cell? w _ hw310_2)).trans hw310_2)))).trans (((HB.out.cell (World.block_lt_of_cell? w _ hw310_2)).trans hw310_2)),(World.cell?_alloc_lt _ _ _ (World.block_lt_of_cell? _ _ (((HB.out.cell (World.block_lt_of_cell? w _ hw314_0)).trans hw314_0)))).trans (((HB.out.cell (World.block_lt_of_cell? w _ hw314_0)).trans hw314_0)),(World.cell?_alloc_lt _ _ _ (World.block_lt_of_cell? _ _ (((HB.out.cell (World.block_lt_of_cell? w _ hw314_1)).trans hw314_1)))).trans (((HB.out.cell (World.block_lt_of_cell? w _ hw314_1)).trans hw314_1)),(World.cell?_alloc_lt _ _ _ (World.block_lt_of_cell? _ _ (((HB.out.cell (World.block_lt_of_cell? w _ hw314_2)).trans hw314_2)))).trans (((HB.out.cell (World.block_lt_of_cell? w _ hw314_2)).trans hw314_2))⟩ (fun hHeld => ?_)
         clear hK K
         refine norm_ (a' := ?_) ?_ ?_
         rotate_left
         ·show Act.put _ (some 29) _ = _
          simp only [Act.put,p1_,p2_,p3_,i64_w,i32_w]
          rfl
         refine one_ (i := 9) (N := some 30) #[true,true,true,true,true,true,true,true,true,true,true,true,true,true,true,true,false,false,false] rfl rfl (one_of HT_.out (by kernel_rfl)) (by decide) (fun K hK => ?_)
         refine Kd.R_append_step (Kd.int .u8) (w0 := w) w.heap.size (by rfl) (.tmp 21) (.tmp 29) 22 5 (.int .u8 0) 1 rfl Try.underlying22 info5 rfl (by decide) (by omega) u3 x3_1 (((rd_T70 l0_6 x4_1).f0) % 256) [.int .u8 (((rd_T70 l0_6 x4_1).f0) % 256)] (fun _ => True) (fun _ => False) rfl rfl ?aP (fun _ hk => hk.elim) ?aF ?aO ?aB ?aS ?aL ?_
         (case aP => exact rfl)
         (case aB => exact (by repeat (first | (with_reducible first | exact HB.out | apply b1_ | apply b2_ | apply b3_ | refine below_set ?_ GE303.out) | exact HB.out)))
         (case aF => exact (fun _ _ => trivial))
         (case aO => exact (by (with_reducible repeat (first | apply r1_ | apply r2_ | apply r3_));exact HO_3.out))
         (case aS => exact (below_size (by repeat (first | (with_reducible first | exact HB.out | apply b1_ | apply b2_ | apply b3_ | refine below_set ?_ GE303.out) | exact HB.out))))
         (case aL => have := LMc13.out;omega)
         intro v312 w19 ho hb hg hat
         rw [← Ny311.out] at ho
         have n0_ := am_ (blk_grown (g := gb303) (o := .cells #[.bool false,.int .i64 a0_1,.int .i64 a0_2,.int .i64 a0_3,.int .i64 a0_4,.string a0_5,.slice (some ad310) l0_6.length c0_6] 41 (0,0)) (by (with_reducible repeat (first | apply k1_ | apply k2_ | apply k3_));exact BK303.out) hg (Kd.R_ne HO_3.out BK303.out (by decide)))
         have n1_ := am_ (hb)
         have n2_ := am_ (ho)
         clear BK303
         clear HB
         clear HO_3
         have BK303 := n0_
         have HB := n1_
         have HO313 := n2_
         clear n0_ n1_ n2_
         clear ho hb hg hat
         refine hK.out _ _ ⟨(blk_cell BK303.out 0).trans rfl,(blk_cell BK303.out 1).trans rfl,(blk_cell BK303.out 2).trans rfl,(blk_cell BK303.out 3).trans rfl,(blk_cell BK303.out 4).trans rfl,(blk_cell BK303.out 5).trans rfl,(blk_cell BK303.out 6).trans rfl,((HB.out.cell (World.block_lt_of_cell? w _ hw310_0)).trans hw310_0),((HB.out.cell (World.block_lt_of_cell? w _ hw310_1)).trans hw310_1),((HB.out.cell (World.block_lt_of_cell? w _ hw310_2)).trans hw310_2),((HB.out.cell (World.block_lt_of_cell? w _ hw314_0)).trans hw314_0),((HB.out.cell (World.block_lt_of_cell? w _ hw314_1)).trans hw314_1),((HB.out.cell (World.block_lt_of_cell? w _ hw314_2)).trans hw314_2)⟩ (fun hHeld => ?_)
         clear hK K
         refine norm_ (a' := ?_) ?_ ?_
         rotate_left
         ·show Act.put _ (some 30) _ = _
          simp only [Act.put,p1_,p2_,p3_,i64_w,i32_w]
          rfl
         refine one_ (i := 16) (N := some 37) #[true,true,true,true,true,true,true,true,true,true,true,true,true,true,true,true,true,false,false] rfl rfl (one_of HT_.out (by kernel_rfl)) (by decide) (fun K hK => ?_)
         refine goes_ Try.func58 (by kernel_rfl) rfl #[.int .i64 ((rd_T70 l0_6 x4_1).f1),.int .i64 4] (by rfl) rfl rfl (by (try simp only [m1_,m2_,m3_]);first | done | rfl | (simp only [d1_,d2_];rfl)) ?_
         with_reducible refine (spec_l02Number.calls k1 ((rd_T70 l0_6 x4_1).f1) 4 t315 _ A14.out).mono ?_
         rintro e w20 ⟨v316,rfl,ho0,hb⟩
         refine ⟨_,rfl,?_⟩
         have n0_ := am_ (Kd.R_elder' (by (with_reducible repeat (first | apply r1_ | apply r2_ | apply r3_));exact HO313.out) (Kd.R_base ho0) hb)
         have n1_ := am_ (Kd.R_lower (Kd.R_new' ho0 (Kd.R_lt (by (with_reducible repeat (first | apply r1_ | apply r2_ | apply r3_));exact HO313.out))) (below_size (by repeat (first | (with_reducible first | exact HB.out | apply b1_ | apply b2_ | apply b3_ | refine below_set ?_ GE303.out) | exact HB.out))))
         have n2_ := am_ (blk_below (g := gb303) (o := .cells #[.bool false,.int .i64 a0_1,.int .i64 a0_2,.int .i64 a0_3,.int .i64 a0_4,.string a0_5,.slice (some ad310) l0_6.length c0_6] 41 (0,0)) (by (with_reducible repeat (first | apply k1_ | apply k2_ | apply k3_));exact BK303.out) hb)
         have n3_ := am_ (below_step (by repeat (first | (with_reducible first | exact HB.out | apply b1_ | apply b2_ | apply b3_ | refine below_set ?_ GE303.out) | exact HB.out)) hb)
         clear HO313
         clear BK303
         clear HB
         have HO313 := n0_
         have HO317 := n1_
         have BK303 := n2_
         have HB := n3_
         clear n0_ n1_ n2_ n3_
         (try clear hb)
         (try clear hb2)
         (try clear hk)
         (try clear hi)
         (try clear ho0)
         obtain ⟨Ao22,co22,eo22⟩ := Kd.R_slice HO317.out
         (first | subst eo22 | (injection eo22 with f1_ f2_ f3_;have f4_ := f1_.symm;have f5_ := f3_.symm;clear f1_ f2_ f3_;subst f4_;subst f5_))
         refine hK.out _ _ ⟨(blk_cell BK303.out 0).trans rfl,(blk_cell BK303.out 1).trans rfl,(blk_cell BK303.out 2).trans rfl,(blk_cell BK303.out 3).trans rfl,(blk_cell BK303.out 4).trans rfl,(blk_cell BK303.out 5).trans rfl,(blk_cell BK303.out 6).trans rfl,((HB.out.cell (World.block_lt_of_cell? w _ hw310_0)).trans hw310_0),((HB.out.cell (World.block_lt_of_cell? w _ hw310_1)).trans hw310_1),((HB.out.cell (World.block_lt_of_cell? w _ hw310_2)).trans hw310_2),((HB.out.cell (World.block_lt_of_cell? w _ hw314_0)).trans hw314_0),((HB.out.cell (World.block_lt_of_cell? w _ hw314_1)).trans hw314_1),((HB.out.cell (World.block_lt_of_cell? w _ hw314_2)).trans hw314_2)⟩ (fun hHeld => ?_)
         clear hK K
         refine norm_ (a' := ?_) ?_ ?_
         rotate_left
         ·show Act.put _ (some 37) _ = _
          simp only [Act.put,p1_,p2_,p3_,i64_w,i32_w]
          rfl
         refine one_ (i := 17) (N := some 38) #[true,true,true,true,true,true,true,true,true,true,true,true,true,true,true,true,true,true,false] rfl rfl (one_of HT_.out (by kernel_rfl)) (by decide) (fun K hK => ?_)
         refine Kd.R_append_rows_step (Kd.int .u8) (w0 := w) w.heap.size (by rfl) (.tmp 30) (.tmp 37) 22 5 (.int .u8 0) 1 rfl Try.underlying22 info5 rfl (by decide) (by omega) v312 y311 t315 _ _ _ (fun k_ => some k_ ≠ (.slice Ao22 t315.length co22 : Value).ownBlock) (fun _ => False) rfl rfl ?aO ?aR (fun _ _ h => h) (fun _ h => h.elim) ?aF ?aB ?aS ?aL ?_
         (case aR => repeat (first | exact (Kd.R_reads' HO317.out).2.2 | (with_reducible refine Kd.C_alloc ?_ _) | (with_reducible refine Kd.C_drewN ?_ _) | (with_reducible refine Kd.C_drew ?_)))
         (case aB => exact (by repeat (first | (with_reducible first | exact HB.out | apply b1_ | apply b2_ | apply b3_ | refine below_set ?_ GE303.out) | exact HB.out)))
         (case aF => exact (fun k_ hk => Kd.fresh' (Kd.R_lt (by (with_reducible repeat (first | apply r1_ | apply r2_ | apply r3_));exact HO317.out)) k_ hk))
         (case aO => exact (by (with_reducible repeat (first | apply r1_ | apply r2_ | apply r3_));exact Kd.R_mono HO313.out (fun _ hk => hk.2)))
         (case aS => exact (below_size (by repeat (first | (with_reducible first | exact HB.out | apply b1_ | apply b2_ | apply b3_ | refine below_set ?_ GE303.out) | exact HB.out))))
         (case aL => have := LMc15.out;omega)
         intro v319 w21 ho hb hg hat
         rw [← Ny318.out] at ho
         have n0_ := am_ (blk_grown (g := gb303) (o := .cells #[.bool false,.int .i64 a0_1,.int .i64 a0_2,.int .i64 a0_3,.int .i64 a0_4,.string a0_5,.slice (some ad310) l0_6.length c0_6] 41 (0,0)) (by (with_reducible repeat (first | apply k1_ | apply k2_ | apply k3_));exact BK303.out) hg (Kd.R_ne HO313.out BK303.out (by decide)))
         have n1_ := am_ (Kd.R_after (ok := (fun _ => True)) (by (with_reducible repeat (first | apply r1_ | apply r2_ | apply r3_));exact HO317.out) hg hat)
         have n2_ := am_ (hb)
         have n3_ := am_ (ho)
         clear BK303
         clear HO317
         clear HB
         clear HO313
         have BK303 := n0_
         have HO317 := n1_
         have HB := n2_
         have HO320 := n3_
         clear n0_ n1_ n2_ n3_
         clear ho hb hg hat
         refine hK.out _ _ ⟨(blk_cell BK303.out 0).trans rfl,(blk_cell BK303.out 1).trans rfl,(blk_cell BK303.out 2).trans rfl,(blk_cell BK303.out 3).trans rfl,(blk_cell BK303.out 4).trans rfl,(blk_cell BK303.out 5).trans rfl,(blk_cell BK303.out 6).trans rfl,((HB.out.cell (World.block_lt_of_cell? w _ hw310_0)).trans hw310_0),((HB.out.cell (World.block_lt_of_cell? w _ hw310_1)).trans hw310_1),((HB.out.cell (World.block_lt_of_cell? w _ hw310_2)).trans hw310_2),((HB.out.cell (World.block_lt_of_cell? w _ hw314_0)).trans hw314_0),((HB.out.cell (World.block_lt_of_cell? w _ hw314_1)).trans hw314_1),((HB.out.cell (World.block_lt_of_cell? w _ hw314_2)).trans hw314_2)⟩ (fun hHeld => ?_)
         clear hK K
         refine norm_ (a' := ?_) ?_ ?_
         rotate_left
         ·show Act.put _ (some 38) _ = _
          simp only [Act.put,p1_,p2_,p3_,i64_w,i32_w]
          rfl
         refine pure_ (i := 18) (N := some 3) (v := ?_) (a' := ?_) #[true,true,true,true,true,true,true,true,true,true,true,true,true,true,true,true,true,true,true] rfl rfl (any_of HT_.out (by kernel_rfl)) (fun _ _ _ h => h) (Or.inl ⟨by rfl,?_⟩) ?_ ?_
         rotate_left
         ·intro w'
          go_simp
          with_reducible rfl
         rotate_left
         ·simp only [Act.put,p1_,p2_,p3_,i64_w,i32_w]
          rfl
         refine done_ (done_of HT_.out (by kernel_rfl)) ?_
         obtain ⟨hcz23_0,hcz23_1,hcz23_2,hcz23_3,hcz23_4,hcz23_5,hcz23_6,hfz23_0,hfz23_1,hfz23_2,hfz23_3,hfz23_4,hfz23_5,hfz23_6⟩ := bc7_ BK303.out
         have p321 : 0 ≤ (x4_1 : Int) := o1_ (by first | (with_reducible assumption) | assumption)
         have q321 : x4_1 < (l0_6.length : Int) := o1_ (by first | (with_reducible assumption) | assumption)
         obtain ⟨ad321,e321,hx321_0,hx321_1,hx321_2⟩ := at_T70 HR0_6.out x4_1 p321 q321
         obtain rfl : ad310 = ad321 := (by injection e321)
         replace hx321_0 := (HB.out.cell (World.block_lt_of_cell? w _ hx321_0)).trans hx321_0
         replace hx321_1 := (HB.out.cell (World.block_lt_of_cell? w _ hx321_1)).trans hx321_1
         replace hx321_2 := (HB.out.cell (World.block_lt_of_cell? w _ hx321_2)).trans hx321_2
         replace p321 := eq_true p321
         replace q321 := eq_true q321
         try go_wp2_with (first | (at_builtin;refine Kd.R_append_str (Kd.int .u8) rfl (w0 := w) w.heap.size rfl (.tmp 39) _ 22 9 5 rfl Try.underlying22 Try.underlying9 info5 v319 y318 ((rd_T70 l0_6 x4_1).f2) (fun k_ => some k_ ≠ (.slice Ao22 t315.length co22 : Value).ownBlock) rfl rfl ?aO ?aF ?aB ?aS ?aL ?_;(case aB => exact (by repeat (first | (with_reducible first | exact HB.out | apply b1_ | apply b2_ | apply b3_ | refine below_set ?_ GE303.out) | exact HB.out)));(case aF => exact (fun k_ hk => Kd.fresh' (Kd.R_lt (by (with_reducible repeat (first | apply r1_ | apply r2_ | apply r3_));exact HO317.out)) k_ hk));(case aO => exact (by (with_reducible repeat (first | apply r1_ | apply r2_ | apply r3_));exact HO320.out));(case aS => exact (below_size (by repeat (first | (with_reducible first | exact HB.out | apply b1_ | apply b2_ | apply b3_ | refine below_set ?_ GE303.out) | exact HB.out))));(case aL => have := LMc16.out;omega);intro v323 w24 ho hb hg hat;rw [← Ny322.out] at ho;have n0_ := am_ (blk_grown (g := gb303) (o := .cells #[.bool false,.int .i64 a0_1,.int .i64 a0_2,.int .i64 a0_3,.int .i64 a0_4,.string a0_5,.slice (some ad310) l0_6.length c0_6] 41 (0,0)) (by (with_reducible repeat (first | apply k1_ | apply k2_ | apply k3_));exact BK303.out) hg (Kd.R_ne HO320.out BK303.out (by decide)));have n1_ := am_ (Kd.R_after (ok := (fun _ => True)) (by (with_reducible repeat (first | apply r1_ | apply r2_ | apply r3_));exact HO317.out) hg hat);have n2_ := am_ (hb);have n3_ := am_ (ho);clear BK303;clear HO317;clear HB;clear HO320;have BK303 := n0_;have HO317 := n1_;have HB := n2_;have HO324 := n3_;clear n0_ n1_ n2_ n3_;clear ho hb hg hat))
         go_roundg k1
         case measure => have := HK1.out;omega
         case rel => exact ⟨(y322),(wrap64 (x4_1 + 1)),(by first | rfl | (simp;done) | (simp [*];done)),H',⟨by have := HK1.out;omega⟩,⟨by (with_reducible repeat (first | apply r1_ | apply r2_ | apply r3_));exact Kd.R_mono HO324.out (fun _ hk => trivial)⟩,⟨by (with_reducible repeat (first | apply k1_ | apply k2_ | apply k3_));exact BK303.out⟩,⟨by repeat (first | (with_reducible first | exact HB.out | apply b1_ | apply b2_ | apply b3_ | refine below_set ?_ GE303.out) | exact HB.out)⟩⟩
        ·rw [if_neg c16] at H
         exact absurd H (by simp)
       ·rw [if_neg c15] at H
        exact absurd H (by simp)
      ·rw [if_neg c13] at H
       exact absurd H (by simp)
     ·rw [if_neg c12] at H
      exact absurd H (by simp)
    ·rw [if_neg c11] at H
     have c11b0 : decide (x4_1 < (l0_6.length : Int)) = false := decide_eq_false c11
     clear c11
     replace H := Option.bind_eq_some_iff.mp H
     obtain ⟨t325,A250,H⟩ := H
     try dsimp only at H
     have A25 := am_ A250
     clear A250
     by_cases c26 : x3_1.length + t325.length < 140737488355328
     ·rw [if_pos c26] at H
      have LMc26 := am_ c26
      clear c26
      obtain ⟨y328,hy328⟩ : ∃ y_ : List Int,y_ = (x3_1 ++ t325) := ⟨_,rfl⟩
      replace H : (some y328) = some r := by first | (rw [hy328];with_reducible exact H) | (have H2_ := (Option.bind_some _ _).symm.trans H;rw [hy328];with_reducible exact H2_) | (have H2_ := (Option.bind_some _ _).symm.trans H;with_reducible exact H2_) | with_reducible exact H | (rw [hy328];exact H) | exact H
      have Ny328 := am_ hy328
      clear hy328
      obtain rfl := Option.some.inj H
      obtain ⟨hcz27_0,hcz27_1,hcz27_2,hcz27_3,hcz27_4,hcz27_5,hcz27_6,hfz27_0,hfz27_1,hfz27_2,hfz27_3,hfz27_4,hfz27_5,hfz27_6⟩ := bc7_ BK303.out
      go_wp2_with (first | ((with_reducible refine gate_callee (f := 34) rfl ?_);refine goesL_ (some 50) rfl rfl Try.func34 (by kernel_rfl) rfl #[.agg #[.int .i64 a0_1,.int .i64 a0_2,.int .i64 a0_3,.int .i64 a0_4,.string a0_5]] rfl (by (try simp only [m1_,m2_,m3_]);first | done | rfl | (simp only [d1_,d2_];rfl)) ?_;(with_reducible refine (spec_l02Request.calls k1 a0_1 a0_2 a0_3 a0_4 a0_5 t325 _ A25.out).mono ?_);rintro e w28 ⟨v326,rfl,ho0,hb⟩;refine ⟨_,rfl,?_⟩;have n0_ := am_ (Kd.R_elder' (by (with_reducible repeat (first | apply r1_ | apply r2_ | apply r3_));exact HO_3.out) (Kd.R_base ho0) hb);have n1_ := am_ (Kd.R_lower (Kd.R_new' ho0 (Kd.R_lt (by (with_reducible repeat (first | apply r1_ | apply r2_ | apply r3_));exact HO_3.out))) (below_size (by repeat (first | (with_reducible first | exact HB.out | apply b1_ | apply b2_ | apply b3_ | refine below_set ?_ GE303.out) | exact HB.out))));have n2_ := am_ (blk_below (g := gb303) (o := .cells #[.bool false,.int .i64 a0_1,.int .i64 a0_2,.int .i64 a0_3,.int .i64 a0_4,.string a0_5,.slice A0_6 l0_6.length c0_6] 41 (0,0)) (by (with_reducible repeat (first | apply k1_ | apply k2_ | apply k3_));exact BK303.out) hb);have n3_ := am_ (below_step (by repeat (first | (with_reducible first | exact HB.out | apply b1_ | apply b2_ | apply b3_ | refine below_set ?_ GE303.out) | exact HB.out)) hb);clear HO_3;clear BK303;clear HB;have HO_3 := n0_;have HO327 := n1_;have BK303 := n2_;have HB := n3_;clear n0_ n1_ n2_ n3_;(try clear hb);(try clear hb2);(try clear hk);(try clear hi);(try clear ho0);obtain ⟨Ao30,co30,eo30⟩ := Kd.R_slice HO327.out;subst eo30) | ((with_reducible refine gate_builtin (b := .append) (xs := #[.tmp 47,.tmp 50]) rfl ?_);at_builtin;refine Kd.R_append_rows (Kd.int .u8) (w0 := w) w.heap.size rfl (.tmp 47) (.tmp 50) 22 5 (.int .u8 0) 1 rfl Try.underlying22 info5 rfl (by decide) (by omega) u3 x3_1 t325 _ _ _ (fun k_ => some k_ ≠ (.slice Ao30 t325.length co30 : Value).ownBlock) (fun _ => False) rfl rfl ?aO ?aR (fun _ _ h => h) (fun _ h => h.elim) ?aF ?aB ?aS ?aL ?_;(case aR => repeat (first | exact (Kd.R_reads' HO327.out).2.2 | (with_reducible refine Kd.C_alloc ?_ _) | (with_reducible refine Kd.C_drewN ?_ _) | (with_reducible refine Kd.C_drew ?_)));(case aB => exact (by repeat (first | (with_reducible first | exact HB.out | apply b1_ | apply b2_ | apply b3_ | refine below_set ?_ GE303.out) | exact HB.out)));(case aF => exact (fun k_ hk => Kd.fresh' (Kd.R_lt (by (with_reducible repeat (first | apply r1_ | apply r2_ | apply r3_));exact HO327.out)) k_ hk));(case aO => exact (by (with_reducible repeat (first | apply r1_ | apply r2_ | apply r3_));exact Kd.R_mono HO_3.out (fun _ hk => hk.2)));(case aS => exact (below_size (by repeat (first | (with_reducible first | exact HB.out | apply b1_ | apply b2_ | apply b3_ | refine below_set ?_ GE303.out) | exact HB.out))));(case aL => have := LMc26.out;omega);intro v329 w29 ho hb hg hat;rw [← Ny328.out] at ho;have n0_ := am_ (blk_grown (g := gb303) (o := .cells #[.bool false,.int .i64 a0_1,.int .i64 a0_2,.int .i64 a0_3,.int .i64 a0_4,.string a0_5,.slice A0_6 l0_6.length c0_6] 41 (0,0)) (by (with_reducible repeat (first | apply k1_ | apply k2_ | apply k3_));exact BK303.out) hg (Kd.R_ne HO_3.out BK303.out (by decide)));have n1_ := am_ (Kd.R_after (ok := (fun _ => True)) (by (with_reducible repeat (first | apply r1_ | apply r2_ | apply r3_));exact HO327.out) hg hat);have n2_ := am_ (hb);have n3_ := am_ (ho);clear BK303;clear HO327;clear HB;clear HO_3;have BK303 := n0_;have HO327 := n1_;have HB := n2_;have HO330 := n3_;clear n0_ n1_ n2_ n3_;clear ho hb hg hat))
      go_ret
      exact ⟨_,by first | rfl | (simp [e1_,e2_] <;> rfl) | (simp [*,e1_,e2_] <;> rfl) | (simp [e3_,e4_];done) | (simp [*,e3_,e4_];done),by (with_reducible repeat (first | apply r1_ | apply r2_ | apply r3_));exact Kd.R_mono HO330.out (fun _ hk => trivial),by repeat (first | (with_reducible first | exact HB.out | apply b1_ | apply b2_ | apply b3_ | refine below_set ?_ GE303.out) | exact HB.out)⟩
     ·rw [if_neg c26] at H
      exact absurd H (by simp)
def spec_l02List.T5 : Bool × List (List Nat × List Nat) := (true,[([],[]),([],[]),([],[]),([1,2],[1,2]),([3],[3]),([4],[4]),([5],[5]),([0,6,6],[0,6]),([],[]),([],[]),([8,9],[8,9]),([10],[10]),([7,11,7],[7,11]),([12,12,0,1,2,3,4,5,6,7,8,9,10,11,12],[0,12])])
def spec_l02List.B5 : List Nat := [0,0,0,6,14,30,62,127,0,0,768,1792,4095,8191]
theorem spec_l02List.tab5 : rtab .any (opsOf Try.f47 5) = spec_l02List.T5 := by kernel_rfl
theorem spec_l02List.bits5 : waitsOk spec_l02List.T5.2 spec_l02List.B5 = true := by kernel_rfl
set_option maxHeartbeats 8000000 in
set_option maxRecDepth 100000 in
theorem spec_l02List.calls (k : Nat) (A0 : Option Addr) (c0 : Nat) (l0 : List ByteArray) (r : List Int) (w : World) (hr0 : Kd.C Kd.string w A0 l0.length l0) (hc0 : l0.length ≤ c0) (h : spec_l02List.f k l0 = some r) :
  Calls Try.prog 47 #[.slice A0 l0.length c0] w fun e w' => ∃ v0_ : Value,e = .returned (v0_) ∧ Kd.R (Kd.int .u8) 5 w' w.heap.size (fun _ => True) v0_ r ∧ Below w.heap.size w w' := by
 have HR0 := am_ hr0
 have HC0 := am_ hc0
 clear hr0 hc0
 have HB := am_ (Below.refl w.heap.size w)
 have H : (spec_l02List.l0 k l0 (([((l0.length : Int)) % 256] : List Int)) 0) = some r := h
 clear h
 obtain ⟨y331,hy331⟩ : ∃ y_ : List Int,y_ = (([((l0.length : Int)) % 256] : List Int)) := ⟨_,rfl⟩
 replace H : (spec_l02List.l0 k l0 y331 0) = some r := by first | (rw [hy331];with_reducible exact H) | (have H2_ := (Option.bind_some _ _).symm.trans H;rw [hy331];with_reducible exact H2_) | (have H2_ := (Option.bind_some _ _).symm.trans H;with_reducible exact H2_) | with_reducible exact H | (rw [hy331];exact H) | exact H
 have Ny331 := am_ hy331
 clear hy331
 have H' := am_ H
 clear H
 go_enter Try.func47,Try.ntmps47
 go_wp2_with (first | ((with_reducible refine gate_dst (N := 8) rfl ?_);refine Kd.R_lit (Kd.int .u8) _ 5 ?hg (N := 8) ?hd (xs := ([((l0.length : Int)) % 256] : List Int)) (inner := [.int .u8 (((l0.length : Int)) % 256)]) (ok := fun _ => True) (okp := fun _ => True) ?hr ?hp (fun _ hk => hk) trivial (Below.refl _ _) (Nat.le_refl _) (by simp) ?_;(case hd => rfl);(case hg => rfl);(case hr => first | (go_simp;done) | (go_simp;rfl));(case hp => exact (Reps.one (show Kd.M (Kd.int .u8) _ _ _ (((l0.length : Int)) % 256) [.int .u8 (((l0.length : Int)) % 256)] from rfl) (Reps.none _ _)));intro v332 w2 ho3 hb hg_ hnew_;clear hg_ hnew_;(first | rw [← Ny331.out] at ho3 | (simp only [Int.reduceToNat] at ho3;rw [← Ny331.out] at ho3));have n0_ := am_ (Kd.R_lower ho3 (below_size (by repeat (first | (with_reducible first | exact HB.out | apply b1_ | apply b2_ | apply b3_) | exact HB.out))));have n1_ := am_ (below_step (by repeat (first | (with_reducible first | exact HB.out | apply b1_ | apply b2_ | apply b3_) | exact HB.out)) hb);clear HB;have HO333 := n0_;have HB := n1_;clear n0_ n1_;clear hb ho3))
 go_loopg [3,4] k (fun kq v3 v4 w' => ∃ (x3_1 : List Int) (x4_1 : Int),v4 = .int .i64 x4_1 ∧ Aside0 (spec_l02List.l0 kq l0 x3_1 x4_1 = some r) ∧ Aside0 (kq ≤ k) ∧ Aside0 (Kd.R (Kd.int .u8) 5 w' w.heap.size (fun _ => True) v3 x3_1) ∧ Aside0 (Below w.heap.size w w'))
 case atStart => exact ⟨(y331),(0),(by first | rfl | (simp;done) | (simp [*];done)),H',⟨Nat.le_refl _⟩,⟨by (with_reducible repeat (first | apply r1_ | apply r2_ | apply r3_));exact HO333.out⟩,⟨by repeat (first | (with_reducible first | exact HB.out | apply b1_ | apply b2_ | apply b3_) | exact HB.out)⟩⟩
 case round =>
  clear H'
  try clear p2
  obtain ⟨x3_1,x4_1,rfl,HA,HK1,HO_3,HB⟩ := hrel
  cases gk with
  | zero => exact absurd HA.out (by simp [spec_l02List.l0])
  | succ k1 =>
   have H := HA.out
   clear HA
   simp only [spec_l02List.l0] at H
   by_cases c4 : x4_1 < (l0.length : Int)
   ·rw [if_pos c4] at H
    have c4b0 : decide (x4_1 < (l0.length : Int)) = true := decide_eq_true c4
    clear c4
    by_cases c5 : 0 ≤ x4_1
    ·rw [if_pos c5] at H
     have c5b0 : decide (0 ≤ x4_1) = true := decide_eq_true c5
     clear c5
     replace H := Option.bind_eq_some_iff.mp H
     obtain ⟨t335,A60,H⟩ := H
     try dsimp only at H
     have A6 := am_ A60
     clear A60
     by_cases c7 : x3_1.length + t335.length < 140737488355328
     ·rw [if_pos c7] at H
      have LMc7 := am_ c7
      clear c7
      obtain ⟨y338,hy338⟩ : ∃ y_ : List Int,y_ = (x3_1 ++ t335) := ⟨_,rfl⟩
      replace H : (if y338.length + (rdOf ByteArray.empty l0 x4_1).size < 140737488355328 then (spec_l02List.l0 k1 l0 (y338 ++ bytesOf (rdOf ByteArray.empty l0 x4_1)) (wrap64 (x4_1 + 1))) else (none)) = some r := by first | (rw [hy338];with_reducible exact H) | (have H2_ := (Option.bind_some _ _).symm.trans H;rw [hy338];with_reducible exact H2_) | (have H2_ := (Option.bind_some _ _).symm.trans H;with_reducible exact H2_) | with_reducible exact H | (rw [hy338];exact H) | exact H
      have Ny338 := am_ hy338
      clear hy338
      by_cases c8 : y338.length + (rdOf ByteArray.empty l0 x4_1).size < 140737488355328
      ·rw [if_pos c8] at H
       have LMc8 := am_ c8
       clear c8
       obtain ⟨y342,hy342⟩ : ∃ y_ : List Int,y_ = (y338 ++ bytesOf (rdOf ByteArray.empty l0 x4_1)) := ⟨_,rfl⟩
       replace H : (spec_l02List.l0 k1 l0 y342 (wrap64 (x4_1 + 1))) = some r := by first | (rw [hy342];with_reducible exact H) | (have H2_ := (Option.bind_some _ _).symm.trans H;rw [hy342];with_reducible exact H2_) | (have H2_ := (Option.bind_some _ _).symm.trans H;with_reducible exact H2_) | with_reducible exact H | (rw [hy342];exact H) | exact H
       have Ny342 := am_ hy342
       clear hy342
       have H' := am_ H
       clear H
       try go_wp2
       have n0_ := am_ (Kd.R_drew HO_3.out)
       have n1_ := am_ (below_drew1 HB.out)
       clear HO_3
       clear HB
       have HO_3 := n0_
       have HB := n1_
       clear n0_ n1_
       have p334 : 0 ≤ (x4_1 : Int) := o1_ (by first | (with_reducible assumption) | assumption)
       have q334 : x4_1 < (l0.length : Int) := o1_ (by first | (with_reducible assumption) | assumption)
       obtain ⟨ad334,e334,hx334_0⟩ := Kd.at_string HR0.out x4_1 p334 q334
       have hw334_0 := hx334_0
       cases e334
       replace hx334_0 := (HB.out.cell (World.block_lt_of_cell? w _ hx334_0)).trans hx334_0
       replace p334 := eq_true p334
       replace q334 := eq_true q334
       have p341 : 0 ≤ (x4_1 : Int) := o1_ (by first | (with_reducible assumption) | assumption)
       have q341 : x4_1 < (l0.length : Int) := o1_ (by first | (with_reducible assumption) | assumption)
       obtain ⟨ad341,e341,hx341_0⟩ := Kd.at_string HR0.out x4_1 p341 q341
       have hw341_0 := hx341_0
       obtain rfl : ad334 = ad341 := (by injection e341)
       replace hx341_0 := (HB.out.cell (World.block_lt_of_cell? w _ hx341_0)).trans hx341_0
       replace p341 := eq_true p341
       replace q341 := eq_true q341
       refine start_ (n := 14) (S := fun w' => w'.cell? (ad334.add (x4_1).toNat) = some (.string (rdOf ByteArray.empty l0 x4_1)) ∧ w'.cell? (ad334.add (x4_1).toNat) = some (.string (rdOf ByteArray.empty l0 x4_1))) (ds := []) #[false,false,false,false,false,false,false,false,false,false,false,false,false,false] (by kernel_rfl) rfl rfl ⟨((HB.out.cell (World.block_lt_of_cell? w _ hw334_0)).trans hw334_0),((HB.out.cell (World.block_lt_of_cell? w _ hw341_0)).trans hw341_0)⟩ (fun hHeld => ?_);refine with_tabW spec_l02List.tab5 spec_l02List.bits5 (fun HT_ HW_ => ?_)
       generalize wr.drew = w9 at HO_3 HB hx334_0 hx341_0 hHeld ⊢
       refine pure_ (i := 0) (N := some 15) (v := ?_) (a' := ?_) #[true,false,false,false,false,false,false,false,false,false,false,false,false,false] rfl rfl (any_of HT_.out (by kernel_rfl)) (fun _ _ _ h => h) (Or.inl ⟨by rfl,?_⟩) ?_ ?_
       rotate_left
       ·intro w'
        go_simp
        with_reducible rfl
       rotate_left
       ·simp only [Act.put,p1_,p2_,p3_,i64_w,i32_w]
        rfl
       refine pure_ (i := 1) (N := some 16) (v := ?_) (a' := ?_) #[true,true,false,false,false,false,false,false,false,false,false,false,false,false] rfl rfl (any_of HT_.out (by kernel_rfl)) (fun _ _ _ h => h) (Or.inl ⟨by rfl,?_⟩) ?_ ?_
       rotate_left
       ·intro w'
        go_simp
        with_reducible rfl
       rotate_left
       ·simp only [Act.put,p1_,p2_,p3_,i64_w,i32_w]
        rfl
       refine pure_ (i := 2) (N := some 17) (v := ?_) (a' := ?_) #[true,true,true,false,false,false,false,false,false,false,false,false,false,false] rfl rfl (any_of HT_.out (by kernel_rfl)) (fun _ _ _ h => h) (Or.inl ⟨by rfl,?_⟩) ?_ ?_
       rotate_left
       ·intro w'
        go_simp
        with_reducible rfl
       rotate_left
       ·simp only [Act.put,p1_,p2_,p3_,i64_w,i32_w]
        rfl
       refine pure_ (i := 3) (N := some 18) (v := ?_) (a' := ?_) #[true,true,true,true,false,false,false,false,false,false,false,false,false,false] rfl rfl (any_of HT_.out (by kernel_rfl)) (fun _ _ _ h => h) (Or.inl ⟨by rfl,?_⟩) ?_ ?_
       rotate_left
       ·intro w'
        go_simp
        with_reducible rfl
       rotate_left
       ·simp only [Act.put,p1_,p2_,p3_,i64_w,i32_w]
        rfl
       refine pure_ (i := 8) (N := some 23) (v := ?_) (a' := ?_) #[true,true,true,true,false,false,false,false,true,false,false,false,false,false] rfl rfl (any_of HT_.out (by kernel_rfl)) (fun _ _ _ h => h) (Or.inl ⟨by rfl,?_⟩) ?_ ?_
       rotate_left
       ·intro w'
        go_simp
        with_reducible rfl
       rotate_left
       ·simp only [Act.put,p1_,p2_,p3_,i64_w,i32_w]
        rfl
       refine pure_ (i := 9) (N := some 24) (v := ?_) (a' := ?_) #[true,true,true,true,false,false,false,false,true,true,false,false,false,false] rfl rfl (any_of HT_.out (by kernel_rfl)) (fun _ _ _ h => h) (Or.inl ⟨by rfl,?_⟩) ?_ ?_
       rotate_left
       ·intro w'
        go_simp
        with_reducible rfl
       rotate_left
       ·simp only [Act.put,p1_,p2_,p3_,i64_w,i32_w]
        rfl
       refine pure_ (i := 10) (N := some 25) (v := ?_) (a' := ?_) #[true,true,true,true,false,false,false,false,true,true,true,false,false,false] rfl rfl (any_of HT_.out (by kernel_rfl)) (fun _ _ _ h => h) (Or.inl ⟨by rfl,?_⟩) ?_ ?_
       rotate_left
       ·intro w'
        go_simp
        with_reducible rfl
       rotate_left
       ·simp only [Act.put,p1_,p2_,p3_,i64_w,i32_w]
        rfl
       refine take_ (i := 4) (N := some 19) (v := ?_) (a' := ?_) #[true,true,true,true,true,false,false,false,true,true,true,false,false,false] rfl rfl (take_ofW HT_.out HW_.out (by kernel_rfl)) (fun _ _ _ h => h) (Or.inl ⟨by rfl,?_⟩) hHeld ?_ ?_
       rotate_left
       ·rintro w' ⟨s0,s1⟩
        go_simp
        with_reducible rfl
       rotate_left
       ·simp only [Act.put,p1_,p2_,p3_,i64_w,i32_w]
        rfl
       refine pure_ (i := 5) (N := some 20) (v := ?_) (a' := ?_) #[true,true,true,true,true,true,false,false,true,true,true,false,false,false] rfl rfl (any_of HT_.out (by kernel_rfl)) (fun _ _ _ h => h) (Or.inl ⟨by rfl,?_⟩) ?_ ?_
       rotate_left
       ·intro w'
        go_simp
        with_reducible rfl
       rotate_left
       ·simp only [Act.put,p1_,p2_,p3_,i64_w,i32_w]
        rfl
       refine take_ (i := 11) (N := some 26) (v := ?_) (a' := ?_) #[true,true,true,true,true,true,false,false,true,true,true,true,false,false] rfl rfl (take_ofW HT_.out HW_.out (by kernel_rfl)) (fun _ _ _ h => h) (Or.inl ⟨by rfl,?_⟩) hHeld ?_ ?_
       rotate_left
       ·rintro w' ⟨s0,s1⟩
        go_simp
        with_reducible rfl
       rotate_left
       ·simp only [Act.put,p1_,p2_,p3_,i64_w,i32_w]
        rfl
       refine one_ (i := 6) (N := some 21) #[true,true,true,true,true,true,true,false,true,true,true,true,false,false] rfl rfl (one_of HT_.out (by kernel_rfl)) (by decide) (fun K hK => ?_)
       refine goes_ Try.func58 (by kernel_rfl) rfl #[.int .i64 ((rdOf ByteArray.empty l0 x4_1).size : Int),.int .i64 2] (by rfl) rfl rfl (by (try simp only [m1_,m2_,m3_]);first | done | rfl | (simp only [d1_,d2_];rfl)) ?_
       with_reducible refine (spec_l02Number.calls k1 ((rdOf ByteArray.empty l0 x4_1).size : Int) 2 t335 _ A6.out).mono ?_
       rintro e w10 ⟨v336,rfl,ho0,hb⟩
       refine ⟨_,rfl,?_⟩
       have n0_ := am_ (Kd.R_elder' (by (with_reducible repeat (first | apply r1_ | apply r2_ | apply r3_));exact HO_3.out) (Kd.R_base ho0) hb)
       have n1_ := am_ (Kd.R_lower (Kd.R_new' ho0 (Kd.R_lt (by (with_reducible repeat (first | apply r1_ | apply r2_ | apply r3_));exact HO_3.out))) (below_size (by repeat (first | (with_reducible first | exact HB.out | apply b1_ | apply b2_ | apply b3_) | exact HB.out))))
       have n2_ := am_ (below_step (by repeat (first | (with_reducible first | exact HB.out | apply b1_ | apply b2_ | apply b3_) | exact HB.out)) hb)
       clear HO_3
       clear HB
       have HO_3 := n0_
       have HO337 := n1_
       have HB := n2_
       clear n0_ n1_ n2_
       (try clear hb)
       (try clear hb2)
       (try clear hk)
       (try clear hi)
       (try clear ho0)
       obtain ⟨Ao12,co12,eo12⟩ := Kd.R_slice HO337.out
       (first | subst eo12 | (injection eo12 with f1_ f2_ f3_;have f4_ := f1_.symm;have f5_ := f3_.symm;clear f1_ f2_ f3_;subst f4_;subst f5_))
       refine hK.out _ _ ⟨((HB.out.cell (World.block_lt_of_cell? w _ hw334_0)).trans hw334_0),((HB.out.cell (World.block_lt_of_cell? w _ hw341_0)).trans hw341_0)⟩ (fun hHeld => ?_)
       clear hK K
       refine norm_ (a' := ?_) ?_ ?_
       rotate_left
       ·show Act.put _ (some 21) _ = _
        simp only [Act.put,p1_,p2_,p3_,i64_w,i32_w]
        rfl
       refine one_ (i := 7) (N := some 22) #[true,true,true,true,true,true,true,true,true,true,true,true,false,false] rfl rfl (one_of HT_.out (by kernel_rfl)) (by decide) (fun K hK => ?_)
       refine Kd.R_append_rows_step (Kd.int .u8) (w0 := w) w.heap.size (by rfl) (.tmp 15) (.tmp 21) 22 5 (.int .u8 0) 1 rfl Try.underlying22 info5 rfl (by decide) (by omega) u3 x3_1 t335 _ _ _ (fun k_ => some k_ ≠ (.slice Ao12 t335.length co12 : Value).ownBlock) (fun _ => False) rfl rfl ?aO ?aR (fun _ _ h => h) (fun _ h => h.elim) ?aF ?aB ?aS ?aL ?_
       (case aR => repeat (first | exact (Kd.R_reads' HO337.out).2.2 | (with_reducible refine Kd.C_alloc ?_ _) | (with_reducible refine Kd.C_drewN ?_ _) | (with_reducible refine Kd.C_drew ?_)))
       (case aB => exact (by repeat (first | (with_reducible first | exact HB.out | apply b1_ | apply b2_ | apply b3_) | exact HB.out)))
       (case aF => exact (fun k_ hk => Kd.fresh' (Kd.R_lt (by (with_reducible repeat (first | apply r1_ | apply r2_ | apply r3_));exact HO337.out)) k_ hk))
       (case aO => exact (by (with_reducible repeat (first | apply r1_ | apply r2_ | apply r3_));exact Kd.R_mono HO_3.out (fun _ hk => hk.2)))
       (case aS => exact (below_size (by repeat (first | (with_reducible first | exact HB.out | apply b1_ | apply b2_ | apply b3_) | exact HB.out))))
       (case aL => have := LMc7.out;omega)
       intro v339 w11 ho hb hg hat
       rw [← Ny338.out] at ho
       have n0_ := am_ (Kd.R_after (ok := (fun _ => True)) (by (with_reducible repeat (first | apply r1_ | apply r2_ | apply r3_));exact HO337.out) hg hat)
       have n1_ := am_ (hb)
       have n2_ := am_ (ho)
       clear HO337
       clear HB
       clear HO_3
       have HO337 := n0_
       have HB := n1_
       have HO340 := n2_
       clear n0_ n1_ n2_
       clear ho hb hg hat
       refine hK.out _ _ ⟨((HB.out.cell (World.block_lt_of_cell? w _ hw334_0)).trans hw334_0),((HB.out.cell (World.block_lt_of_cell? w _ hw341_0)).trans hw341_0)⟩ (fun hHeld => ?_)
       clear hK K
       refine norm_ (a' := ?_) ?_ ?_
       rotate_left
       ·show Act.put _ (some 22) _ = _
        simp only [Act.put,p1_,p2_,p3_,i64_w,i32_w]
        rfl
       refine one_ (i := 12) (N := some 27) #[true,true,true,true,true,true,true,true,true,true,true,true,true,false] rfl rfl (one_of HT_.out (by kernel_rfl)) (by decide) (fun K hK => ?_)
       refine Kd.R_append_str_step (Kd.int .u8) rfl (w0 := w) w.heap.size (by rfl) (.tmp 22) _ 22 9 5 rfl Try.underlying22 Try.underlying9 info5 v339 y338 (rdOf ByteArray.empty l0 x4_1) (fun k_ => some k_ ≠ (.slice Ao12 t335.length co12 : Value).ownBlock) rfl rfl ?aO ?aF ?aB ?aS ?aL ?_
       (case aB => exact (by repeat (first | (with_reducible first | exact HB.out | apply b1_ | apply b2_ | apply b3_) | exact HB.out)))
       (case aF => exact (fun k_ hk => Kd.fresh' (Kd.R_lt (by (with_reducible repeat (first | apply r1_ | apply r2_ | apply r3_));exact HO337.out)) k_ hk))
       (case aO => exact (by (with_reducible repeat (first | apply r1_ | apply r2_ | apply r3_));exact HO340.out))
       (case aS => exact (below_size (by repeat (first | (with_reducible first | exact HB.out | apply b1_ | apply b2_ | apply b3_) | exact HB.out))))
       (case aL => have := LMc8.out;omega)
       intro v343 w13 ho hb hg hat
       rw [← Ny342.out] at ho
       have n0_ := am_ (Kd.R_after (ok := (fun _ => True)) (by (with_reducible repeat (first | apply r1_ | apply r2_ | apply r3_));exact HO337.out) hg hat)
       have n1_ := am_ (hb)
       have n2_ := am_ (ho)
       clear HO337
       clear HB
       clear HO340
       have HO337 := n0_
       have HB := n1_
       have HO344 := n2_
       clear n0_ n1_ n2_
       clear ho hb hg hat
       refine hK.out _ _ ⟨((HB.out.cell (World.block_lt_of_cell? w _ hw334_0)).trans hw334_0),((HB.out.cell (World.block_lt_of_cell? w _ hw341_0)).trans hw341_0)⟩ (fun hHeld => ?_)
       clear hK K
       refine norm_ (a' := ?_) ?_ ?_
       rotate_left
       ·show Act.put _ (some 27) _ = _
        simp only [Act.put,p1_,p2_,p3_,i64_w,i32_w]
        rfl
       refine pure_ (i := 13) (N := some 3) (v := ?_) (a' := ?_) #[true,true,true,true,true,true,true,true,true,true,true,true,true,true] rfl rfl (any_of HT_.out (by kernel_rfl)) (fun _ _ _ h => h) (Or.inl ⟨by rfl,?_⟩) ?_ ?_
       rotate_left
       ·intro w'
        go_simp
        with_reducible rfl
       rotate_left
       ·simp only [Act.put,p1_,p2_,p3_,i64_w,i32_w]
        rfl
       refine done_ (done_of HT_.out (by kernel_rfl)) ?_
       try go_wp2
       go_roundg k1
       case measure => have := HK1.out;omega
       case rel => exact ⟨(y342),(wrap64 (x4_1 + 1)),(by first | rfl | (simp;done) | (simp [*];done)),H',⟨by have := HK1.out;omega⟩,⟨by (with_reducible repeat (first | apply r1_ | apply r2_ | apply r3_));exact Kd.R_mono HO344.out (fun _ hk => trivial)⟩,⟨by repeat (first | (with_reducible first | exact HB.out | apply b1_ | apply b2_ | apply b3_) | exact HB.out)⟩⟩
      ·rw [if_neg c8] at H
       exact absurd H (by simp)
     ·rw [if_neg c7] at H
      exact absurd H (by simp)
    ·rw [if_neg c5] at H
     exact absurd H (by simp)
   ·rw [if_neg c4] at H
    have c4b0 : decide (x4_1 < (l0.length : Int)) = false := decide_eq_false c4
    clear c4
    obtain rfl := Option.some.inj H
    go_wp2
    go_ret
    exact ⟨_,by first | rfl | (simp [e1_,e2_] <;> rfl) | (simp [*,e1_,e2_] <;> rfl) | (simp [e3_,e4_];done) | (simp [*,e3_,e4_];done),by (with_reducible repeat (first | apply r1_ | apply r2_ | apply r3_));exact HO_3.out,by repeat (first | (with_reducible first | exact HB.out | apply b1_ | apply b2_ | apply b3_) | exact HB.out)⟩
end Go.Proofs.Ytdpdbegglkdgnaa.A
end
