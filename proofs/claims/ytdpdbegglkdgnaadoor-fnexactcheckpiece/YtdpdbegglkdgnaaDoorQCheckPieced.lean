/- A part of the proof that FnExactCheckPiece returns true at every input: plain functions, contracts and lemmas. No conditions. -/
import Derived.Test.YtdpdbegglkdgnaaDoorQCheckPiecec
set_option linter.unusedVariables false
set_option linter.unusedSimpArgs false
set_option linter.unusedSectionVars false
section
namespace Go.Proofs.YtdpdbegglkdgnaaDoor.A
open Go.RowKit Go.Proofs.YtdpdbegglkdgnaaDoorW.PrintWords Go.Proofs.YtdpdbegglkdgnaaDoorW.PrintLast Go.Proofs.YtdpdbegglkdgnaaDoorW.PrintMore
attribute [local go_sem] max2_int min2_int max_two min_two max_three min_three max_four min_four
def spec_l01Hash.T18 : Bool × List (List Nat × List Nat) := (true,[([],[]),([],[]),([],[]),([1,2],[1,2]),([3],[3]),([4],[4]),([5],[5]),([],[]),([],[]),([7,8],[7,8]),([9],[9]),([10],[10]),([11],[11]),([],[]),([],[]),([13,14],[13,14]),([15],[15]),([16],[16]),([17],[17]),([],[]),([],[]),([19,20],[19,20]),([21],[21]),([22],[22]),([6,12,18,23],[6,12,18,23]),([0,24],[0,24]),([25,25,0,1,2,3,4,5,6,7,8,9,10,11,12,13,14,15,16,17,18,19,20,21,22,23,24,25],[0,25])])
def spec_l01Hash.B18 : List Nat := [0,0,0,6,14,30,62,0,0,384,896,1920,3968,0,0,24576,57344,122880,253952,0,0,1572864,3670016,7864320,16777214,33554431,67108863]
theorem spec_l01Hash.tab18 : rtab .any (opsOf Tryd.f83 18) = spec_l01Hash.T18 := by kernel_rfl
theorem spec_l01Hash.bits18 : waitsOk spec_l01Hash.T18.2 spec_l01Hash.B18 = true := by kernel_rfl
set_option maxHeartbeats 8000000 in
set_option maxRecDepth 100000 in
theorem spec_l01Hash.calls (k : Nat) (A0 : Option Addr) (c0 : Nat) (l0 : List Int) (r : ByteArray) (w : World) (hr0 : Kd.C (Kd.int .u8) w A0 l0.length l0) (hc0 : l0.length ≤ c0) (h : spec_l01Hash.f k l0 = some r) :
  Calls Tryd.prog 83 #[.slice A0 l0.length c0] w fun e w' => e = .returned (.string r) ∧ Below w.heap.size w w' := by
 have HR0 := am_ hr0
 have HC0 := am_ hc0
 clear hr0 hc0
 have HB := am_ (Below.refl w.heap.size w)
 have H : ((some (([] : List Int) : List Int)).bind fun y160 => (if y160.length + l0.length < 140737488355328 then ((some (y160 ++ l0 : List Int)).bind fun y163 => (if y163.length < 140737488355328 then (spec_l01Hash.l0 k l0 (([1779033703,3144134277,1013904242,2773480762,1359893119,2600822924,528734635,1541459225] : List Int)) (y163 ++ [128])) else (none))) else (none))) = some r := h
 clear h
 obtain ⟨y157,hy157⟩ : ∃ y_ : List Int,y_ = (([1779033703,3144134277,1013904242,2773480762,1359893119,2600822924,528734635,1541459225] : List Int)) := ⟨_,rfl⟩
 replace H : ((some (([] : List Int) : List Int)).bind fun y160 => (if y160.length + l0.length < 140737488355328 then ((some (y160 ++ l0 : List Int)).bind fun y163 => (if y163.length < 140737488355328 then (spec_l01Hash.l0 k l0 y157 (y163 ++ [128])) else (none))) else (none))) = some r := by first | (rw [hy157];with_reducible exact H) | (have H2_ := (Option.bind_some _ _).symm.trans H;rw [hy157];with_reducible exact H2_) | (have H2_ := (Option.bind_some _ _).symm.trans H;with_reducible exact H2_) | with_reducible exact H | (rw [hy157];exact H) | exact H
 have Ny157 := am_ hy157
 clear hy157
 obtain ⟨y160,hy160⟩ : ∃ y_ : List Int,y_ = (([] : List Int)) := ⟨_,rfl⟩
 replace H : (if y160.length + l0.length < 140737488355328 then ((some (y160 ++ l0 : List Int)).bind fun y163 => (if y163.length < 140737488355328 then (spec_l01Hash.l0 k l0 y157 (y163 ++ [128])) else (none))) else (none)) = some r := by first | (rw [hy160];with_reducible exact H) | (have H2_ := (Option.bind_some _ _).symm.trans H;rw [hy160];with_reducible exact H2_) | (have H2_ := (Option.bind_some _ _).symm.trans H;with_reducible exact H2_) | with_reducible exact H | (rw [hy160];exact H) | exact H
 have Ny160 := am_ hy160
 clear hy160
 by_cases c2 : y160.length + l0.length < 140737488355328
 ·rw [if_pos c2] at H
  have LMc2 := am_ c2
  clear c2
  obtain ⟨y163,hy163⟩ : ∃ y_ : List Int,y_ = (y160 ++ l0) := ⟨_,rfl⟩
  replace H : (if y163.length < 140737488355328 then (spec_l01Hash.l0 k l0 y157 (y163 ++ [128])) else (none)) = some r := by first | (rw [hy163];with_reducible exact H) | (have H2_ := (Option.bind_some _ _).symm.trans H;rw [hy163];with_reducible exact H2_) | (have H2_ := (Option.bind_some _ _).symm.trans H;with_reducible exact H2_) | with_reducible exact H | (rw [hy163];exact H) | exact H
  have Ny163 := am_ hy163
  clear hy163
  by_cases c3 : y163.length < 140737488355328
  ·rw [if_pos c3] at H
   have LMc3 := am_ c3
   clear c3
   obtain ⟨y166,hy166⟩ : ∃ y_ : List Int,y_ = (y163 ++ [128]) := ⟨_,rfl⟩
   replace H : (spec_l01Hash.l0 k l0 y157 y166) = some r := by first | (rw [hy166];with_reducible exact H) | (have H2_ := (Option.bind_some _ _).symm.trans H;rw [hy166];with_reducible exact H2_) | (have H2_ := (Option.bind_some _ _).symm.trans H;with_reducible exact H2_) | with_reducible exact H | (rw [hy166];exact H) | exact H
   have Ny166 := am_ hy166
   clear hy166
   have H' := am_ H
   clear H
   go_enter Tryd.func83,Tryd.ntmps83
   go_wp2_with (first | ((with_reducible refine gate_dst (N := 10) rfl ?_);refine Kd.R_lit (Kd.int .u32) _ 117 ?hg (N := 10) ?hd (xs := ([1779033703,3144134277,1013904242,2773480762,1359893119,2600822924,528734635,1541459225] : List Int)) (inner := [.int .u32 1779033703,.int .u32 3144134277,.int .u32 1013904242,.int .u32 2773480762,.int .u32 1359893119,.int .u32 2600822924,.int .u32 528734635,.int .u32 1541459225]) (ok := fun _ => True) (okp := fun _ => True) ?hr ?hp (fun _ hk => hk) trivial (Below.refl _ _) (Nat.le_refl _) (by simp) ?_;(case hd => rfl);(case hg => rfl);(case hr => first | (go_simp;done) | (go_simp;rfl));(case hp => exact (Reps.one (show Kd.M (Kd.int .u32) _ _ _ 1779033703 [.int .u32 1779033703] from rfl) (Reps.one (show Kd.M (Kd.int .u32) _ _ _ 3144134277 [.int .u32 3144134277] from rfl) (Reps.one (show Kd.M (Kd.int .u32) _ _ _ 1013904242 [.int .u32 1013904242] from rfl) (Reps.one (show Kd.M (Kd.int .u32) _ _ _ 2773480762 [.int .u32 2773480762] from rfl) (Reps.one (show Kd.M (Kd.int .u32) _ _ _ 1359893119 [.int .u32 1359893119] from rfl) (Reps.one (show Kd.M (Kd.int .u32) _ _ _ 2600822924 [.int .u32 2600822924] from rfl) (Reps.one (show Kd.M (Kd.int .u32) _ _ _ 528734635 [.int .u32 528734635] from rfl) (Reps.one (show Kd.M (Kd.int .u32) _ _ _ 1541459225 [.int .u32 1541459225] from rfl) (Reps.none _ _))))))))));intro v158 w4 ho5 hb hg_ hnew_;clear hg_ hnew_;(first | rw [← Ny157.out] at ho5 | (simp only [Int.reduceToNat] at ho5;rw [← Ny157.out] at ho5));have n0_ := am_ (Kd.R_lower ho5 (below_size (by repeat (first | (with_reducible first | exact HB.out | apply b1_ | apply b2_ | apply b3_) | exact HB.out))));have n1_ := am_ (below_step (by repeat (first | (with_reducible first | exact HB.out | apply b1_ | apply b2_ | apply b3_) | exact HB.out)) hb);clear HB;have HO159 := n0_;have HB := n1_;clear n0_ n1_;clear hb ho5) | ((with_reducible refine gate_dst (N := 11) rfl ?_);refine Kd.R_lit (Kd.int .u8) _ 5 ?hg (N := 11) ?hd (xs := ([] : List Int)) (inner := []) (ok := fun _ => True) (okp := fun _ => True) ?hr ?hp (fun _ hk => hk) trivial (Below.refl _ _) (Nat.le_refl _) (by simp) ?_;(case hd => rfl);(case hg => rfl);(case hr => first | (go_simp;done) | (go_simp;rfl));(case hp => exact (Reps.none _ _));intro v161 w6 ho7 hb hg_ hnew_;clear hg_ hnew_;(first | rw [← Ny160.out] at ho7 | (simp only [Int.reduceToNat] at ho7;rw [← Ny160.out] at ho7));have n0_ := am_ (Kd.R_below (by (with_reducible repeat (first | apply r1_ | apply r2_ | apply r3_));exact HO159.out) hb);have n1_ := am_ (Kd.R_lower ho7 (below_size (by repeat (first | (with_reducible first | exact HB.out | apply b1_ | apply b2_ | apply b3_) | exact HB.out))));have n2_ := am_ (below_step (by repeat (first | (with_reducible first | exact HB.out | apply b1_ | apply b2_ | apply b3_) | exact HB.out)) hb);clear HO159;clear HB;have HO159 := n0_;have HO162 := n1_;have HB := n2_;clear n0_ n1_ n2_;clear hb ho7) | ((with_reducible refine gate_builtin (b := .append) (xs := #[.tmp 11,.tmp 12]) rfl ?_);at_builtin;refine Kd.R_append_rows (Kd.int .u8) (w0 := w) w.heap.size rfl (.tmp 11) (.tmp 12) 94 5 (.int .u8 0) 1 rfl Tryd.underlying94 info5 rfl (by decide) (by omega) v161 y160 l0 _ _ _ (fun _ => True) (fun _ => False) rfl rfl ?aO ?aR (fun _ _ h => h) (fun _ h => h.elim) ?aF ?aB ?aS ?aL ?_;(case aR => repeat (first | exact (Kd.C_below HR0.out HB.out) | (with_reducible refine Kd.C_alloc ?_ _) | (with_reducible refine Kd.C_drewN ?_ _) | (with_reducible refine Kd.C_drew ?_)));(case aB => exact (by repeat (first | (with_reducible first | exact HB.out | apply b1_ | apply b2_ | apply b3_) | exact HB.out)));(case aF => exact (fun _ _ => trivial));(case aO => exact (by (with_reducible repeat (first | apply r1_ | apply r2_ | apply r3_));exact HO162.out));(case aS => exact (below_size (by repeat (first | (with_reducible first | exact HB.out | apply b1_ | apply b2_ | apply b3_) | exact HB.out))));(case aL => have := LMc2.out;omega);intro v164 w8 ho hb hg hat;rw [← Ny163.out] at ho;have n0_ := am_ (Kd.R_over' (by (with_reducible repeat (first | apply r1_ | apply r2_ | apply r3_));exact HO159.out) (Kd.R_typed (by (with_reducible repeat (first | apply r1_ | apply r2_ | apply r3_));exact HO162.out)) (by decide) hg);have n1_ := am_ (hb);have n2_ := am_ (ho);clear HO159;clear HB;clear HO162;have HO159 := n0_;have HB := n1_;have HO165 := n2_;clear n0_ n1_ n2_;clear ho hb hg hat) | ((with_reducible refine gate_builtin (b := .append) (xs := #[.tmp 13,.tmp 14]) rfl ?_);at_builtin;refine Kd.R_append (Kd.int .u8) (w0 := w) w.heap.size rfl (.tmp 13) (.tmp 14) 94 5 (.int .u8 0) 1 rfl Tryd.underlying94 info5 rfl (by decide) (by omega) v164 y163 128 [.int .u8 128] (fun _ => True) (fun _ => False) rfl rfl ?aP (fun _ hk => hk.elim) ?aF ?aO ?aB ?aS ?aL ?_;(case aP => exact rfl);(case aB => exact (by repeat (first | (with_reducible first | exact HB.out | apply b1_ | apply b2_ | apply b3_) | exact HB.out)));(case aF => exact (fun _ _ => trivial));(case aO => exact (by (with_reducible repeat (first | apply r1_ | apply r2_ | apply r3_));exact HO165.out));(case aS => exact (below_size (by repeat (first | (with_reducible first | exact HB.out | apply b1_ | apply b2_ | apply b3_) | exact HB.out))));(case aL => have := LMc3.out;omega);intro v167 w9 ho hb hg hat;rw [← Ny166.out] at ho;have n0_ := am_ (Kd.R_over' (by (with_reducible repeat (first | apply r1_ | apply r2_ | apply r3_));exact HO159.out) (Kd.R_typed (by (with_reducible repeat (first | apply r1_ | apply r2_ | apply r3_));exact HO165.out)) (by decide) hg);have n1_ := am_ (hb);have n2_ := am_ (ho);clear HO159;clear HB;clear HO165;have HO159 := n0_;have HB := n1_;have HO168 := n2_;clear n0_ n1_ n2_;clear ho hb hg hat))
   go_loopg [4] k (fun kq v4 w' => ∃ (x4_1 : List Int),Aside0 (spec_l01Hash.l0 kq l0 y157 x4_1 = some r) ∧ Aside0 (kq ≤ k) ∧ Aside0 (Kd.R (Kd.int .u32) 117 w' w.heap.size (fun _ => True) v158 y157) ∧ Aside0 (Kd.R (Kd.int .u8) 5 w' w.heap.size (fun _ => True) v4 x4_1) ∧ Aside0 (Below w.heap.size w w'))
   case atStart => exact ⟨(y166),H',⟨Nat.le_refl _⟩,⟨by (with_reducible repeat (first | apply r1_ | apply r2_ | apply r3_));exact HO159.out⟩,⟨by (with_reducible repeat (first | apply r1_ | apply r2_ | apply r3_));exact HO168.out⟩,⟨by repeat (first | (with_reducible first | exact HB.out | apply b1_ | apply b2_ | apply b3_) | exact HB.out)⟩⟩
   case round =>
    clear H'
    try clear c2
    try clear p2
    try clear c3
    try clear c8
    obtain ⟨x4_1,HA,HK1,HO_3,HO_4,HB⟩ := hrel
    cases gk with
    | zero => exact absurd HA.out (by simp [spec_l01Hash.l0])
    | succ k1 =>
     have H := HA.out
     clear HA
     simp only [spec_l01Hash.l0] at H
     by_cases c10 : ((x4_1.length : Int) % 64) = 56
     ·rw [if_pos c10] at H
      have c10b0 : (((x4_1.length : Int) % 64) == 56) = true := beq_iff_eq.mpr c10
      have c10b1 : (((x4_1.length : Int) % 64) != 56) = false := bne_eq_false_iff_eq.mpr c10
      clear c10
      have H' := am_ H
      clear H
      obtain ⟨Ao11,co11,eo11⟩ := Kd.R_slice HO_4.out
      subst eo11
      go_wp2
      go_loopg [4,5] k1 (fun kq v4 v5 w' => ∃ (x4_2 : List Int) (x5_2 : Int),v5 = .int .i64 x5_2 ∧ Aside0 (spec_l01Hash.l1 kq l0 y157 x4_2 x5_2 = some r) ∧ Aside0 (kq ≤ k1) ∧ Aside0 (Kd.R (Kd.int .u32) 117 w' w.heap.size (fun _ => True) v158 y157) ∧ Aside0 (Kd.R (Kd.int .u8) 5 w' w.heap.size (fun _ => True) v4 x4_2) ∧ Aside0 (Below w.heap.size w w'))
      case atStart => exact ⟨(x4_1),(7),(by first | rfl | (simp;done) | (simp [*];done)),H',⟨Nat.le_refl _⟩,⟨by (with_reducible repeat (first | apply r1_ | apply r2_ | apply r3_));exact HO_3.out⟩,⟨by (with_reducible repeat (first | apply r1_ | apply r2_ | apply r3_));exact HO_4.out⟩,⟨by repeat (first | (with_reducible first | exact HB.out | apply b1_ | apply b2_ | apply b3_) | exact HB.out)⟩⟩
      case round =>
       clear H'
       try clear c1
       try clear c2
       try clear p2
       try clear c3
       try clear c8
       try clear c10
       try clear c10b0
       try clear c10b1
       try clear p2
       obtain ⟨x4_2,x5_2,rfl,HA,HK2,HO_3,HO_4,HB⟩ := hrel
       cases gk with
       | zero => exact absurd HA.out (by simp [spec_l01Hash.l1])
       | succ k2 =>
        have H := HA.out
        clear HA
        simp only [spec_l01Hash.l1] at H
        by_cases c12 : x5_2 ≥ 0
        ·rw [if_pos c12] at H
         have c12b0 : decide (0 ≤ x5_2) = true := decide_eq_true c12
         clear c12
         obtain ⟨ji13,hji13⟩ : ∃ j_ : Int,(IntKind.u64.wrap (wrap64 (8 * x5_2))) = j_ := ⟨_,rfl⟩
         replace H : (if 0 ≤ (ji13) then (if x4_2.length < 140737488355328 then (spec_l01Hash.l1 k2 l0 y157 (x4_2 ++ [(shr .i64 (wrap64 (8 * (l0.length : Int))) (ji13)) % 256]) (wrap64 (x5_2 - 1))) else (none)) else (none)) = some r := by first | (rw [hji13] at H;exact H) | (simp only [hji13] at H ⊢;exact H)
         by_cases c14 : 0 ≤ (ji13)
         ·rw [if_pos c14] at H
          have c14b0 := eq_true c14
          have c14b1 : decide (0 ≤ (ji13)) = true := decide_eq_true c14
          clear c14
          obtain ⟨ji15,hji15⟩ : ∃ j_ : Int,(shr .i64 (wrap64 (8 * (l0.length : Int))) (ji13)) = j_ := ⟨_,rfl⟩
          replace H : (if x4_2.length < 140737488355328 then (spec_l01Hash.l1 k2 l0 y157 (x4_2 ++ [(ji15) % 256]) (wrap64 (x5_2 - 1))) else (none)) = some r := by first | (rw [hji15] at H;exact H) | (simp only [hji15] at H ⊢;exact H)
          have hji15_ : ((wrap64 (8 * (l0.length : Int))) / 2 ^ min (ji13).toNat 64) = ji15 := hji15
          have hji15z : (ji13) ≤ 64 → ((wrap64 (8 * (l0.length : Int))) / 2 ^ (ji13).toNat) = ji15 := shr_small hji15
          by_cases c16 : x4_2.length < 140737488355328
          ·rw [if_pos c16] at H
           have LMc16 := am_ c16
           clear c16
           obtain ⟨y172,hy172⟩ : ∃ y_ : List Int,y_ = (x4_2 ++ [(ji15) % 256]) := ⟨_,rfl⟩
           replace H : (spec_l01Hash.l1 k2 l0 y157 y172 (wrap64 (x5_2 - 1))) = some r := by first | (rw [hy172];with_reducible exact H) | (have H2_ := (Option.bind_some _ _).symm.trans H;rw [hy172];with_reducible exact H2_) | (have H2_ := (Option.bind_some _ _).symm.trans H;with_reducible exact H2_) | with_reducible exact H | (rw [hy172];exact H) | exact H
           have Ny172 := am_ hy172
           clear hy172
           have H' := am_ H
           clear H
           go_wp2_with (first | ((with_reducible refine gate_builtin (b := .append) (xs := #[.tmp 27,.tmp 36]) rfl ?_);at_builtin;refine Kd.R_append (Kd.int .u8) (w0 := w) w.heap.size rfl (.tmp 27) (.tmp 36) 94 5 (.int .u8 0) 1 rfl Tryd.underlying94 info5 rfl (by decide) (by omega) u4 x4_2 ((ji15) % 256) [.int .u8 ((ji15) % 256)] (fun _ => True) (fun _ => False) rfl rfl ?aP (fun _ hk => hk.elim) ?aF ?aO ?aB ?aS ?aL ?_;(case aP => exact rfl);(case aB => exact (by repeat (first | (with_reducible first | exact HB.out | apply b1_ | apply b2_ | apply b3_) | exact HB.out)));(case aF => exact (fun _ _ => trivial));(case aO => exact (by (with_reducible repeat (first | apply r1_ | apply r2_ | apply r3_));exact HO_4.out));(case aS => exact (below_size (by repeat (first | (with_reducible first | exact HB.out | apply b1_ | apply b2_ | apply b3_) | exact HB.out))));(case aL => have := LMc16.out;omega);intro v173 w17 ho hb hg hat;rw [← Ny172.out] at ho;have n0_ := am_ (Kd.R_over' (by (with_reducible repeat (first | apply r1_ | apply r2_ | apply r3_));exact HO_3.out) (Kd.R_typed (by (with_reducible repeat (first | apply r1_ | apply r2_ | apply r3_));exact HO_4.out)) (by decide) hg);have n1_ := am_ (hb);have n2_ := am_ (ho);clear HO_3;clear HB;clear HO_4;have HO_3 := n0_;have HB := n1_;have HO174 := n2_;clear n0_ n1_ n2_;clear ho hb hg hat))
           go_roundg k2
           case measure => have := HK1.out;have := HK2.out;omega
           case rel => exact ⟨(y172),(wrap64 (x5_2 - 1)),(by first | rfl | (simp;done) | (simp [*];done)),H',⟨by have := HK1.out;have := HK2.out;omega⟩,⟨by (with_reducible repeat (first | apply r1_ | apply r2_ | apply r3_));exact HO_3.out⟩,⟨by (with_reducible repeat (first | apply r1_ | apply r2_ | apply r3_));exact HO174.out⟩,⟨by repeat (first | (with_reducible first | exact HB.out | apply b1_ | apply b2_ | apply b3_) | exact HB.out)⟩⟩
          ·rw [if_neg c16] at H
           exact absurd H (by simp)
         ·rw [if_neg c14] at H
          exact absurd H (by simp)
        ·rw [if_neg c12] at H
         have c12b0 : decide (0 ≤ x5_2) = false := decide_eq_false c12
         clear c12
         replace H := Option.bind_eq_some_iff.mp H
         obtain ⟨t175,A180,H⟩ := H
         try dsimp only at H
         have A18 := am_ A180
         clear A180
         have H' := am_ H
         clear H
         go_wp2_with (first | ((with_reducible refine gate_callee (f := 119) rfl ?_);refine goesL_ (some 38) rfl rfl Tryd.func119 (by kernel_rfl) rfl #[] rfl (by (try simp only [m1_,m2_,m3_]);first | done | rfl | (simp only [d1_,d2_];rfl)) ?_;(with_reducible refine (spec_l01Consts.calls  t175 _ A18.out).mono ?_);rintro e w19 ⟨v176,rfl,ho0,hb⟩;refine ⟨_,rfl,?_⟩;have n0_ := am_ (Kd.R_elder' (by (with_reducible repeat (first | apply r1_ | apply r2_ | apply r3_));exact HO_3.out) (Kd.R_base ho0) hb);have n1_ := am_ (Kd.R_below (by (with_reducible repeat (first | apply r1_ | apply r2_ | apply r3_));exact HO_4.out) hb);have n2_ := am_ (Kd.R_lower (Kd.R_new' ho0 (Kd.R_lt (by (with_reducible repeat (first | apply r1_ | apply r2_ | apply r3_));exact HO_3.out))) (below_size (by repeat (first | (with_reducible first | exact HB.out | apply b1_ | apply b2_ | apply b3_) | exact HB.out))));have n3_ := am_ (below_step (by repeat (first | (with_reducible first | exact HB.out | apply b1_ | apply b2_ | apply b3_) | exact HB.out)) hb);clear HO_3;clear HO_4;clear HB;have HO_3 := n0_;have HO_4 := n1_;have HO177 := n2_;have HB := n3_;clear n0_ n1_ n2_ n3_;(try clear hb);(try clear hb2);(try clear hk);(try clear hi);(try clear ho0)))
         go_loopg [7] k2 (fun kq v7 w' => ∃ (x3_3 : List Int) (x7_3 : Int),v7 = .int .i64 x7_3 ∧ Aside0 (spec_l01Hash.l2 kq x3_3 x4_2 t175 x7_3 = some r) ∧ Aside0 (kq ≤ k2) ∧ Aside0 (Kd.R (Kd.int .u32) 117 w' w.heap.size (fun k_ => some k_ ≠ (v176 : Value).ownBlock) v158 x3_3) ∧ Aside0 (Kd.R (Kd.int .u8) 5 w' w.heap.size (fun _ => True) u4 x4_2) ∧ Aside0 (Kd.R (Kd.int .u32) 117 w' w.heap.size (fun k_ => some k_ ≠ (v158 : Value).ownBlock) v176 t175) ∧ Aside0 (Below w.heap.size w w'))
         case atStart => exact ⟨(y157),(0),(by first | rfl | (simp;done) | (simp [*];done)),H',⟨Nat.le_refl _⟩,⟨by (with_reducible repeat (first | apply r1_ | apply r2_ | apply r3_));exact Kd.R_mono HO_3.out (fun _ hk => hk.2)⟩,⟨by (with_reducible repeat (first | apply r1_ | apply r2_ | apply r3_));exact HO_4.out⟩,⟨by (with_reducible repeat (first | apply r1_ | apply r2_ | apply r3_));exact Kd.R_mono HO177.out (fun _ hk => hk.2)⟩,⟨by repeat (first | (with_reducible first | exact HB.out | apply b1_ | apply b2_ | apply b3_) | exact HB.out)⟩⟩
         case round =>
          clear H'
          try clear c1
          try clear c2
          try clear p2
          try clear c3
          try clear p6
          try clear c8
          try clear c10
          try clear c10b0
          try clear c10b1
          try clear c11
          try clear c12
          try clear c12b0
          try clear c14
          try clear c14b0
          try clear c14b1
          try clear c16
          try clear p2
          obtain ⟨x3_3,x7_3,rfl,HA,HK3,HO_3,HO_4,HO_6,HB⟩ := hrel
          cases gk with
          | zero => exact absurd HA.out (by simp [spec_l01Hash.l2])
          | succ k3 =>
           have H := HA.out
           clear HA
           simp only [spec_l01Hash.l2] at H
           by_cases c20 : x7_3 < (x4_2.length : Int)
           ·rw [if_pos c20] at H
            obtain ⟨je_,hje_⟩ : ∃ j_ : Int,(wrap64 (x7_3 + 64)) = j_ := ⟨_,rfl⟩
            rw [hje_] at H
            have hje_w : (IntKind.i64.wrap (x7_3 + 64)) = je_ := (i64_w _).trans hje_
            clear hje_
            have c20b0 : decide (x7_3 < (x4_2.length : Int)) = true := decide_eq_true c20
            clear c20
            by_cases c21 : 0 ≤ x7_3
            ·rw [if_pos c21] at H
             have c21b0 := eq_true c21
             have c21b1 : decide (0 ≤ x7_3) = true := decide_eq_true c21
             clear c21
             by_cases c22 : x7_3 ≤ (je_)
             ·rw [if_pos c22] at H
              have c22b0 := eq_true c22
              have c22b1 : decide (x7_3 ≤ (je_)) = true := decide_eq_true c22
              by_cases c23 : (je_) ≤ (x4_2.length : Int)
              ·rw [if_pos c23] at H
               have c23b0 := eq_true c23
               have c23b1 : decide ((je_) ≤ (x4_2.length : Int)) = true := decide_eq_true c23
               obtain ⟨y178,hy178⟩ : ∃ y_ : List Int,y_ = ((x4_2.take ((je_) : Int).toNat).drop (x7_3 : Int).toNat) := ⟨_,rfl⟩
               replace H : ((spec_l01Block.f k3 x3_3 y178 t175).bind fun t182 => (spec_l01Hash.l2 k3 t182 x4_2 t175 (je_))) = some r := by first | (rw [hy178];with_reducible exact H) | (have H2_ := (Option.bind_some _ _).symm.trans H;rw [hy178];with_reducible exact H2_) | (have H2_ := (Option.bind_some _ _).symm.trans H;with_reducible exact H2_) | with_reducible exact H | (rw [hy178];exact H) | exact H
               have Ny178 := am_ hy178
               clear hy178
               replace H := Option.bind_eq_some_iff.mp H
               obtain ⟨t182,A240,H⟩ := H
               try dsimp only at H
               have A24 := am_ A240
               clear A240
               have H' := am_ H
               clear H
               obtain ⟨Ao25,co25,eo25⟩ := Kd.R_slice HO_4.out
               subst eo25
               have q26 : ((je_) : Int) ≤ ((x4_2.length : Int) : Int) := o1_ (by first | (with_reducible assumption) | assumption)
               obtain ⟨i026,hi026,_,hsz26,_⟩ := info_parts info5
               have hroom26 : x4_2.length ≤ co25 := (Kd.R_reads' HO_4.out).2.1
               have hC26 : Kd.C (Kd.int .u8) _ Ao25 x4_2.length x4_2 := (Kd.R_reads' HO_4.out).2.2
               have ql26 : (x7_3 : Int) ≤ ((je_) : Int) := o1_ (by first | (with_reducible assumption) | assumption)
               have q026 : (0 : Int) ≤ (x7_3 : Int) := o1_ (by first | (with_reducible assumption) | assumption)
               have hcut26 := cut_mid (P := Tryd.prog) 94 5 .i64 .i64 Tryd.underlying94 hi026 1 hsz26 Ao25 x4_2.length co25 x7_3 (je_) q026 ql26 q26 hroom26
               have hr26 := Kd.C_mid (lo := (x7_3 : Int).toNat) (hi := ((je_) : Int).toNat) (c := co25) hC26 (by omega) (by omega) hroom26
               obtain ⟨A26,hA26⟩ : ∃ A1,A1 = (if co25 = (x7_3 : Int).toNat then Ao25 else (Ao25 : Option Addr).map (·.add ((x7_3 : Int).toNat * 1))) := ⟨_,rfl⟩
               obtain ⟨c26,hc26⟩ : ∃ c1,c1 = co25 - (x7_3 : Int).toNat := ⟨_,rfl⟩
               have hy26 : y178.length = ((je_) : Int).toNat - (x7_3 : Int).toNat := (by rw [Ny178.out,d1_,d2_] <;> omega)
               rw [show ((x4_2).take ((je_) : Int).toNat).drop (x7_3 : Int).toNat = y178 from Ny178.out.symm] at hr26
               replace hr26 : Kd.C (Kd.int .u8) _ A26 y178.length y178 := (by rw [hA26];exact hr26)
               rw [← hy26,← hA26,← hc26] at hcut26
               have HR181 := am_ hr26
               have HC181 := am_ (show y178.length ≤ c26 from by rw [hy26,hc26];exact Nat.sub_le_sub_right (Nat.le_trans (by omega) hroom26) _)
               clear hr26 hC26 hroom26 hi026 hsz26 hc26
               have KY26 := am_ hy26
               have KA26 := am_ hA26
               clear hy26 hA26
               have KL26 := am_ (show ((je_) : Int).toNat ≤ x4_2.length from by omega)
               have KM26 := am_ (show (x7_3 : Int).toNat ≤ ((je_) : Int).toNat from by omega)
               replace q26 := eq_true q26
               obtain ⟨Ao27,co27,eo27⟩ := Kd.R_slice HO_3.out
               subst eo27
               obtain ⟨Ao28,co28,eo28⟩ := Kd.R_slice HO_6.out
               subst eo28
               go_wp2_with (first | ((with_reducible refine gate_callee (f := 120) rfl ?_);refine goesL_ (some 52) rfl rfl Tryd.func120 (by kernel_rfl) rfl #[.slice Ao27 x3_3.length co27,.slice A26 y178.length c26,.slice Ao28 t175.length co28] rfl (by (try simp only [m1_,m2_,m3_]);first | done | rfl | (simp only [d1_,d2_];rfl)) ?_;(with_reducible refine (spec_l01Block.calls k3 (fun k_ => some k_ = (.slice Ao27 x3_3.length co27 : Value).ownBlock) (.slice Ao27 x3_3.length co27) x3_3 _ _ y178 _ _ t175 t182 w _ ?side1 ?side2 ?side3 ?side4 ?side5 ?side6 A24.out).mono ?_);(case side1 => repeat (first | (with_reducible first | exact HB.out | apply b1_ | apply b2_ | apply b3_) | exact HB.out));(case side2 => exact Kd.R_tight rfl HO_3.out);(case side3 => exact fun W1_ hk1_ => (show Kd.C (Kd.int .u8) W1_ A26 y178.length y178 from by rw [Ny178.out,KA26.out];exact Kd.C_mid (lo := (x7_3 : Int).toNat) (hi := ((je_) : Int).toNat) (c := co25) (Kd.C_kept_own ((Kd.R_apart' HO_4.out (Kd.R_typed HO_3.out) (by decide))) (fun k_ hk_ hs_ => (hk_.2) hs_) W1_ hk1_) KM26.out KL26.out ((Kd.R_reads' HO_4.out).2.1)));(case side4 => exact HC181.out);(case side5 => exact Kd.C_kept_own (HO_6.out) (fun k_ hk_ hs_ => (hk_) hs_));(case side6 => exact (Kd.R_reads' HO_6.out).2.1);rintro e w29 ⟨rfl,hy0,hb,hkp⟩;refine ⟨_,rfl,?_⟩;have n0_ := am_ (Kd.R_reok rfl hy0 (fun k_ e_ => HO_3.out.1 k_ e_));have n1_ := am_ (Kd.R_mono (ok' := fun k_ => True) (Kd.R_keptB ((Kd.R_apart' HO_4.out (Kd.R_typed HO_3.out) (by decide))) hkp (fun k_ hk_ hs_ => (hk_.2) hs_)) (fun k_ hk_ => trivial));have n2_ := am_ (Kd.R_mono (ok' := fun k_ => some k_ ≠ (.slice Ao27 x3_3.length co27 : Value).ownBlock) (Kd.R_keptB (HO_6.out) hkp (fun k_ hk_ hs_ => (hk_) hs_)) (fun k_ hk_ => hk_.1));have n3_ := am_ (hb);clear HO_3;clear HO_4;clear HO_6;clear HB;have HO_3 := n0_;have HO_4 := n1_;have HO_6 := n2_;have HB := n3_;clear n0_ n1_ n2_ n3_;(try clear hb);(try clear hkp);(try clear hy0)))
               go_roundg k3
               case measure => have := HK1.out;have := HK2.out;have := HK3.out;omega
               case rel => exact ⟨(t182),(je_),(by first | rfl | (simp;done) | (simp [*];done)),H',⟨by have := HK1.out;have := HK2.out;have := HK3.out;omega⟩,⟨by (with_reducible repeat (first | apply r1_ | apply r2_ | apply r3_));exact HO_3.out⟩,⟨by (with_reducible repeat (first | apply r1_ | apply r2_ | apply r3_));exact HO_4.out⟩,⟨by (with_reducible repeat (first | apply r1_ | apply r2_ | apply r3_));exact HO_6.out⟩,⟨by repeat (first | (with_reducible first | exact HB.out | apply b1_ | apply b2_ | apply b3_) | exact HB.out)⟩⟩
              ·rw [if_neg c23] at H
               exact absurd H (by simp)
             ·rw [if_neg c22] at H
              exact absurd H (by simp)
            ·rw [if_neg c21] at H
             exact absurd H (by simp)
           ·rw [if_neg c20] at H
            have c20b0 : decide (x7_3 < (x4_2.length : Int)) = false := decide_eq_false c20
            clear c20
            obtain ⟨y183,hy183⟩ : ∃ y_ : List Int,y_ = (([] : List Int)) := ⟨_,rfl⟩
            replace H : (spec_l01Hash.l3 k3 x3_3 y183 0) = some r := by first | (rw [hy183];with_reducible exact H) | (have H2_ := (Option.bind_some _ _).symm.trans H;rw [hy183];with_reducible exact H2_) | (have H2_ := (Option.bind_some _ _).symm.trans H;with_reducible exact H2_) | with_reducible exact H | (rw [hy183];exact H) | exact H
            have Ny183 := am_ hy183
            clear hy183
            have H' := am_ H
            clear H
            obtain ⟨Ao30,co30,eo30⟩ := Kd.R_slice HO_4.out
            subst eo30
            go_wp2_with (first | ((with_reducible refine gate_dst (N := 53) rfl ?_);refine Kd.R_lit (Kd.int .u8) _ 5 ?hg (N := 53) ?hd (xs := ([] : List Int)) (inner := []) (ok := fun _ => True) (okp := fun _ => True) ?hr ?hp (fun _ hk => hk) trivial (Below.refl _ _) (Nat.le_refl _) (by simp) ?_;(case hd => rfl);(case hg => rfl);(case hr => first | (go_simp;done) | (go_simp;rfl));(case hp => exact (Reps.none _ _));intro v184 w31 ho32 hb hg_ hnew_;clear hg_ hnew_;(first | rw [← Ny183.out] at ho32 | (simp only [Int.reduceToNat] at ho32;rw [← Ny183.out] at ho32));have n0_ := am_ (Kd.R_below (by (with_reducible repeat (first | apply r1_ | apply r2_ | apply r3_));exact HO_3.out) hb);have n1_ := am_ (Kd.R_elder' (by (with_reducible repeat (first | apply r1_ | apply r2_ | apply r3_));exact HO_4.out) (Kd.R_base ho32) hb);have n2_ := am_ (Kd.R_below (by (with_reducible repeat (first | apply r1_ | apply r2_ | apply r3_));exact HO_6.out) hb);have n3_ := am_ (Kd.R_lower (Kd.R_new' ho32 (Kd.R_lt (by (with_reducible repeat (first | apply r1_ | apply r2_ | apply r3_));exact HO_4.out))) (below_size (by repeat (first | (with_reducible first | exact HB.out | apply b1_ | apply b2_ | apply b3_) | exact HB.out))));have n4_ := am_ (below_step (by repeat (first | (with_reducible first | exact HB.out | apply b1_ | apply b2_ | apply b3_) | exact HB.out)) hb);clear HO_3;clear HO_4;clear HO_6;clear HB;have HO_3 := n0_;have HO_4 := n1_;have HO_6 := n2_;have HO185 := n3_;have HB := n4_;clear n0_ n1_ n2_ n3_ n4_;clear hb ho32))
            go_loopg [8,9] k3 (fun kq v8 v9 w' => ∃ (x8_4 : List Int) (x9_4 : Int),v9 = .int .i64 x9_4 ∧ Aside0 (spec_l01Hash.l3 kq x3_3 x8_4 x9_4 = some r) ∧ Aside0 (kq ≤ k3) ∧ Aside0 (Kd.R (Kd.int .u32) 117 w' w.heap.size (fun _ => True) v158 x3_3) ∧ Aside0 (Kd.R (Kd.int .u8) 5 w' w.heap.size (fun _ => True) v8 x8_4) ∧ Aside0 (Below w.heap.size w w'))
            case atStart => exact ⟨(y183),(0),(by first | rfl | (simp;done) | (simp [*];done)),H',⟨Nat.le_refl _⟩,⟨by (with_reducible repeat (first | apply r1_ | apply r2_ | apply r3_));exact Kd.R_mono HO_3.out (fun _ hk => trivial)⟩,⟨by (with_reducible repeat (first | apply r1_ | apply r2_ | apply r3_));exact Kd.R_mono HO185.out (fun _ hk => trivial)⟩,⟨by repeat (first | (with_reducible first | exact HB.out | apply b1_ | apply b2_ | apply b3_) | exact HB.out)⟩⟩
            case round =>
             clear H'
             try clear c1
             try clear c2
             try clear p2
             try clear q2
             try clear c3
             try clear p6
             try clear c8
             try clear c10
             try clear c10b0
             try clear c10b1
             try clear c11
             try clear c12
             try clear c12b0
             try clear c14
             try clear c14b0
             try clear c14b1
             try clear c16
             try clear c20
             try clear c20b0
             try clear c21
             try clear c21b0
             try clear c21b1
             try clear c22
             try clear c22b0
             try clear c22b1
             try clear c23
             try clear c23b0
             try clear c23b1
             try clear c26
             try clear q26
             try clear p2
             try clear p6
             try clear q026
             try clear q26
             obtain ⟨x8_4,x9_4,rfl,HA,HK4,HO_3,HO_8,HB⟩ := hrel
             cases gk with
             | zero => exact absurd HA.out (by simp [spec_l01Hash.l3])
             | succ k4 =>
              have H := HA.out
              clear HA
              simp only [spec_l01Hash.l3] at H
              by_cases c33 : x9_4 < 8
              ·rw [if_pos c33] at H
               have c33b0 : decide (x9_4 < 8) = true := decide_eq_true c33
               clear c33
               by_cases c34 : 0 ≤ x9_4
               ·rw [if_pos c34] at H
                have c34b0 : decide (0 ≤ x9_4) = true := decide_eq_true c34
                clear c34
                by_cases c35 : x9_4 < (x3_3.length : Int)
                ·rw [if_pos c35] at H
                 have c35b0 : decide (x9_4 < (x3_3.length : Int)) = true := decide_eq_true c35
                 clear c35
                 obtain ⟨y190,hy190⟩ : ∃ y_ : List Int,y_ = (([((rd x3_3 x9_4) / 16777216) % 256,((rd x3_3 x9_4) / 65536) % 256,((rd x3_3 x9_4) / 256) % 256,(rd x3_3 x9_4) % 256] : List Int)) := ⟨_,rfl⟩
                 replace H : (if x8_4.length + y190.length < 140737488355328 then (spec_l01Hash.l3 k4 x3_3 (x8_4 ++ y190) (wrap64 (x9_4 + 1))) else (none)) = some r := by first | (rw [hy190];with_reducible exact H) | (have H2_ := (Option.bind_some _ _).symm.trans H;rw [hy190];with_reducible exact H2_) | (have H2_ := (Option.bind_some _ _).symm.trans H;with_reducible exact H2_) | with_reducible exact H | (rw [hy190];exact H) | exact H
                 have Ny190 := am_ hy190
                 clear hy190
                 by_cases c36 : x8_4.length + y190.length < 140737488355328
                 ·rw [if_pos c36] at H
                  have LMc36 := am_ c36
                  clear c36
                  obtain ⟨y193,hy193⟩ : ∃ y_ : List Int,y_ = (x8_4 ++ y190) := ⟨_,rfl⟩
                  replace H : (spec_l01Hash.l3 k4 x3_3 y193 (wrap64 (x9_4 + 1))) = some r := by first | (rw [hy193];with_reducible exact H) | (have H2_ := (Option.bind_some _ _).symm.trans H;rw [hy193];with_reducible exact H2_) | (have H2_ := (Option.bind_some _ _).symm.trans H;with_reducible exact H2_) | with_reducible exact H | (rw [hy193];exact H) | exact H
                  have Ny193 := am_ hy193
                  clear hy193
                  have H' := am_ H
                  clear H
                  try go_wp2
                  have n0_ := am_ (Kd.R_drew HO_3.out)
                  have n1_ := am_ (Kd.R_drew HO_8.out)
                  have n2_ := am_ (below_drew1 HB.out)
                  clear HO_3
                  clear HO_8
                  clear HB
                  have HO_3 := n0_
                  have HO_8 := n1_
                  have HB := n2_
                  clear n0_ n1_ n2_
                  obtain ⟨Ao38,co38,eo38⟩ := Kd.R_slice HO_3.out
                  (first | subst eo38 | (injection eo38 with f1_ f2_ f3_;have f4_ := f1_.symm;have f5_ := f3_.symm;clear f1_ f2_ f3_;subst f4_;subst f5_))
                  have p186 : 0 ≤ (x9_4 : Int) := o1_ (by first | (with_reducible assumption) | assumption)
                  have q186 : x9_4 < (x3_3.length : Int) := o1_ (by first | (with_reducible assumption) | assumption)
                  obtain ⟨ad186,e186,hx186_0⟩ := Kd.at_int (Kd.R_reads' HO_3.out).2.2 x9_4 p186 q186
                  cases e186
                  replace p186 := eq_true p186
                  replace q186 := eq_true q186
                  have p187 : 0 ≤ (x9_4 : Int) := o1_ (by first | (with_reducible assumption) | assumption)
                  have q187 : x9_4 < (x3_3.length : Int) := o1_ (by first | (with_reducible assumption) | assumption)
                  obtain ⟨ad187,e187,hx187_0⟩ := Kd.at_int (Kd.R_reads' HO_3.out).2.2 x9_4 p187 q187
                  obtain rfl : ad186 = ad187 := (by injection e187)
                  replace p187 := eq_true p187
                  replace q187 := eq_true q187
                  have p188 : 0 ≤ (x9_4 : Int) := o1_ (by first | (with_reducible assumption) | assumption)
                  have q188 : x9_4 < (x3_3.length : Int) := o1_ (by first | (with_reducible assumption) | assumption)
                  obtain ⟨ad188,e188,hx188_0⟩ := Kd.at_int (Kd.R_reads' HO_3.out).2.2 x9_4 p188 q188
                  obtain rfl : ad186 = ad188 := (by injection e188)
                  replace p188 := eq_true p188
                  replace q188 := eq_true q188
                  have p189 : 0 ≤ (x9_4 : Int) := o1_ (by first | (with_reducible assumption) | assumption)
                  have q189 : x9_4 < (x3_3.length : Int) := o1_ (by first | (with_reducible assumption) | assumption)
                  obtain ⟨ad189,e189,hx189_0⟩ := Kd.at_int (Kd.R_reads' HO_3.out).2.2 x9_4 p189 q189
                  obtain rfl : ad186 = ad189 := (by injection e189)
                  replace p189 := eq_true p189
                  replace q189 := eq_true q189
                  refine start_ (n := 27) (S := fun w' => w'.cell? (ad186.add (x9_4).toNat) = some (.int .u32 (rd x3_3 x9_4)) ∧ w'.cell? (ad186.add (x9_4).toNat) = some (.int .u32 (rd x3_3 x9_4)) ∧ w'.cell? (ad186.add (x9_4).toNat) = some (.int .u32 (rd x3_3 x9_4)) ∧ w'.cell? (ad186.add (x9_4).toNat) = some (.int .u32 (rd x3_3 x9_4))) (ds := [25]) #[false,false,false,false,false,false,false,false,false,false,false,false,false,false,false,false,false,false,false,false,false,false,false,false,false,false,false] (by kernel_rfl) rfl rfl ⟨hx186_0,hx187_0,hx188_0,hx189_0⟩ (fun hHeld => ?_);refine with_tabW spec_l01Hash.tab18 spec_l01Hash.bits18 (fun HT_ HW_ => ?_)
                  generalize wr.drew = w37 at HO_3 HO_8 HB hx186_0 hx187_0 hx188_0 hx189_0 hHeld ⊢
                  refine pure_ (i := 0) (N := some 58) (v := ?_) (a' := ?_) #[true,false,false,false,false,false,false,false,false,false,false,false,false,false,false,false,false,false,false,false,false,false,false,false,false,false,false] rfl rfl (any_of HT_.out (by kernel_rfl)) (fun _ _ _ h => h) (Or.inl ⟨by rfl,?_⟩) ?_ ?_
                  rotate_left
                  ·intro w'
                   go_simp
                   with_reducible rfl
                  rotate_left
                  ·simp only [Act.put,p1_,p2_,p3_,i64_w,i32_w]
                   rfl
                  refine pure_ (i := 1) (N := some 59) (v := ?_) (a' := ?_) #[true,true,false,false,false,false,false,false,false,false,false,false,false,false,false,false,false,false,false,false,false,false,false,false,false,false,false] rfl rfl (any_of HT_.out (by kernel_rfl)) (fun _ _ _ h => h) (Or.inl ⟨by rfl,?_⟩) ?_ ?_
                  rotate_left
                  ·intro w'
                   go_simp
                   with_reducible rfl
                  rotate_left
                  ·simp only [Act.put,p1_,p2_,p3_,i64_w,i32_w]
                   rfl
                  refine pure_ (i := 2) (N := some 60) (v := ?_) (a' := ?_) #[true,true,true,false,false,false,false,false,false,false,false,false,false,false,false,false,false,false,false,false,false,false,false,false,false,false,false] rfl rfl (any_of HT_.out (by kernel_rfl)) (fun _ _ _ h => h) (Or.inl ⟨by rfl,?_⟩) ?_ ?_
                  rotate_left
                  ·intro w'
                   go_simp
                   with_reducible rfl
                  rotate_left
                  ·simp only [Act.put,p1_,p2_,p3_,i64_w,i32_w]
                   rfl
                  refine pure_ (i := 3) (N := some 61) (v := ?_) (a' := ?_) #[true,true,true,true,false,false,false,false,false,false,false,false,false,false,false,false,false,false,false,false,false,false,false,false,false,false,false] rfl rfl (any_of HT_.out (by kernel_rfl)) (fun _ _ _ h => h) (Or.inl ⟨by rfl,?_⟩) ?_ ?_
                  rotate_left
                  ·intro w'
                   go_simp
                   with_reducible rfl
                  rotate_left
                  ·simp only [Act.put,p1_,p2_,p3_,i64_w,i32_w]
                   rfl
                  refine pure_ (i := 7) (N := some 65) (v := ?_) (a' := ?_) #[true,true,true,true,false,false,false,true,false,false,false,false,false,false,false,false,false,false,false,false,false,false,false,false,false,false,false] rfl rfl (any_of HT_.out (by kernel_rfl)) (fun _ _ _ h => h) (Or.inl ⟨by rfl,?_⟩) ?_ ?_
                  rotate_left
                  ·intro w'
                   go_simp
                   with_reducible rfl
                  rotate_left
                  ·simp only [Act.put,p1_,p2_,p3_,i64_w,i32_w]
                   rfl
                  refine pure_ (i := 8) (N := some 66) (v := ?_) (a' := ?_) #[true,true,true,true,false,false,false,true,true,false,false,false,false,false,false,false,false,false,false,false,false,false,false,false,false,false,false] rfl rfl (any_of HT_.out (by kernel_rfl)) (fun _ _ _ h => h) (Or.inl ⟨by rfl,?_⟩) ?_ ?_
                  rotate_left
                  ·intro w'
                   go_simp
                   with_reducible rfl
                  rotate_left
                  ·simp only [Act.put,p1_,p2_,p3_,i64_w,i32_w]
                   rfl
                  refine pure_ (i := 9) (N := some 67) (v := ?_) (a' := ?_) #[true,true,true,true,false,false,false,true,true,true,false,false,false,false,false,false,false,false,false,false,false,false,false,false,false,false,false] rfl rfl (any_of HT_.out (by kernel_rfl)) (fun _ _ _ h => h) (Or.inl ⟨by rfl,?_⟩) ?_ ?_
                  rotate_left
                  ·intro w'
                   go_simp
                   with_reducible rfl
                  rotate_left
                  ·simp only [Act.put,p1_,p2_,p3_,i64_w,i32_w]
                   rfl
                  refine pure_ (i := 13) (N := some 71) (v := ?_) (a' := ?_) #[true,true,true,true,false,false,false,true,true,true,false,false,false,true,false,false,false,false,false,false,false,false,false,false,false,false,false] rfl rfl (any_of HT_.out (by kernel_rfl)) (fun _ _ _ h => h) (Or.inl ⟨by rfl,?_⟩) ?_ ?_
                  rotate_left
                  ·intro w'
                   go_simp
                   with_reducible rfl
                  rotate_left
                  ·simp only [Act.put,p1_,p2_,p3_,i64_w,i32_w]
                   rfl
                  refine pure_ (i := 14) (N := some 72) (v := ?_) (a' := ?_) #[true,true,true,true,false,false,false,true,true,true,false,false,false,true,true,false,false,false,false,false,false,false,false,false,false,false,false] rfl rfl (any_of HT_.out (by kernel_rfl)) (fun _ _ _ h => h) (Or.inl ⟨by rfl,?_⟩) ?_ ?_
                  rotate_left
                  ·intro w'
                   go_simp
                   with_reducible rfl
                  rotate_left
                  ·simp only [Act.put,p1_,p2_,p3_,i64_w,i32_w]
                   rfl
                  refine pure_ (i := 15) (N := some 73) (v := ?_) (a' := ?_) #[true,true,true,true,false,false,false,true,true,true,false,false,false,true,true,true,false,false,false,false,false,false,false,false,false,false,false] rfl rfl (any_of HT_.out (by kernel_rfl)) (fun _ _ _ h => h) (Or.inl ⟨by rfl,?_⟩) ?_ ?_
                  rotate_left
                  ·intro w'
                   go_simp
                   with_reducible rfl
                  rotate_left
                  ·simp only [Act.put,p1_,p2_,p3_,i64_w,i32_w]
                   rfl
                  refine pure_ (i := 19) (N := some 77) (v := ?_) (a' := ?_) #[true,true,true,true,false,false,false,true,true,true,false,false,false,true,true,true,false,false,false,true,false,false,false,false,false,false,false] rfl rfl (any_of HT_.out (by kernel_rfl)) (fun _ _ _ h => h) (Or.inl ⟨by rfl,?_⟩) ?_ ?_
                  rotate_left
                  ·intro w'
                   go_simp
                   with_reducible rfl
                  rotate_left
                  ·simp only [Act.put,p1_,p2_,p3_,i64_w,i32_w]
                   rfl
                  refine pure_ (i := 20) (N := some 78) (v := ?_) (a' := ?_) #[true,true,true,true,false,false,false,true,true,true,false,false,false,true,true,true,false,false,false,true,true,false,false,false,false,false,false] rfl rfl (any_of HT_.out (by kernel_rfl)) (fun _ _ _ h => h) (Or.inl ⟨by rfl,?_⟩) ?_ ?_
                  rotate_left
                  ·intro w'
                   go_simp
                   with_reducible rfl
                  rotate_left
                  ·simp only [Act.put,p1_,p2_,p3_,i64_w,i32_w]
                   rfl
                  refine pure_ (i := 21) (N := some 79) (v := ?_) (a' := ?_) #[true,true,true,true,false,false,false,true,true,true,false,false,false,true,true,true,false,false,false,true,true,true,false,false,false,false,false] rfl rfl (any_of HT_.out (by kernel_rfl)) (fun _ _ _ h => h) (Or.inl ⟨by rfl,?_⟩) ?_ ?_
                  rotate_left
                  ·intro w'
                   go_simp
                   with_reducible rfl
                  rotate_left
                  ·simp only [Act.put,p1_,p2_,p3_,i64_w,i32_w]
                   rfl
                  refine take_ (i := 4) (N := some 62) (v := ?_) (a' := ?_) #[true,true,true,true,true,false,false,true,true,true,false,false,false,true,true,true,false,false,false,true,true,true,false,false,false,false,false] rfl rfl (take_ofW HT_.out HW_.out (by kernel_rfl)) (fun _ _ _ h => h) (Or.inl ⟨by rfl,?_⟩) hHeld ?_ ?_
                  rotate_left
                  ·rintro w' ⟨s0,s1,s2,s3⟩
                   go_simp
                   with_reducible rfl
                  rotate_left
                  ·simp only [Act.put,p1_,p2_,p3_,i64_w,i32_w]
                   rfl
                  refine pure_ (i := 5) (N := some 63) (v := ?_) (a' := ?_) #[true,true,true,true,true,true,false,true,true,true,false,false,false,true,true,true,false,false,false,true,true,true,false,false,false,false,false] rfl rfl (any_of HT_.out (by kernel_rfl)) (fun _ _ _ h => h) (Or.inl ⟨by rfl,?_⟩) ?_ ?_
                  rotate_left
                  ·intro w'
                   go_simp
                   with_reducible rfl
                  rotate_left
                  ·simp only [Act.put,p1_,p2_,p3_,i64_w,i32_w]
                   rfl
                  refine pure_ (i := 6) (N := some 64) (v := ?_) (a' := ?_) #[true,true,true,true,true,true,true,true,true,true,false,false,false,true,true,true,false,false,false,true,true,true,false,false,false,false,false] rfl rfl (any_of HT_.out (by kernel_rfl)) (fun _ _ _ h => h) (Or.inl ⟨by rfl,?_⟩) ?_ ?_
                  rotate_left
                  ·intro w'
                   go_simp
                   with_reducible rfl
                  rotate_left
                  ·simp only [Act.put,p1_,p2_,p3_,i64_w,i32_w]
                   rfl
                  refine take_ (i := 10) (N := some 68) (v := ?_) (a' := ?_) #[true,true,true,true,true,true,true,true,true,true,true,false,false,true,true,true,false,false,false,true,true,true,false,false,false,false,false] rfl rfl (take_ofW HT_.out HW_.out (by kernel_rfl)) (fun _ _ _ h => h) (Or.inl ⟨by rfl,?_⟩) hHeld ?_ ?_
                  rotate_left
                  ·rintro w' ⟨s0,s1,s2,s3⟩
                   go_simp
                   with_reducible rfl
                  rotate_left
                  ·simp only [Act.put,p1_,p2_,p3_,i64_w,i32_w]
                   rfl
                  refine pure_ (i := 11) (N := some 69) (v := ?_) (a' := ?_) #[true,true,true,true,true,true,true,true,true,true,true,true,false,true,true,true,false,false,false,true,true,true,false,false,false,false,false] rfl rfl (any_of HT_.out (by kernel_rfl)) (fun _ _ _ h => h) (Or.inl ⟨by rfl,?_⟩) ?_ ?_
                  rotate_left
                  ·intro w'
                   go_simp
                   with_reducible rfl
                  rotate_left
                  ·simp only [Act.put,p1_,p2_,p3_,i64_w,i32_w]
                   rfl
                  refine pure_ (i := 12) (N := some 70) (v := ?_) (a' := ?_) #[true,true,true,true,true,true,true,true,true,true,true,true,true,true,true,true,false,false,false,true,true,true,false,false,false,false,false] rfl rfl (any_of HT_.out (by kernel_rfl)) (fun _ _ _ h => h) (Or.inl ⟨by rfl,?_⟩) ?_ ?_
                  rotate_left
                  ·intro w'
                   go_simp
                   with_reducible rfl
                  rotate_left
                  ·simp only [Act.put,p1_,p2_,p3_,i64_w,i32_w]
                   rfl
                  refine take_ (i := 16) (N := some 74) (v := ?_) (a' := ?_) #[true,true,true,true,true,true,true,true,true,true,true,true,true,true,true,true,true,false,false,true,true,true,false,false,false,false,false] rfl rfl (take_ofW HT_.out HW_.out (by kernel_rfl)) (fun _ _ _ h => h) (Or.inl ⟨by rfl,?_⟩) hHeld ?_ ?_
                  rotate_left
                  ·rintro w' ⟨s0,s1,s2,s3⟩
                   go_simp
                   with_reducible rfl
                  rotate_left
                  ·simp only [Act.put,p1_,p2_,p3_,i64_w,i32_w]
                   rfl
                  refine pure_ (i := 17) (N := some 75) (v := ?_) (a' := ?_) #[true,true,true,true,true,true,true,true,true,true,true,true,true,true,true,true,true,true,false,true,true,true,false,false,false,false,false] rfl rfl (any_of HT_.out (by kernel_rfl)) (fun _ _ _ h => h) (Or.inl ⟨by rfl,?_⟩) ?_ ?_
                  rotate_left
                  ·intro w'
                   go_simp
                   with_reducible rfl
                  rotate_left
                  ·simp only [Act.put,p1_,p2_,p3_,i64_w,i32_w]
                   rfl
                  refine pure_ (i := 18) (N := some 76) (v := ?_) (a' := ?_) #[true,true,true,true,true,true,true,true,true,true,true,true,true,true,true,true,true,true,true,true,true,true,false,false,false,false,false] rfl rfl (any_of HT_.out (by kernel_rfl)) (fun _ _ _ h => h) (Or.inl ⟨by rfl,?_⟩) ?_ ?_
                  rotate_left
                  ·intro w'
                   go_simp
                   with_reducible rfl
                  rotate_left
                  ·simp only [Act.put,p1_,p2_,p3_,i64_w,i32_w]
                   rfl
                  refine take_ (i := 22) (N := some 80) (v := ?_) (a' := ?_) #[true,true,true,true,true,true,true,true,true,true,true,true,true,true,true,true,true,true,true,true,true,true,true,false,false,false,false] rfl rfl (take_ofW HT_.out HW_.out (by kernel_rfl)) (fun _ _ _ h => h) (Or.inl ⟨by rfl,?_⟩) hHeld ?_ ?_
                  rotate_left
                  ·rintro w' ⟨s0,s1,s2,s3⟩
                   go_simp
                   with_reducible rfl
                  rotate_left
                  ·simp only [Act.put,p1_,p2_,p3_,i64_w,i32_w]
                   rfl
                  refine pure_ (i := 23) (N := some 81) (v := ?_) (a' := ?_) #[true,true,true,true,true,true,true,true,true,true,true,true,true,true,true,true,true,true,true,true,true,true,true,true,false,false,false] rfl rfl (any_of HT_.out (by kernel_rfl)) (fun _ _ _ h => h) (Or.inl ⟨by rfl,?_⟩) ?_ ?_
                  rotate_left
                  ·intro w'
                   go_simp
                   with_reducible rfl
                  rotate_left
                  ·simp only [Act.put,p1_,p2_,p3_,i64_w,i32_w]
                   rfl
                  refine one_ (i := 24) (N := some 82) #[true,true,true,true,true,true,true,true,true,true,true,true,true,true,true,true,true,true,true,true,true,true,true,true,true,false,false] rfl rfl (one_of HT_.out (by kernel_rfl)) (by decide) (fun K hK => ?_)
                  refine Kd.R_lit_step (Kd.int .u8) _ 5 ?hg (N := 82) ?hd (xs := ([((rd x3_3 x9_4) / 16777216) % 256,((rd x3_3 x9_4) / 65536) % 256,((rd x3_3 x9_4) / 256) % 256,(rd x3_3 x9_4) % 256] : List Int)) (inner := [.int .u8 (((rd x3_3 x9_4) / 16777216) % 256),.int .u8 (((rd x3_3 x9_4) / 65536) % 256),.int .u8 (((rd x3_3 x9_4) / 256) % 256),.int .u8 ((rd x3_3 x9_4) % 256)]) (ok := fun _ => True) (okp := fun _ => True) ?hr ?hp (fun _ hk => hk) trivial (Below.refl _ _) (Nat.le_refl _) (by simp) ?_;(case hd => rfl);(case hg => rfl);(case hr => first | (go_simp;done) | (go_simp;rfl));(case hp => exact (Reps.one (show Kd.M (Kd.int .u8) _ _ _ (((rd x3_3 x9_4) / 16777216) % 256) [.int .u8 (((rd x3_3 x9_4) / 16777216) % 256)] from rfl) (Reps.one (show Kd.M (Kd.int .u8) _ _ _ (((rd x3_3 x9_4) / 65536) % 256) [.int .u8 (((rd x3_3 x9_4) / 65536) % 256)] from rfl) (Reps.one (show Kd.M (Kd.int .u8) _ _ _ (((rd x3_3 x9_4) / 256) % 256) [.int .u8 (((rd x3_3 x9_4) / 256) % 256)] from rfl) (Reps.one (show Kd.M (Kd.int .u8) _ _ _ ((rd x3_3 x9_4) % 256) [.int .u8 ((rd x3_3 x9_4) % 256)] from rfl) (Reps.none _ _))))))
                  intro v191 w39 ho40 hb hg_ hnew_
                  have HS0_ := (hb.cell (World.block_lt_of_cell? _ _ (hHeld.1))).trans (hHeld.1)
                  have HS1_ := (hb.cell (World.block_lt_of_cell? _ _ (hHeld.2.1))).trans (hHeld.2.1)
                  have HS2_ := (hb.cell (World.block_lt_of_cell? _ _ (hHeld.2.2.1))).trans (hHeld.2.2.1)
                  have HS3_ := (hb.cell (World.block_lt_of_cell? _ _ (hHeld.2.2.2))).trans (hHeld.2.2.2)
                  clear hg_ hnew_
                  (first | rw [← Ny190.out] at ho40 | (simp only [Int.reduceToNat] at ho40;rw [← Ny190.out] at ho40))
                  have n0_ := am_ (Kd.R_below (by (with_reducible repeat (first | apply r1_ | apply r2_ | apply r3_));exact HO_3.out) hb)
                  have n1_ := am_ (Kd.R_elder' (by (with_reducible repeat (first | apply r1_ | apply r2_ | apply r3_));exact HO_8.out) (Kd.R_base ho40) hb)
                  have n2_ := am_ (Kd.R_lower (Kd.R_new' ho40 (Kd.R_lt (by (with_reducible repeat (first | apply r1_ | apply r2_ | apply r3_));exact HO_8.out))) (below_size (by repeat (first | (with_reducible first | exact HB.out | apply b1_ | apply b2_ | apply b3_) | exact HB.out))))
                  have n3_ := am_ (below_step (by repeat (first | (with_reducible first | exact HB.out | apply b1_ | apply b2_ | apply b3_) | exact HB.out)) hb)
                  clear HO_3
                  clear HO_8
                  clear HB
                  have HO_3 := n0_
                  have HO_8 := n1_
                  have HO192 := n2_
                  have HB := n3_
                  clear n0_ n1_ n2_ n3_
                  clear hb ho40
                  obtain ⟨Ao42,co42,eo42⟩ := Kd.R_slice HO192.out
                  (first | subst eo42 | (injection eo42 with f1_ f2_ f3_;have f4_ := f1_.symm;have f5_ := f3_.symm;clear f1_ f2_ f3_;subst f4_;subst f5_))
                  refine hK.out _ _ ⟨HS0_,HS1_,HS2_,HS3_⟩ (fun hHeld => ?_)
                  clear hK K
                  refine norm_ (a' := ?_) ?_ ?_
                  rotate_left
                  ·show Act.put _ (some 82) _ = _
                   simp only [Act.put,p1_,p2_,p3_,i64_w,i32_w]
                   rfl
                  refine last_ (i := 25) (N := some 83) #[true,true,true,true,true,true,true,true,true,true,true,true,true,true,true,true,true,true,true,true,true,true,true,true,true,true,false] rfl rfl (one_of HT_.out (by kernel_rfl)) (by decide) (fun K hK => ?_)
                  refine Kd.R_append_rows_step (Kd.int .u8) (w0 := w) w.heap.size (by rfl) (.tmp 58) (.tmp 82) 94 5 (.int .u8 0) 1 rfl Tryd.underlying94 info5 rfl (by decide) (by omega) u8 x8_4 y190 _ _ _ (fun k_ => some k_ ≠ (.slice Ao42 y190.length co42 : Value).ownBlock) (fun _ => False) rfl rfl ?aO ?aR (fun _ _ h => h) (fun _ h => h.elim) ?aF ?aB ?aS ?aL ?_
                  (case aR => repeat (first | exact (Kd.R_reads' HO192.out).2.2 | (with_reducible refine Kd.C_alloc ?_ _) | (with_reducible refine Kd.C_drewN ?_ _) | (with_reducible refine Kd.C_drew ?_)))
                  (case aB => exact (by repeat (first | (with_reducible first | exact HB.out | apply b1_ | apply b2_ | apply b3_) | exact HB.out)))
                  (case aF => exact (fun k_ hk => Kd.fresh' (Kd.R_lt (by (with_reducible repeat (first | apply r1_ | apply r2_ | apply r3_));exact HO192.out)) k_ hk))
                  (case aO => exact (by (with_reducible repeat (first | apply r1_ | apply r2_ | apply r3_));exact Kd.R_mono HO_8.out (fun _ hk => hk.2)))
                  (case aS => exact (below_size (by repeat (first | (with_reducible first | exact HB.out | apply b1_ | apply b2_ | apply b3_) | exact HB.out))))
                  (case aL => have := LMc36.out;omega)
                  intro v194 w41 ho hb hg hat
                  rw [← Ny193.out] at ho
                  have n0_ := am_ (Kd.R_over' (by (with_reducible repeat (first | apply r1_ | apply r2_ | apply r3_));exact HO_3.out) (Kd.R_typed (by (with_reducible repeat (first | apply r1_ | apply r2_ | apply r3_));exact HO_8.out)) (by decide) hg)
                  have n1_ := am_ (Kd.R_after (ok := (fun _ => True)) (by (with_reducible repeat (first | apply r1_ | apply r2_ | apply r3_));exact HO192.out) hg hat)
                  have n2_ := am_ (hb)
                  have n3_ := am_ (ho)
                  clear HO_3
                  clear HO192
                  clear HB
                  clear HO_8
                  have HO_3 := n0_
                  have HO192 := n1_
                  have HB := n2_
                  have HO195 := n3_
                  clear n0_ n1_ n2_ n3_
                  clear ho hb hg hat
                  refine hK.out _ _ ?_
                  clear hK K
                  refine norm_ (a' := ?_) ?_ ?_
                  rotate_left
                  ·show Act.put _ (some 83) _ = _
                   simp only [Act.put,p1_,p2_,p3_,i64_w,i32_w]
                   rfl
                  refine pure_ (i := 26) (N := some 8) (v := ?_) (a' := ?_) #[true,true,true,true,true,true,true,true,true,true,true,true,true,true,true,true,true,true,true,true,true,true,true,true,true,true,true] rfl rfl (any_of HT_.out (by kernel_rfl)) (fun _ _ _ h => h) (Or.inl ⟨by rfl,?_⟩) ?_ ?_
                  rotate_left
                  ·intro w'
                   go_simp
                   with_reducible rfl
                  rotate_left
                  ·simp only [Act.put,p1_,p2_,p3_,i64_w,i32_w]
                   rfl
                  refine done_ (done_of HT_.out (by kernel_rfl)) ?_
                  try go_wp2
                  go_roundg k4
                  case measure => have := HK1.out;have := HK2.out;have := HK3.out;have := HK4.out;omega
                  case rel => exact ⟨(y193),(wrap64 (x9_4 + 1)),(by first | rfl | (simp;done) | (simp [*];done)),H',⟨by have := HK1.out;have := HK2.out;have := HK3.out;have := HK4.out;omega⟩,⟨by (with_reducible repeat (first | apply r1_ | apply r2_ | apply r3_));exact HO_3.out⟩,⟨by (with_reducible repeat (first | apply r1_ | apply r2_ | apply r3_));exact Kd.R_mono HO195.out (fun _ hk => trivial)⟩,⟨by repeat (first | (with_reducible first | exact HB.out | apply b1_ | apply b2_ | apply b3_) | exact HB.out)⟩⟩
                 ·rw [if_neg c36] at H
                  exact absurd H (by simp)
                ·rw [if_neg c35] at H
                 exact absurd H (by simp)
               ·rw [if_neg c34] at H
                exact absurd H (by simp)
              ·rw [if_neg c33] at H
               have c33b0 : decide (x9_4 < 8) = false := decide_eq_false c33
               clear c33
               obtain rfl := Option.some.inj H
               have hcv43 := own_string (P := Tryd.prog) Tryd.underlying94 Tryd.underlying5 Tryd.underlying9 (Kd.own_of_R HO_8.out)
               go_wp2
               go_ret
               exact ⟨by first | rfl | (simp [e1_,e2_] <;> rfl) | (simp [*,e1_,e2_] <;> rfl) | (simp [e3_,e4_];done) | (simp [*,e3_,e4_];done),by repeat (first | (with_reducible first | exact HB.out | apply b1_ | apply b2_ | apply b3_) | exact HB.out)⟩
     ·rw [if_neg c10] at H
      have c10b0 : (((x4_1.length : Int) % 64) == 56) = false := beq_eq_false_iff_ne.mpr c10
      have c10b1 : (((x4_1.length : Int) % 64) != 56) = true := bne_iff_ne.mpr c10
      by_cases c44 : x4_1.length < 140737488355328
      ·rw [if_pos c44] at H
       have LMc44 := am_ c44
       clear c44
       obtain ⟨y169,hy169⟩ : ∃ y_ : List Int,y_ = (x4_1 ++ [0]) := ⟨_,rfl⟩
       replace H : (spec_l01Hash.l0 k1 l0 y157 y169) = some r := by first | (rw [hy169];with_reducible exact H) | (have H2_ := (Option.bind_some _ _).symm.trans H;rw [hy169];with_reducible exact H2_) | (have H2_ := (Option.bind_some _ _).symm.trans H;with_reducible exact H2_) | with_reducible exact H | (rw [hy169];exact H) | exact H
       have Ny169 := am_ hy169
       clear hy169
       have H' := am_ H
       clear H
       obtain ⟨Ao45,co45,eo45⟩ := Kd.R_slice HO_4.out
       subst eo45
       go_wp2_with (first | ((with_reducible refine gate_builtin (b := .append) (xs := #[.tmp 20,.tmp 21]) rfl ?_);at_builtin;refine Kd.R_append (Kd.int .u8) (w0 := w) w.heap.size rfl (.tmp 20) (.tmp 21) 94 5 (.int .u8 0) 1 rfl Tryd.underlying94 info5 rfl (by decide) (by omega) (.slice Ao45 x4_1.length co45) x4_1 0 [.int .u8 0] (fun _ => True) (fun _ => False) rfl rfl ?aP (fun _ hk => hk.elim) ?aF ?aO ?aB ?aS ?aL ?_;(case aP => exact rfl);(case aB => exact (by repeat (first | (with_reducible first | exact HB.out | apply b1_ | apply b2_ | apply b3_) | exact HB.out)));(case aF => exact (fun _ _ => trivial));(case aO => exact (by (with_reducible repeat (first | apply r1_ | apply r2_ | apply r3_));exact HO_4.out));(case aS => exact (below_size (by repeat (first | (with_reducible first | exact HB.out | apply b1_ | apply b2_ | apply b3_) | exact HB.out))));(case aL => have := LMc44.out;omega);intro v170 w46 ho hb hg hat;rw [← Ny169.out] at ho;have n0_ := am_ (Kd.R_over' (by (with_reducible repeat (first | apply r1_ | apply r2_ | apply r3_));exact HO_3.out) (Kd.R_typed (by (with_reducible repeat (first | apply r1_ | apply r2_ | apply r3_));exact HO_4.out)) (by decide) hg);have n1_ := am_ (hb);have n2_ := am_ (ho);clear HO_3;clear HB;clear HO_4;have HO_3 := n0_;have HB := n1_;have HO171 := n2_;clear n0_ n1_ n2_;clear ho hb hg hat))
       go_roundg k1
       case measure => have := HK1.out;omega
       case rel => exact ⟨(y169),H',⟨by have := HK1.out;omega⟩,⟨by (with_reducible repeat (first | apply r1_ | apply r2_ | apply r3_));exact HO_3.out⟩,⟨by (with_reducible repeat (first | apply r1_ | apply r2_ | apply r3_));exact HO171.out⟩,⟨by repeat (first | (with_reducible first | exact HB.out | apply b1_ | apply b2_ | apply b3_) | exact HB.out)⟩⟩
      ·rw [if_neg c44] at H
       exact absurd H (by simp)
  ·rw [if_neg c3] at H
   exact absurd H (by simp)
 ·rw [if_neg c2] at H
  exact absurd H (by simp)
set_option maxHeartbeats 8000000 in
set_option maxRecDepth 100000 in
theorem spec_l09Leaf.calls (k : Nat) (a0 : ByteArray) (r : ByteArray) (w : World) (h : spec_l09Leaf.f k a0 = some r) :
  Calls Tryd.prog 72 #[.string a0] w fun e w' => e = .returned (.string r) ∧ Below w.heap.size w w' := by
 have HB := am_ (Below.refl w.heap.size w)
 have H : (if 5 + a0.size ≤ 9223372036854775807 then (if ((⟨#[112,105,101,99,101]⟩ : ByteArray) ++ a0).size ≤ 140737488355328 then ((spec_l01Hash.f k (bytesOf ((⟨#[112,105,101,99,101]⟩ : ByteArray) ++ a0))).bind fun t633 => (some t633)) else (none)) else (none)) = some r := h
 clear h
 by_cases c2 : 5 + a0.size ≤ 9223372036854775807
 ·rw [if_pos c2] at H
  have c2b0 := eq_true c2
  have c2b1 : decide (5 + a0.size ≤ 9223372036854775807) = true := decide_eq_true c2
  try have c2b2 : (9223372036854775807 < 5 + a0.size) = False := eq_false (Nat.not_lt.2 c2)
  by_cases c3 : ((⟨#[112,105,101,99,101]⟩ : ByteArray) ++ a0).size ≤ 140737488355328
  ·rw [if_pos c3] at H
   have c3b0 := eq_true c3
   have c3b1 : decide (((⟨#[112,105,101,99,101]⟩ : ByteArray) ++ a0).size ≤ 140737488355328) = true := decide_eq_true c3
   obtain ⟨y630,hy630⟩ : ∃ y_ : List Int,y_ = (bytesOf ((⟨#[112,105,101,99,101]⟩ : ByteArray) ++ a0)) := ⟨_,rfl⟩
   replace H : ((spec_l01Hash.f k y630).bind fun t633 => (some t633)) = some r := by first | (rw [hy630];with_reducible exact H) | (have H2_ := (Option.bind_some _ _).symm.trans H;rw [hy630];with_reducible exact H2_) | (have H2_ := (Option.bind_some _ _).symm.trans H;with_reducible exact H2_) | with_reducible exact H | (rw [hy630];exact H) | exact H
   have Ny630 := am_ hy630
   clear hy630
   replace H := Option.bind_eq_some_iff.mp H
   obtain ⟨t633,A40,H⟩ := H
   try dsimp only at H
   have A4 := am_ A40
   clear A40
   obtain rfl := Option.some.inj H
   go_enter Tryd.func72,Tryd.ntmps72
   go_wp2_with (first | ((with_reducible refine gate_dst (N := 5) rfl ?_);refine Kd.V_conv (Kd.int .u8) rfl _ 5 rfl (N := 5) rfl 9 94 _ rfl ((⟨#[112,105,101,99,101]⟩ : ByteArray) ++ a0) rfl Tryd.underlying9 Tryd.underlying94 Tryd.underlying5 (ok := fun k_ => w.heap.size ≤ k_) (okp := fun _ => False) (fun _ hk => hk.elim) (Nat.le_refl _) (by have := o1_ (by first | (with_reducible assumption) | assumption : decide (((⟨#[112,105,101,99,101]⟩ : ByteArray) ++ a0).size ≤ 140737488355328) = true);omega) (Below.refl _ _) (Nat.le_refl _) ?_;intro v631 w5 ho6 hb hg_ hnew_;clear hg_ hnew_;(first | rw [← Ny630.out] at ho6 | (simp only [Int.reduceToNat] at ho6;rw [← Ny630.out] at ho6));have n0_ := am_ (Kd.V_lower (Kd.V_mono (ok' := fun k_ => True) ho6 (fun k_ hk_ => trivial)) (below_size (by repeat (first | (with_reducible first | exact HB.out | apply b1_ | apply b2_ | apply b3_) | exact HB.out))));have n1_ := am_ (below_step (by repeat (first | (with_reducible first | exact HB.out | apply b1_ | apply b2_ | apply b3_) | exact HB.out)) hb);clear HB;have HO632 := n0_;have HB := n1_;clear n0_ n1_;clear hb ho6;obtain ⟨Ao7,co7,eo7⟩ := Kd.V_slice HO632.out;subst eo7) | ((with_reducible refine gate_callee (f := 83) rfl ?_);refine goesL_ (some 6) rfl rfl Tryd.func83 (by kernel_rfl) rfl #[.slice Ao7 y630.length co7] rfl (by (try simp only [m1_,m2_,m3_]);first | done | rfl | (simp only [d1_,d2_];rfl)) ?_;(with_reducible refine (spec_l01Hash.calls k _ _ y630 t633 _ ?side1 ?side2 A4.out).mono ?_);(case side1 => repeat (first | exact (Kd.V_reads' HO632.out).2.2 | (with_reducible refine Kd.C_alloc ?_ _) | (with_reducible refine Kd.C_drewN ?_ _) | (with_reducible refine Kd.C_drew ?_)));(case side2 => exact (Kd.V_reads' HO632.out).2.1);rintro e w8 ⟨rfl,hb⟩;refine ⟨_,rfl,?_⟩;have n0_ := am_ (Kd.V_below (by (with_reducible repeat (first | apply Kd.V_alloc | apply Kd.V_drewN | apply Kd.V_drew));exact HO632.out) hb);have n1_ := am_ (below_step (by repeat (first | (with_reducible first | exact HB.out | apply b1_ | apply b2_ | apply b3_) | exact HB.out)) hb);clear HO632;clear HB;have HO632 := n0_;have HB := n1_;clear n0_ n1_;(try clear hb);(try clear hb2);(try clear hk);(try clear hi)))
   go_ret
   exact ⟨by first | rfl | (simp [e1_,e2_] <;> rfl) | (simp [*,e1_,e2_] <;> rfl) | (simp [e3_,e4_];done) | (simp [*,e3_,e4_];done),by repeat (first | (with_reducible first | exact HB.out | apply b1_ | apply b2_ | apply b3_) | exact HB.out)⟩
  ·rw [if_neg c3] at H
   exact absurd H (by simp)
 ·rw [if_neg c2] at H
  exact absurd H (by simp)
set_option maxHeartbeats 8000000 in
set_option maxRecDepth 100000 in
theorem spec_l03Node.calls (k : Nat) (a0 : ByteArray) (a1 : ByteArray) (r : ByteArray) (w : World) (h : spec_l03Node.f k a0 a1 = some r) :
  Calls Tryd.prog 106 #[.string a0,.string a1] w fun e w' => e = .returned (.string r) ∧ Below w.heap.size w w' := by
 have HB := am_ (Below.refl w.heap.size w)
 have H : (if 4 + a0.size ≤ 9223372036854775807 then (if ((⟨#[110,111,100,101]⟩ : ByteArray) ++ a0).size + a1.size ≤ 9223372036854775807 then (if (((⟨#[110,111,100,101]⟩ : ByteArray) ++ a0) ++ a1).size ≤ 140737488355328 then ((spec_l01Hash.f k (bytesOf (((⟨#[110,111,100,101]⟩ : ByteArray) ++ a0) ++ a1))).bind fun t378 => (some t378)) else (none)) else (none)) else (none)) = some r := h
 clear h
 by_cases c3 : 4 + a0.size ≤ 9223372036854775807
 ·rw [if_pos c3] at H
  have c3b0 := eq_true c3
  have c3b1 : decide (4 + a0.size ≤ 9223372036854775807) = true := decide_eq_true c3
  try have c3b2 : (9223372036854775807 < 4 + a0.size) = False := eq_false (Nat.not_lt.2 c3)
  by_cases c4 : ((⟨#[110,111,100,101]⟩ : ByteArray) ++ a0).size + a1.size ≤ 9223372036854775807
  ·rw [if_pos c4] at H
   have c4b0 := eq_true c4
   have c4b1 : decide (((⟨#[110,111,100,101]⟩ : ByteArray) ++ a0).size + a1.size ≤ 9223372036854775807) = true := decide_eq_true c4
   try have c4b2 : (9223372036854775807 < ((⟨#[110,111,100,101]⟩ : ByteArray) ++ a0).size + a1.size) = False := eq_false (Nat.not_lt.2 c4)
   (try have c4b3 := c4b2;simp only [ByteArray.size_append,show (⟨#[110,111,100,101]⟩ : ByteArray).size = 4 from rfl] at c4b3)
   by_cases c5 : (((⟨#[110,111,100,101]⟩ : ByteArray) ++ a0) ++ a1).size ≤ 140737488355328
   ·rw [if_pos c5] at H
    have c5b0 := eq_true c5
    have c5b1 : decide ((((⟨#[110,111,100,101]⟩ : ByteArray) ++ a0) ++ a1).size ≤ 140737488355328) = true := decide_eq_true c5
    obtain ⟨y375,hy375⟩ : ∃ y_ : List Int,y_ = (bytesOf (((⟨#[110,111,100,101]⟩ : ByteArray) ++ a0) ++ a1)) := ⟨_,rfl⟩
    replace H : ((spec_l01Hash.f k y375).bind fun t378 => (some t378)) = some r := by first | (rw [hy375];with_reducible exact H) | (have H2_ := (Option.bind_some _ _).symm.trans H;rw [hy375];with_reducible exact H2_) | (have H2_ := (Option.bind_some _ _).symm.trans H;with_reducible exact H2_) | with_reducible exact H | (rw [hy375];exact H) | exact H
    have Ny375 := am_ hy375
    clear hy375
    replace H := Option.bind_eq_some_iff.mp H
    obtain ⟨t378,A60,H⟩ := H
    try dsimp only at H
    have A6 := am_ A60
    clear A60
    obtain rfl := Option.some.inj H
    go_enter Tryd.func106,Tryd.ntmps106
    go_wp2_with (first | ((with_reducible refine gate_dst (N := 9) rfl ?_);refine Kd.V_conv (Kd.int .u8) rfl _ 5 rfl (N := 9) rfl 9 94 _ rfl (((⟨#[110,111,100,101]⟩ : ByteArray) ++ a0) ++ a1) rfl Tryd.underlying9 Tryd.underlying94 Tryd.underlying5 (ok := fun k_ => w.heap.size ≤ k_) (okp := fun _ => False) (fun _ hk => hk.elim) (Nat.le_refl _) (by have := o1_ (by first | (with_reducible assumption) | assumption : decide ((((⟨#[110,111,100,101]⟩ : ByteArray) ++ a0) ++ a1).size ≤ 140737488355328) = true);omega) (Below.refl _ _) (Nat.le_refl _) ?_;intro v376 w7 ho8 hb hg_ hnew_;clear hg_ hnew_;(first | rw [← Ny375.out] at ho8 | (simp only [Int.reduceToNat] at ho8;rw [← Ny375.out] at ho8));have n0_ := am_ (Kd.V_lower (Kd.V_mono (ok' := fun k_ => True) ho8 (fun k_ hk_ => trivial)) (below_size (by repeat (first | (with_reducible first | exact HB.out | apply b1_ | apply b2_ | apply b3_) | exact HB.out))));have n1_ := am_ (below_step (by repeat (first | (with_reducible first | exact HB.out | apply b1_ | apply b2_ | apply b3_) | exact HB.out)) hb);clear HB;have HO377 := n0_;have HB := n1_;clear n0_ n1_;clear hb ho8;obtain ⟨Ao9,co9,eo9⟩ := Kd.V_slice HO377.out;subst eo9) | ((with_reducible refine gate_callee (f := 83) rfl ?_);refine goesL_ (some 10) rfl rfl Tryd.func83 (by kernel_rfl) rfl #[.slice Ao9 y375.length co9] rfl (by (try simp only [m1_,m2_,m3_]);first | done | rfl | (simp only [d1_,d2_];rfl)) ?_;(with_reducible refine (spec_l01Hash.calls k _ _ y375 t378 _ ?side1 ?side2 A6.out).mono ?_);(case side1 => repeat (first | exact (Kd.V_reads' HO377.out).2.2 | (with_reducible refine Kd.C_alloc ?_ _) | (with_reducible refine Kd.C_drewN ?_ _) | (with_reducible refine Kd.C_drew ?_)));(case side2 => exact (Kd.V_reads' HO377.out).2.1);rintro e w10 ⟨rfl,hb⟩;refine ⟨_,rfl,?_⟩;have n0_ := am_ (Kd.V_below (by (with_reducible repeat (first | apply Kd.V_alloc | apply Kd.V_drewN | apply Kd.V_drew));exact HO377.out) hb);have n1_ := am_ (below_step (by repeat (first | (with_reducible first | exact HB.out | apply b1_ | apply b2_ | apply b3_) | exact HB.out)) hb);clear HO377;clear HB;have HO377 := n0_;have HB := n1_;clear n0_ n1_;(try clear hb);(try clear hb2);(try clear hk);(try clear hi)))
    go_ret
    exact ⟨by first | rfl | (simp [e1_,e2_] <;> rfl) | (simp [*,e1_,e2_] <;> rfl) | (simp [e3_,e4_];done) | (simp [*,e3_,e4_];done),by repeat (first | (with_reducible first | exact HB.out | apply b1_ | apply b2_ | apply b3_) | exact HB.out)⟩
   ·rw [if_neg c5] at H
    exact absurd H (by simp)
  ·rw [if_neg c4] at H
   exact absurd H (by simp)
 ·rw [if_neg c3] at H
  exact absurd H (by simp)
set_option maxHeartbeats 8000000 in
set_option maxRecDepth 100000 in
theorem spec_l09Half.calls (k : Nat) (a0 : Int) (r : Int) (w : World) (h : spec_l09Half.f k a0 = some r) :
  Calls Tryd.prog 105 #[.int .i64 a0] w fun e w' => e = .returned (.int .i64 r) ∧ Drawn0 w w' := by
 have H : (spec_l09Half.l0 k a0 1) = some r := h
 clear h
 have H' := am_ H
 clear H
 go_enter Tryd.func105,Tryd.ntmps105
 go_wp2
 go_loopg [3] k (fun kq v3 w' => ∃ (x3_1 : Int),v3 = .int .i64 x3_1 ∧ Aside0 (spec_l09Half.l0 kq a0 x3_1 = some r) ∧ Aside0 (kq ≤ k) ∧ Drawn0 w w')
 case atStart => exact ⟨(1),(by first | rfl | (simp;done) | (simp [*];done)),H',⟨Nat.le_refl _⟩,by repeat (first | exact Drawn0.refl _ | apply Drawn0.step)⟩
 case round =>
  clear H'
  try clear c1
  obtain ⟨x3_1,rfl,HA,HK1,⟨m1,rfl⟩⟩ := hrel
  cases gk with
  | zero => exact absurd HA.out (by simp [spec_l09Half.l0])
  | succ k1 =>
   have H := HA.out
   clear HA
   simp only [spec_l09Half.l0] at H
   by_cases c2 : (wrap64 (2 * x3_1)) < a0
   ·rw [if_pos c2] at H
    have c2b0 : decide ((wrap64 (2 * x3_1)) < a0) = true := decide_eq_true c2
    clear c2
    have H' := am_ H
    clear H
    go_wp2
    go_roundg k1
    case measure => have := HK1.out;omega
    case rel => exact ⟨(wrap64 (x3_1 * 2)),(by first | rfl | (simp;done) | (simp [*];done)),H',⟨by have := HK1.out;omega⟩,by repeat (first | exact Drawn0.refl _ | apply Drawn0.step)⟩
   ·rw [if_neg c2] at H
    have c2b0 : decide ((wrap64 (2 * x3_1)) < a0) = false := decide_eq_false c2
    clear c2
    obtain rfl := Option.some.inj H
    go_wp2
    go_ret
    exact ⟨by first | rfl | (simp;done) | (simp [*];done),by repeat (first | exact Drawn0.refl _ | apply Drawn0.step)⟩
set_option maxHeartbeats 8000000 in
set_option maxRecDepth 100000 in
theorem spec_l09Up.calls (k : Nat) : ∀ (a0 : ByteArray) (a1 : Int) (a2 : Int) (A3 : Option Addr) (c3 : Nat) (l3 : List ByteArray) (r1 : ByteArray) (r2 : Bool) (w : World) (hr3 : Kd.C Kd.string w A3 l3.length l3) (hc3 : l3.length ≤ c3) (h : spec_l09Up.f k a0 a1 a2 l3 = some (r1,r2)),
  Calls Tryd.prog 71 #[.string a0,.int .i64 a1,.int .i64 a2,.slice A3 l3.length c3] w fun e w' => e = .returned (.tuple #[.string r1,.bool r2]) ∧ Below w.heap.size w w' := by
 induction k using Nat.strongRecOn with
 | _ k ih =>
 intro a0 a1 a2 A3 c3 l3 r1 r2 w hr3 hc3 h
 cases k with
 | zero => exact absurd h (by simp [spec_l09Up.f])
 | succ k =>
 simp only [spec_l09Up.f] at h
 have HR3 := am_ hr3
 have HC3 := am_ hc3
 clear hr3 hc3
 have HB := am_ (Below.refl w.heap.size w)
 have H : (if a2 = 1 then (some (a0,((l3.length : Int) == 0))) else (if (l3.length : Int) = 0 then (some ((⟨#[]⟩ : ByteArray),false)) else ((spec_l09Half.f k a2).bind fun t621 => (if 0 ≤ (wrap64 ((l3.length : Int) - 1)) then (if (wrap64 ((l3.length : Int) - 1)) < (l3.length : Int) then (if (wrap64 ((l3.length : Int) - 1)) ≤ (l3.length : Int) then (if a1 < t621 then ((spec_l09Up.f k a0 a1 t621 (l3.take ((wrap64 ((l3.length : Int) - 1)) : Int).toNat)).bind fun bt624 => ((spec_l03Node.f k bt624.1 (rdOf ByteArray.empty l3 (wrap64 ((l3.length : Int) - 1)))).bind fun t626 => (some (t626,bt624.2)))) else ((spec_l09Up.f k a0 (wrap64 (a1 - t621)) (wrap64 (a2 - t621)) (l3.take ((wrap64 ((l3.length : Int) - 1)) : Int).toNat)).bind fun bt627 => ((spec_l03Node.f k (rdOf ByteArray.empty l3 (wrap64 ((l3.length : Int) - 1))) bt627.1).bind fun t629 => (some (t629,bt627.2))))) else (none)) else (none)) else (none))))) = some (r1,r2) := h
 clear h
 by_cases c5 : a2 = 1
 ·rw [if_pos c5] at H
  have c5b0 : (a2 == 1) = true := beq_iff_eq.mpr c5
  have c5b1 : (a2 != 1) = false := bne_eq_false_iff_eq.mpr c5
  clear c5
  simp only [Option.some.injEq,Prod.mk.injEq] at H
  obtain ⟨rfl,rfl⟩ := H
  go_enter Tryd.func71,Tryd.ntmps71
  go_wp2
  go_ret2
  exact ⟨by first | rfl | (simp [e1_,e2_] <;> rfl) | (simp [*,e1_,e2_] <;> rfl) | (simp [e3_,e4_];done) | (simp [*,e3_,e4_];done),by repeat (first | (with_reducible first | exact HB.out | apply b1_ | apply b2_ | apply b3_) | exact HB.out)⟩
 ·rw [if_neg c5] at H
  have c5b0 : (a2 == 1) = false := beq_eq_false_iff_ne.mpr c5
  have c5b1 : (a2 != 1) = true := bne_iff_ne.mpr c5
  by_cases c6 : (l3.length : Int) = 0
  ·rw [if_pos c6] at H
   have c6b0 : ((l3.length : Int) == 0) = true := beq_iff_eq.mpr c6
   have c6b1 : ((l3.length : Int) != 0) = false := bne_eq_false_iff_eq.mpr c6
   clear c6
   simp only [Option.some.injEq,Prod.mk.injEq] at H
   obtain ⟨rfl,rfl⟩ := H
   go_enter Tryd.func71,Tryd.ntmps71
   go_wp2
   go_ret2
   exact ⟨by first | rfl | (simp [e1_,e2_] <;> rfl) | (simp [*,e1_,e2_] <;> rfl) | (simp [e3_,e4_];done) | (simp [*,e3_,e4_];done),by repeat (first | (with_reducible first | exact HB.out | apply b1_ | apply b2_ | apply b3_) | exact HB.out)⟩
  ·rw [if_neg c6] at H
   have c6b0 : ((l3.length : Int) == 0) = false := beq_eq_false_iff_ne.mpr c6
   have c6b1 : ((l3.length : Int) != 0) = true := bne_iff_ne.mpr c6
   have c6b2 : ¬ (l3 = []) := fun h_ => c6 (by rw [h_];rfl)
   replace H := Option.bind_eq_some_iff.mp H
   obtain ⟨t621,A70,H⟩ := H
   try dsimp only at H
   have A7 := am_ A70
   clear A70
   obtain ⟨ji8,hji8⟩ : ∃ j_ : Int,(wrap64 ((l3.length : Int) - 1)) = j_ := ⟨_,rfl⟩
   replace H : (if 0 ≤ (ji8) then (if (ji8) < (l3.length : Int) then (if (ji8) ≤ (l3.length : Int) then (if a1 < t621 then ((spec_l09Up.f k a0 a1 t621 (l3.take ((ji8) : Int).toNat)).bind fun bt624 => ((spec_l03Node.f k bt624.1 (rdOf ByteArray.empty l3 (ji8))).bind fun t626 => (some (t626,bt624.2)))) else ((spec_l09Up.f k a0 (wrap64 (a1 - t621)) (wrap64 (a2 - t621)) (l3.take ((ji8) : Int).toNat)).bind fun bt627 => ((spec_l03Node.f k (rdOf ByteArray.empty l3 (ji8)) bt627.1).bind fun t629 => (some (t629,bt627.2))))) else (none)) else (none)) else (none)) = some (r1,r2) := by first | (rw [hji8] at H;exact H) | (simp only [hji8] at H ⊢;exact H)
   (try rw [hji8] at A7)
   have hji8w : (IntKind.i64.wrap ((l3.length : Int) - 1)) = ji8 := (i64_w _).trans hji8
   by_cases c9 : 0 ≤ (ji8)
   ·rw [if_pos c9] at H
    have c9b0 : decide (0 ≤ (ji8)) = true := decide_eq_true c9
    clear c9
    by_cases c10 : (ji8) < (l3.length : Int)
    ·rw [if_pos c10] at H
     have c10b0 : decide ((ji8) < (l3.length : Int)) = true := decide_eq_true c10
     clear c10
     have c11b0 := eq_true (o1_ (by first | (with_reducible assumption) | assumption) : 0 ≤ (ji8))
     by_cases c12 : (ji8) ≤ (l3.length : Int)
     ·rw [if_pos c12] at H
      have c12b0 := eq_true c12
      have c12b1 : decide ((ji8) ≤ (l3.length : Int)) = true := decide_eq_true c12
      clear c12
      by_cases c13 : a1 < t621
      ·rw [if_pos c13] at H
       have c13b0 : decide (a1 < t621) = true := decide_eq_true c13
       clear c13
       replace H := Option.bind_eq_some_iff.mp H
       obtain ⟨⟨t624,t625⟩,A140,H⟩ := H
       try dsimp only at H
       have A14 := am_ A140
       clear A140
       replace H := Option.bind_eq_some_iff.mp H
       obtain ⟨t626,A150,H⟩ := H
       try dsimp only at H
       have A15 := am_ A150
       clear A150
       simp only [Option.some.injEq,Prod.mk.injEq] at H
       obtain ⟨rfl,rfl⟩ := H
       go_enter Tryd.func71,Tryd.ntmps71
       go_wp2_with (first | ((with_reducible refine gate_callee (f := 105) rfl ?_);refine goesL_ (some 27) rfl rfl Tryd.func105 (by kernel_rfl) rfl #[.int .i64 a2] rfl (by (try simp only [m1_,m2_,m3_]);first | done | rfl | (simp only [d1_,d2_];rfl)) ?_;(with_reducible refine (spec_l09Half.calls k a2 t621 _ A7.out).mono ?_);rintro e w' ⟨rfl,⟨nd,rfl⟩⟩;refine ⟨_,rfl,?_⟩;have p622 : 0 ≤ ((ji8) : Int) := o1_ (by first | (with_reducible assumption) | assumption);have q622 : (ji8) < (l3.length : Int) := o1_ (by first | (with_reducible assumption) | assumption);obtain ⟨ad622,e622,hx622_0⟩ := Kd.at_string HR3.out (ji8) p622 q622;cases e622;replace p622 := eq_true p622;replace q622 := eq_true q622;obtain ⟨i016,hi016,_,hsz16,_⟩ := info_parts info9;obtain ⟨hcut16,hA16,hC16⟩ := print_take_of (P := Tryd.prog) Value.string ⟨#[]⟩ 56 9 .i64 Tryd.underlying56 hi016 hsz16 (some ad622) c3 l3 (ji8) (o1_ (by first | (with_reducible assumption) | assumption)) (o1_ (by first | (with_reducible assumption) | assumption)) HC3.out;have HR623 := am_ (Kd.C_of_reads (h1 := fun _ => rfl) (hA16 _ (Kd.reads_of_C HR3.out)));have HC623 := am_ hC16;clear hA16 hC16 hi016 hsz16) | ((with_reducible refine gate_callee (f := 71) rfl ?_);refine goesL_ (some 47) rfl rfl Tryd.func71 (by kernel_rfl) rfl #[.string a0,.int .i64 a1,.int .i64 t621,.slice (some ad622) (l3.take ((ji8) : Int).toNat).length c3] rfl (by (try simp only [m1_,m2_,m3_]);first | done | (rw [show (l3.take ((ji8) : Int).toNat).length = (ji8).toNat from (by rw [List.length_take];have h_ : ((ji8) : Int) ≤ (l3.length : Int) := o1_ (by first | (with_reducible assumption) | assumption);omega)] <;> rfl) | (simp only [hji8];rfl) | rfl | (simp only [d1_,d2_];rfl)) ?_;(with_reducible refine (ih k (by omega) a0 a1 t621 _ _ (l3.take ((ji8) : Int).toNat) t624 t625 _ ?side1 ?side2 A14.out).mono ?_);(case side1 => repeat (first | exact HR623.out | (with_reducible refine Kd.C_alloc ?_ _) | (with_reducible refine Kd.C_drewN ?_ _) | (with_reducible refine Kd.C_drew ?_)));(case side2 => exact HC623.out);rintro e w17 ⟨rfl,hb⟩;refine ⟨_,rfl,?_⟩;have n0_ := am_ (below_step (by repeat (first | (with_reducible first | exact HB.out | apply b1_ | apply b2_ | apply b3_) | exact HB.out)) hb);clear HB;have HB := n0_;clear n0_;(try clear hb);(try clear hb2);(try clear hk);(try clear hi)) | ((with_reducible refine gate_callee (f := 106) rfl ?_);refine goesL_ (some 52) rfl rfl Tryd.func106 (by kernel_rfl) rfl #[.string t624,.string (rdOf ByteArray.empty l3 (ji8))] rfl (by (try simp only [m1_,m2_,m3_]);first | done | (simp only [hji8];rfl) | rfl | (simp only [d1_,d2_];rfl)) ?_;(with_reducible refine (spec_l03Node.calls k t624 (rdOf ByteArray.empty l3 (ji8)) t626 _ A15.out).mono ?_);rintro e w18 ⟨rfl,hb⟩;refine ⟨_,rfl,?_⟩;have n0_ := am_ (below_step (by repeat (first | (with_reducible first | exact HB.out | apply b1_ | apply b2_ | apply b3_) | exact HB.out)) hb);clear HB;have HB := n0_;clear n0_;(try clear hb);(try clear hb2);(try clear hk);(try clear hi)))
       go_ret2
       exact ⟨by first | rfl | (simp [e1_,e2_] <;> rfl) | (simp only [← hji8];first | rfl | (simp [e1_,e2_] <;> rfl)) | (simp [*,e1_,e2_] <;> rfl) | (simp [e3_,e4_];done) | (simp [*,e3_,e4_];done),by repeat (first | (with_reducible first | exact HB.out | apply b1_ | apply b2_ | apply b3_) | exact HB.out)⟩
      ·rw [if_neg c13] at H
       have c13b0 : decide (a1 < t621) = false := decide_eq_false c13
       clear c13
       replace H := Option.bind_eq_some_iff.mp H
       obtain ⟨⟨t627,t628⟩,A190,H⟩ := H
       try dsimp only at H
       have A19 := am_ A190
       clear A190
       replace H := Option.bind_eq_some_iff.mp H
       obtain ⟨t629,A200,H⟩ := H
       try dsimp only at H
       have A20 := am_ A200
       clear A200
       simp only [Option.some.injEq,Prod.mk.injEq] at H
       obtain ⟨rfl,rfl⟩ := H
       go_enter Tryd.func71,Tryd.ntmps71
       go_wp2_with (first | ((with_reducible refine gate_callee (f := 105) rfl ?_);refine goesL_ (some 27) rfl rfl Tryd.func105 (by kernel_rfl) rfl #[.int .i64 a2] rfl (by (try simp only [m1_,m2_,m3_]);first | done | rfl | (simp only [d1_,d2_];rfl)) ?_;(with_reducible refine (spec_l09Half.calls k a2 t621 _ A7.out).mono ?_);rintro e w' ⟨rfl,⟨nd,rfl⟩⟩;refine ⟨_,rfl,?_⟩;have p622 : 0 ≤ ((ji8) : Int) := o1_ (by first | (with_reducible assumption) | assumption);have q622 : (ji8) < (l3.length : Int) := o1_ (by first | (with_reducible assumption) | assumption);obtain ⟨ad622,e622,hx622_0⟩ := Kd.at_string HR3.out (ji8) p622 q622;cases e622;replace p622 := eq_true p622;replace q622 := eq_true q622;obtain ⟨i021,hi021,_,hsz21,_⟩ := info_parts info9;obtain ⟨hcut21,hA21,hC21⟩ := print_take_of (P := Tryd.prog) Value.string ⟨#[]⟩ 56 9 .i64 Tryd.underlying56 hi021 hsz21 (some ad622) c3 l3 (ji8) (o1_ (by first | (with_reducible assumption) | assumption)) (o1_ (by first | (with_reducible assumption) | assumption)) HC3.out;have HR623 := am_ (Kd.C_of_reads (h1 := fun _ => rfl) (hA21 _ (Kd.reads_of_C HR3.out)));have HC623 := am_ hC21;clear hA21 hC21 hi021 hsz21) | ((with_reducible refine gate_callee (f := 71) rfl ?_);refine goesL_ (some 63) rfl rfl Tryd.func71 (by kernel_rfl) rfl #[.string a0,.int .i64 (wrap64 (a1 - t621)),.int .i64 (wrap64 (a2 - t621)),.slice (some ad622) (l3.take ((ji8) : Int).toNat).length c3] rfl (by (try simp only [m1_,m2_,m3_]);first | done | (rw [show (l3.take ((ji8) : Int).toNat).length = (ji8).toNat from (by rw [List.length_take];have h_ : ((ji8) : Int) ≤ (l3.length : Int) := o1_ (by first | (with_reducible assumption) | assumption);omega)] <;> rfl) | (simp only [hji8];rfl) | rfl | (simp only [d1_,d2_];rfl)) ?_;(with_reducible refine (ih k (by omega) a0 (wrap64 (a1 - t621)) (wrap64 (a2 - t621)) _ _ (l3.take ((ji8) : Int).toNat) t627 t628 _ ?side1 ?side2 A19.out).mono ?_);(case side1 => repeat (first | exact HR623.out | (with_reducible refine Kd.C_alloc ?_ _) | (with_reducible refine Kd.C_drewN ?_ _) | (with_reducible refine Kd.C_drew ?_)));(case side2 => exact HC623.out);rintro e w22 ⟨rfl,hb⟩;refine ⟨_,rfl,?_⟩;have n0_ := am_ (below_step (by repeat (first | (with_reducible first | exact HB.out | apply b1_ | apply b2_ | apply b3_) | exact HB.out)) hb);clear HB;have HB := n0_;clear n0_;(try clear hb);(try clear hb2);(try clear hk);(try clear hi)) | ((with_reducible refine gate_callee (f := 106) rfl ?_);refine goesL_ (some 68) rfl rfl Tryd.func106 (by kernel_rfl) rfl #[.string (rdOf ByteArray.empty l3 (ji8)),.string t627] rfl (by (try simp only [m1_,m2_,m3_]);first | done | (simp only [hji8];rfl) | rfl | (simp only [d1_,d2_];rfl)) ?_;(with_reducible refine (spec_l03Node.calls k (rdOf ByteArray.empty l3 (ji8)) t627 t629 _ A20.out).mono ?_);rintro e w23 ⟨rfl,hb⟩;refine ⟨_,rfl,?_⟩;have n0_ := am_ (below_step (by repeat (first | (with_reducible first | exact HB.out | apply b1_ | apply b2_ | apply b3_) | exact HB.out)) hb);clear HB;have HB := n0_;clear n0_;(try clear hb);(try clear hb2);(try clear hk);(try clear hi)))
       go_ret2
       exact ⟨by first | rfl | (simp [e1_,e2_] <;> rfl) | (simp only [← hji8];first | rfl | (simp [e1_,e2_] <;> rfl)) | (simp [*,e1_,e2_] <;> rfl) | (simp [e3_,e4_];done) | (simp [*,e3_,e4_];done),by repeat (first | (with_reducible first | exact HB.out | apply b1_ | apply b2_ | apply b3_) | exact HB.out)⟩
     ·rw [if_neg c12] at H
      exact absurd H (by simp)
    ·rw [if_neg c10] at H
     exact absurd H (by simp)
   ·rw [if_neg c9] at H
    exact absurd H (by simp)
set_option maxHeartbeats 8000000 in
set_option maxRecDepth 100000 in
theorem spec_CheckPiece.calls (k : Nat) (a0 : ByteArray) (a1 : ByteArray) (a2 : Int) (a3 : Int) (A4 : Option Addr) (c4 : Nat) (l4 : List ByteArray) (r : Int) (w : World) (hr4 : Kd.C Kd.string w A4 l4.length l4) (hc4 : l4.length ≤ c4) (h : spec_CheckPiece.f k a0 a1 a2 a3 l4 = some r) :
  Calls Tryd.prog 35 #[.string a0,.string a1,.int .i64 a2,.int .i64 a3,.slice A4 l4.length c4] w fun e w' => e = .returned (.int .i64 r) ∧ Below w.heap.size w w' := by
 have HR4 := am_ hr4
 have HC4 := am_ hc4
 clear hr4 hc4
 have HB := am_ (Below.refl w.heap.size w)
 have H : (if (a0.size : Int) > 65536 then (some 2) else (if (a1.size : Int) > 65536 then (spec_CheckPiece.j0 k a0 a1 a2 a3 l4 true) else (spec_CheckPiece.j0 k a0 a1 a2 a3 l4 (decide ((l4.length : Int) > 4096))))) = some r := h
 clear h
 by_cases c6 : (a0.size : Int) > 65536
 ·rw [if_pos c6] at H
  have c6b0 : decide (65536 < (a0.size : Int)) = true := decide_eq_true c6
  have c6b1 : decide (65536 < a0.size) = true := decide_eq_true (by omega)
  clear c6
  obtain rfl := Option.some.inj H
  go_enter Tryd.func35,Tryd.ntmps35
  go_wp2
  go_ret
  exact ⟨by first | rfl | (simp [e1_,e2_] <;> rfl) | (simp [*,e1_,e2_] <;> rfl) | (simp [e3_,e4_];done) | (simp [*,e3_,e4_];done),by repeat (first | (with_reducible first | exact HB.out | apply b1_ | apply b2_ | apply b3_) | exact HB.out)⟩
 ·rw [if_neg c6] at H
  have c6b0 : decide (65536 < (a0.size : Int)) = false := decide_eq_false c6
  have c6b1 : decide (65536 < a0.size) = false := decide_eq_false (by omega)
  clear c6
  have HC7 := am_ H
  clear H
  go_enter Tryd.func35,Tryd.ntmps35
  go_upto_region 3 with (fail)
  go_cut [24] (fun v24 wc => ∃ (kq : Nat) (x24_6 : Bool),v24 = .bool x24_6 ∧ Aside0 (spec_CheckPiece.j0 kq a0 a1 a2 a3 l4 x24_6 = some r) ∧ Aside0 (kq ≤ k) ∧ Aside0 (Below w.heap.size w wc))
  case first =>
   have H := HC7.out
   clear HC7
   by_cases c8 : (a1.size : Int) > 65536
   ·rw [if_pos c8] at H
    have c8b0 : decide (65536 < (a1.size : Int)) = true := decide_eq_true c8
    have c8b1 : decide (65536 < a1.size) = true := decide_eq_true (by omega)
    clear c8
    (first | rw [c8b0] | (simp only [i64_w,i32_w];rw [c8b0]) | skip)
    have H' := am_ H
    clear H
    go_wp2
    go_meet
    case rel => exact ⟨_,(true),(by first | rfl | (simp;done) | (simp [*];done)),H',⟨by first | omega | exact Nat.le_refl _⟩,⟨by repeat (first | (with_reducible first | exact HB.out | apply b1_ | apply b2_ | apply b3_) | exact HB.out)⟩⟩
   ·rw [if_neg c8] at H
    have c8b0 : decide (65536 < (a1.size : Int)) = false := decide_eq_false c8
    have c8b1 : decide (65536 < a1.size) = false := decide_eq_false (by omega)
    clear c8
    (first | rw [c8b0] | (simp only [i64_w,i32_w];rw [c8b0]) | skip)
    have H' := am_ H
    clear H
    go_wp2
    go_meet
    case rel => exact ⟨_,(decide ((l4.length : Int) > 4096)),(by first | rfl | (simp;done) | (simp [*];done)),H',⟨by first | omega | exact Nat.le_refl _⟩,⟨by repeat (first | (with_reducible first | exact HB.out | apply b1_ | apply b2_ | apply b3_) | exact HB.out)⟩⟩
  case rest =>
   clear HC7
   try clear p2
   try clear c3
   try clear c4
   try clear c6
   try clear c6b0
   try clear c6b1
   try clear c8
   try clear c8b0
   try clear c8b1
   obtain ⟨kq,x24_6,rfl,HA,HJ6,HB⟩ := hcut
   cases kq with
   | zero => exact absurd HA.out (by simp [spec_CheckPiece.j0])
   | succ kj6 =>
    have H := HA.out
    clear HA
    simp only [spec_CheckPiece.j0] at H
    by_cases c9 : x24_6 = true
    ·subst c9
     have H1 : (some 2) = some r := by rw [if_pos rfl] at H;exact H
     clear H
     have H := H1
     clear H1
     obtain rfl := Option.some.inj H
     go_wp2
     go_ret
     exact ⟨by first | rfl | (simp [e1_,e2_] <;> rfl) | (simp [*,e1_,e2_] <;> rfl) | (simp [e3_,e4_];done) | (simp [*,e3_,e4_];done),by repeat (first | (with_reducible first | exact HB.out | apply b1_ | apply b2_ | apply b3_) | exact HB.out)⟩
    ·replace c9 := Bool.eq_false_iff.mpr c9
     subst c9
     have H1 : (if (a0.size : Int) = 32 then (spec_CheckPiece.j1 kj6 a0 a1 a2 a3 l4 (decide ((a1.size : Int) > 32))) else (spec_CheckPiece.j1 kj6 a0 a1 a2 a3 l4 true)) = some r := by rw [if_neg (show ¬ (false = true) by decide)] at H;exact H
     clear H
     have H := H1
     clear H1
     have HC10 := am_ H
     clear H
     go_upto_region 5 with (fail)
     go_cut [32] (fun v32 wc => ∃ (kq : Nat) (x32_9 : Bool),v32 = .bool x32_9 ∧ Aside0 (spec_CheckPiece.j1 kq a0 a1 a2 a3 l4 x32_9 = some r) ∧ Aside0 (kq ≤ kj6) ∧ Aside0 (Below w.heap.size w wc))
     case first =>
      have H := HC10.out
      clear HC10
      by_cases c11 : (a0.size : Int) = 32
      ·rw [if_pos c11] at H
       have c11b0 : ((a0.size : Int) == 32) = true := beq_iff_eq.mpr c11
       have c11b1 : ((a0.size : Int) != 32) = false := bne_eq_false_iff_eq.mpr c11
       clear c11
       (first | rw [c11b0] | (simp only [i64_w,i32_w];rw [c11b0]) | skip)
       have H' := am_ H
       clear H
       go_wp2
       go_meet
       case rel => exact ⟨_,(decide ((a1.size : Int) > 32)),(by first | rfl | (simp;done) | (simp [*];done)),H',⟨by have := HJ6.out;first | omega | exact Nat.le_refl _⟩,⟨by repeat (first | (with_reducible first | exact HB.out | apply b1_ | apply b2_ | apply b3_) | exact HB.out)⟩⟩
      ·rw [if_neg c11] at H
       have c11b0 : ((a0.size : Int) == 32) = false := beq_eq_false_iff_ne.mpr c11
       have c11b1 : ((a0.size : Int) != 32) = true := bne_iff_ne.mpr c11
       (first | rw [c11b0] | (simp only [i64_w,i32_w];rw [c11b0]) | skip)
       have H' := am_ H
       clear H
       go_wp2
       go_meet
       case rel => exact ⟨_,(true),(by first | rfl | (simp;done) | (simp [*];done)),H',⟨by have := HJ6.out;first | omega | exact Nat.le_refl _⟩,⟨by repeat (first | (with_reducible first | exact HB.out | apply b1_ | apply b2_ | apply b3_) | exact HB.out)⟩⟩
     case rest =>
      clear HC10
      try clear c1
      try clear p2
      try clear c3
      try clear c4
      try clear c6
      try clear c6b0
      try clear c6b1
      try clear c8
      try clear c8b0
      try clear c8b1
      try clear c9
      try clear c11
      try clear c11b0
      try clear c11b1
      try clear p2
      obtain ⟨kq,x32_9,rfl,HA,HJ9,HB⟩ := hcut
      cases kq with
      | zero => exact absurd HA.out (by simp [spec_CheckPiece.j1])
      | succ kj9 =>
       have H := HA.out
       clear HA
       simp only [spec_CheckPiece.j1] at H
       by_cases c12 : x32_9 = true
       ·subst c12
        have H1 : (some 1) = some r := by rw [if_pos rfl] at H;exact H
        clear H
        have H := H1
        clear H1
        obtain rfl := Option.some.inj H
        go_wp2
        go_ret
        exact ⟨by first | rfl | (simp [e1_,e2_] <;> rfl) | (simp [*,e1_,e2_] <;> rfl) | (simp [e3_,e4_];done) | (simp [*,e3_,e4_];done),by repeat (first | (with_reducible first | exact HB.out | apply b1_ | apply b2_ | apply b3_) | exact HB.out)⟩
       ·replace c12 := Bool.eq_false_iff.mpr c12
        subst c12
        have H1 : (spec_CheckPiece.l0 kj9 a0 a1 a2 a3 l4 0) = some r := by rw [if_neg (show ¬ (false = true) by decide)] at H;exact H
        clear H
        have H := H1
        clear H1
        have H' := am_ H
        clear H
        go_wp2
        go_loopg [11] kj9 (fun kq v11 w' => ∃ (x11_3 : Int),v11 = .int .i64 x11_3 ∧ Aside0 (spec_CheckPiece.l0 kq a0 a1 a2 a3 l4 x11_3 = some r) ∧ Aside0 (kq ≤ kj9) ∧ Aside0 (Below w.heap.size w w'))
        case atStart => exact ⟨(0),(by first | rfl | (simp;done) | (simp [*];done)),H',⟨Nat.le_refl _⟩,⟨by repeat (first | (with_reducible first | exact HB.out | apply b1_ | apply b2_ | apply b3_) | exact HB.out)⟩⟩
        case round =>
         clear H'
         try clear c1
         try clear p2
         try clear c3
         try clear c4
         try clear c6
         try clear c6b0
         try clear c6b1
         try clear c8
         try clear c8b0
         try clear c8b1
         try clear c9
         try clear c11
         try clear c11b0
         try clear c11b1
         try clear c12
         try clear p2
         obtain ⟨x11_3,rfl,HA,HK3,HB⟩ := hrel
         cases gk with
         | zero => exact absurd HA.out (by simp [spec_CheckPiece.l0])
         | succ k3 =>
          have H := HA.out
          clear HA
          simp only [spec_CheckPiece.l0] at H
          by_cases c13 : x11_3 < (l4.length : Int)
          ·rw [if_pos c13] at H
           have c13b0 : decide (x11_3 < (l4.length : Int)) = true := decide_eq_true c13
           clear c13
           by_cases c14 : 0 ≤ x11_3
           ·rw [if_pos c14] at H
            have c14b0 : decide (0 ≤ x11_3) = true := decide_eq_true c14
            clear c14
            by_cases c15 : ((rdOf ByteArray.empty l4 x11_3).size : Int) = 32
            ·rw [if_pos c15] at H
             have c15b0 : (((rdOf ByteArray.empty l4 x11_3).size : Int) == 32) = true := beq_iff_eq.mpr c15
             have c15b1 : (((rdOf ByteArray.empty l4 x11_3).size : Int) != 32) = false := bne_eq_false_iff_eq.mpr c15
             clear c15
             have H' := am_ H
             clear H
             have p634 : 0 ≤ (x11_3 : Int) := o1_ (by first | (with_reducible assumption) | assumption)
             have q634 : x11_3 < (l4.length : Int) := o1_ (by first | (with_reducible assumption) | assumption)
             obtain ⟨ad634,e634,hx634_0⟩ := Kd.at_string HR4.out x11_3 p634 q634
             cases e634
             replace hx634_0 := (HB.out.cell (World.block_lt_of_cell? w _ hx634_0)).trans hx634_0
             replace p634 := eq_true p634
             replace q634 := eq_true q634
             go_wp2
             go_roundg k3
             case measure => have := HJ6.out;have := HJ9.out;have := HK3.out;omega
             case rel => exact ⟨(wrap64 (x11_3 + 1)),(by first | rfl | (simp;done) | (simp [*];done)),H',⟨by have := HJ6.out;have := HJ9.out;have := HK3.out;omega⟩,⟨by repeat (first | (with_reducible first | exact HB.out | apply b1_ | apply b2_ | apply b3_) | exact HB.out)⟩⟩
            ·rw [if_neg c15] at H
             have c15b0 : (((rdOf ByteArray.empty l4 x11_3).size : Int) == 32) = false := beq_eq_false_iff_ne.mpr c15
             have c15b1 : (((rdOf ByteArray.empty l4 x11_3).size : Int) != 32) = true := bne_iff_ne.mpr c15
             obtain rfl := Option.some.inj H
             have p634 : 0 ≤ (x11_3 : Int) := o1_ (by first | (with_reducible assumption) | assumption)
             have q634 : x11_3 < (l4.length : Int) := o1_ (by first | (with_reducible assumption) | assumption)
             obtain ⟨ad634,e634,hx634_0⟩ := Kd.at_string HR4.out x11_3 p634 q634
             cases e634
             replace hx634_0 := (HB.out.cell (World.block_lt_of_cell? w _ hx634_0)).trans hx634_0
             replace p634 := eq_true p634
             replace q634 := eq_true q634
             go_wp2
             go_ret
             exact ⟨by first | rfl | (simp [e1_,e2_] <;> rfl) | (simp [*,e1_,e2_] <;> rfl) | (simp [e3_,e4_];done) | (simp [*,e3_,e4_];done),by repeat (first | (with_reducible first | exact HB.out | apply b1_ | apply b2_ | apply b3_) | exact HB.out)⟩
           ·rw [if_neg c14] at H
            exact absurd H (by simp)
          ·rw [if_neg c13] at H
           have c13b0 : decide (x11_3 < (l4.length : Int)) = false := decide_eq_false c13
           clear c13
           have HC16 := am_ H
           clear H
           go_upto_region 12 with (fail)
           go_cut [54] (fun v54 wc => ∃ (kq : Nat) (x54_15 : Bool),v54 = .bool x54_15 ∧ Aside0 (spec_CheckPiece.j3 kq a0 a1 a2 a3 l4 x54_15 = some r) ∧ Aside0 (kq ≤ k3) ∧ Aside0 (Below w.heap.size w wc))
           case first =>
            have H := HC16.out
            clear HC16
            replace H := Option.bind_eq_some_iff.mp H
            obtain ⟨t635,A170,H⟩ := H
            try dsimp only at H
            have A17 := am_ A170
            clear A170
            by_cases c18 : t635 = true
            ·subst c18
             have H1 : ((spec_l01In.f a2 0 (wrap64 (a3 - 1))).bind fun t636 => (spec_CheckPiece.j3 k3 a0 a1 a2 a3 l4 (!t636))) = some r := by rw [if_pos rfl] at H;exact H
             clear H
             have H := H1
             clear H1
             replace H := Option.bind_eq_some_iff.mp H
             obtain ⟨t636,A190,H⟩ := H
             try dsimp only at H
             have A19 := am_ A190
             clear A190
             have H' := am_ H
             clear H
             go_wp2_with (first | ((with_reducible refine gate_callee (f := 45) rfl ?_);refine goesL_ (some 46) rfl rfl Tryd.func45 (by kernel_rfl) rfl #[.int .i64 a3,.int .i64 1,.int .i64 64] rfl (by (try simp only [m1_,m2_,m3_]);first | done | rfl | (simp only [d1_,d2_];rfl)) ?_;(with_reducible refine (spec_l01In.calls a3 1 64 true _ A17.out).mono ?_);rintro e w' ⟨rfl,⟨nd,rfl⟩⟩;refine ⟨_,rfl,?_⟩) | (go_at_call 45;(with_reducible refine (spec_l01In.calls a2 0 (wrap64 (a3 - 1)) t636 _ A19.out).mono ?_);rintro e w' ⟨rfl,⟨nd,rfl⟩⟩))
             go_meet
             case rel => exact ⟨_,(!t636),(by first | rfl | (simp;done) | (simp [*];done)),H',⟨by have := HJ6.out;have := HJ9.out;have := HK3.out;first | omega | exact Nat.le_refl _⟩,⟨by repeat (first | (with_reducible first | exact HB.out | apply b1_ | apply b2_ | apply b3_) | exact HB.out)⟩⟩
            ·replace c18 := Bool.eq_false_iff.mpr c18
             subst c18
             have H1 : (spec_CheckPiece.j3 k3 a0 a1 a2 a3 l4 true) = some r := by rw [if_neg (show ¬ (false = true) by decide)] at H;exact H
             clear H
             have H := H1
             clear H1
             have H' := am_ H
             clear H
             go_wp2_with (first | ((with_reducible refine gate_callee (f := 45) rfl ?_);refine goesL_ (some 46) rfl rfl Tryd.func45 (by kernel_rfl) rfl #[.int .i64 a3,.int .i64 1,.int .i64 64] rfl (by (try simp only [m1_,m2_,m3_]);first | done | rfl | (simp only [d1_,d2_];rfl)) ?_;(with_reducible refine (spec_l01In.calls a3 1 64 false _ A17.out).mono ?_);rintro e w' ⟨rfl,⟨nd,rfl⟩⟩;refine ⟨_,rfl,?_⟩))
             go_meet
             case rel => exact ⟨_,(true),(by first | rfl | (simp;done) | (simp [*];done)),H',⟨by have := HJ6.out;have := HJ9.out;have := HK3.out;first | omega | exact Nat.le_refl _⟩,⟨by repeat (first | (with_reducible first | exact HB.out | apply b1_ | apply b2_ | apply b3_) | exact HB.out)⟩⟩
           case rest =>
            clear HC16
            try clear c1
            try clear p2
            try clear c3
            try clear c4
            try clear c6
            try clear c6b0
            try clear c6b1
            try clear p6
            try clear q6
            try clear hx6
            try clear c8
            try clear c8b0
            try clear c8b1
            try clear c9
            try clear c11
            try clear c11b0
            try clear c11b1
            try clear c12
            try clear c13
            try clear c13b0
            try clear c14
            try clear c14b0
            try clear c15
            try clear c15b0
            try clear c15b1
            try clear c18
            try clear hx634_0
            try clear p2
            try clear p634
            try clear q634
            obtain ⟨kq,x54_15,rfl,HA,HJ15,HB⟩ := hcut
            cases kq with
            | zero => exact absurd HA.out (by simp [spec_CheckPiece.j3])
            | succ kj15 =>
             have H := HA.out
             clear HA
             simp only [spec_CheckPiece.j3] at H
             by_cases c20 : x54_15 = true
             ·subst c20
              have H1 : (some 4) = some r := by rw [if_pos rfl] at H;exact H
              clear H
              have H := H1
              clear H1
              obtain rfl := Option.some.inj H
              go_wp2
              go_ret
              exact ⟨by first | rfl | (simp [e1_,e2_] <;> rfl) | (simp [*,e1_,e2_] <;> rfl) | (simp [e3_,e4_];done) | (simp [*,e3_,e4_];done),by repeat (first | (with_reducible first | exact HB.out | apply b1_ | apply b2_ | apply b3_) | exact HB.out)⟩
             ·replace c20 := Bool.eq_false_iff.mpr c20
              subst c20
              have H1 : ((spec_l09Leaf.f kj15 a1).bind fun t637 => ((spec_l09Up.f kj15 t637 a2 a3 l4).bind fun bt638 => (if bt638.2 = true then (if bt638.1.toList = a0.toList then (some 0) else (some 11)) else (some 10)))) = some r := by rw [if_neg (show ¬ (false = true) by decide)] at H;exact H
              clear H
              have H := H1
              clear H1
              replace H := Option.bind_eq_some_iff.mp H
              obtain ⟨t637,A210,H⟩ := H
              try dsimp only at H
              have A21 := am_ A210
              clear A210
              replace H := Option.bind_eq_some_iff.mp H
              obtain ⟨⟨t638,t639⟩,A220,H⟩ := H
              try dsimp only at H
              have A22 := am_ A220
              clear A220
              by_cases c23 : t639 = true
              ·subst c23
               have H1 : (if t638.toList = a0.toList then (some 0) else (some 11)) = some r := by rw [if_pos rfl] at H;exact H
               clear H
               have H := H1
               clear H1
               by_cases c24 : t638.toList = a0.toList
               ·rw [if_pos c24] at H
                have c24b0 : (t638.toList == a0.toList) = true := beq_iff_eq.mpr c24
                have c24b1 : (t638.toList != a0.toList) = false := bne_eq_false_iff_eq.mpr c24
                clear c24
                obtain rfl := Option.some.inj H
                go_wp2_with (first | ((with_reducible refine gate_callee (f := 72) rfl ?_);refine goesL_ (some 57) rfl rfl Tryd.func72 (by kernel_rfl) rfl #[.string a1] rfl (by (try simp only [m1_,m2_,m3_]);first | done | rfl | (simp only [d1_,d2_];rfl)) ?_;(with_reducible refine (spec_l09Leaf.calls kj15 a1 t637 _ A21.out).mono ?_);rintro e w25 ⟨rfl,hb⟩;refine ⟨_,rfl,?_⟩;have n0_ := am_ (below_step (by repeat (first | (with_reducible first | exact HB.out | apply b1_ | apply b2_ | apply b3_) | exact HB.out)) hb);clear HB;have HB := n0_;clear n0_;(try clear hb);(try clear hb2);(try clear hk);(try clear hi)) | ((with_reducible refine gate_callee (f := 71) rfl ?_);refine goesL_ (some 61) rfl rfl Tryd.func71 (by kernel_rfl) rfl #[.string t637,.int .i64 a2,.int .i64 a3,.slice A4 l4.length c4] rfl (by (try simp only [m1_,m2_,m3_]);first | done | rfl | (simp only [d1_,d2_];rfl)) ?_;(with_reducible refine (spec_l09Up.calls kj15 t637 a2 a3 _ _ l4 t638 true _ ?side1 ?side2 A22.out).mono ?_);(case side1 => repeat (first | exact (Kd.C_below HR4.out HB.out) | (with_reducible refine Kd.C_alloc ?_ _) | (with_reducible refine Kd.C_drewN ?_ _) | (with_reducible refine Kd.C_drew ?_)));(case side2 => exact HC4.out);rintro e w26 ⟨rfl,hb⟩;refine ⟨_,rfl,?_⟩;have n0_ := am_ (below_step (by repeat (first | (with_reducible first | exact HB.out | apply b1_ | apply b2_ | apply b3_) | exact HB.out)) hb);clear HB;have HB := n0_;clear n0_;(try clear hb);(try clear hb2);(try clear hk);(try clear hi)))
                go_ret
                exact ⟨by first | rfl | (simp [e1_,e2_] <;> rfl) | (simp [*,e1_,e2_] <;> rfl) | (simp [e3_,e4_];done) | (simp [*,e3_,e4_];done),by repeat (first | (with_reducible first | exact HB.out | apply b1_ | apply b2_ | apply b3_) | exact HB.out)⟩
               ·rw [if_neg c24] at H
                have c24b0 : (t638.toList == a0.toList) = false := beq_eq_false_iff_ne.mpr c24
                have c24b1 : (t638.toList != a0.toList) = true := bne_iff_ne.mpr c24
                obtain rfl := Option.some.inj H
                go_wp2_with (first | ((with_reducible refine gate_callee (f := 72) rfl ?_);refine goesL_ (some 57) rfl rfl Tryd.func72 (by kernel_rfl) rfl #[.string a1] rfl (by (try simp only [m1_,m2_,m3_]);first | done | rfl | (simp only [d1_,d2_];rfl)) ?_;(with_reducible refine (spec_l09Leaf.calls kj15 a1 t637 _ A21.out).mono ?_);rintro e w27 ⟨rfl,hb⟩;refine ⟨_,rfl,?_⟩;have n0_ := am_ (below_step (by repeat (first | (with_reducible first | exact HB.out | apply b1_ | apply b2_ | apply b3_) | exact HB.out)) hb);clear HB;have HB := n0_;clear n0_;(try clear hb);(try clear hb2);(try clear hk);(try clear hi)) | ((with_reducible refine gate_callee (f := 71) rfl ?_);refine goesL_ (some 61) rfl rfl Tryd.func71 (by kernel_rfl) rfl #[.string t637,.int .i64 a2,.int .i64 a3,.slice A4 l4.length c4] rfl (by (try simp only [m1_,m2_,m3_]);first | done | rfl | (simp only [d1_,d2_];rfl)) ?_;(with_reducible refine (spec_l09Up.calls kj15 t637 a2 a3 _ _ l4 t638 true _ ?side1 ?side2 A22.out).mono ?_);(case side1 => repeat (first | exact (Kd.C_below HR4.out HB.out) | (with_reducible refine Kd.C_alloc ?_ _) | (with_reducible refine Kd.C_drewN ?_ _) | (with_reducible refine Kd.C_drew ?_)));(case side2 => exact HC4.out);rintro e w28 ⟨rfl,hb⟩;refine ⟨_,rfl,?_⟩;have n0_ := am_ (below_step (by repeat (first | (with_reducible first | exact HB.out | apply b1_ | apply b2_ | apply b3_) | exact HB.out)) hb);clear HB;have HB := n0_;clear n0_;(try clear hb);(try clear hb2);(try clear hk);(try clear hi)))
                go_ret
                exact ⟨by first | rfl | (simp [e1_,e2_] <;> rfl) | (simp [*,e1_,e2_] <;> rfl) | (simp [e3_,e4_];done) | (simp [*,e3_,e4_];done),by repeat (first | (with_reducible first | exact HB.out | apply b1_ | apply b2_ | apply b3_) | exact HB.out)⟩
              ·replace c23 := Bool.eq_false_iff.mpr c23
               subst c23
               have H1 : (some 10) = some r := by rw [if_neg (show ¬ (false = true) by decide)] at H;exact H
               clear H
               have H := H1
               clear H1
               obtain rfl := Option.some.inj H
               go_wp2_with (first | ((with_reducible refine gate_callee (f := 72) rfl ?_);refine goesL_ (some 57) rfl rfl Tryd.func72 (by kernel_rfl) rfl #[.string a1] rfl (by (try simp only [m1_,m2_,m3_]);first | done | rfl | (simp only [d1_,d2_];rfl)) ?_;(with_reducible refine (spec_l09Leaf.calls kj15 a1 t637 _ A21.out).mono ?_);rintro e w29 ⟨rfl,hb⟩;refine ⟨_,rfl,?_⟩;have n0_ := am_ (below_step (by repeat (first | (with_reducible first | exact HB.out | apply b1_ | apply b2_ | apply b3_) | exact HB.out)) hb);clear HB;have HB := n0_;clear n0_;(try clear hb);(try clear hb2);(try clear hk);(try clear hi)) | ((with_reducible refine gate_callee (f := 71) rfl ?_);refine goesL_ (some 61) rfl rfl Tryd.func71 (by kernel_rfl) rfl #[.string t637,.int .i64 a2,.int .i64 a3,.slice A4 l4.length c4] rfl (by (try simp only [m1_,m2_,m3_]);first | done | rfl | (simp only [d1_,d2_];rfl)) ?_;(with_reducible refine (spec_l09Up.calls kj15 t637 a2 a3 _ _ l4 t638 false _ ?side1 ?side2 A22.out).mono ?_);(case side1 => repeat (first | exact (Kd.C_below HR4.out HB.out) | (with_reducible refine Kd.C_alloc ?_ _) | (with_reducible refine Kd.C_drewN ?_ _) | (with_reducible refine Kd.C_drew ?_)));(case side2 => exact HC4.out);rintro e w30 ⟨rfl,hb⟩;refine ⟨_,rfl,?_⟩;have n0_ := am_ (below_step (by repeat (first | (with_reducible first | exact HB.out | apply b1_ | apply b2_ | apply b3_) | exact HB.out)) hb);clear HB;have HB := n0_;clear n0_;(try clear hb);(try clear hb2);(try clear hk);(try clear hi)))
               go_ret
               exact ⟨by first | rfl | (simp [e1_,e2_] <;> rfl) | (simp [*,e1_,e2_] <;> rfl) | (simp [e3_,e4_];done) | (simp [*,e3_,e4_];done),by repeat (first | (with_reducible first | exact HB.out | apply b1_ | apply b2_ | apply b3_) | exact HB.out)⟩
set_option maxHeartbeats 8000000 in
set_option maxRecDepth 100000 in
theorem laws_FnExactCheckPiece.calls (k : Nat) (a0 : ByteArray) (a1 : ByteArray) (a2 : Int) (a3 : Int) (A4 : Option Addr) (c4 : Nat) (l4 : List ByteArray) (r : Bool) (w : World) (hr4 : Kd.C Kd.string w A4 l4.length l4) (hc4 : l4.length ≤ c4) (hL : Laid w) (h : laws_FnExactCheckPiece.f k a0 a1 a2 a3 l4 = some r) :
  Calls Tryd.prog 10 #[.string a0,.string a1,.int .i64 a2,.int .i64 a3,.slice A4 l4.length c4] w fun e w' => e = .returned (.bool r) ∧ Below w.heap.size w w' := by
 have HR4 := am_ hr4
 have HC4 := am_ hc4
 clear hr4 hc4
 have HLD := am_ hL
 clear hL
 have HB := am_ (Below.refl w.heap.size w)
 have H : (if (a0.size : Int) > 1048576 then (some true) else (if (a1.size : Int) > 1048576 then (some true) else ((laws_szStringS.f k l4 1048576).bind fun t682 => (if t682 < 0 then (some true) else ((laws_toStringS.f k l4).bind fun t683 => ((spec_CheckPiece.f k a0 a1 a2 a3 t683).bind fun t686 => ((laws_toStringS.f k l4).bind fun t687 => ((impl_CheckPiece.f k a0 a1 a2 a3 t687).bind fun t690 => (if t690 = t686 then ((laws_toStringS.f k l4).bind fun t691 => ((laws_eqStringS.f k t687 t691).bind fun t694 => (if t694 = true then (some true) else (some false)))) else (some false)))))))))) = some r := h
 clear h
 by_cases c6 : (a0.size : Int) > 1048576
 ·rw [if_pos c6] at H
  have c6b0 : decide (1048576 < (a0.size : Int)) = true := decide_eq_true c6
  have c6b1 : decide (1048576 < a0.size) = true := decide_eq_true (by omega)
  clear c6
  obtain rfl := Option.some.inj H
  go_enter Tryd.func10,Tryd.ntmps10
  go_wp2
  go_ret
  exact ⟨by first | rfl | (simp [e1_,e2_] <;> rfl) | (simp [*,e1_,e2_] <;> rfl) | (simp [e3_,e4_];done) | (simp [*,e3_,e4_];done),by repeat (first | (with_reducible first | exact HB.out | apply b1_ | apply b2_ | apply b3_) | exact HB.out)⟩
 ·rw [if_neg c6] at H
  have c6b0 : decide (1048576 < (a0.size : Int)) = false := decide_eq_false c6
  have c6b1 : decide (1048576 < a0.size) = false := decide_eq_false (by omega)
  clear c6
  by_cases c7 : (a1.size : Int) > 1048576
  ·rw [if_pos c7] at H
   have c7b0 : decide (1048576 < (a1.size : Int)) = true := decide_eq_true c7
   have c7b1 : decide (1048576 < a1.size) = true := decide_eq_true (by omega)
   clear c7
   obtain rfl := Option.some.inj H
   go_enter Tryd.func10,Tryd.ntmps10
   go_wp2
   go_ret
   exact ⟨by first | rfl | (simp [e1_,e2_] <;> rfl) | (simp [*,e1_,e2_] <;> rfl) | (simp [e3_,e4_];done) | (simp [*,e3_,e4_];done),by repeat (first | (with_reducible first | exact HB.out | apply b1_ | apply b2_ | apply b3_) | exact HB.out)⟩
  ·rw [if_neg c7] at H
   have c7b0 : decide (1048576 < (a1.size : Int)) = false := decide_eq_false c7
   have c7b1 : decide (1048576 < a1.size) = false := decide_eq_false (by omega)
   clear c7
   replace H := Option.bind_eq_some_iff.mp H
   obtain ⟨t682,A80,H⟩ := H
   try dsimp only at H
   have A8 := am_ A80
   clear A80
   by_cases c9 : t682 < 0
   ·rw [if_pos c9] at H
    have c9b0 : decide (t682 < 0) = true := decide_eq_true c9
    clear c9
    obtain rfl := Option.some.inj H
    go_enter Tryd.func10,Tryd.ntmps10
    go_wp2_with (first | ((with_reducible refine gate_callee (f := 34) rfl ?_);refine goesL_ (some 23) rfl rfl Tryd.func34 (by kernel_rfl) rfl #[.slice A4 l4.length c4,.int .i64 1048576] rfl (by (try simp only [m1_,m2_,m3_]);first | done | rfl | (simp only [d1_,d2_];rfl)) ?_;(with_reducible refine (laws_szStringS.calls k _ _ l4 1048576 t682 _ ?side1 ?side2 A8.out).mono ?_);(case side1 => repeat (first | exact HR4.out | (with_reducible refine Kd.C_alloc ?_ _) | (with_reducible refine Kd.C_drewN ?_ _) | (with_reducible refine Kd.C_drew ?_)));(case side2 => exact HC4.out);rintro e w' ⟨rfl,⟨nd,rfl⟩⟩;refine ⟨_,rfl,?_⟩))
    go_ret
    exact ⟨by first | rfl | (simp [e1_,e2_] <;> rfl) | (simp [*,e1_,e2_] <;> rfl) | (simp [e3_,e4_];done) | (simp [*,e3_,e4_];done),by repeat (first | (with_reducible first | exact HB.out | apply b1_ | apply b2_ | apply b3_) | exact HB.out)⟩
   ·rw [if_neg c9] at H
    have c9b0 : decide (t682 < 0) = false := decide_eq_false c9
    clear c9
    replace H := Option.bind_eq_some_iff.mp H
    obtain ⟨t683,A100,H⟩ := H
    try dsimp only at H
    have A10 := am_ A100
    clear A100
    replace H := Option.bind_eq_some_iff.mp H
    obtain ⟨t686,A110,H⟩ := H
    try dsimp only at H
    have A11 := am_ A110
    clear A110
    replace H := Option.bind_eq_some_iff.mp H
    obtain ⟨t687,A120,H⟩ := H
    try dsimp only at H
    have A12 := am_ A120
    clear A120
    replace H := Option.bind_eq_some_iff.mp H
    obtain ⟨t690,A130,H⟩ := H
    try dsimp only at H
    have A13 := am_ A130
    clear A130
    by_cases c14 : t690 = t686
    ·rw [if_pos c14] at H
     have c14b0 : (t690 == t686) = true := beq_iff_eq.mpr c14
     have c14b1 : (t690 != t686) = false := bne_eq_false_iff_eq.mpr c14
     clear c14
     replace H := Option.bind_eq_some_iff.mp H
     obtain ⟨t691,A150,H⟩ := H
     try dsimp only at H
     have A15 := am_ A150
     clear A150
     replace H := Option.bind_eq_some_iff.mp H
     obtain ⟨t694,A160,H⟩ := H
     try dsimp only at H
     have A16 := am_ A160
     clear A160
     by_cases c17 : t694 = true
     ·subst c17
      have H1 : (some true) = some r := by rw [if_pos rfl] at H;exact H
      clear H
      have H := H1
      clear H1
      obtain rfl := Option.some.inj H
      go_enter Tryd.func10,Tryd.ntmps10
      go_wp2_with (first | ((with_reducible refine gate_callee (f := 34) rfl ?_);refine goesL_ (some 23) rfl rfl Tryd.func34 (by kernel_rfl) rfl #[.slice A4 l4.length c4,.int .i64 1048576] rfl (by (try simp only [m1_,m2_,m3_]);first | done | rfl | (simp only [d1_,d2_];rfl)) ?_;(with_reducible refine (laws_szStringS.calls k _ _ l4 1048576 t682 _ ?side1 ?side2 A8.out).mono ?_);(case side1 => repeat (first | exact HR4.out | (with_reducible refine Kd.C_alloc ?_ _) | (with_reducible refine Kd.C_drewN ?_ _) | (with_reducible refine Kd.C_drew ?_)));(case side2 => exact HC4.out);rintro e w' ⟨rfl,⟨nd,rfl⟩⟩;refine ⟨_,rfl,?_⟩) | ((with_reducible refine gate_callee (f := 36) rfl ?_);refine goesL_ (some 31) rfl rfl Tryd.func36 (by kernel_rfl) rfl #[.slice A4 l4.length c4] rfl (by (try simp only [m1_,m2_,m3_]);first | done | rfl | (simp only [d1_,d2_];rfl)) ?_;(with_reducible refine (laws_toStringS.calls k _ _ l4 t683 _ ?side1 ?side2 A10.out).mono ?_);(case side1 => repeat (first | exact HR4.out | (with_reducible refine Kd.C_alloc ?_ _) | (with_reducible refine Kd.C_drewN ?_ _) | (with_reducible refine Kd.C_drew ?_)));(case side2 => exact HC4.out);rintro e w18 ⟨v684,rfl,ho0,hb⟩;refine ⟨_,rfl,?_⟩;have n0_ := am_ (Kd.R_lower ho0 (below_size (by repeat (first | (with_reducible first | exact HB.out | apply b1_ | apply b2_ | apply b3_) | exact HB.out))));have n1_ := am_ (below_step (by repeat (first | (with_reducible first | exact HB.out | apply b1_ | apply b2_ | apply b3_) | exact HB.out)) hb);clear HB;have HO685 := n0_;have HB := n1_;clear n0_ n1_;(try clear hb);(try clear hb2);(try clear hk);(try clear hi);(try clear ho0);obtain ⟨Ao19,co19,eo19⟩ := Kd.R_slice HO685.out;subst eo19) | ((with_reducible refine gate_callee (f := 35) rfl ?_);refine goesL_ (some 32) rfl rfl Tryd.func35 (by kernel_rfl) rfl #[.string a0,.string a1,.int .i64 a2,.int .i64 a3,.slice Ao19 t683.length co19] rfl (by (try simp only [m1_,m2_,m3_]);first | done | rfl | (simp only [d1_,d2_];rfl)) ?_;(with_reducible refine (spec_CheckPiece.calls k a0 a1 a2 a3 _ _ t683 t686 _ ?side1 ?side2 A11.out).mono ?_);(case side1 => repeat (first | exact (Kd.R_reads' HO685.out).2.2 | (with_reducible refine Kd.C_alloc ?_ _) | (with_reducible refine Kd.C_drewN ?_ _) | (with_reducible refine Kd.C_drew ?_)));(case side2 => exact (Kd.R_reads' HO685.out).2.1);rintro e w20 ⟨rfl,hb⟩;refine ⟨_,rfl,?_⟩;have n0_ := am_ (Kd.R_below (by (with_reducible repeat (first | apply r1_ | apply r2_ | apply r3_));exact HO685.out) hb);have n1_ := am_ (below_step (by repeat (first | (with_reducible first | exact HB.out | apply b1_ | apply b2_ | apply b3_) | exact HB.out)) hb);clear HO685;clear HB;have HO685 := n0_;have HB := n1_;clear n0_ n1_;(try clear hb);(try clear hb2);(try clear hk);(try clear hi)) | ((with_reducible refine gate_callee (f := 36) rfl ?_);refine goesL_ (some 34) rfl rfl Tryd.func36 (by kernel_rfl) rfl #[.slice A4 l4.length c4] rfl (by (try simp only [m1_,m2_,m3_]);first | done | rfl | (simp only [d1_,d2_];rfl)) ?_;(with_reducible refine (laws_toStringS.calls k _ _ l4 t687 _ ?side1 ?side2 A12.out).mono ?_);(case side1 => repeat (first | exact (Kd.C_below HR4.out HB.out) | (with_reducible refine Kd.C_alloc ?_ _) | (with_reducible refine Kd.C_drewN ?_ _) | (with_reducible refine Kd.C_drew ?_)));(case side2 => exact HC4.out);rintro e w21 ⟨v688,rfl,ho0,hb⟩;refine ⟨_,rfl,?_⟩;have n0_ := am_ (Kd.R_elder' (by (with_reducible repeat (first | apply r1_ | apply r2_ | apply r3_));exact HO685.out) (Kd.R_base ho0) hb);have n1_ := am_ (Kd.R_lower (Kd.R_new' ho0 (Kd.R_lt (by (with_reducible repeat (first | apply r1_ | apply r2_ | apply r3_));exact HO685.out))) (below_size (by repeat (first | (with_reducible first | exact HB.out | apply b1_ | apply b2_ | apply b3_) | exact HB.out))));have n2_ := am_ (below_step (by repeat (first | (with_reducible first | exact HB.out | apply b1_ | apply b2_ | apply b3_) | exact HB.out)) hb);clear HO685;clear HB;have HO685 := n0_;have HO689 := n1_;have HB := n2_;clear n0_ n1_ n2_;(try clear hb);(try clear hb2);(try clear hk);(try clear hi);(try clear ho0);obtain ⟨Ao22,co22,eo22⟩ := Kd.R_slice HO689.out;subst eo22) | ((with_reducible refine gate_callee (f := 37) rfl ?_);refine goesL_ (some 40) rfl rfl Tryd.func37 (by kernel_rfl) rfl #[.string a0,.string a1,.int .i64 a2,.int .i64 a3,.slice Ao22 t687.length co22] rfl (by (try simp only [m1_,m2_,m3_]);first | done | rfl | (simp only [d1_,d2_];rfl)) ?_;(with_reducible refine (impl_CheckPiece.calls k a0 a1 a2 a3 _ _ t687 t690 _ ?side1 ?side2 ?side3 A13.out).mono ?_);(case side1 => repeat (first | exact (Kd.R_reads' HO689.out).2.2 | (with_reducible refine Kd.C_alloc ?_ _) | (with_reducible refine Kd.C_drewN ?_ _) | (with_reducible refine Kd.C_drew ?_)));(case side2 => exact (Kd.R_reads' HO689.out).2.1);(case side3 => exact HLD.out.on (by repeat (first | (with_reducible first | exact HB.out | apply b1_ | apply b2_ | apply b3_) | exact HB.out)));rintro e w23 ⟨rfl,hb⟩;refine ⟨_,rfl,?_⟩;have n0_ := am_ (Kd.R_below (by (with_reducible repeat (first | apply r1_ | apply r2_ | apply r3_));exact HO685.out) hb);have n1_ := am_ (Kd.R_below (by (with_reducible repeat (first | apply r1_ | apply r2_ | apply r3_));exact HO689.out) hb);have n2_ := am_ (below_step (by repeat (first | (with_reducible first | exact HB.out | apply b1_ | apply b2_ | apply b3_) | exact HB.out)) hb);clear HO685;clear HO689;clear HB;have HO685 := n0_;have HO689 := n1_;have HB := n2_;clear n0_ n1_ n2_;(try clear hb);(try clear hb2);(try clear hk);(try clear hi)) | ((with_reducible refine gate_callee (f := 36) rfl ?_);refine goesL_ (some 46) rfl rfl Tryd.func36 (by kernel_rfl) rfl #[.slice A4 l4.length c4] rfl (by (try simp only [m1_,m2_,m3_]);first | done | rfl | (simp only [d1_,d2_];rfl)) ?_;(with_reducible refine (laws_toStringS.calls k _ _ l4 t691 _ ?side1 ?side2 A15.out).mono ?_);(case side1 => repeat (first | exact (Kd.C_below HR4.out HB.out) | (with_reducible refine Kd.C_alloc ?_ _) | (with_reducible refine Kd.C_drewN ?_ _) | (with_reducible refine Kd.C_drew ?_)));(case side2 => exact HC4.out);rintro e w24 ⟨v692,rfl,ho0,hb⟩;refine ⟨_,rfl,?_⟩;have n0_ := am_ (Kd.R_elder' (by (with_reducible repeat (first | apply r1_ | apply r2_ | apply r3_));exact HO685.out) (Kd.R_base ho0) hb);have n1_ := am_ (Kd.R_elder' (by (with_reducible repeat (first | apply r1_ | apply r2_ | apply r3_));exact HO689.out) (Kd.R_base ho0) hb);have n2_ := am_ (Kd.R_lower (Kd.R_new' (Kd.R_new' ho0 (Kd.R_lt (by (with_reducible repeat (first | apply r1_ | apply r2_ | apply r3_));exact HO685.out))) (Kd.R_lt (by (with_reducible repeat (first | apply r1_ | apply r2_ | apply r3_));exact HO689.out))) (below_size (by repeat (first | (with_reducible first | exact HB.out | apply b1_ | apply b2_ | apply b3_) | exact HB.out))));have n3_ := am_ (below_step (by repeat (first | (with_reducible first | exact HB.out | apply b1_ | apply b2_ | apply b3_) | exact HB.out)) hb);clear HO685;clear HO689;clear HB;have HO685 := n0_;have HO689 := n1_;have HO693 := n2_;have HB := n3_;clear n0_ n1_ n2_ n3_;(try clear hb);(try clear hb2);(try clear hk);(try clear hi);(try clear ho0);obtain ⟨Ao25,co25,eo25⟩ := Kd.R_slice HO693.out;subst eo25) | ((with_reducible refine gate_callee (f := 38) rfl ?_);refine goesL_ (some 47) rfl rfl Tryd.func38 (by kernel_rfl) rfl #[.slice Ao22 t687.length co22,.slice Ao25 t691.length co25] rfl (by (try simp only [m1_,m2_,m3_]);first | done | rfl | (simp only [d1_,d2_];rfl)) ?_;(with_reducible refine (laws_eqStringS.calls k _ _ t687 _ _ t691 true _ ?side1 ?side2 ?side3 ?side4 A16.out).mono ?_);(case side1 => repeat (first | exact (Kd.R_reads' HO689.out).2.2 | (with_reducible refine Kd.C_alloc ?_ _) | (with_reducible refine Kd.C_drewN ?_ _) | (with_reducible refine Kd.C_drew ?_)));(case side2 => exact (Kd.R_reads' HO689.out).2.1);(case side3 => repeat (first | exact (Kd.R_reads' HO693.out).2.2 | (with_reducible refine Kd.C_alloc ?_ _) | (with_reducible refine Kd.C_drewN ?_ _) | (with_reducible refine Kd.C_drew ?_)));(case side4 => exact (Kd.R_reads' HO693.out).2.1);rintro e w' ⟨rfl,⟨nd,rfl⟩⟩;refine ⟨_,rfl,?_⟩))
      go_ret
      exact ⟨by first | rfl | (simp [e1_,e2_] <;> rfl) | (simp [*,e1_,e2_] <;> rfl) | (simp [e3_,e4_];done) | (simp [*,e3_,e4_];done),by repeat (first | (with_reducible first | exact HB.out | apply b1_ | apply b2_ | apply b3_) | exact HB.out)⟩
     ·replace c17 := Bool.eq_false_iff.mpr c17
      subst c17
      have H1 : (some false) = some r := by rw [if_neg (show ¬ (false = true) by decide)] at H;exact H
      clear H
      have H := H1
      clear H1
      obtain rfl := Option.some.inj H
      go_enter Tryd.func10,Tryd.ntmps10
      go_wp2_with (first | ((with_reducible refine gate_callee (f := 34) rfl ?_);refine goesL_ (some 23) rfl rfl Tryd.func34 (by kernel_rfl) rfl #[.slice A4 l4.length c4,.int .i64 1048576] rfl (by (try simp only [m1_,m2_,m3_]);first | done | rfl | (simp only [d1_,d2_];rfl)) ?_;(with_reducible refine (laws_szStringS.calls k _ _ l4 1048576 t682 _ ?side1 ?side2 A8.out).mono ?_);(case side1 => repeat (first | exact HR4.out | (with_reducible refine Kd.C_alloc ?_ _) | (with_reducible refine Kd.C_drewN ?_ _) | (with_reducible refine Kd.C_drew ?_)));(case side2 => exact HC4.out);rintro e w' ⟨rfl,⟨nd,rfl⟩⟩;refine ⟨_,rfl,?_⟩) | ((with_reducible refine gate_callee (f := 36) rfl ?_);refine goesL_ (some 31) rfl rfl Tryd.func36 (by kernel_rfl) rfl #[.slice A4 l4.length c4] rfl (by (try simp only [m1_,m2_,m3_]);first | done | rfl | (simp only [d1_,d2_];rfl)) ?_;(with_reducible refine (laws_toStringS.calls k _ _ l4 t683 _ ?side1 ?side2 A10.out).mono ?_);(case side1 => repeat (first | exact HR4.out | (with_reducible refine Kd.C_alloc ?_ _) | (with_reducible refine Kd.C_drewN ?_ _) | (with_reducible refine Kd.C_drew ?_)));(case side2 => exact HC4.out);rintro e w26 ⟨v684,rfl,ho0,hb⟩;refine ⟨_,rfl,?_⟩;have n0_ := am_ (Kd.R_lower ho0 (below_size (by repeat (first | (with_reducible first | exact HB.out | apply b1_ | apply b2_ | apply b3_) | exact HB.out))));have n1_ := am_ (below_step (by repeat (first | (with_reducible first | exact HB.out | apply b1_ | apply b2_ | apply b3_) | exact HB.out)) hb);clear HB;have HO685 := n0_;have HB := n1_;clear n0_ n1_;(try clear hb);(try clear hb2);(try clear hk);(try clear hi);(try clear ho0);obtain ⟨Ao27,co27,eo27⟩ := Kd.R_slice HO685.out;subst eo27) | ((with_reducible refine gate_callee (f := 35) rfl ?_);refine goesL_ (some 32) rfl rfl Tryd.func35 (by kernel_rfl) rfl #[.string a0,.string a1,.int .i64 a2,.int .i64 a3,.slice Ao27 t683.length co27] rfl (by (try simp only [m1_,m2_,m3_]);first | done | rfl | (simp only [d1_,d2_];rfl)) ?_;(with_reducible refine (spec_CheckPiece.calls k a0 a1 a2 a3 _ _ t683 t686 _ ?side1 ?side2 A11.out).mono ?_);(case side1 => repeat (first | exact (Kd.R_reads' HO685.out).2.2 | (with_reducible refine Kd.C_alloc ?_ _) | (with_reducible refine Kd.C_drewN ?_ _) | (with_reducible refine Kd.C_drew ?_)));(case side2 => exact (Kd.R_reads' HO685.out).2.1);rintro e w28 ⟨rfl,hb⟩;refine ⟨_,rfl,?_⟩;have n0_ := am_ (Kd.R_below (by (with_reducible repeat (first | apply r1_ | apply r2_ | apply r3_));exact HO685.out) hb);have n1_ := am_ (below_step (by repeat (first | (with_reducible first | exact HB.out | apply b1_ | apply b2_ | apply b3_) | exact HB.out)) hb);clear HO685;clear HB;have HO685 := n0_;have HB := n1_;clear n0_ n1_;(try clear hb);(try clear hb2);(try clear hk);(try clear hi)) | ((with_reducible refine gate_callee (f := 36) rfl ?_);refine goesL_ (some 34) rfl rfl Tryd.func36 (by kernel_rfl) rfl #[.slice A4 l4.length c4] rfl (by (try simp only [m1_,m2_,m3_]);first | done | rfl | (simp only [d1_,d2_];rfl)) ?_;(with_reducible refine (laws_toStringS.calls k _ _ l4 t687 _ ?side1 ?side2 A12.out).mono ?_);(case side1 => repeat (first | exact (Kd.C_below HR4.out HB.out) | (with_reducible refine Kd.C_alloc ?_ _) | (with_reducible refine Kd.C_drewN ?_ _) | (with_reducible refine Kd.C_drew ?_)));(case side2 => exact HC4.out);rintro e w29 ⟨v688,rfl,ho0,hb⟩;refine ⟨_,rfl,?_⟩;have n0_ := am_ (Kd.R_elder' (by (with_reducible repeat (first | apply r1_ | apply r2_ | apply r3_));exact HO685.out) (Kd.R_base ho0) hb);have n1_ := am_ (Kd.R_lower (Kd.R_new' ho0 (Kd.R_lt (by (with_reducible repeat (first | apply r1_ | apply r2_ | apply r3_));exact HO685.out))) (below_size (by repeat (first | (with_reducible first | exact HB.out | apply b1_ | apply b2_ | apply b3_) | exact HB.out))));have n2_ := am_ (below_step (by repeat (first | (with_reducible first | exact HB.out | apply b1_ | apply b2_ | apply b3_) | exact HB.out)) hb);clear HO685;clear HB;have HO685 := n0_;have HO689 := n1_;have HB := n2_;clear n0_ n1_ n2_;(try clear hb);(try clear hb2);(try clear hk);(try clear hi);(try clear ho0);obtain ⟨Ao30,co30,eo30⟩ := Kd.R_slice HO689.out;subst eo30) | ((with_reducible refine gate_callee (f := 37) rfl ?_);refine goesL_ (some 40) rfl rfl Tryd.func37 (by kernel_rfl) rfl #[.string a0,.string a1,.int .i64 a2,.int .i64 a3,.slice Ao30 t687.length co30] rfl (by (try simp only [m1_,m2_,m3_]);first | done | rfl | (simp only [d1_,d2_];rfl)) ?_;(with_reducible refine (impl_CheckPiece.calls k a0 a1 a2 a3 _ _ t687 t690 _ ?side1 ?side2 ?side3 A13.out).mono ?_);(case side1 => repeat (first | exact (Kd.R_reads' HO689.out).2.2 | (with_reducible refine Kd.C_alloc ?_ _) | (with_reducible refine Kd.C_drewN ?_ _) | (with_reducible refine Kd.C_drew ?_)));(case side2 => exact (Kd.R_reads' HO689.out).2.1);(case side3 => exact HLD.out.on (by repeat (first | (with_reducible first | exact HB.out | apply b1_ | apply b2_ | apply b3_) | exact HB.out)));rintro e w31 ⟨rfl,hb⟩;refine ⟨_,rfl,?_⟩;have n0_ := am_ (Kd.R_below (by (with_reducible repeat (first | apply r1_ | apply r2_ | apply r3_));exact HO685.out) hb);have n1_ := am_ (Kd.R_below (by (with_reducible repeat (first | apply r1_ | apply r2_ | apply r3_));exact HO689.out) hb);have n2_ := am_ (below_step (by repeat (first | (with_reducible first | exact HB.out | apply b1_ | apply b2_ | apply b3_) | exact HB.out)) hb);clear HO685;clear HO689;clear HB;have HO685 := n0_;have HO689 := n1_;have HB := n2_;clear n0_ n1_ n2_;(try clear hb);(try clear hb2);(try clear hk);(try clear hi)) | ((with_reducible refine gate_callee (f := 36) rfl ?_);refine goesL_ (some 46) rfl rfl Tryd.func36 (by kernel_rfl) rfl #[.slice A4 l4.length c4] rfl (by (try simp only [m1_,m2_,m3_]);first | done | rfl | (simp only [d1_,d2_];rfl)) ?_;(with_reducible refine (laws_toStringS.calls k _ _ l4 t691 _ ?side1 ?side2 A15.out).mono ?_);(case side1 => repeat (first | exact (Kd.C_below HR4.out HB.out) | (with_reducible refine Kd.C_alloc ?_ _) | (with_reducible refine Kd.C_drewN ?_ _) | (with_reducible refine Kd.C_drew ?_)));(case side2 => exact HC4.out);rintro e w32 ⟨v692,rfl,ho0,hb⟩;refine ⟨_,rfl,?_⟩;have n0_ := am_ (Kd.R_elder' (by (with_reducible repeat (first | apply r1_ | apply r2_ | apply r3_));exact HO685.out) (Kd.R_base ho0) hb);have n1_ := am_ (Kd.R_elder' (by (with_reducible repeat (first | apply r1_ | apply r2_ | apply r3_));exact HO689.out) (Kd.R_base ho0) hb);have n2_ := am_ (Kd.R_lower (Kd.R_new' (Kd.R_new' ho0 (Kd.R_lt (by (with_reducible repeat (first | apply r1_ | apply r2_ | apply r3_));exact HO685.out))) (Kd.R_lt (by (with_reducible repeat (first | apply r1_ | apply r2_ | apply r3_));exact HO689.out))) (below_size (by repeat (first | (with_reducible first | exact HB.out | apply b1_ | apply b2_ | apply b3_) | exact HB.out))));have n3_ := am_ (below_step (by repeat (first | (with_reducible first | exact HB.out | apply b1_ | apply b2_ | apply b3_) | exact HB.out)) hb);clear HO685;clear HO689;clear HB;have HO685 := n0_;have HO689 := n1_;have HO693 := n2_;have HB := n3_;clear n0_ n1_ n2_ n3_;(try clear hb);(try clear hb2);(try clear hk);(try clear hi);(try clear ho0);obtain ⟨Ao33,co33,eo33⟩ := Kd.R_slice HO693.out;subst eo33) | ((with_reducible refine gate_callee (f := 38) rfl ?_);refine goesL_ (some 47) rfl rfl Tryd.func38 (by kernel_rfl) rfl #[.slice Ao30 t687.length co30,.slice Ao33 t691.length co33] rfl (by (try simp only [m1_,m2_,m3_]);first | done | rfl | (simp only [d1_,d2_];rfl)) ?_;(with_reducible refine (laws_eqStringS.calls k _ _ t687 _ _ t691 false _ ?side1 ?side2 ?side3 ?side4 A16.out).mono ?_);(case side1 => repeat (first | exact (Kd.R_reads' HO689.out).2.2 | (with_reducible refine Kd.C_alloc ?_ _) | (with_reducible refine Kd.C_drewN ?_ _) | (with_reducible refine Kd.C_drew ?_)));(case side2 => exact (Kd.R_reads' HO689.out).2.1);(case side3 => repeat (first | exact (Kd.R_reads' HO693.out).2.2 | (with_reducible refine Kd.C_alloc ?_ _) | (with_reducible refine Kd.C_drewN ?_ _) | (with_reducible refine Kd.C_drew ?_)));(case side4 => exact (Kd.R_reads' HO693.out).2.1);rintro e w' ⟨rfl,⟨nd,rfl⟩⟩;refine ⟨_,rfl,?_⟩))
      go_ret
      exact ⟨by first | rfl | (simp [e1_,e2_] <;> rfl) | (simp [*,e1_,e2_] <;> rfl) | (simp [e3_,e4_];done) | (simp [*,e3_,e4_];done),by repeat (first | (with_reducible first | exact HB.out | apply b1_ | apply b2_ | apply b3_) | exact HB.out)⟩
    ·rw [if_neg c14] at H
     have c14b0 : (t690 == t686) = false := beq_eq_false_iff_ne.mpr c14
     have c14b1 : (t690 != t686) = true := bne_iff_ne.mpr c14
     obtain rfl := Option.some.inj H
     go_enter Tryd.func10,Tryd.ntmps10
     go_wp2_with (first | ((with_reducible refine gate_callee (f := 34) rfl ?_);refine goesL_ (some 23) rfl rfl Tryd.func34 (by kernel_rfl) rfl #[.slice A4 l4.length c4,.int .i64 1048576] rfl (by (try simp only [m1_,m2_,m3_]);first | done | rfl | (simp only [d1_,d2_];rfl)) ?_;(with_reducible refine (laws_szStringS.calls k _ _ l4 1048576 t682 _ ?side1 ?side2 A8.out).mono ?_);(case side1 => repeat (first | exact HR4.out | (with_reducible refine Kd.C_alloc ?_ _) | (with_reducible refine Kd.C_drewN ?_ _) | (with_reducible refine Kd.C_drew ?_)));(case side2 => exact HC4.out);rintro e w' ⟨rfl,⟨nd,rfl⟩⟩;refine ⟨_,rfl,?_⟩) | ((with_reducible refine gate_callee (f := 36) rfl ?_);refine goesL_ (some 31) rfl rfl Tryd.func36 (by kernel_rfl) rfl #[.slice A4 l4.length c4] rfl (by (try simp only [m1_,m2_,m3_]);first | done | rfl | (simp only [d1_,d2_];rfl)) ?_;(with_reducible refine (laws_toStringS.calls k _ _ l4 t683 _ ?side1 ?side2 A10.out).mono ?_);(case side1 => repeat (first | exact HR4.out | (with_reducible refine Kd.C_alloc ?_ _) | (with_reducible refine Kd.C_drewN ?_ _) | (with_reducible refine Kd.C_drew ?_)));(case side2 => exact HC4.out);rintro e w34 ⟨v684,rfl,ho0,hb⟩;refine ⟨_,rfl,?_⟩;have n0_ := am_ (Kd.R_lower ho0 (below_size (by repeat (first | (with_reducible first | exact HB.out | apply b1_ | apply b2_ | apply b3_) | exact HB.out))));have n1_ := am_ (below_step (by repeat (first | (with_reducible first | exact HB.out | apply b1_ | apply b2_ | apply b3_) | exact HB.out)) hb);clear HB;have HO685 := n0_;have HB := n1_;clear n0_ n1_;(try clear hb);(try clear hb2);(try clear hk);(try clear hi);(try clear ho0);obtain ⟨Ao35,co35,eo35⟩ := Kd.R_slice HO685.out;subst eo35) | ((with_reducible refine gate_callee (f := 35) rfl ?_);refine goesL_ (some 32) rfl rfl Tryd.func35 (by kernel_rfl) rfl #[.string a0,.string a1,.int .i64 a2,.int .i64 a3,.slice Ao35 t683.length co35] rfl (by (try simp only [m1_,m2_,m3_]);first | done | rfl | (simp only [d1_,d2_];rfl)) ?_;(with_reducible refine (spec_CheckPiece.calls k a0 a1 a2 a3 _ _ t683 t686 _ ?side1 ?side2 A11.out).mono ?_);(case side1 => repeat (first | exact (Kd.R_reads' HO685.out).2.2 | (with_reducible refine Kd.C_alloc ?_ _) | (with_reducible refine Kd.C_drewN ?_ _) | (with_reducible refine Kd.C_drew ?_)));(case side2 => exact (Kd.R_reads' HO685.out).2.1);rintro e w36 ⟨rfl,hb⟩;refine ⟨_,rfl,?_⟩;have n0_ := am_ (Kd.R_below (by (with_reducible repeat (first | apply r1_ | apply r2_ | apply r3_));exact HO685.out) hb);have n1_ := am_ (below_step (by repeat (first | (with_reducible first | exact HB.out | apply b1_ | apply b2_ | apply b3_) | exact HB.out)) hb);clear HO685;clear HB;have HO685 := n0_;have HB := n1_;clear n0_ n1_;(try clear hb);(try clear hb2);(try clear hk);(try clear hi)) | ((with_reducible refine gate_callee (f := 36) rfl ?_);refine goesL_ (some 34) rfl rfl Tryd.func36 (by kernel_rfl) rfl #[.slice A4 l4.length c4] rfl (by (try simp only [m1_,m2_,m3_]);first | done | rfl | (simp only [d1_,d2_];rfl)) ?_;(with_reducible refine (laws_toStringS.calls k _ _ l4 t687 _ ?side1 ?side2 A12.out).mono ?_);(case side1 => repeat (first | exact (Kd.C_below HR4.out HB.out) | (with_reducible refine Kd.C_alloc ?_ _) | (with_reducible refine Kd.C_drewN ?_ _) | (with_reducible refine Kd.C_drew ?_)));(case side2 => exact HC4.out);rintro e w37 ⟨v688,rfl,ho0,hb⟩;refine ⟨_,rfl,?_⟩;have n0_ := am_ (Kd.R_elder' (by (with_reducible repeat (first | apply r1_ | apply r2_ | apply r3_));exact HO685.out) (Kd.R_base ho0) hb);have n1_ := am_ (Kd.R_lower (Kd.R_new' ho0 (Kd.R_lt (by (with_reducible repeat (first | apply r1_ | apply r2_ | apply r3_));exact HO685.out))) (below_size (by repeat (first | (with_reducible first | exact HB.out | apply b1_ | apply b2_ | apply b3_) | exact HB.out))));have n2_ := am_ (below_step (by repeat (first | (with_reducible first | exact HB.out | apply b1_ | apply b2_ | apply b3_) | exact HB.out)) hb);clear HO685;clear HB;have HO685 := n0_;have HO689 := n1_;have HB := n2_;clear n0_ n1_ n2_;(try clear hb);(try clear hb2);(try clear hk);(try clear hi);(try clear ho0);obtain ⟨Ao38,co38,eo38⟩ := Kd.R_slice HO689.out;subst eo38) | ((with_reducible refine gate_callee (f := 37) rfl ?_);refine goesL_ (some 40) rfl rfl Tryd.func37 (by kernel_rfl) rfl #[.string a0,.string a1,.int .i64 a2,.int .i64 a3,.slice Ao38 t687.length co38] rfl (by (try simp only [m1_,m2_,m3_]);first | done | rfl | (simp only [d1_,d2_];rfl)) ?_;(with_reducible refine (impl_CheckPiece.calls k a0 a1 a2 a3 _ _ t687 t690 _ ?side1 ?side2 ?side3 A13.out).mono ?_);(case side1 => repeat (first | exact (Kd.R_reads' HO689.out).2.2 | (with_reducible refine Kd.C_alloc ?_ _) | (with_reducible refine Kd.C_drewN ?_ _) | (with_reducible refine Kd.C_drew ?_)));(case side2 => exact (Kd.R_reads' HO689.out).2.1);(case side3 => exact HLD.out.on (by repeat (first | (with_reducible first | exact HB.out | apply b1_ | apply b2_ | apply b3_) | exact HB.out)));rintro e w39 ⟨rfl,hb⟩;refine ⟨_,rfl,?_⟩;have n0_ := am_ (Kd.R_below (by (with_reducible repeat (first | apply r1_ | apply r2_ | apply r3_));exact HO685.out) hb);have n1_ := am_ (Kd.R_below (by (with_reducible repeat (first | apply r1_ | apply r2_ | apply r3_));exact HO689.out) hb);have n2_ := am_ (below_step (by repeat (first | (with_reducible first | exact HB.out | apply b1_ | apply b2_ | apply b3_) | exact HB.out)) hb);clear HO685;clear HO689;clear HB;have HO685 := n0_;have HO689 := n1_;have HB := n2_;clear n0_ n1_ n2_;(try clear hb);(try clear hb2);(try clear hk);(try clear hi)))
     go_ret
     exact ⟨by first | rfl | (simp [e1_,e2_] <;> rfl) | (simp [*,e1_,e2_] <;> rfl) | (simp [e3_,e4_];done) | (simp [*,e3_,e4_];done),by repeat (first | (with_reducible first | exact HB.out | apply b1_ | apply b2_ | apply b3_) | exact HB.out)⟩
end Go.Proofs.YtdpdbegglkdgnaaDoor.A
end
