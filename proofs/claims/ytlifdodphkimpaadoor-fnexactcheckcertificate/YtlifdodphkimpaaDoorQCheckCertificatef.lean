/- A part of the proof that FnExactCheckCertificate returns true at every input: plain functions, contracts and lemmas. No conditions. -/
import Derived.Test.YtlifdodphkimpaaDoorQCheckCertificatee
set_option linter.unusedVariables false
set_option linter.unusedSimpArgs false
set_option linter.unusedSectionVars false
section
namespace Go.Proofs.YtlifdodphkimpaaDoor.A
open Go.RowKit Go.Proofs.YtlifdodphkimpaaDoorW.PrintWords Go.Proofs.YtlifdodphkimpaaDoorW.PrintLast Go.Proofs.YtlifdodphkimpaaDoorW.PrintMore
attribute [local go_sem] max2_int min2_int max_two min_two max_three min_three max_four min_four
def spec_l01Hash.T18 : Bool × List (List Nat × List Nat) := (true,[([],[]),([],[]),([],[]),([1,2],[1,2]),([3],[3]),([4],[4]),([5],[5]),([],[]),([],[]),([7,8],[7,8]),([9],[9]),([10],[10]),([11],[11]),([],[]),([],[]),([13,14],[13,14]),([15],[15]),([16],[16]),([17],[17]),([],[]),([],[]),([19,20],[19,20]),([21],[21]),([22],[22]),([6,12,18,23],[6,12,18,23]),([0,24],[0,24]),([25,25,0,1,2,3,4,5,6,7,8,9,10,11,12,13,14,15,16,17,18,19,20,21,22,23,24,25],[0,25])])
def spec_l01Hash.B18 : List Nat := [0,0,0,6,14,30,62,0,0,384,896,1920,3968,0,0,24576,57344,122880,253952,0,0,1572864,3670016,7864320,16777214,33554431,67108863]
theorem spec_l01Hash.tab18 : rtab .any (opsOf Tryd.f113 18) = spec_l01Hash.T18 := by kernel_rfl
theorem spec_l01Hash.bits18 : waitsOk spec_l01Hash.T18.2 spec_l01Hash.B18 = true := by kernel_rfl
set_option maxHeartbeats 8000000 in
set_option maxRecDepth 100000 in
theorem spec_l01Hash.calls (k : Nat) (A0 : Option Addr) (c0 : Nat) (l0 : List Int) (r : ByteArray) (w : World) (hr0 : Kd.C (Kd.int .u8) w A0 l0.length l0) (hc0 : l0.length ≤ c0) (h : spec_l01Hash.f k l0 = some r) :
  Calls Tryd.prog 113 #[.slice A0 l0.length c0] w fun e w' => e = .returned (.string r) ∧ Below w.heap.size w w' := by
 have HR0 := am_ hr0
 have HC0 := am_ hc0
 clear hr0 hc0
 have HB := am_ (Below.refl w.heap.size w)
 have H : ((some (([] : List Int) : List Int)).bind fun y188 => (if y188.length + l0.length < 140737488355328 then ((some (y188 ++ l0 : List Int)).bind fun y191 => (if y191.length < 140737488355328 then (spec_l01Hash.l0 k l0 (([1779033703,3144134277,1013904242,2773480762,1359893119,2600822924,528734635,1541459225] : List Int)) (y191 ++ [128])) else (none))) else (none))) = some r := h
 clear h
 obtain ⟨y185,hy185⟩ : ∃ y_ : List Int,y_ = (([1779033703,3144134277,1013904242,2773480762,1359893119,2600822924,528734635,1541459225] : List Int)) := ⟨_,rfl⟩
 replace H : ((some (([] : List Int) : List Int)).bind fun y188 => (if y188.length + l0.length < 140737488355328 then ((some (y188 ++ l0 : List Int)).bind fun y191 => (if y191.length < 140737488355328 then (spec_l01Hash.l0 k l0 y185 (y191 ++ [128])) else (none))) else (none))) = some r := by first | (rw [hy185];with_reducible exact H) | (have H2_ := (Option.bind_some _ _).symm.trans H;rw [hy185];with_reducible exact H2_) | (have H2_ := (Option.bind_some _ _).symm.trans H;with_reducible exact H2_) | with_reducible exact H | (rw [hy185];exact H) | exact H
 have Ny185 := am_ hy185
 clear hy185
 obtain ⟨y188,hy188⟩ : ∃ y_ : List Int,y_ = (([] : List Int)) := ⟨_,rfl⟩
 replace H : (if y188.length + l0.length < 140737488355328 then ((some (y188 ++ l0 : List Int)).bind fun y191 => (if y191.length < 140737488355328 then (spec_l01Hash.l0 k l0 y185 (y191 ++ [128])) else (none))) else (none)) = some r := by first | (rw [hy188];with_reducible exact H) | (have H2_ := (Option.bind_some _ _).symm.trans H;rw [hy188];with_reducible exact H2_) | (have H2_ := (Option.bind_some _ _).symm.trans H;with_reducible exact H2_) | with_reducible exact H | (rw [hy188];exact H) | exact H
 have Ny188 := am_ hy188
 clear hy188
 by_cases c2 : y188.length + l0.length < 140737488355328
 ·rw [if_pos c2] at H
  have LMc2 := am_ c2
  clear c2
  obtain ⟨y191,hy191⟩ : ∃ y_ : List Int,y_ = (y188 ++ l0) := ⟨_,rfl⟩
  replace H : (if y191.length < 140737488355328 then (spec_l01Hash.l0 k l0 y185 (y191 ++ [128])) else (none)) = some r := by first | (rw [hy191];with_reducible exact H) | (have H2_ := (Option.bind_some _ _).symm.trans H;rw [hy191];with_reducible exact H2_) | (have H2_ := (Option.bind_some _ _).symm.trans H;with_reducible exact H2_) | with_reducible exact H | (rw [hy191];exact H) | exact H
  have Ny191 := am_ hy191
  clear hy191
  by_cases c3 : y191.length < 140737488355328
  ·rw [if_pos c3] at H
   have LMc3 := am_ c3
   clear c3
   obtain ⟨y194,hy194⟩ : ∃ y_ : List Int,y_ = (y191 ++ [128]) := ⟨_,rfl⟩
   replace H : (spec_l01Hash.l0 k l0 y185 y194) = some r := by first | (rw [hy194];with_reducible exact H) | (have H2_ := (Option.bind_some _ _).symm.trans H;rw [hy194];with_reducible exact H2_) | (have H2_ := (Option.bind_some _ _).symm.trans H;with_reducible exact H2_) | with_reducible exact H | (rw [hy194];exact H) | exact H
   have Ny194 := am_ hy194
   clear hy194
   have H' := am_ H
   clear H
   go_enter Tryd.func113,Tryd.ntmps113
   go_wp2_with (first | ((with_reducible refine gate_dst (N := 10) rfl ?_);refine Kd.R_lit (Kd.int .u32) _ 174 ?hg (N := 10) ?hd (xs := ([1779033703,3144134277,1013904242,2773480762,1359893119,2600822924,528734635,1541459225] : List Int)) (inner := [.int .u32 1779033703,.int .u32 3144134277,.int .u32 1013904242,.int .u32 2773480762,.int .u32 1359893119,.int .u32 2600822924,.int .u32 528734635,.int .u32 1541459225]) (ok := fun _ => True) (okp := fun _ => True) ?hr ?hp (fun _ hk => hk) trivial (Below.refl _ _) (Nat.le_refl _) (by simp) ?_;(case hd => rfl);(case hg => rfl);(case hr => first | (go_simp;done) | (go_simp;rfl));(case hp => exact (Reps.one (show Kd.M (Kd.int .u32) _ _ _ 1779033703 [.int .u32 1779033703] from rfl) (Reps.one (show Kd.M (Kd.int .u32) _ _ _ 3144134277 [.int .u32 3144134277] from rfl) (Reps.one (show Kd.M (Kd.int .u32) _ _ _ 1013904242 [.int .u32 1013904242] from rfl) (Reps.one (show Kd.M (Kd.int .u32) _ _ _ 2773480762 [.int .u32 2773480762] from rfl) (Reps.one (show Kd.M (Kd.int .u32) _ _ _ 1359893119 [.int .u32 1359893119] from rfl) (Reps.one (show Kd.M (Kd.int .u32) _ _ _ 2600822924 [.int .u32 2600822924] from rfl) (Reps.one (show Kd.M (Kd.int .u32) _ _ _ 528734635 [.int .u32 528734635] from rfl) (Reps.one (show Kd.M (Kd.int .u32) _ _ _ 1541459225 [.int .u32 1541459225] from rfl) (Reps.none _ _))))))))));intro v186 w4 ho5 hb hg_ hnew_;clear hg_ hnew_;(first | rw [← Ny185.out] at ho5 | (simp only [Int.reduceToNat] at ho5;rw [← Ny185.out] at ho5));have HO187 := am_ (Kd.R_lower ho5 (below_size (zl_ HB)));replace HB := zs_ HB hb;clear hb ho5) | ((with_reducible refine gate_dst (N := 11) rfl ?_);refine Kd.R_lit (Kd.int .u8) _ 5 ?hg (N := 11) ?hd (xs := ([] : List Int)) (inner := []) (ok := fun _ => True) (okp := fun _ => True) ?hr ?hp (fun _ hk => hk) trivial (Below.refl _ _) (Nat.le_refl _) (by simp) ?_;(case hd => rfl);(case hg => rfl);(case hr => first | (go_simp;done) | (go_simp;rfl));(case hp => exact (Reps.none _ _));intro v189 w6 ho7 hb hg_ hnew_;clear hg_ hnew_;(first | rw [← Ny188.out] at ho7 | (simp only [Int.reduceToNat] at ho7;rw [← Ny188.out] at ho7));replace HO187 := zrb HO187 hb;have HO190 := am_ (Kd.R_lower ho7 (below_size (zl_ HB)));replace HB := zs_ HB hb;clear hb ho7) | ((with_reducible refine gate_builtin (b := .append) (xs := #[.tmp 11,.tmp 12]) rfl ?_);at_builtin;refine Kd.R_append_rows (Kd.int .u8) (w0 := w) w.heap.size rfl (.tmp 11) (.tmp 12) 46 5 (.int .u8 0) 1 rfl Tryd.underlying46 info5 rfl (by decide) (by omega) v189 y188 l0 _ _ _ (fun _ => True) (fun _ => False) rfl rfl ?aO ?aR (fun _ _ h => h) (fun _ h => h.elim) ?aF ?aB ?aS ?aL ?_;(case aR => exact zc_ HR0 HB);(case aB => exact (zl_ HB));(case aF => exact (fun _ _ => trivial));(case aO => exact (zr HO190));(case aS => exact (below_size (zl_ HB)));(case aL => have := LMc2.out;omega);intro v192 w8 ho hb hg hat;rw [← Ny191.out] at ho;replace HO187 := am_ (Kd.R_over' (zr HO187) (Kd.R_typed (zr HO190)) (by decide) hg);replace HB := am_ (hb);have HO193 := am_ (ho);clear HO190;clear ho hb hg hat) | ((with_reducible refine gate_builtin (b := .append) (xs := #[.tmp 13,.tmp 14]) rfl ?_);at_builtin;refine Kd.R_append (Kd.int .u8) (w0 := w) w.heap.size rfl (.tmp 13) (.tmp 14) 46 5 (.int .u8 0) 1 rfl Tryd.underlying46 info5 rfl (by decide) (by omega) v192 y191 128 [.int .u8 128] (fun _ => True) (fun _ => False) rfl rfl ?aP (fun _ hk => hk.elim) ?aF ?aO ?aB ?aS ?aL ?_;(case aP => exact rfl);(case aB => exact (zl_ HB));(case aF => exact (fun _ _ => trivial));(case aO => exact (zr HO193));(case aS => exact (below_size (zl_ HB)));(case aL => have := LMc3.out;omega);intro v195 w9 ho hb hg hat;rw [← Ny194.out] at ho;replace HO187 := am_ (Kd.R_over' (zr HO187) (Kd.R_typed (zr HO193)) (by decide) hg);replace HB := am_ (hb);have HO196 := am_ (ho);clear HO193;clear ho hb hg hat))
   go_loopg [4] k (fun kq v4 w' => ∃ (x4_1 : List Int),Aside0 (spec_l01Hash.l0 kq l0 y185 x4_1 = some r) ∧ Aside0 (kq ≤ k) ∧ Aside0 (Kd.R (Kd.int .u32) 174 w' w.heap.size (fun _ => True) v186 y185) ∧ Aside0 (Kd.R (Kd.int .u8) 5 w' w.heap.size (fun _ => True) v4 x4_1) ∧ Aside0 (Below w.heap.size w w'))
   case atStart => exact ⟨(y194),H',⟨Nat.le_refl _⟩,⟨zr HO187⟩,⟨zr HO196⟩,⟨zl_ HB⟩⟩
   case round =>
    clear H'
    try clear c1
    try clear c2
    try clear p2
    try clear c3
    obtain ⟨x4_1,HA,HK1,HO_3,HO_4,HB⟩ := hrel
    cases gk with
    | zero => exact absurd HA.out (by simp [spec_l01Hash.l0])
    | succ k1 =>
     have H := HA.out
     clear HA
     simp only [spec_l01Hash.l0] at H
     by_cases c10 : ((x4_1.length : Int) % 64) = 56
     ·rw [if_pos c10] at H
      have c10b0 : (((x4_1.length : Int) % 64) == 56) = true := beq_iff_eq.mpr c10
      have c10b1 : (((x4_1.length : Int) % 64) != 56) = false := bne_eq_false_iff_eq.mpr c10
      clear c10
      have H' := am_ H
      clear H
      obtain ⟨Ao11,co11,eo11⟩ := Kd.R_slice HO_4.out
      subst eo11
      go_wp2
      go_loopg [4,5] k1 (fun kq v4 v5 w' => ∃ (x4_2 : List Int) (x5_2 : Int),v5 = .int .i64 x5_2 ∧ Aside0 (spec_l01Hash.l1 kq l0 y185 x4_2 x5_2 = some r) ∧ Aside0 (kq ≤ k1) ∧ Aside0 (Kd.R (Kd.int .u32) 174 w' w.heap.size (fun _ => True) v186 y185) ∧ Aside0 (Kd.R (Kd.int .u8) 5 w' w.heap.size (fun _ => True) v4 x4_2) ∧ Aside0 (Below w.heap.size w w'))
      case atStart => exact ⟨(x4_1),(7),(by first | rfl | (simp;done) | (simp [*];done)),H',⟨Nat.le_refl _⟩,⟨zr HO_3⟩,⟨zr HO_4⟩,⟨zl_ HB⟩⟩
      case round =>
       clear H'
       try clear c1
       try clear c2
       try clear p2
       try clear c3
       try clear c10
       try clear c10b0
       try clear c10b1
       try clear c11
       try clear p2
       obtain ⟨x4_2,x5_2,rfl,HA,HK2,HO_3,HO_4,HB⟩ := hrel
       cases gk with
       | zero => exact absurd HA.out (by simp [spec_l01Hash.l1])
       | succ k2 =>
        have H := HA.out
        clear HA
        simp only [spec_l01Hash.l1] at H
        by_cases c12 : x5_2 ≥ 0
        ·rw [if_pos c12] at H
         have c12b0 : decide (0 ≤ x5_2) = true := decide_eq_true c12
         clear c12
         obtain ⟨ji13,hji13⟩ : ∃ j_ : Int,(IntKind.u64.wrap (wrap64 (8 * x5_2))) = j_ := ⟨_,rfl⟩
         replace H : (if 0 ≤ (ji13) then (if x4_2.length < 140737488355328 then (spec_l01Hash.l1 k2 l0 y185 (x4_2 ++ [(shr .i64 (wrap64 (8 * (l0.length : Int))) (ji13)) % 256]) (wrap64 (x5_2 - 1))) else (none)) else (none)) = some r := by first | (rw [hji13] at H;exact H) | (simp only [hji13] at H ⊢;exact H)
         by_cases c14 : 0 ≤ (ji13)
         ·rw [if_pos c14] at H
          have c14b0 := eq_true c14
          have c14b1 : decide (0 ≤ (ji13)) = true := decide_eq_true c14
          clear c14
          obtain ⟨ji15,hji15⟩ : ∃ j_ : Int,(shr .i64 (wrap64 (8 * (l0.length : Int))) (ji13)) = j_ := ⟨_,rfl⟩
          replace H : (if x4_2.length < 140737488355328 then (spec_l01Hash.l1 k2 l0 y185 (x4_2 ++ [(ji15) % 256]) (wrap64 (x5_2 - 1))) else (none)) = some r := by first | (rw [hji15] at H;exact H) | (simp only [hji15] at H ⊢;exact H)
          have hji15_ : ((wrap64 (8 * (l0.length : Int))) / 2 ^ min (ji13).toNat 64) = ji15 := hji15
          have hji15z : (ji13) ≤ 64 → ((wrap64 (8 * (l0.length : Int))) / 2 ^ (ji13).toNat) = ji15 := shr_small hji15
          by_cases c16 : x4_2.length < 140737488355328
          ·rw [if_pos c16] at H
           have LMc16 := am_ c16
           clear c16
           obtain ⟨y200,hy200⟩ : ∃ y_ : List Int,y_ = (x4_2 ++ [(ji15) % 256]) := ⟨_,rfl⟩
           replace H : (spec_l01Hash.l1 k2 l0 y185 y200 (wrap64 (x5_2 - 1))) = some r := by first | (rw [hy200];with_reducible exact H) | (have H2_ := (Option.bind_some _ _).symm.trans H;rw [hy200];with_reducible exact H2_) | (have H2_ := (Option.bind_some _ _).symm.trans H;with_reducible exact H2_) | with_reducible exact H | (rw [hy200];exact H) | exact H
           have Ny200 := am_ hy200
           clear hy200
           have H' := am_ H
           clear H
           go_wp2_with (first | ((with_reducible refine gate_builtin (b := .append) (xs := #[.tmp 27,.tmp 36]) rfl ?_);at_builtin;refine Kd.R_append (Kd.int .u8) (w0 := w) w.heap.size rfl (.tmp 27) (.tmp 36) 46 5 (.int .u8 0) 1 rfl Tryd.underlying46 info5 rfl (by decide) (by omega) u4 x4_2 ((ji15) % 256) [.int .u8 ((ji15) % 256)] (fun _ => True) (fun _ => False) rfl rfl ?aP (fun _ hk => hk.elim) ?aF ?aO ?aB ?aS ?aL ?_;(case aP => exact rfl);(case aB => exact (zl_ HB));(case aF => exact (fun _ _ => trivial));(case aO => exact (zr HO_4));(case aS => exact (below_size (zl_ HB)));(case aL => have := LMc16.out;omega);intro v201 w17 ho hb hg hat;rw [← Ny200.out] at ho;replace HO_3 := am_ (Kd.R_over' (zr HO_3) (Kd.R_typed (zr HO_4)) (by decide) hg);replace HB := am_ (hb);have HO202 := am_ (ho);clear HO_4;clear ho hb hg hat))
           go_roundg k2
           case measure => have := HK1.out;have := HK2.out;omega
           case rel => exact ⟨(y200),(wrap64 (x5_2 - 1)),(by first | rfl | (simp;done) | (simp [*];done)),H',⟨by have := HK1.out;have := HK2.out;omega⟩,⟨zr HO_3⟩,⟨zr HO202⟩,⟨zl_ HB⟩⟩
          ·rw [if_neg c16] at H
           exact absurd H (by simp)
         ·rw [if_neg c14] at H
          exact absurd H (by simp)
        ·rw [if_neg c12] at H
         have c12b0 : decide (0 ≤ x5_2) = false := decide_eq_false c12
         clear c12
         replace H := Option.bind_eq_some_iff.mp H
         obtain ⟨t203,A180,H⟩ := H
         try dsimp only at H
         have A18 := am_ A180
         clear A180
         have H' := am_ H
         clear H
         go_wp2_with (first | ((with_reducible refine gate_callee (f := 153) rfl ?_);refine zgl (some 38) Tryd.func153 #[] ?_;(with_reducible refine (spec_l01Consts.calls  t203 _ A18.out).mono ?_);rintro e w19 ⟨v204,rfl,ho0,hb⟩;refine ⟨_,rfl,?_⟩;replace HO_4 := zrb HO_4 hb;have HO205 := am_ (Kd.R_lower (Kd.R_new' ho0 (Kd.R_lt (zr HO_3))) (below_size (zl_ HB)));replace HO_3 := am_ (Kd.R_elder' (zr HO_3) (Kd.R_base ho0) hb);replace HB := zs_ HB hb;(try clear hb);(try clear hb2);(try clear hk);(try clear hi);(try clear ho0)))
         go_loopg [7] k2 (fun kq v7 w' => ∃ (x3_3 : List Int) (x7_3 : Int),v7 = .int .i64 x7_3 ∧ Aside0 (spec_l01Hash.l2 kq x3_3 x4_2 t203 x7_3 = some r) ∧ Aside0 (kq ≤ k2) ∧ Aside0 (Kd.R (Kd.int .u32) 174 w' w.heap.size (fun k_ => some k_ ≠ (v204 : Value).ownBlock) v186 x3_3) ∧ Aside0 (Kd.R (Kd.int .u8) 5 w' w.heap.size (fun _ => True) u4 x4_2) ∧ Aside0 (Kd.R (Kd.int .u32) 174 w' w.heap.size (fun k_ => some k_ ≠ (v186 : Value).ownBlock) v204 t203) ∧ Aside0 (Below w.heap.size w w'))
         case atStart => exact ⟨(y185),(0),(by first | rfl | (simp;done) | (simp [*];done)),H',⟨Nat.le_refl _⟩,⟨by (with_reducible repeat (first | apply r1_ | apply r2_ | apply r3_));exact Kd.R_mono HO_3.out (fun _ hk => hk.2)⟩,⟨zr HO_4⟩,⟨by (with_reducible repeat (first | apply r1_ | apply r2_ | apply r3_));exact Kd.R_mono HO205.out (fun _ hk => hk.2)⟩,⟨zl_ HB⟩⟩
         case round =>
          clear H'
          try clear c1
          try clear c2
          try clear p2
          try clear c3
          try clear p6
          try clear c10
          try clear c10b0
          try clear c10b1
          try clear c11
          try clear c12
          try clear c12b0
          try clear c14
          try clear c14b0
          try clear c14b1
          try clear c15
          try clear c16
          try clear p2
          obtain ⟨x3_3,x7_3,rfl,HA,HK3,HO_3,HO_4,HO_6,HB⟩ := hrel
          cases gk with
          | zero => exact absurd HA.out (by simp [spec_l01Hash.l2])
          | succ k3 =>
           have H := HA.out
           clear HA
           simp only [spec_l01Hash.l2] at H
           by_cases c20 : x7_3 < (x4_2.length : Int)
           ·rw [if_pos c20] at H
            obtain ⟨je_,hje_⟩ : ∃ j_ : Int,(wrap64 (x7_3 + 64)) = j_ := ⟨_,rfl⟩
            rw [hje_] at H
            have hje_w : (IntKind.i64.wrap (x7_3 + 64)) = je_ := (i64_w _).trans hje_
            clear hje_
            have c20b0 : decide (x7_3 < (x4_2.length : Int)) = true := decide_eq_true c20
            clear c20
            by_cases c21 : 0 ≤ x7_3
            ·rw [if_pos c21] at H
             have c21b0 := eq_true c21
             have c21b1 : decide (0 ≤ x7_3) = true := decide_eq_true c21
             clear c21
             by_cases c22 : x7_3 ≤ (je_)
             ·rw [if_pos c22] at H
              have c22b0 := eq_true c22
              have c22b1 : decide (x7_3 ≤ (je_)) = true := decide_eq_true c22
              by_cases c23 : (je_) ≤ (x4_2.length : Int)
              ·rw [if_pos c23] at H
               have c23b0 := eq_true c23
               have c23b1 : decide ((je_) ≤ (x4_2.length : Int)) = true := decide_eq_true c23
               obtain ⟨y206,hy206⟩ : ∃ y_ : List Int,y_ = ((x4_2.take ((je_) : Int).toNat).drop (x7_3 : Int).toNat) := ⟨_,rfl⟩
               replace H : ((spec_l01Block.f k3 x3_3 y206 t203).bind fun t210 => (spec_l01Hash.l2 k3 t210 x4_2 t203 (je_))) = some r := by first | (rw [hy206];with_reducible exact H) | (have H2_ := (Option.bind_some _ _).symm.trans H;rw [hy206];with_reducible exact H2_) | (have H2_ := (Option.bind_some _ _).symm.trans H;with_reducible exact H2_) | with_reducible exact H | (rw [hy206];exact H) | exact H
               have Ny206 := am_ hy206
               clear hy206
               replace H := Option.bind_eq_some_iff.mp H
               obtain ⟨t210,A240,H⟩ := H
               try dsimp only at H
               have A24 := am_ A240
               clear A240
               have H' := am_ H
               clear H
               obtain ⟨Ao25,co25,eo25⟩ := Kd.R_slice HO_4.out
               subst eo25
               have q26 : ((je_) : Int) ≤ ((x4_2.length : Int) : Int) := zo_
               obtain ⟨i026,hi026,_,hsz26,_⟩ := info_parts info5
               have hroom26 : x4_2.length ≤ co25 := (Kd.R_reads' HO_4.out).2.1
               have hC26 : Kd.C (Kd.int .u8) _ Ao25 x4_2.length x4_2 := (Kd.R_reads' HO_4.out).2.2
               have ql26 : (x7_3 : Int) ≤ ((je_) : Int) := zo_
               have q026 : (0 : Int) ≤ (x7_3 : Int) := zo_
               have hcut26 := cut_mid (P := Tryd.prog) 46 5 .i64 .i64 Tryd.underlying46 hi026 1 hsz26 Ao25 x4_2.length co25 x7_3 (je_) q026 ql26 q26 hroom26
               have hr26 := Kd.C_mid (lo := (x7_3 : Int).toNat) (hi := ((je_) : Int).toNat) (c := co25) hC26 (by omega) (by omega) hroom26
               obtain ⟨A26,hA26⟩ : ∃ A1,A1 = (if co25 = (x7_3 : Int).toNat then Ao25 else (Ao25 : Option Addr).map (·.add ((x7_3 : Int).toNat * 1))) := ⟨_,rfl⟩
               obtain ⟨c26,hc26⟩ : ∃ c1,c1 = co25 - (x7_3 : Int).toNat := ⟨_,rfl⟩
               have hy26 : y206.length = ((je_) : Int).toNat - (x7_3 : Int).toNat := (by rw [Ny206.out,d1_,d2_] <;> omega)
               rw [show ((x4_2).take ((je_) : Int).toNat).drop (x7_3 : Int).toNat = y206 from Ny206.out.symm] at hr26
               replace hr26 : Kd.C (Kd.int .u8) _ A26 y206.length y206 := (by rw [hA26];exact hr26)
               rw [← hy26,← hA26,← hc26] at hcut26
               have HR209 := am_ hr26
               have HC209 := am_ (show y206.length ≤ c26 from by rw [hy26,hc26];exact Nat.sub_le_sub_right (Nat.le_trans (by omega) hroom26) _)
               clear hr26 hC26 hroom26 hi026 hsz26 hc26
               have KY26 := am_ hy26
               have KA26 := am_ hA26
               clear hy26 hA26
               have KL26 := am_ (show ((je_) : Int).toNat ≤ x4_2.length from by omega)
               have KM26 := am_ (show (x7_3 : Int).toNat ≤ ((je_) : Int).toNat from by omega)
               replace q26 := eq_true q26
               obtain ⟨Ao27,co27,eo27⟩ := Kd.R_slice HO_3.out
               subst eo27
               obtain ⟨Ao28,co28,eo28⟩ := Kd.R_slice HO_6.out
               subst eo28
               go_wp2_with (first | ((with_reducible refine gate_callee (f := 154) rfl ?_);refine zgl (some 52) Tryd.func154 #[.slice Ao27 x3_3.length co27,.slice A26 y206.length c26,.slice Ao28 t203.length co28] ?_;(with_reducible refine (spec_l01Block.calls k3 (fun k_ => some k_ = (.slice Ao27 x3_3.length co27 : Value).ownBlock) (.slice Ao27 x3_3.length co27) x3_3 _ _ y206 _ _ t203 t210 w _ ?side1 ?side2 ?side3 ?side4 ?side5 ?side6 A24.out).mono ?_);(case side1 => exact zl_ HB);(case side2 => exact Kd.R_tight rfl HO_3.out);(case side3 => exact fun W1_ hk1_ => (show Kd.C (Kd.int .u8) W1_ A26 y206.length y206 from by rw [Ny206.out,KA26.out];exact Kd.C_mid (lo := (x7_3 : Int).toNat) (hi := ((je_) : Int).toNat) (c := co25) (Kd.C_kept_own ((Kd.R_apart' HO_4.out (Kd.R_typed HO_3.out) (by decide))) (fun k_ hk_ hs_ => (hk_.2) hs_) W1_ hk1_) KM26.out KL26.out ((Kd.R_reads' HO_4.out).2.1)));(case side4 => exact HC209.out);(case side5 => exact Kd.C_kept_own (HO_6.out) (fun k_ hk_ hs_ => (hk_) hs_));(case side6 => exact (Kd.R_reads' HO_6.out).2.1);rintro e w29 ⟨rfl,hy0,hb,hkp⟩;refine ⟨_,rfl,?_⟩;replace HO_4 := am_ (Kd.R_mono (ok' := fun k_ => True) (Kd.R_keptB ((Kd.R_apart' HO_4.out (Kd.R_typed HO_3.out) (by decide))) hkp (fun k_ hk_ hs_ => (hk_.2) hs_)) (fun k_ hk_ => trivial));replace HO_3 := am_ (Kd.R_reok rfl hy0 (fun k_ e_ => HO_3.out.1 k_ e_));replace HO_6 := am_ (Kd.R_mono (ok' := fun k_ => some k_ ≠ (.slice Ao27 x3_3.length co27 : Value).ownBlock) (Kd.R_keptB (HO_6.out) hkp (fun k_ hk_ hs_ => (hk_) hs_)) (fun k_ hk_ => hk_.1));replace HB := am_ (hb);(try clear hb);(try clear hkp);(try clear hy0)))
               go_roundg k3
               case measure => have := HK1.out;have := HK2.out;have := HK3.out;omega
               case rel => exact ⟨(t210),(je_),(by first | rfl | (simp;done) | (simp [*];done)),H',⟨by have := HK1.out;have := HK2.out;have := HK3.out;omega⟩,⟨zr HO_3⟩,⟨zr HO_4⟩,⟨zr HO_6⟩,⟨zl_ HB⟩⟩
              ·rw [if_neg c23] at H
               exact absurd H (by simp)
             ·rw [if_neg c22] at H
              exact absurd H (by simp)
            ·rw [if_neg c21] at H
             exact absurd H (by simp)
           ·rw [if_neg c20] at H
            have c20b0 : decide (x7_3 < (x4_2.length : Int)) = false := decide_eq_false c20
            clear c20
            obtain ⟨y211,hy211⟩ : ∃ y_ : List Int,y_ = (([] : List Int)) := ⟨_,rfl⟩
            replace H : (spec_l01Hash.l3 k3 x3_3 y211 0) = some r := by first | (rw [hy211];with_reducible exact H) | (have H2_ := (Option.bind_some _ _).symm.trans H;rw [hy211];with_reducible exact H2_) | (have H2_ := (Option.bind_some _ _).symm.trans H;with_reducible exact H2_) | with_reducible exact H | (rw [hy211];exact H) | exact H
            have Ny211 := am_ hy211
            clear hy211
            have H' := am_ H
            clear H
            obtain ⟨Ao30,co30,eo30⟩ := Kd.R_slice HO_4.out
            subst eo30
            go_wp2_with (first | ((with_reducible refine gate_dst (N := 53) rfl ?_);refine Kd.R_lit (Kd.int .u8) _ 5 ?hg (N := 53) ?hd (xs := ([] : List Int)) (inner := []) (ok := fun _ => True) (okp := fun _ => True) ?hr ?hp (fun _ hk => hk) trivial (Below.refl _ _) (Nat.le_refl _) (by simp) ?_;(case hd => rfl);(case hg => rfl);(case hr => first | (go_simp;done) | (go_simp;rfl));(case hp => exact (Reps.none _ _));intro v212 w31 ho32 hb hg_ hnew_;clear hg_ hnew_;(first | rw [← Ny211.out] at ho32 | (simp only [Int.reduceToNat] at ho32;rw [← Ny211.out] at ho32));replace HO_3 := zrb HO_3 hb;have HO213 := am_ (Kd.R_lower (Kd.R_new' ho32 (Kd.R_lt (zr HO_4))) (below_size (zl_ HB)));replace HB := zs_ HB hb;clear hb ho32))
            go_loopg [8,9] k3 (fun kq v8 v9 w' => ∃ (x8_4 : List Int) (x9_4 : Int),v9 = .int .i64 x9_4 ∧ Aside0 (spec_l01Hash.l3 kq x3_3 x8_4 x9_4 = some r) ∧ Aside0 (kq ≤ k3) ∧ Aside0 (Kd.R (Kd.int .u32) 174 w' w.heap.size (fun _ => True) v186 x3_3) ∧ Aside0 (Kd.R (Kd.int .u8) 5 w' w.heap.size (fun _ => True) v8 x8_4) ∧ Aside0 (Below w.heap.size w w'))
            case atStart => exact ⟨(y211),(0),(by first | rfl | (simp;done) | (simp [*];done)),H',⟨Nat.le_refl _⟩,⟨by (with_reducible repeat (first | apply r1_ | apply r2_ | apply r3_));exact Kd.R_mono HO_3.out (fun _ hk => trivial)⟩,⟨by (with_reducible repeat (first | apply r1_ | apply r2_ | apply r3_));exact Kd.R_mono HO213.out (fun _ hk => trivial)⟩,⟨zl_ HB⟩⟩
            case round =>
             clear H'
             try clear c1
             try clear c2
             try clear p2
             try clear q2
             try clear c3
             try clear p6
             try clear c10
             try clear c10b0
             try clear c10b1
             try clear c11
             try clear c12
             try clear c12b0
             try clear c14
             try clear c14b0
             try clear c14b1
             try clear c15
             try clear c16
             try clear c20
             try clear c20b0
             try clear c21
             try clear c21b0
             try clear c21b1
             try clear c22
             try clear c22b0
             try clear c22b1
             try clear c23
             try clear c23b0
             try clear c23b1
             try clear c26
             try clear q26
             try clear p2
             try clear p6
             try clear q026
             try clear q26
             obtain ⟨x8_4,x9_4,rfl,HA,HK4,HO_3,HO_8,HB⟩ := hrel
             cases gk with
             | zero => exact absurd HA.out (by simp [spec_l01Hash.l3])
             | succ k4 =>
              have H := HA.out
              clear HA
              simp only [spec_l01Hash.l3] at H
              by_cases c33 : x9_4 < 8
              ·rw [if_pos c33] at H
               have c33b0 : decide (x9_4 < 8) = true := decide_eq_true c33
               clear c33
               by_cases c34 : 0 ≤ x9_4
               ·rw [if_pos c34] at H
                have c34b0 : decide (0 ≤ x9_4) = true := decide_eq_true c34
                clear c34
                by_cases c35 : x9_4 < (x3_3.length : Int)
                ·rw [if_pos c35] at H
                 have c35b0 : decide (x9_4 < (x3_3.length : Int)) = true := decide_eq_true c35
                 clear c35
                 obtain ⟨y218,hy218⟩ : ∃ y_ : List Int,y_ = (([((rd x3_3 x9_4) / 16777216) % 256,((rd x3_3 x9_4) / 65536) % 256,((rd x3_3 x9_4) / 256) % 256,(rd x3_3 x9_4) % 256] : List Int)) := ⟨_,rfl⟩
                 replace H : (if x8_4.length + y218.length < 140737488355328 then (spec_l01Hash.l3 k4 x3_3 (x8_4 ++ y218) (wrap64 (x9_4 + 1))) else (none)) = some r := by first | (rw [hy218];with_reducible exact H) | (have H2_ := (Option.bind_some _ _).symm.trans H;rw [hy218];with_reducible exact H2_) | (have H2_ := (Option.bind_some _ _).symm.trans H;with_reducible exact H2_) | with_reducible exact H | (rw [hy218];exact H) | exact H
                 have Ny218 := am_ hy218
                 clear hy218
                 by_cases c36 : x8_4.length + y218.length < 140737488355328
                 ·rw [if_pos c36] at H
                  have LMc36 := am_ c36
                  clear c36
                  obtain ⟨y221,hy221⟩ : ∃ y_ : List Int,y_ = (x8_4 ++ y218) := ⟨_,rfl⟩
                  replace H : (spec_l01Hash.l3 k4 x3_3 y221 (wrap64 (x9_4 + 1))) = some r := by first | (rw [hy221];with_reducible exact H) | (have H2_ := (Option.bind_some _ _).symm.trans H;rw [hy221];with_reducible exact H2_) | (have H2_ := (Option.bind_some _ _).symm.trans H;with_reducible exact H2_) | with_reducible exact H | (rw [hy221];exact H) | exact H
                  have Ny221 := am_ hy221
                  clear hy221
                  have H' := am_ H
                  clear H
                  try go_wp2
                  replace HO_3 := am_ (Kd.R_drew HO_3.out)
                  replace HO_8 := am_ (Kd.R_drew HO_8.out)
                  replace HB := am_ (below_drew1 HB.out)
                  obtain ⟨Ao38,co38,eo38⟩ := Kd.R_slice HO_3.out
                  (first | subst eo38 | (injection eo38 with f1_ f2_ f3_;have f4_ := f1_.symm;have f5_ := f3_.symm;clear f1_ f2_ f3_;subst f4_;subst f5_))
                  have p214 : 0 ≤ (x9_4 : Int) := zo_
                  have q214 : x9_4 < (x3_3.length : Int) := zo_
                  obtain ⟨ad214,e214,hx214_0⟩ := Kd.at_int (Kd.R_reads' HO_3.out).2.2 x9_4 p214 q214
                  cases e214
                  replace p214 := eq_true p214
                  replace q214 := eq_true q214
                  have p215 : 0 ≤ (x9_4 : Int) := zo_
                  have q215 : x9_4 < (x3_3.length : Int) := zo_
                  obtain ⟨ad215,e215,hx215_0⟩ := Kd.at_int (Kd.R_reads' HO_3.out).2.2 x9_4 p215 q215
                  obtain rfl : ad214 = ad215 := (by injection e215)
                  replace p215 := eq_true p215
                  replace q215 := eq_true q215
                  have p216 : 0 ≤ (x9_4 : Int) := zo_
                  have q216 : x9_4 < (x3_3.length : Int) := zo_
                  obtain ⟨ad216,e216,hx216_0⟩ := Kd.at_int (Kd.R_reads' HO_3.out).2.2 x9_4 p216 q216
                  obtain rfl : ad214 = ad216 := (by injection e216)
                  replace p216 := eq_true p216
                  replace q216 := eq_true q216
                  have p217 : 0 ≤ (x9_4 : Int) := zo_
                  have q217 : x9_4 < (x3_3.length : Int) := zo_
                  obtain ⟨ad217,e217,hx217_0⟩ := Kd.at_int (Kd.R_reads' HO_3.out).2.2 x9_4 p217 q217
                  obtain rfl : ad214 = ad217 := (by injection e217)
                  replace p217 := eq_true p217
                  replace q217 := eq_true q217
                  refine start_ (n := 27) (S := fun w' => w'.cell? (ad214.add (x9_4).toNat) = some (.int .u32 (rd x3_3 x9_4)) ∧ w'.cell? (ad214.add (x9_4).toNat) = some (.int .u32 (rd x3_3 x9_4)) ∧ w'.cell? (ad214.add (x9_4).toNat) = some (.int .u32 (rd x3_3 x9_4)) ∧ w'.cell? (ad214.add (x9_4).toNat) = some (.int .u32 (rd x3_3 x9_4))) (ds := [25]) #[false,false,false,false,false,false,false,false,false,false,false,false,false,false,false,false,false,false,false,false,false,false,false,false,false,false,false] (by kernel_rfl) rfl rfl ⟨hx214_0,hx215_0,hx216_0,hx217_0⟩ (fun hHeld => ?_);refine with_tabW spec_l01Hash.tab18 spec_l01Hash.bits18 (fun HT_ HW_ => ?_)
                  generalize wr.drew = w37 at HO_3 HO_8 HB hx214_0 hx215_0 hx216_0 hx217_0 hHeld ⊢
                  refine zpu 0 (N := some 58) HT_ ?_
                  refine zpu 1 (N := some 59) HT_ ?_
                  refine zpu 2 (N := some 60) HT_ ?_
                  refine zpu 3 (N := some 61) HT_ ?_
                  refine zpu 7 (N := some 65) HT_ ?_
                  refine zpu 8 (N := some 66) HT_ ?_
                  refine zpu 9 (N := some 67) HT_ ?_
                  refine zpu 13 (N := some 71) HT_ ?_
                  refine zpu 14 (N := some 72) HT_ ?_
                  refine zpu 15 (N := some 73) HT_ ?_
                  refine zpu 19 (N := some 77) HT_ ?_
                  refine zpu 20 (N := some 78) HT_ ?_
                  refine zpu 21 (N := some 79) HT_ ?_
                  refine ztk 4 (N := some 62) HT_ HW_ hHeld ?_
                  refine zpu 5 (N := some 63) HT_ ?_
                  refine zpu 6 (N := some 64) HT_ ?_
                  refine ztk 10 (N := some 68) HT_ HW_ hHeld ?_
                  refine zpu 11 (N := some 69) HT_ ?_
                  refine zpu 12 (N := some 70) HT_ ?_
                  refine ztk 16 (N := some 74) HT_ HW_ hHeld ?_
                  refine zpu 17 (N := some 75) HT_ ?_
                  refine zpu 18 (N := some 76) HT_ ?_
                  refine ztk 22 (N := some 80) HT_ HW_ hHeld ?_
                  refine zpu 23 (N := some 81) HT_ ?_
                  refine zon 24 (N := some 82) HT_ (fun K hK => ?_)
                  refine Kd.R_lit_step (Kd.int .u8) _ 5 ?hg (N := 82) ?hd (xs := ([((rd x3_3 x9_4) / 16777216) % 256,((rd x3_3 x9_4) / 65536) % 256,((rd x3_3 x9_4) / 256) % 256,(rd x3_3 x9_4) % 256] : List Int)) (inner := [.int .u8 (((rd x3_3 x9_4) / 16777216) % 256),.int .u8 (((rd x3_3 x9_4) / 65536) % 256),.int .u8 (((rd x3_3 x9_4) / 256) % 256),.int .u8 ((rd x3_3 x9_4) % 256)]) (ok := fun _ => True) (okp := fun _ => True) ?hr ?hp (fun _ hk => hk) trivial (Below.refl _ _) (Nat.le_refl _) (by simp) ?_;(case hd => rfl);(case hg => rfl);(case hr => first | (go_simp;done) | (go_simp;rfl));(case hp => exact (Reps.one (show Kd.M (Kd.int .u8) _ _ _ (((rd x3_3 x9_4) / 16777216) % 256) [.int .u8 (((rd x3_3 x9_4) / 16777216) % 256)] from rfl) (Reps.one (show Kd.M (Kd.int .u8) _ _ _ (((rd x3_3 x9_4) / 65536) % 256) [.int .u8 (((rd x3_3 x9_4) / 65536) % 256)] from rfl) (Reps.one (show Kd.M (Kd.int .u8) _ _ _ (((rd x3_3 x9_4) / 256) % 256) [.int .u8 (((rd x3_3 x9_4) / 256) % 256)] from rfl) (Reps.one (show Kd.M (Kd.int .u8) _ _ _ ((rd x3_3 x9_4) % 256) [.int .u8 ((rd x3_3 x9_4) % 256)] from rfl) (Reps.none _ _))))))
                  intro v219 w39 ho40 hb hg_ hnew_
                  have HS0_ := (hb.cell (World.block_lt_of_cell? _ _ (hHeld.1))).trans (hHeld.1)
                  have HS1_ := (hb.cell (World.block_lt_of_cell? _ _ (hHeld.2.1))).trans (hHeld.2.1)
                  have HS2_ := (hb.cell (World.block_lt_of_cell? _ _ (hHeld.2.2.1))).trans (hHeld.2.2.1)
                  have HS3_ := (hb.cell (World.block_lt_of_cell? _ _ (hHeld.2.2.2))).trans (hHeld.2.2.2)
                  clear hg_ hnew_
                  (first | rw [← Ny218.out] at ho40 | (simp only [Int.reduceToNat] at ho40;rw [← Ny218.out] at ho40))
                  replace HO_3 := zrb HO_3 hb
                  have HO220 := am_ (Kd.R_lower (Kd.R_new' ho40 (Kd.R_lt (zr HO_8))) (below_size (zl_ HB)))
                  replace HO_8 := am_ (Kd.R_elder' (zr HO_8) (Kd.R_base ho40) hb)
                  replace HB := zs_ HB hb
                  clear hb ho40
                  obtain ⟨Ao42,co42,eo42⟩ := Kd.R_slice HO220.out
                  (first | subst eo42 | (injection eo42 with f1_ f2_ f3_;have f4_ := f1_.symm;have f5_ := f3_.symm;clear f1_ f2_ f3_;subst f4_;subst f5_))
                  refine hK.out _ _ ⟨HS0_,HS1_,HS2_,HS3_⟩ (fun hHeld => ?_)
                  clear hK K
                  refine norm_ (a' := ?_) ?_ ?_
                  rotate_left
                  ·show Act.put _ (some 82) _ = _
                   simp only [Act.put,p1_,p2_,p3_,i64_w,i32_w]
                   rfl
                  refine last_ (i := 25) (N := some 83) #[true,true,true,true,true,true,true,true,true,true,true,true,true,true,true,true,true,true,true,true,true,true,true,true,true,true,false] rfl rfl (one_of HT_.out (by kernel_rfl)) (by decide) (fun K hK => ?_)
                  refine Kd.R_append_rows_step (Kd.int .u8) (w0 := w) w.heap.size (by rfl) (.tmp 58) (.tmp 82) 46 5 (.int .u8 0) 1 rfl Tryd.underlying46 info5 rfl (by decide) (by omega) u8 x8_4 y218 _ _ _ (fun k_ => some k_ ≠ (.slice Ao42 y218.length co42 : Value).ownBlock) (fun _ => False) rfl rfl ?aO ?aR (fun _ _ h => h) (fun _ h => h.elim) ?aF ?aB ?aS ?aL ?_
                  (case aR => repeat (first | exact (Kd.R_reads' HO220.out).2.2 | (with_reducible refine Kd.C_alloc ?_ _) | (with_reducible refine Kd.C_drewN ?_ _) | (with_reducible refine Kd.C_drew ?_)))
                  (case aB => exact (zl_ HB))
                  (case aF => exact (fun k_ hk => Kd.fresh' (Kd.R_lt (zr HO220)) k_ hk))
                  (case aO => exact (by (with_reducible repeat (first | apply r1_ | apply r2_ | apply r3_));exact Kd.R_mono HO_8.out (fun _ hk => hk.2)))
                  (case aS => exact (below_size (zl_ HB)))
                  (case aL => have := LMc36.out;omega)
                  intro v222 w41 ho hb hg hat
                  rw [← Ny221.out] at ho
                  replace HO_3 := am_ (Kd.R_over' (zr HO_3) (Kd.R_typed (zr HO_8)) (by decide) hg)
                  replace HB := am_ (hb)
                  have HO223 := am_ (ho)
                  clear HO_8
                  clear ho hb hg hat
                  refine hK.out _ _ ?_
                  clear hK K
                  refine norm_ (a' := ?_) ?_ ?_
                  rotate_left
                  ·show Act.put _ (some 83) _ = _
                   simp only [Act.put,p1_,p2_,p3_,i64_w,i32_w]
                   rfl
                  refine zpu 26 (N := some 8) HT_ ?_
                  refine done_ (done_of HT_.out (by kernel_rfl)) ?_
                  try go_wp2
                  go_roundg k4
                  case measure => have := HK1.out;have := HK2.out;have := HK3.out;have := HK4.out;omega
                  case rel => exact ⟨(y221),(wrap64 (x9_4 + 1)),(by first | rfl | (simp;done) | (simp [*];done)),H',⟨by have := HK1.out;have := HK2.out;have := HK3.out;have := HK4.out;omega⟩,⟨zr HO_3⟩,⟨by (with_reducible repeat (first | apply r1_ | apply r2_ | apply r3_));exact Kd.R_mono HO223.out (fun _ hk => trivial)⟩,⟨zl_ HB⟩⟩
                 ·rw [if_neg c36] at H
                  exact absurd H (by simp)
                ·rw [if_neg c35] at H
                 exact absurd H (by simp)
               ·rw [if_neg c34] at H
                exact absurd H (by simp)
              ·rw [if_neg c33] at H
               have c33b0 : decide (x9_4 < 8) = false := decide_eq_false c33
               clear c33
               obtain rfl := Option.some.inj H
               have hcv43 := own_string (P := Tryd.prog) Tryd.underlying46 Tryd.underlying5 Tryd.underlying9 (Kd.own_of_R HO_8.out)
               go_wp2
               go_ret
               exact ⟨zt_,zl_ HB⟩
     ·rw [if_neg c10] at H
      have c10b0 : (((x4_1.length : Int) % 64) == 56) = false := beq_eq_false_iff_ne.mpr c10
      have c10b1 : (((x4_1.length : Int) % 64) != 56) = true := bne_iff_ne.mpr c10
      by_cases c44 : x4_1.length < 140737488355328
      ·rw [if_pos c44] at H
       have LMc44 := am_ c44
       clear c44
       obtain ⟨y197,hy197⟩ : ∃ y_ : List Int,y_ = (x4_1 ++ [0]) := ⟨_,rfl⟩
       replace H : (spec_l01Hash.l0 k1 l0 y185 y197) = some r := by first | (rw [hy197];with_reducible exact H) | (have H2_ := (Option.bind_some _ _).symm.trans H;rw [hy197];with_reducible exact H2_) | (have H2_ := (Option.bind_some _ _).symm.trans H;with_reducible exact H2_) | with_reducible exact H | (rw [hy197];exact H) | exact H
       have Ny197 := am_ hy197
       clear hy197
       have H' := am_ H
       clear H
       obtain ⟨Ao45,co45,eo45⟩ := Kd.R_slice HO_4.out
       subst eo45
       go_wp2_with (first | ((with_reducible refine gate_builtin (b := .append) (xs := #[.tmp 20,.tmp 21]) rfl ?_);at_builtin;refine Kd.R_append (Kd.int .u8) (w0 := w) w.heap.size rfl (.tmp 20) (.tmp 21) 46 5 (.int .u8 0) 1 rfl Tryd.underlying46 info5 rfl (by decide) (by omega) (.slice Ao45 x4_1.length co45) x4_1 0 [.int .u8 0] (fun _ => True) (fun _ => False) rfl rfl ?aP (fun _ hk => hk.elim) ?aF ?aO ?aB ?aS ?aL ?_;(case aP => exact rfl);(case aB => exact (zl_ HB));(case aF => exact (fun _ _ => trivial));(case aO => exact (zr HO_4));(case aS => exact (below_size (zl_ HB)));(case aL => have := LMc44.out;omega);intro v198 w46 ho hb hg hat;rw [← Ny197.out] at ho;replace HO_3 := am_ (Kd.R_over' (zr HO_3) (Kd.R_typed (zr HO_4)) (by decide) hg);replace HB := am_ (hb);have HO199 := am_ (ho);clear HO_4;clear ho hb hg hat))
       go_roundg k1
       case measure => have := HK1.out;omega
       case rel => exact ⟨(y197),H',⟨by have := HK1.out;omega⟩,⟨zr HO_3⟩,⟨zr HO199⟩,⟨zl_ HB⟩⟩
      ·rw [if_neg c44] at H
       exact absurd H (by simp)
  ·rw [if_neg c3] at H
   exact absurd H (by simp)
 ·rw [if_neg c2] at H
  exact absurd H (by simp)
set_option maxHeartbeats 8000000 in
set_option maxRecDepth 100000 in
theorem spec_l01In.calls (a0 : Int) (a1 : Int) (a2 : Int) (r : Bool) (w : World) (h : spec_l01In.f a0 a1 a2 = some r) :
  Calls Tryd.prog 69 #[.int .i64 a0,.int .i64 a1,.int .i64 a2] w fun e w' => e = .returned (.bool r) ∧ Drawn0 w w' := by
 have H : (if a0 ≥ a1 then (some (decide (a0 ≤ a2))) else (some false)) = some r := h
 clear h
 by_cases c4 : a0 ≥ a1
 ·rw [if_pos c4] at H
  have c4b0 : decide (a1 ≤ a0) = true := decide_eq_true c4
  clear c4
  obtain rfl := Option.some.inj H
  go_enter Tryd.func69,Tryd.ntmps69
  go_wp2
  go_ret
  exact ⟨by first | rfl | (simp;done) | (simp [*];done),by repeat (first | exact Drawn0.refl _ | apply Drawn0.step)⟩
 ·rw [if_neg c4] at H
  have c4b0 : decide (a1 ≤ a0) = false := decide_eq_false c4
  clear c4
  obtain rfl := Option.some.inj H
  go_enter Tryd.func69,Tryd.ntmps69
  go_wp2
  go_ret
  exact ⟨by first | rfl | (simp;done) | (simp [*];done),by repeat (first | exact Drawn0.refl _ | apply Drawn0.step)⟩
set_option maxHeartbeats 8000000 in
set_option maxRecDepth 100000 in
theorem spec_l03Bits.calls (k : Nat) (a0 : ByteArray) (r : ByteArray) (w : World) (h : spec_l03Bits.f k a0 = some r) :
  Calls Tryd.prog 112 #[.string a0] w fun e w' => e = .returned (.string r) ∧ Below w.heap.size w w' := by
 have HB := am_ (Below.refl w.heap.size w)
 have H : (if 6 + a0.size ≤ 9223372036854775807 then (if ((⟨#[100,105,103,101,115,116]⟩ : ByteArray) ++ a0).size ≤ 140737488355328 then ((spec_l01Hash.f k (bytesOf ((⟨#[100,105,103,101,115,116]⟩ : ByteArray) ++ a0))).bind fun t227 => (spec_l03Bits.l0 k t227 (([] : List Int)) 0)) else (none)) else (none)) = some r := h
 clear h
 by_cases c2 : 6 + a0.size ≤ 9223372036854775807
 ·rw [if_pos c2] at H
  have c2b0 := eq_true c2
  have c2b1 : decide (6 + a0.size ≤ 9223372036854775807) = true := decide_eq_true c2
  try have c2b2 : (9223372036854775807 < 6 + a0.size) = False := eq_false (Nat.not_lt.2 c2)
  by_cases c3 : ((⟨#[100,105,103,101,115,116]⟩ : ByteArray) ++ a0).size ≤ 140737488355328
  ·rw [if_pos c3] at H
   have c3b0 := eq_true c3
   have c3b1 : decide (((⟨#[100,105,103,101,115,116]⟩ : ByteArray) ++ a0).size ≤ 140737488355328) = true := decide_eq_true c3
   obtain ⟨y224,hy224⟩ : ∃ y_ : List Int,y_ = (bytesOf ((⟨#[100,105,103,101,115,116]⟩ : ByteArray) ++ a0)) := ⟨_,rfl⟩
   replace H : ((spec_l01Hash.f k y224).bind fun t227 => (spec_l03Bits.l0 k t227 (([] : List Int)) 0)) = some r := by first | (rw [hy224];with_reducible exact H) | (have H2_ := (Option.bind_some _ _).symm.trans H;rw [hy224];with_reducible exact H2_) | (have H2_ := (Option.bind_some _ _).symm.trans H;with_reducible exact H2_) | with_reducible exact H | (rw [hy224];exact H) | exact H
   have Ny224 := am_ hy224
   clear hy224
   replace H := Option.bind_eq_some_iff.mp H
   obtain ⟨t227,A40,H⟩ := H
   try dsimp only at H
   have A4 := am_ A40
   clear A40
   obtain ⟨y228,hy228⟩ : ∃ y_ : List Int,y_ = (([] : List Int)) := ⟨_,rfl⟩
   replace H : (spec_l03Bits.l0 k t227 y228 0) = some r := by first | (rw [hy228];with_reducible exact H) | (have H2_ := (Option.bind_some _ _).symm.trans H;rw [hy228];with_reducible exact H2_) | (have H2_ := (Option.bind_some _ _).symm.trans H;with_reducible exact H2_) | with_reducible exact H | (rw [hy228];exact H) | exact H
   have Ny228 := am_ hy228
   clear hy228
   have H' := am_ H
   clear H
   go_enter Tryd.func112,Tryd.ntmps112
   go_wp2_with (first | ((with_reducible refine gate_dst (N := 8) rfl ?_);refine Kd.V_conv (Kd.int .u8) rfl _ 5 rfl (N := 8) rfl 9 46 _ rfl ((⟨#[100,105,103,101,115,116]⟩ : ByteArray) ++ a0) rfl Tryd.underlying9 Tryd.underlying46 Tryd.underlying5 (ok := fun k_ => w.heap.size ≤ k_) (okp := fun _ => False) (fun _ hk => hk.elim) (Nat.le_refl _) (by have := o1_ (by first | (with_reducible assumption) | assumption : decide (((⟨#[100,105,103,101,115,116]⟩ : ByteArray) ++ a0).size ≤ 140737488355328) = true);omega) (Below.refl _ _) (Nat.le_refl _) ?_;intro v225 w5 ho6 hb hg_ hnew_;clear hg_ hnew_;(first | rw [← Ny224.out] at ho6 | (simp only [Int.reduceToNat] at ho6;rw [← Ny224.out] at ho6));have HO226 := am_ (Kd.V_lower (Kd.V_mono (ok' := fun k_ => True) ho6 (fun k_ hk_ => trivial)) (below_size (zl_ HB)));replace HB := zs_ HB hb;clear hb ho6;obtain ⟨Ao7,co7,eo7⟩ := Kd.V_slice HO226.out;subst eo7) | ((with_reducible refine gate_callee (f := 113) rfl ?_);refine zgl (some 9) Tryd.func113 #[.slice Ao7 y224.length co7] ?_;(with_reducible refine (spec_l01Hash.calls k _ _ y224 t227 _ ?side1 ?side2 A4.out).mono ?_);(case side1 => repeat (first | exact (Kd.V_reads' HO226.out).2.2 | (with_reducible refine Kd.C_alloc ?_ _) | (with_reducible refine Kd.C_drewN ?_ _) | (with_reducible refine Kd.C_drew ?_)));(case side2 => exact (Kd.V_reads' HO226.out).2.1);rintro e w8 ⟨rfl,hb⟩;refine ⟨_,rfl,?_⟩;replace HB := zs_ HB hb;(try clear hb);(try clear hb2);(try clear hk);(try clear hi)) | ((with_reducible refine gate_dst (N := 10) rfl ?_);refine Kd.R_lit (Kd.int .u8) _ 5 ?hg (N := 10) ?hd (xs := ([] : List Int)) (inner := []) (ok := fun _ => True) (okp := fun _ => True) ?hr ?hp (fun _ hk => hk) trivial (Below.refl _ _) (Nat.le_refl _) (by simp) ?_;(case hd => rfl);(case hg => rfl);(case hr => first | (go_simp;done) | (go_simp;rfl));(case hp => exact (Reps.none _ _));intro v229 w9 ho10 hb hg_ hnew_;clear hg_ hnew_;(first | rw [← Ny228.out] at ho10 | (simp only [Int.reduceToNat] at ho10;rw [← Ny228.out] at ho10));have HO230 := am_ (Kd.R_lower ho10 (below_size (zl_ HB)));replace HB := zs_ HB hb;clear hb ho10))
   go_loopg [4,5] k (fun kq v4 v5 w' => ∃ (x4_1 : List Int) (x5_1 : Int),v5 = .int .i64 x5_1 ∧ Aside0 (spec_l03Bits.l0 kq t227 x4_1 x5_1 = some r) ∧ Aside0 (kq ≤ k) ∧ Aside0 (Kd.R (Kd.int .u8) 5 w' w.heap.size (fun _ => True) v4 x4_1) ∧ Aside0 (Below w.heap.size w w'))
   case atStart => exact ⟨(y228),(0),(by first | rfl | (simp;done) | (simp [*];done)),H',⟨Nat.le_refl _⟩,⟨zr HO230⟩,⟨zl_ HB⟩⟩
   case round =>
    clear H'
    try clear c1
    try clear c2
    try clear c2b0
    try clear c2b1
    try clear c2b2
    try clear p2
    try clear c3
    try clear c3b0
    try clear c3b1
    obtain ⟨x4_1,x5_1,rfl,HA,HK1,HO_4,HB⟩ := hrel
    cases gk with
    | zero => exact absurd HA.out (by simp [spec_l03Bits.l0])
    | succ k1 =>
     have H := HA.out
     clear HA
     simp only [spec_l03Bits.l0] at H
     by_cases c11 : x5_1 < 32
     ·rw [if_pos c11] at H
      have c11b0 : decide (x5_1 < 32) = true := decide_eq_true c11
      clear c11
      obtain ⟨ji12,hji12⟩ : ∃ j_ : Int,(wrap64 (Int.tdiv x5_1 8)) = j_ := ⟨_,rfl⟩
      replace H : (if 0 ≤ (ji12) then (if (ji12) < (t227.size : Int) then (if 0 ≤ (IntKind.u64.wrap (wrap64 (7 - (Int.tmod x5_1 8)))) then (if x4_1.length < 140737488355328 then (spec_l03Bits.l0 k1 t227 (x4_1 ++ [(48 + (Go.bits .and .u8 (shr .u8 (bt t227 (ji12)) (IntKind.u64.wrap (wrap64 (7 - (Int.tmod x5_1 8))))) 1)) % 256]) (wrap64 (x5_1 + 1))) else (none)) else (none)) else (none)) else (none)) = some r := by first | (rw [hji12] at H;exact H) | (simp only [hji12] at H ⊢;exact H)
      have hji12w : (IntKind.i64.wrap (Int.tdiv x5_1 8)) = ji12 := (i64_w _).trans hji12
      by_cases c13 : 0 ≤ (ji12)
      ·rw [if_pos c13] at H
       have c13b0 : decide (0 ≤ (ji12)) = true := decide_eq_true c13
       clear c13
       by_cases c14 : (ji12) < (t227.size : Int)
       ·rw [if_pos c14] at H
        have c14b0 : decide ((ji12) < (t227.size : Int)) = true := decide_eq_true c14
        clear c14
        obtain ⟨ji16,hji16⟩ : ∃ j_ : Int,(IntKind.u64.wrap (wrap64 (7 - (Int.tmod x5_1 8)))) = j_ := ⟨_,rfl⟩
        replace H : (if 0 ≤ (ji16) then (if x4_1.length < 140737488355328 then (spec_l03Bits.l0 k1 t227 (x4_1 ++ [(48 + (Go.bits .and .u8 (shr .u8 (bt t227 (ji12)) (ji16)) 1)) % 256]) (wrap64 (x5_1 + 1))) else (none)) else (none)) = some r := by first | (rw [hji16] at H;exact H) | (simp only [hji16] at H ⊢;exact H)
        by_cases c17 : 0 ≤ (ji16)
        ·rw [if_pos c17] at H
         have c17b0 := eq_true c17
         have c17b1 : decide (0 ≤ (ji16)) = true := decide_eq_true c17
         clear c17
         obtain ⟨ji18,hji18⟩ : ∃ j_ : Int,(shr .u8 (bt t227 (ji12)) (ji16)) = j_ := ⟨_,rfl⟩
         replace H : (if x4_1.length < 140737488355328 then (spec_l03Bits.l0 k1 t227 (x4_1 ++ [(48 + (Go.bits .and .u8 (ji18) 1)) % 256]) (wrap64 (x5_1 + 1))) else (none)) = some r := by first | (rw [hji18] at H;exact H) | (simp only [hji18] at H ⊢;exact H)
         have hji18_ : ((bt t227 (ji12)) / 2 ^ min (ji16).toNat 8) = ji18 := hji18
         have hji18z : (ji16) ≤ 8 → ((bt t227 (ji12)) / 2 ^ (ji16).toNat) = ji18 := shr_small hji18
         by_cases c19 : x4_1.length < 140737488355328
         ·rw [if_pos c19] at H
          have LMc19 := am_ c19
          clear c19
          obtain ⟨y231,hy231⟩ : ∃ y_ : List Int,y_ = (x4_1 ++ [(48 + (Go.bits .and .u8 (ji18) 1)) % 256]) := ⟨_,rfl⟩
          replace H : (spec_l03Bits.l0 k1 t227 y231 (wrap64 (x5_1 + 1))) = some r := by first | (rw [hy231];with_reducible exact H) | (have H2_ := (Option.bind_some _ _).symm.trans H;rw [hy231];with_reducible exact H2_) | (have H2_ := (Option.bind_some _ _).symm.trans H;with_reducible exact H2_) | with_reducible exact H | (rw [hy231];exact H) | exact H
          have Ny231 := am_ hy231
          clear hy231
          have H' := am_ H
          clear H
          have p15 : 0 ≤ ((ji12) : Int) := zo_
          have q15 : (ji12) < (t227.size : Int) := zo_
          have hx15 := bt_at t227 (ji12)
          replace p15 := eq_true p15
          replace q15 := eq_true q15
          go_wp2_with (first | ((with_reducible refine gate_builtin (b := .append) (xs := #[.tmp 15,.tmp 27]) rfl ?_);at_builtin;refine Kd.R_append (Kd.int .u8) (w0 := w) w.heap.size rfl (.tmp 15) (.tmp 27) 46 5 (.int .u8 0) 1 rfl Tryd.underlying46 info5 rfl (by decide) (by omega) u4 x4_1 ((48 + (Go.bits .and .u8 (ji18) 1)) % 256) [.int .u8 ((48 + (Go.bits .and .u8 (ji18) 1)) % 256)] (fun _ => True) (fun _ => False) rfl rfl ?aP (fun _ hk => hk.elim) ?aF ?aO ?aB ?aS ?aL ?_;(case aP => exact rfl);(case aB => exact (zl_ HB));(case aF => exact (fun _ _ => trivial));(case aO => exact (zr HO_4));(case aS => exact (below_size (zl_ HB)));(case aL => have := LMc19.out;omega);intro v232 w20 ho hb hg hat;rw [← Ny231.out] at ho;replace HB := am_ (hb);have HO233 := am_ (ho);clear HO_4;clear ho hb hg hat))
          go_roundg k1
          case measure => have := HK1.out;omega
          case rel => exact ⟨(y231),(wrap64 (x5_1 + 1)),(by first | rfl | (simp;done) | (simp [*];done)),H',⟨by have := HK1.out;omega⟩,⟨zr HO233⟩,⟨zl_ HB⟩⟩
         ·rw [if_neg c19] at H
          exact absurd H (by simp)
        ·rw [if_neg c17] at H
         exact absurd H (by simp)
       ·rw [if_neg c14] at H
        exact absurd H (by simp)
      ·rw [if_neg c13] at H
       exact absurd H (by simp)
     ·rw [if_neg c11] at H
      have c11b0 : decide (x5_1 < 32) = false := decide_eq_false c11
      clear c11
      obtain rfl := Option.some.inj H
      have hcv21 := own_string (P := Tryd.prog) Tryd.underlying46 Tryd.underlying5 Tryd.underlying9 (Kd.own_of_R HO_4.out)
      go_wp2
      go_ret
      exact ⟨zt_,zl_ HB⟩
  ·rw [if_neg c3] at H
   exact absurd H (by simp)
 ·rw [if_neg c2] at H
  exact absurd H (by simp)
set_option maxHeartbeats 8000000 in
set_option maxRecDepth 100000 in
theorem spec_l03Hashes.calls (k : Nat) (A0 : Option Addr) (c0 : Nat) (l0 : List ByteArray) (a1 : Int) (r : Bool) (w : World) (hr0 : Kd.C Kd.string w A0 l0.length l0) (hc0 : l0.length ≤ c0) (h : spec_l03Hashes.f k l0 a1 = some r) :
  Calls Tryd.prog 111 #[.slice A0 l0.length c0,.int .i64 a1] w fun e w' => e = .returned (.bool r) ∧ Drawn0 w w' := by
 have HR0 := am_ hr0
 have HC0 := am_ hc0
 clear hr0 hc0
 have H : (if (l0.length : Int) = a1 then (spec_l03Hashes.l0 k l0 a1 0) else (some false)) = some r := h
 clear h
 by_cases c3 : (l0.length : Int) = a1
 ·rw [if_pos c3] at H
  have c3b0 : ((l0.length : Int) == a1) = true := beq_iff_eq.mpr c3
  have c3b1 : ((l0.length : Int) != a1) = false := bne_eq_false_iff_eq.mpr c3
  clear c3
  have H' := am_ H
  clear H
  go_enter Tryd.func111,Tryd.ntmps111
  go_wp2
  go_loopg [5] k (fun kq v5 w' => ∃ (x5_1 : Int),v5 = .int .i64 x5_1 ∧ Aside0 (spec_l03Hashes.l0 kq l0 a1 x5_1 = some r) ∧ Aside0 (kq ≤ k) ∧ Drawn0 w w')
  case atStart => exact ⟨(0),(by first | rfl | (simp;done) | (simp [*];done)),H',⟨Nat.le_refl _⟩,by repeat (first | exact Drawn0.refl _ | apply Drawn0.step)⟩
  case round =>
   clear H'
   try clear c1
   try clear p2
   try clear c3
   try clear c3b0
   try clear c3b1
   obtain ⟨x5_1,rfl,HA,HK1,⟨m1,rfl⟩⟩ := hrel
   cases gk with
   | zero => exact absurd HA.out (by simp [spec_l03Hashes.l0])
   | succ k1 =>
    have H := HA.out
    clear HA
    simp only [spec_l03Hashes.l0] at H
    by_cases c4 : x5_1 < a1
    ·rw [if_pos c4] at H
     have c4b0 : decide (x5_1 < a1) = true := decide_eq_true c4
     clear c4
     by_cases c5 : 0 ≤ x5_1
     ·rw [if_pos c5] at H
      have c5b0 : decide (0 ≤ x5_1) = true := decide_eq_true c5
      clear c5
      by_cases c6 : x5_1 < (l0.length : Int)
      ·rw [if_pos c6] at H
       have c6b0 : decide (x5_1 < (l0.length : Int)) = true := decide_eq_true c6
       clear c6
       by_cases c7 : ((rdOf ByteArray.empty l0 x5_1).size : Int) = 32
       ·rw [if_pos c7] at H
        have c7b0 : (((rdOf ByteArray.empty l0 x5_1).size : Int) == 32) = true := beq_iff_eq.mpr c7
        have c7b1 : (((rdOf ByteArray.empty l0 x5_1).size : Int) != 32) = false := bne_eq_false_iff_eq.mpr c7
        clear c7
        have H' := am_ H
        clear H
        have p128 : 0 ≤ (x5_1 : Int) := zo_
        have q128 : x5_1 < (l0.length : Int) := zo_
        obtain ⟨ad128,e128,hx128_0⟩ := Kd.at_string HR0.out x5_1 p128 q128
        cases e128
        replace p128 := eq_true p128
        replace q128 := eq_true q128
        go_wp2
        go_roundg k1
        case measure => have := HK1.out;omega
        case rel => exact ⟨(wrap64 (x5_1 + 1)),(by first | rfl | (simp;done) | (simp [*];done)),H',⟨by have := HK1.out;omega⟩,by repeat (first | exact Drawn0.refl _ | apply Drawn0.step)⟩
       ·rw [if_neg c7] at H
        have c7b0 : (((rdOf ByteArray.empty l0 x5_1).size : Int) == 32) = false := beq_eq_false_iff_ne.mpr c7
        have c7b1 : (((rdOf ByteArray.empty l0 x5_1).size : Int) != 32) = true := bne_iff_ne.mpr c7
        obtain rfl := Option.some.inj H
        have p128 : 0 ≤ (x5_1 : Int) := zo_
        have q128 : x5_1 < (l0.length : Int) := zo_
        obtain ⟨ad128,e128,hx128_0⟩ := Kd.at_string HR0.out x5_1 p128 q128
        cases e128
        replace p128 := eq_true p128
        replace q128 := eq_true q128
        go_wp2
        go_ret
        exact ⟨by first | rfl | (simp;done) | (simp [*];done),by repeat (first | exact Drawn0.refl _ | apply Drawn0.step)⟩
      ·rw [if_neg c6] at H
       exact absurd H (by simp)
     ·rw [if_neg c5] at H
      exact absurd H (by simp)
    ·rw [if_neg c4] at H
     have c4b0 : decide (x5_1 < a1) = false := decide_eq_false c4
     clear c4
     obtain rfl := Option.some.inj H
     go_wp2
     go_ret
     exact ⟨by first | rfl | (simp;done) | (simp [*];done),by repeat (first | exact Drawn0.refl _ | apply Drawn0.step)⟩
 ·rw [if_neg c3] at H
  have c3b0 : ((l0.length : Int) == a1) = false := beq_eq_false_iff_ne.mpr c3
  have c3b1 : ((l0.length : Int) != a1) = true := bne_iff_ne.mpr c3
  obtain rfl := Option.some.inj H
  go_enter Tryd.func111,Tryd.ntmps111
  go_wp2
  go_ret
  exact ⟨by first | rfl | (simp;done) | (simp [*];done),by repeat (first | exact Drawn0.refl _ | apply Drawn0.step)⟩
set_option maxHeartbeats 8000000 in
set_option maxRecDepth 100000 in
theorem spec_l03Node.calls (k : Nat) (a0 : ByteArray) (a1 : ByteArray) (r : ByteArray) (w : World) (h : spec_l03Node.f k a0 a1 = some r) :
  Calls Tryd.prog 114 #[.string a0,.string a1] w fun e w' => e = .returned (.string r) ∧ Below w.heap.size w w' := by
 have HB := am_ (Below.refl w.heap.size w)
 have H : (if 4 + a0.size ≤ 9223372036854775807 then (if ((⟨#[110,111,100,101]⟩ : ByteArray) ++ a0).size + a1.size ≤ 9223372036854775807 then (if (((⟨#[110,111,100,101]⟩ : ByteArray) ++ a0) ++ a1).size ≤ 140737488355328 then ((spec_l01Hash.f k (bytesOf (((⟨#[110,111,100,101]⟩ : ByteArray) ++ a0) ++ a1))).bind fun t237 => (some t237)) else (none)) else (none)) else (none)) = some r := h
 clear h
 by_cases c3 : 4 + a0.size ≤ 9223372036854775807
 ·rw [if_pos c3] at H
  have c3b0 := eq_true c3
  have c3b1 : decide (4 + a0.size ≤ 9223372036854775807) = true := decide_eq_true c3
  try have c3b2 : (9223372036854775807 < 4 + a0.size) = False := eq_false (Nat.not_lt.2 c3)
  by_cases c4 : ((⟨#[110,111,100,101]⟩ : ByteArray) ++ a0).size + a1.size ≤ 9223372036854775807
  ·rw [if_pos c4] at H
   have c4b0 := eq_true c4
   have c4b1 : decide (((⟨#[110,111,100,101]⟩ : ByteArray) ++ a0).size + a1.size ≤ 9223372036854775807) = true := decide_eq_true c4
   try have c4b2 : (9223372036854775807 < ((⟨#[110,111,100,101]⟩ : ByteArray) ++ a0).size + a1.size) = False := eq_false (Nat.not_lt.2 c4)
   (try have c4b3 := c4b2;simp only [ByteArray.size_append,show (⟨#[110,111,100,101]⟩ : ByteArray).size = 4 from rfl] at c4b3)
   by_cases c5 : (((⟨#[110,111,100,101]⟩ : ByteArray) ++ a0) ++ a1).size ≤ 140737488355328
   ·rw [if_pos c5] at H
    have c5b0 := eq_true c5
    have c5b1 : decide ((((⟨#[110,111,100,101]⟩ : ByteArray) ++ a0) ++ a1).size ≤ 140737488355328) = true := decide_eq_true c5
    obtain ⟨y234,hy234⟩ : ∃ y_ : List Int,y_ = (bytesOf (((⟨#[110,111,100,101]⟩ : ByteArray) ++ a0) ++ a1)) := ⟨_,rfl⟩
    replace H : ((spec_l01Hash.f k y234).bind fun t237 => (some t237)) = some r := by first | (rw [hy234];with_reducible exact H) | (have H2_ := (Option.bind_some _ _).symm.trans H;rw [hy234];with_reducible exact H2_) | (have H2_ := (Option.bind_some _ _).symm.trans H;with_reducible exact H2_) | with_reducible exact H | (rw [hy234];exact H) | exact H
    have Ny234 := am_ hy234
    clear hy234
    replace H := Option.bind_eq_some_iff.mp H
    obtain ⟨t237,A60,H⟩ := H
    try dsimp only at H
    have A6 := am_ A60
    clear A60
    obtain rfl := Option.some.inj H
    go_enter Tryd.func114,Tryd.ntmps114
    go_wp2_with (first | ((with_reducible refine gate_dst (N := 9) rfl ?_);refine Kd.V_conv (Kd.int .u8) rfl _ 5 rfl (N := 9) rfl 9 46 _ rfl (((⟨#[110,111,100,101]⟩ : ByteArray) ++ a0) ++ a1) rfl Tryd.underlying9 Tryd.underlying46 Tryd.underlying5 (ok := fun k_ => w.heap.size ≤ k_) (okp := fun _ => False) (fun _ hk => hk.elim) (Nat.le_refl _) (by have := o1_ (by first | (with_reducible assumption) | assumption : decide ((((⟨#[110,111,100,101]⟩ : ByteArray) ++ a0) ++ a1).size ≤ 140737488355328) = true);omega) (Below.refl _ _) (Nat.le_refl _) ?_;intro v235 w7 ho8 hb hg_ hnew_;clear hg_ hnew_;(first | rw [← Ny234.out] at ho8 | (simp only [Int.reduceToNat] at ho8;rw [← Ny234.out] at ho8));have HO236 := am_ (Kd.V_lower (Kd.V_mono (ok' := fun k_ => True) ho8 (fun k_ hk_ => trivial)) (below_size (zl_ HB)));replace HB := zs_ HB hb;clear hb ho8;obtain ⟨Ao9,co9,eo9⟩ := Kd.V_slice HO236.out;subst eo9) | ((with_reducible refine gate_callee (f := 113) rfl ?_);refine zgl (some 10) Tryd.func113 #[.slice Ao9 y234.length co9] ?_;(with_reducible refine (spec_l01Hash.calls k _ _ y234 t237 _ ?side1 ?side2 A6.out).mono ?_);(case side1 => repeat (first | exact (Kd.V_reads' HO236.out).2.2 | (with_reducible refine Kd.C_alloc ?_ _) | (with_reducible refine Kd.C_drewN ?_ _) | (with_reducible refine Kd.C_drew ?_)));(case side2 => exact (Kd.V_reads' HO236.out).2.1);rintro e w10 ⟨rfl,hb⟩;refine ⟨_,rfl,?_⟩;replace HB := zs_ HB hb;(try clear hb);(try clear hb2);(try clear hk);(try clear hi)))
    go_ret
    exact ⟨zt_,zl_ HB⟩
   ·rw [if_neg c5] at H
    exact absurd H (by simp)
  ·rw [if_neg c4] at H
   exact absurd H (by simp)
 ·rw [if_neg c3] at H
  exact absurd H (by simp)
def spec_CheckSignature.T14 : Bool × List (List Nat × List Nat) := (true,[([],[]),([],[]),([0,1],[0,1]),([],[]),([3],[3]),([],[]),([4,5],[4,5]),([6],[6]),([2,7,2],[2,7]),([8,8,0,1,2,3,4,5,6,7,8],[0,8])])
def spec_CheckSignature.B14 : List Nat := [0,0,3,0,8,0,56,120,255,511]
theorem spec_CheckSignature.tab14 : rtab .any (opsOf Tryd.f54 14) = spec_CheckSignature.T14 := by kernel_rfl
theorem spec_CheckSignature.bits14 : waitsOk spec_CheckSignature.T14.2 spec_CheckSignature.B14 = true := by kernel_rfl
set_option maxHeartbeats 8000000 in
set_option maxRecDepth 100000 in
theorem spec_CheckSignature.calls (k : Nat) (a0 : ByteArray) (a1 : ByteArray) (a2_0 : Int) (A2_1 : Option Addr) (c2_1 : Nat) (l2_1 : List ByteArray) (A2_2 : Option Addr) (c2_2 : Nat) (l2_2 : List ByteArray) (A2_3 : Option Addr) (c2_3 : Nat) (l2_3 : List ByteArray) (r : Int) (w : World) (hr2_1 : Kd.C Kd.string w A2_1 l2_1.length l2_1) (hc2_1 : l2_1.length ≤ c2_1) (hr2_2 : Kd.C Kd.string w A2_2 l2_2.length l2_2) (hc2_2 : l2_2.length ≤ c2_2) (hr2_3 : Kd.C Kd.string w A2_3 l2_3.length l2_3) (hc2_3 : l2_3.length ≤ c2_3) (h : spec_CheckSignature.f k a0 a1 a2_0 l2_1 l2_2 l2_3 = some r) :
  Calls Tryd.prog 54 #[.string a0,.string a1,.agg #[.int .i64 a2_0,.slice A2_1 l2_1.length c2_1,.slice A2_2 l2_2.length c2_2,.slice A2_3 l2_3.length c2_3]] w fun e w' => e = .returned (.int .i64 r) ∧ Below w.heap.size w w' := by
 have hu52 := Tryd.underlying52
 have HR2_1 := am_ hr2_1
 have HC2_1 := am_ hc2_1
 clear hr2_1 hc2_1
 have HR2_2 := am_ hr2_2
 have HC2_2 := am_ hc2_2
 clear hr2_2 hc2_2
 have HR2_3 := am_ hr2_3
 have HC2_3 := am_ hc2_3
 clear hr2_3 hc2_3
 have HB := am_ (Below.refl w.heap.size w)
 have H : (if (a1.size : Int) > 65530 then (spec_CheckSignature.j0 k a0 a1 true a2_0 l2_1 l2_2 l2_3) else (spec_CheckSignature.j0 k a0 a1 (decide ((a0.size : Int) > 65536)) a2_0 l2_1 l2_2 l2_3)) = some r := h
 clear h
 have HC4 := am_ H
 clear H
 go_enter Tryd.func54,Tryd.ntmps54
 go_upto_region 1 with (first | ((with_reducible refine gate_dst (N := 5) rfl ?_);(try (refine gate_guard (by rfl) ?_;dsimp only));refine zbx (N := 5) (cs := #[.int .i64 a2_0,.slice A2_1 l2_1.length c2_1,.slice A2_2 l2_2.length c2_2,.slice A2_3 l2_3.length c2_3]) (t := 52) ?_;intro gb238 hg w5 hbox hb;have BK238 := am_ (hbox);have GW238 := zw_ HB hg;have GE238 := zw_ HB hg;replace HB := zs_ HB hb;clear hb hbox hg))
 (try simp only [Act.put,p1_,p2_,p3_])
 go_cut [21] (fun v21 wc => ∃ (kq : Nat) (x21_3 : Bool),v21 = .bool x21_3 ∧ Aside0 (spec_CheckSignature.j0 kq a0 a1 x21_3 a2_0 l2_1 l2_2 l2_3 = some r) ∧ Aside0 (kq ≤ k) ∧ Aside0 (wc.heap[gb238]? = some (.cells #[.int .i64 a2_0,(.slice A2_1 l2_1.length c2_1),(.slice A2_2 l2_2.length c2_2),(.slice A2_3 l2_3.length c2_3)] 52 (0,0))) ∧ Aside0 (Below w.heap.size w wc))
 case first =>
  have H := HC4.out
  clear HC4
  by_cases c6 : (a1.size : Int) > 65530
  ·rw [if_pos c6] at H
   have c6b0 : decide (65530 < (a1.size : Int)) = true := decide_eq_true c6
   have c6b1 : decide (65530 < a1.size) = true := decide_eq_true (by omega)
   clear c6
   (first | rw [c6b0] | (simp only [i64_w,i32_w];rw [c6b0]) | skip)
   have H' := am_ H
   clear H
   go_wp2
   go_meet
   case rel => exact ⟨_,(true),(by first | rfl | (simp;done) | (simp [*];done)),H',⟨by first | omega | exact Nat.le_refl _⟩,⟨by (with_reducible repeat (first | apply k1_ | apply k2_ | apply k3_));exact BK238.out⟩,⟨zl_ HB⟩⟩
  ·rw [if_neg c6] at H
   have c6b0 : decide (65530 < (a1.size : Int)) = false := decide_eq_false c6
   have c6b1 : decide (65530 < a1.size) = false := decide_eq_false (by omega)
   clear c6
   (first | rw [c6b0] | (simp only [i64_w,i32_w];rw [c6b0]) | skip)
   have H' := am_ H
   clear H
   go_wp2
   go_meet
   case rel => exact ⟨_,(decide ((a0.size : Int) > 65536)),(by first | rfl | (simp;done) | (simp [*];done)),H',⟨by first | omega | exact Nat.le_refl _⟩,⟨by (with_reducible repeat (first | apply k1_ | apply k2_ | apply k3_));exact BK238.out⟩,⟨zl_ HB⟩⟩
 case rest =>
  clear HC4
  try clear c2
  try clear p2
  try clear c5
  try clear c6
  try clear c6b0
  try clear c6b1
  obtain ⟨kq,x21_3,rfl,HA,HJ3,BK238,HB⟩ := hcut
  cases kq with
  | zero => exact absurd HA.out (by simp [spec_CheckSignature.j0])
  | succ kj3 =>
   have H := HA.out
   clear HA
   simp only [spec_CheckSignature.j0] at H
   by_cases c7 : x21_3 = true
   ·subst c7
    have H1 : (some 2) = some r := by rw [if_pos rfl] at H;exact H
    clear H
    have H := H1
    clear H1
    obtain rfl := Option.some.inj H
    go_wp2
    go_ret
    exact ⟨zt_,zl_ HB⟩
   ·replace c7 := Bool.eq_false_iff.mpr c7
    subst c7
    have H1 : (if (a0.size : Int) = 32 then ((spec_l03Hashes.f kj3 l2_1 32).bind fun t239 => (if t239 = true then ((spec_l03Hashes.f kj3 l2_2 32).bind fun t240 => (if t240 = true then ((spec_l03Hashes.f kj3 l2_3 3).bind fun t241 => (spec_CheckSignature.j1 kj3 a0 a1 (!t241) a2_0 l2_1 l2_2 l2_3)) else (spec_CheckSignature.j1 kj3 a0 a1 true a2_0 l2_1 l2_2 l2_3))) else (spec_CheckSignature.j1 kj3 a0 a1 true a2_0 l2_1 l2_2 l2_3))) else (spec_CheckSignature.j1 kj3 a0 a1 true a2_0 l2_1 l2_2 l2_3)) = some r := by rw [if_neg (show ¬ (false = true) by decide)] at H;exact H
    clear H
    have H := H1
    clear H1
    have HC8 := am_ H
    clear H
    go_upto_region 3 with (fail)
    go_cut [42] (fun v42 wc => ∃ (kq : Nat) (x42_7 : Bool),v42 = .bool x42_7 ∧ Aside0 (spec_CheckSignature.j1 kq a0 a1 x42_7 a2_0 l2_1 l2_2 l2_3 = some r) ∧ Aside0 (kq ≤ kj3) ∧ Aside0 (wc.heap[gb238]? = some (.cells #[.int .i64 a2_0,(.slice A2_1 l2_1.length c2_1),(.slice A2_2 l2_2.length c2_2),(.slice A2_3 l2_3.length c2_3)] 52 (0,0))) ∧ Aside0 (Below w.heap.size w wc))
    case first =>
     have H := HC8.out
     clear HC8
     by_cases c9 : (a0.size : Int) = 32
     ·rw [if_pos c9] at H
      have c9b0 : ((a0.size : Int) == 32) = true := beq_iff_eq.mpr c9
      have c9b1 : ((a0.size : Int) != 32) = false := bne_eq_false_iff_eq.mpr c9
      clear c9
      (first | rw [c9b0] | (simp only [i64_w,i32_w];rw [c9b0]) | skip)
      replace H := Option.bind_eq_some_iff.mp H
      obtain ⟨t239,A100,H⟩ := H
      try dsimp only at H
      have A10 := am_ A100
      clear A100
      by_cases c11 : t239 = true
      ·subst c11
       have H1 : ((spec_l03Hashes.f kj3 l2_2 32).bind fun t240 => (if t240 = true then ((spec_l03Hashes.f kj3 l2_3 3).bind fun t241 => (spec_CheckSignature.j1 kj3 a0 a1 (!t241) a2_0 l2_1 l2_2 l2_3)) else (spec_CheckSignature.j1 kj3 a0 a1 true a2_0 l2_1 l2_2 l2_3))) = some r := by rw [if_pos rfl] at H;exact H
       clear H
       have H := H1
       clear H1
       replace H := Option.bind_eq_some_iff.mp H
       obtain ⟨t240,A120,H⟩ := H
       try dsimp only at H
       have A12 := am_ A120
       clear A120
       by_cases c13 : t240 = true
       ·subst c13
        have H1 : ((spec_l03Hashes.f kj3 l2_3 3).bind fun t241 => (spec_CheckSignature.j1 kj3 a0 a1 (!t241) a2_0 l2_1 l2_2 l2_3)) = some r := by rw [if_pos rfl] at H;exact H
        clear H
        have H := H1
        clear H1
        replace H := Option.bind_eq_some_iff.mp H
        obtain ⟨t241,A140,H⟩ := H
        try dsimp only at H
        have A14 := am_ A140
        clear A140
        have H' := am_ H
        clear H
        obtain ⟨hcz15_0,hcz15_1,hcz15_2,hcz15_3,hfz15_0,hfz15_1,hfz15_2,hfz15_3⟩ := zc4 BK238
        go_wp2_with (first | (go_at_call 111;(with_reducible refine (spec_l03Hashes.calls kj3 _ _ l2_1 32 true _ ?side1 ?side2 A10.out).mono ?_);(case side1 => exact zc_ HR2_1 HB);(case side2 => exact HC2_1.out);rintro e w' ⟨rfl,⟨nd,rfl⟩⟩) | (go_at_call 111;(with_reducible refine (spec_l03Hashes.calls kj3 _ _ l2_2 32 true _ ?side1 ?side2 A12.out).mono ?_);(case side1 => repeat (first | exact (Kd.C_below HR2_2.out (zl_ HB)) | (with_reducible refine Kd.C_alloc ?_ _) | (with_reducible refine Kd.C_drewN ?_ _) | (with_reducible refine Kd.C_drew ?_)));(case side2 => exact HC2_2.out);rintro e w' ⟨rfl,⟨nd,rfl⟩⟩) | (go_at_call 111;(with_reducible refine (spec_l03Hashes.calls kj3 _ _ l2_3 3 t241 _ ?side1 ?side2 A14.out).mono ?_);(case side1 => repeat (first | exact (Kd.C_below HR2_3.out (zl_ HB)) | (with_reducible refine Kd.C_alloc ?_ _) | (with_reducible refine Kd.C_drewN ?_ _) | (with_reducible refine Kd.C_drew ?_)));(case side2 => exact HC2_3.out);rintro e w' ⟨rfl,⟨nd,rfl⟩⟩))
        go_meet
        case rel => exact ⟨_,(!t241),(by first | rfl | (simp;done) | (simp [*];done)),H',⟨by have := HJ3.out;first | omega | exact Nat.le_refl _⟩,⟨by (with_reducible repeat (first | apply k1_ | apply k2_ | apply k3_));exact BK238.out⟩,⟨zl_ HB⟩⟩
       ·replace c13 := Bool.eq_false_iff.mpr c13
        subst c13
        have H1 : (spec_CheckSignature.j1 kj3 a0 a1 true a2_0 l2_1 l2_2 l2_3) = some r := by rw [if_neg (show ¬ (false = true) by decide)] at H;exact H
        clear H
        have H := H1
        clear H1
        have H' := am_ H
        clear H
        obtain ⟨hcz16_0,hcz16_1,hcz16_2,hcz16_3,hfz16_0,hfz16_1,hfz16_2,hfz16_3⟩ := zc4 BK238
        go_wp2_with (first | (go_at_call 111;(with_reducible refine (spec_l03Hashes.calls kj3 _ _ l2_1 32 true _ ?side1 ?side2 A10.out).mono ?_);(case side1 => exact zc_ HR2_1 HB);(case side2 => exact HC2_1.out);rintro e w' ⟨rfl,⟨nd,rfl⟩⟩) | (go_at_call 111;(with_reducible refine (spec_l03Hashes.calls kj3 _ _ l2_2 32 false _ ?side1 ?side2 A12.out).mono ?_);(case side1 => repeat (first | exact (Kd.C_below HR2_2.out (zl_ HB)) | (with_reducible refine Kd.C_alloc ?_ _) | (with_reducible refine Kd.C_drewN ?_ _) | (with_reducible refine Kd.C_drew ?_)));(case side2 => exact HC2_2.out);rintro e w' ⟨rfl,⟨nd,rfl⟩⟩))
        go_meet
        case rel => exact ⟨_,(true),(by first | rfl | (simp;done) | (simp [*];done)),H',⟨by have := HJ3.out;first | omega | exact Nat.le_refl _⟩,⟨by (with_reducible repeat (first | apply k1_ | apply k2_ | apply k3_));exact BK238.out⟩,⟨zl_ HB⟩⟩
      ·replace c11 := Bool.eq_false_iff.mpr c11
       subst c11
       have H1 : (spec_CheckSignature.j1 kj3 a0 a1 true a2_0 l2_1 l2_2 l2_3) = some r := by rw [if_neg (show ¬ (false = true) by decide)] at H;exact H
       clear H
       have H := H1
       clear H1
       have H' := am_ H
       clear H
       obtain ⟨hcz17_0,hcz17_1,hcz17_2,hcz17_3,hfz17_0,hfz17_1,hfz17_2,hfz17_3⟩ := zc4 BK238
       go_wp2_with (first | (go_at_call 111;(with_reducible refine (spec_l03Hashes.calls kj3 _ _ l2_1 32 false _ ?side1 ?side2 A10.out).mono ?_);(case side1 => exact zc_ HR2_1 HB);(case side2 => exact HC2_1.out);rintro e w' ⟨rfl,⟨nd,rfl⟩⟩))
       go_meet
       case rel => exact ⟨_,(true),(by first | rfl | (simp;done) | (simp [*];done)),H',⟨by have := HJ3.out;first | omega | exact Nat.le_refl _⟩,⟨by (with_reducible repeat (first | apply k1_ | apply k2_ | apply k3_));exact BK238.out⟩,⟨zl_ HB⟩⟩
     ·rw [if_neg c9] at H
      have c9b0 : ((a0.size : Int) == 32) = false := beq_eq_false_iff_ne.mpr c9
      have c9b1 : ((a0.size : Int) != 32) = true := bne_iff_ne.mpr c9
      (first | rw [c9b0] | (simp only [i64_w,i32_w];rw [c9b0]) | skip)
      have H' := am_ H
      clear H
      go_wp2
      go_meet
      case rel => exact ⟨_,(true),(by first | rfl | (simp;done) | (simp [*];done)),H',⟨by have := HJ3.out;first | omega | exact Nat.le_refl _⟩,⟨by (with_reducible repeat (first | apply k1_ | apply k2_ | apply k3_));exact BK238.out⟩,⟨zl_ HB⟩⟩
    case rest =>
     clear HC8
     try clear c1
     try clear c2
     try clear p2
     try clear c5
     try clear c6
     try clear c6b0
     try clear c6b1
     try clear c7
     try clear c9
     try clear c9b0
     try clear c9b1
     try clear c11
     try clear c13
     try clear hcz15_0
     try clear hcz15_1
     try clear hcz15_2
     try clear hcz15_3
     try clear hcz16_0
     try clear hcz16_1
     try clear hcz16_2
     try clear hcz16_3
     try clear hcz17_0
     try clear hcz17_1
     try clear hcz17_2
     try clear hcz17_3
     try clear hfz15_0
     try clear hfz15_1
     try clear hfz15_2
     try clear hfz15_3
     try clear hfz16_0
     try clear hfz16_1
     try clear hfz16_2
     try clear hfz16_3
     try clear hfz17_0
     try clear hfz17_1
     try clear hfz17_2
     try clear hfz17_3
     try clear p2
     obtain ⟨kq,x42_7,rfl,HA,HJ7,BK238,HB⟩ := hcut
     cases kq with
     | zero => exact absurd HA.out (by simp [spec_CheckSignature.j1])
     | succ kj7 =>
      have H := HA.out
      clear HA
      simp only [spec_CheckSignature.j1] at H
      by_cases c18 : x42_7 = true
      ·subst c18
       have H1 : (some 1) = some r := by rw [if_pos rfl] at H;exact H
       clear H
       have H := H1
       clear H1
       obtain rfl := Option.some.inj H
       go_wp2
       go_ret
       exact ⟨zt_,zl_ HB⟩
      ·replace c18 := Bool.eq_false_iff.mpr c18
       subst c18
       have H1 : ((spec_l01In.f a2_0 0 7).bind fun t242 => (if t242 = true then ((spec_l03Bits.f kj7 a1).bind fun t243 => (spec_CheckSignature.l0 kj7 a0 t243 (([107,101,121] : List Int)) 0 a2_0 l2_1 l2_2 l2_3)) else (some 4))) = some r := by rw [if_neg (show ¬ (false = true) by decide)] at H;exact H
       clear H
       have H := H1
       clear H1
       replace H := Option.bind_eq_some_iff.mp H
       obtain ⟨t242,A190,H⟩ := H
       try dsimp only at H
       have A19 := am_ A190
       clear A190
       by_cases c20 : t242 = true
       ·subst c20
        have H1 : ((spec_l03Bits.f kj7 a1).bind fun t243 => (spec_CheckSignature.l0 kj7 a0 t243 (([107,101,121] : List Int)) 0 a2_0 l2_1 l2_2 l2_3)) = some r := by rw [if_pos rfl] at H;exact H
        clear H
        have H := H1
        clear H1
        replace H := Option.bind_eq_some_iff.mp H
        obtain ⟨t243,A210,H⟩ := H
        try dsimp only at H
        have A21 := am_ A210
        clear A210
        obtain ⟨y244,hy244⟩ : ∃ y_ : List Int,y_ = (([107,101,121] : List Int)) := ⟨_,rfl⟩
        replace H : (spec_CheckSignature.l0 kj7 a0 t243 y244 0 a2_0 l2_1 l2_2 l2_3) = some r := by first | (rw [hy244];with_reducible exact H) | (have H2_ := (Option.bind_some _ _).symm.trans H;rw [hy244];with_reducible exact H2_) | (have H2_ := (Option.bind_some _ _).symm.trans H;with_reducible exact H2_) | with_reducible exact H | (rw [hy244];exact H) | exact H
        have Ny244 := am_ hy244
        clear hy244
        have H' := am_ H
        clear H
        obtain ⟨hcz22_0,hcz22_1,hcz22_2,hcz22_3,hfz22_0,hfz22_1,hfz22_2,hfz22_3⟩ := zc4 BK238
        go_wp2_with (first | ((with_reducible refine gate_callee (f := 69) rfl ?_);refine zgl (some 45) Tryd.func69 #[.int .i64 a2_0,.int .i64 0,.int .i64 7] ?_;(with_reducible refine (spec_l01In.calls a2_0 0 7 true _ A19.out).mono ?_);rintro e w' ⟨rfl,⟨nd,rfl⟩⟩;refine ⟨_,rfl,?_⟩) | ((with_reducible refine gate_callee (f := 112) rfl ?_);refine zgl (some 48) Tryd.func112 #[.string a1] ?_;(with_reducible refine (spec_l03Bits.calls kj7 a1 t243 _ A21.out).mono ?_);rintro e w23 ⟨rfl,hb⟩;refine ⟨_,rfl,?_⟩;replace BK238 := zb BK238 hb;replace HB := zs_ HB hb;(try clear hb);(try clear hb2);(try clear hk);(try clear hi)) | ((with_reducible refine gate_dst (N := 50) rfl ?_);(try (refine gate_guard (by rfl) ?_;dsimp only));refine Kd.U_lit (Kd.int .u8) rfl _ 46 5 ([107,101,121] : List Int) (ok := (fun k_ => k_ ≠ gb238)) rfl (.tmp 49) rfl Tryd.underlying46 Tryd.underlying5 rfl rfl (by decide) (by decide) rfl (Below.refl _ _) (Nat.le_refl _) ?hok ?_;(case hok => exact Nat.ne_of_gt (blk_lt (zk BK238)));intro v245 w24 ho25 hb hg_ hnew_;clear hg_ hnew_;(first | rw [← Ny244.out] at ho25 | (simp only [Int.reduceToNat] at ho25;rw [← Ny244.out] at ho25));have HO246 := am_ (Kd.U_lower ho25 (below_size (zl_ HB)));replace BK238 := zb BK238 hb;replace HB := zs_ HB hb;clear hb ho25))
        go_loopg [8,9] kj7 (fun kq v8 v9 w' => ∃ (x8_3 : List Int) (x9_3 : Int),v9 = .int .i64 x9_3 ∧ Aside0 (spec_CheckSignature.l0 kq a0 t243 x8_3 x9_3 a2_0 l2_1 l2_2 l2_3 = some r) ∧ Aside0 (kq ≤ kj7) ∧ Aside0 (Kd.U 5 w' w.heap.size (fun k_ => k_ ≠ gb238) v8 x8_3) ∧ Aside0 (w'.heap[gb238]? = some (.cells #[.int .i64 a2_0,(.slice A2_1 l2_1.length c2_1),(.slice A2_2 l2_2.length c2_2),(.slice A2_3 l2_3.length c2_3)] 52 (0,0))) ∧ Aside0 (Below w.heap.size w w'))
        case atStart => exact ⟨(y244),(0),(by first | rfl | (simp;done) | (simp [*];done)),H',⟨Nat.le_refl _⟩,⟨Kd.zrU HO246⟩,⟨by (with_reducible repeat (first | apply k1_ | apply k2_ | apply k3_));exact BK238.out⟩,⟨zl_ HB⟩⟩
        case round =>
         clear H'
         try clear c1
         try clear c2
         try clear p2
         try clear c5
         try clear c6
         try clear c6b0
         try clear c6b1
         try clear c7
         try clear c9
         try clear c9b0
         try clear c9b1
         try clear c11
         try clear c13
         try clear c18
         try clear c20
         try clear hcz15_0
         try clear hcz15_1
         try clear hcz15_2
         try clear hcz15_3
         try clear hcz16_0
         try clear hcz16_1
         try clear hcz16_2
         try clear hcz16_3
         try clear hcz17_0
         try clear hcz17_1
         try clear hcz17_2
         try clear hcz17_3
         try clear hcz22_0
         try clear hcz22_1
         try clear hcz22_2
         try clear hcz22_3
         try clear hfz15_0
         try clear hfz15_1
         try clear hfz15_2
         try clear hfz15_3
         try clear hfz16_0
         try clear hfz16_1
         try clear hfz16_2
         try clear hfz16_3
         try clear hfz17_0
         try clear hfz17_1
         try clear hfz17_2
         try clear hfz17_3
         try clear hfz22_0
         try clear hfz22_1
         try clear hfz22_2
         try clear hfz22_3
         try clear p2
         obtain ⟨x8_3,x9_3,rfl,HA,HK3,HO_8,BK238,HB⟩ := hrel
         cases gk with
         | zero => exact absurd HA.out (by simp [spec_CheckSignature.l0])
         | succ k3 =>
          have H := HA.out
          clear HA
          simp only [spec_CheckSignature.l0] at H
          by_cases c26 : x9_3 < 32
          ·rw [if_pos c26] at H
           have c26b0 : decide (x9_3 < 32) = true := decide_eq_true c26
           clear c26
           by_cases c27 : 0 ≤ x9_3
           ·rw [if_pos c27] at H
            have c27b0 : decide (0 ≤ x9_3) = true := decide_eq_true c27
            clear c27
            by_cases c28 : x9_3 < (l2_1.length : Int)
            ·rw [if_pos c28] at H
             have c28b0 : decide (x9_3 < (l2_1.length : Int)) = true := decide_eq_true c28
             clear c28
             by_cases c29 : (rdOf ByteArray.empty l2_1 x9_3).size ≤ 140737488355328
             ·rw [if_pos c29] at H
              have c29b0 := eq_true c29
              have c29b1 : decide ((rdOf ByteArray.empty l2_1 x9_3).size ≤ 140737488355328) = true := decide_eq_true c29
              clear c29
              obtain ⟨y248,hy248⟩ : ∃ y_ : List Int,y_ = (bytesOf (rdOf ByteArray.empty l2_1 x9_3)) := ⟨_,rfl⟩
              replace H : ((spec_l01Hash.f k3 y248).bind fun t251 => (if x9_3 < (t243.size : Int) then (if (bt t243 x9_3) = 48 then (if x8_3.length + t251.size < 140737488355328 then ((some (x8_3 ++ bytesOf t251 : List Int)).bind fun y252 => (if x9_3 < (l2_2.length : Int) then (if y252.length + (rdOf ByteArray.empty l2_2 x9_3).size < 140737488355328 then (spec_CheckSignature.l0 k3 a0 t243 (y252 ++ bytesOf (rdOf ByteArray.empty l2_2 x9_3)) (wrap64 (x9_3 + 1)) a2_0 l2_1 l2_2 l2_3) else (none)) else (none))) else (none)) else (if x9_3 < (l2_2.length : Int) then (if x8_3.length + (rdOf ByteArray.empty l2_2 x9_3).size < 140737488355328 then ((some (x8_3 ++ bytesOf (rdOf ByteArray.empty l2_2 x9_3) : List Int)).bind fun y260 => (if y260.length + t251.size < 140737488355328 then (spec_CheckSignature.l0 k3 a0 t243 (y260 ++ bytesOf t251) (wrap64 (x9_3 + 1)) a2_0 l2_1 l2_2 l2_3) else (none))) else (none)) else (none))) else (none))) = some r := by first | (rw [hy248];with_reducible exact H) | (have H2_ := (Option.bind_some _ _).symm.trans H;rw [hy248];with_reducible exact H2_) | (have H2_ := (Option.bind_some _ _).symm.trans H;with_reducible exact H2_) | with_reducible exact H | (rw [hy248];exact H) | exact H
              have Ny248 := am_ hy248
              clear hy248
              replace H := Option.bind_eq_some_iff.mp H
              obtain ⟨t251,A300,H⟩ := H
              try dsimp only at H
              have A30 := am_ A300
              clear A300
              by_cases c31 : x9_3 < (t243.size : Int)
              ·rw [if_pos c31] at H
               have c31b0 : decide (x9_3 < (t243.size : Int)) = true := decide_eq_true c31
               clear c31
               by_cases c33 : (bt t243 x9_3) = 48
               ·rw [if_pos c33] at H
                have c33b0 : ((bt t243 x9_3) == 48) = true := beq_iff_eq.mpr c33
                have c33b1 : ((bt t243 x9_3) != 48) = false := bne_eq_false_iff_eq.mpr c33
                clear c33
                by_cases c34 : x8_3.length + t251.size < 140737488355328
                ·rw [if_pos c34] at H
                 have LMc34 := am_ c34
                 clear c34
                 obtain ⟨y252,hy252⟩ : ∃ y_ : List Int,y_ = (x8_3 ++ bytesOf t251) := ⟨_,rfl⟩
                 replace H : (if x9_3 < (l2_2.length : Int) then (if y252.length + (rdOf ByteArray.empty l2_2 x9_3).size < 140737488355328 then (spec_CheckSignature.l0 k3 a0 t243 (y252 ++ bytesOf (rdOf ByteArray.empty l2_2 x9_3)) (wrap64 (x9_3 + 1)) a2_0 l2_1 l2_2 l2_3) else (none)) else (none)) = some r := by first | (rw [hy252];with_reducible exact H) | (have H2_ := (Option.bind_some _ _).symm.trans H;rw [hy252];with_reducible exact H2_) | (have H2_ := (Option.bind_some _ _).symm.trans H;with_reducible exact H2_) | with_reducible exact H | (rw [hy252];exact H) | exact H
                 have Ny252 := am_ hy252
                 clear hy252
                 by_cases c35 : x9_3 < (l2_2.length : Int)
                 ·rw [if_pos c35] at H
                  have c35b0 : decide (x9_3 < (l2_2.length : Int)) = true := decide_eq_true c35
                  clear c35
                  by_cases c36 : y252.length + (rdOf ByteArray.empty l2_2 x9_3).size < 140737488355328
                  ·rw [if_pos c36] at H
                   have LMc36 := am_ c36
                   clear c36
                   obtain ⟨y256,hy256⟩ : ∃ y_ : List Int,y_ = (y252 ++ bytesOf (rdOf ByteArray.empty l2_2 x9_3)) := ⟨_,rfl⟩
                   replace H : (spec_CheckSignature.l0 k3 a0 t243 y256 (wrap64 (x9_3 + 1)) a2_0 l2_1 l2_2 l2_3) = some r := by first | (rw [hy256];with_reducible exact H) | (have H2_ := (Option.bind_some _ _).symm.trans H;rw [hy256];with_reducible exact H2_) | (have H2_ := (Option.bind_some _ _).symm.trans H;with_reducible exact H2_) | with_reducible exact H | (rw [hy256];exact H) | exact H
                   have Ny256 := am_ hy256
                   clear hy256
                   have H' := am_ H
                   clear H
                   obtain ⟨hcz37_0,hcz37_1,hcz37_2,hcz37_3,hfz37_0,hfz37_1,hfz37_2,hfz37_3⟩ := zc4 BK238
                   have p247 : 0 ≤ (x9_3 : Int) := zo_
                   have q247 : x9_3 < (l2_1.length : Int) := zo_
                   obtain ⟨ad247,e247,hx247_0⟩ := Kd.at_string HR2_1.out x9_3 p247 q247
                   cases e247
                   replace hx247_0 := zx_ HB hx247_0
                   replace p247 := eq_true p247
                   replace q247 := eq_true q247
                   try go_wp2_with (first | ((with_reducible refine gate_dst (N := 60) rfl ?_);(try (refine gate_guard (by rfl) ?_;dsimp only));refine Kd.V_conv (Kd.int .u8) rfl _ 5 rfl (N := 60) rfl 9 46 _ rfl (rdOf ByteArray.empty l2_1 x9_3) rfl Tryd.underlying9 Tryd.underlying46 Tryd.underlying5 (ok := fun k_ => wr.heap.size ≤ k_) (okp := fun _ => False) (fun _ hk => hk.elim) (Nat.le_refl _) (by have := o1_ (by first | (with_reducible assumption) | assumption : decide ((rdOf ByteArray.empty l2_1 x9_3).size ≤ 140737488355328) = true);omega) (Below.refl _ _) (Nat.le_refl _) ?_;intro v249 w38 ho39 hb hg_ hnew_;clear hg_ hnew_;(first | rw [← Ny248.out] at ho39 | (simp only [Int.reduceToNat] at ho39;rw [← Ny248.out] at ho39));have HO250 := am_ (Kd.V_lower (Kd.V_mono (ok' := fun k_ => some k_ ≠ (u8 : Value).ownBlock ∧ k_ ≠ gb238) ho39 (fun k_ hk_ => ⟨(Kd.fresh' (Kd.U_lt (Kd.zrU HO_8)) k_ hk_),(Kd.freshB (g := gb238) (o := .cells #[.int .i64 a2_0,.slice (some ad247) l2_1.length c2_1,.slice A2_2 l2_2.length c2_2,.slice A2_3 l2_3.length c2_3] 52 (0,0)) (zk BK238) k_ hk_)⟩)) (below_size (zl_ HB)));replace HO_8 := Kd.zrbU HO_8 hb;replace BK238 := zb BK238 hb;replace HB := zs_ HB hb;clear hb ho39;obtain ⟨Ao40,co40,eo40⟩ := Kd.V_slice HO250.out;subst eo40) | ((with_reducible refine gate_callee (f := 113) rfl ?_);refine zgl (some 61) Tryd.func113 #[.slice Ao40 y248.length co40] ?_;(with_reducible refine (spec_l01Hash.calls k3 _ _ y248 t251 _ ?side1 ?side2 A30.out).mono ?_);(case side1 => repeat (first | exact (Kd.V_reads' HO250.out).2.2 | (with_reducible refine Kd.C_alloc ?_ _) | (with_reducible refine Kd.C_drewN ?_ _) | (with_reducible refine Kd.C_drew ?_)));(case side2 => exact (Kd.V_reads' HO250.out).2.1);rintro e w41 ⟨rfl,hb⟩;refine ⟨_,rfl,?_⟩;replace HO_8 := Kd.zrbU HO_8 hb;replace HO250 := am_ (Kd.V_below (by (with_reducible repeat (first | apply Kd.V_alloc | apply Kd.V_drewN | apply Kd.V_drew));exact HO250.out) hb);replace BK238 := zb BK238 hb;replace HB := zs_ HB hb;(try clear hb);(try clear hb2);(try clear hk);(try clear hi);have p32 : 0 ≤ (x9_3 : Int) := zo_;have q32 : x9_3 < (t243.size : Int) := zo_;have hx32 := bt_at t243 x9_3;replace p32 := eq_true p32;replace q32 := eq_true q32))
                   replace HO_8 := am_ (Kd.U_drew HO_8.out)
                   replace HO250 := am_ (Kd.V_drew HO250.out)
                   replace BK238 := am_ (blk_drew BK238.out)
                   replace HB := am_ (below_drew1 HB.out)
                   have p255 : 0 ≤ (x9_3 : Int) := zo_
                   have q255 : x9_3 < (l2_2.length : Int) := zo_
                   obtain ⟨ad255,e255,hx255_0⟩ := Kd.at_string HR2_2.out x9_3 p255 q255
                   have hw255_0 := hx255_0
                   cases e255
                   replace hx255_0 := zx_ HB hx255_0
                   replace p255 := eq_true p255
                   replace q255 := eq_true q255
                   refine start_ (n := 10) (S := fun w' => w'.cell? ⟨gb238,0,none⟩ = some (.int .i64 a2_0) ∧ w'.cell? ⟨gb238,1,none⟩ = some (.slice (some ad247) l2_1.length c2_1) ∧ w'.cell? ⟨gb238,2,none⟩ = some (.slice (some ad255) l2_2.length c2_2) ∧ w'.cell? ⟨gb238,3,none⟩ = some (.slice A2_3 l2_3.length c2_3) ∧ w'.cell? (ad255.add (x9_3).toNat) = some (.string (rdOf ByteArray.empty l2_2 x9_3))) (ds := []) #[false,false,false,false,false,false,false,false,false,false] (by kernel_rfl) rfl rfl ⟨(blk_cell BK238.out 0).trans rfl,(blk_cell BK238.out 1).trans rfl,(blk_cell BK238.out 2).trans rfl,(blk_cell BK238.out 3).trans rfl,(zx_ HB hw255_0)⟩ (fun hHeld => ?_);refine with_tabW spec_CheckSignature.tab14 spec_CheckSignature.bits14 (fun HT_ HW_ => ?_)
                   generalize w41.drew = w42 at HO_8 HO250 BK238 HB hx255_0 hHeld ⊢
                   refine zpu 0 (N := some 66) HT_ ?_
                   refine zpu 1 (N := some 67) HT_ ?_
                   refine zpu 3 (N := some 69) HT_ ?_
                   refine zpu 5 (N := some 71) HT_ ?_
                   refine ztk 4 (N := some 70) HT_ HW_ hHeld ?_
                   refine zpu 6 (N := some 72) HT_ ?_
                   refine ztk 7 (N := some 73) HT_ HW_ hHeld ?_
                   refine zon 2 (N := some 68) HT_ (fun K hK => ?_)
                   refine Kd.U_append_str_step (Kd.int .u8) rfl (w0 := w) w.heap.size (by rfl) (.tmp 66) _ 46 9 5 rfl Tryd.underlying46 Tryd.underlying9 info5 u8 x8_3 t251 (fun k_ => k_ ≠ gb238) rfl rfl ?aO ?aF ?aB ?aS ?aL ?_
                   (case aB => exact (zl_ HB))
                   (case aF => exact (fun k_ hk_ => Nat.ne_of_gt (Nat.lt_of_lt_of_le (blk_lt (zk BK238)) hk_)))
                   (case aO => exact (Kd.zrU HO_8))
                   (case aS => exact (below_size (zl_ HB)))
                   (case aL => have := LMc34.out;omega)
                   intro v253 w43 ho hb hg hat
                   rw [← Ny252.out] at ho
                   replace BK238 := am_ (blk_grown (g := gb238) (o := .cells #[.int .i64 a2_0,.slice (some ad247) l2_1.length c2_1,.slice (some ad255) l2_2.length c2_2,.slice A2_3 l2_3.length c2_3] 52 (0,0)) (zk BK238) hg (Kd.U_ne' HO_8.out))
                   replace HB := am_ (hb)
                   have HO254 := am_ (ho)
                   clear HO_8
                   clear ho hb hg hat
                   refine hK.out _ _ ⟨(blk_cell BK238.out 0).trans rfl,(blk_cell BK238.out 1).trans rfl,(blk_cell BK238.out 2).trans rfl,(blk_cell BK238.out 3).trans rfl,(zx_ HB hw255_0)⟩ (fun hHeld => ?_)
                   clear hK K
                   refine norm_ (a' := ?_) ?_ ?_
                   rotate_left
                   ·show Act.put _ (some 68) _ = _
                    simp only [Act.put,p1_,p2_,p3_,i64_w,i32_w]
                    rfl
                   refine zon 8 (N := some 74) HT_ (fun K hK => ?_)
                   refine Kd.U_append_str_step (Kd.int .u8) rfl (w0 := w) w.heap.size (by rfl) (.tmp 68) _ 46 9 5 rfl Tryd.underlying46 Tryd.underlying9 info5 v253 y252 (rdOf ByteArray.empty l2_2 x9_3) (fun k_ => k_ ≠ gb238) rfl rfl ?aO ?aF ?aB ?aS ?aL ?_
                   (case aB => exact (zl_ HB))
                   (case aF => exact (fun k_ hk_ => Nat.ne_of_gt (Nat.lt_of_lt_of_le (blk_lt (zk BK238)) hk_)))
                   (case aO => exact (Kd.zrU HO254))
                   (case aS => exact (below_size (zl_ HB)))
                   (case aL => have := LMc36.out;omega)
                   intro v257 w44 ho hb hg hat
                   rw [← Ny256.out] at ho
                   replace BK238 := am_ (blk_grown (g := gb238) (o := .cells #[.int .i64 a2_0,.slice (some ad247) l2_1.length c2_1,.slice (some ad255) l2_2.length c2_2,.slice A2_3 l2_3.length c2_3] 52 (0,0)) (zk BK238) hg (Kd.U_ne' HO254.out))
                   replace HB := am_ (hb)
                   have HO258 := am_ (ho)
                   clear HO254
                   clear ho hb hg hat
                   refine hK.out _ _ ⟨(blk_cell BK238.out 0).trans rfl,(blk_cell BK238.out 1).trans rfl,(blk_cell BK238.out 2).trans rfl,(blk_cell BK238.out 3).trans rfl,(zx_ HB hw255_0)⟩ (fun hHeld => ?_)
                   clear hK K
                   refine norm_ (a' := ?_) ?_ ?_
                   rotate_left
                   ·show Act.put _ (some 74) _ = _
                    simp only [Act.put,p1_,p2_,p3_,i64_w,i32_w]
                    rfl
                   refine zpu 9 (N := some 8) HT_ ?_
                   refine done_ (done_of HT_.out (by kernel_rfl)) ?_
                   try go_wp2
                   go_roundg k3
                   case measure => have := HJ3.out;have := HJ7.out;have := HK3.out;omega
                   case rel => exact ⟨(y256),(wrap64 (x9_3 + 1)),(by first | rfl | (simp;done) | (simp [*];done)),H',⟨by have := HJ3.out;have := HJ7.out;have := HK3.out;omega⟩,⟨Kd.zrU HO258⟩,⟨by (with_reducible repeat (first | apply k1_ | apply k2_ | apply k3_));exact BK238.out⟩,⟨zl_ HB⟩⟩
                  ·rw [if_neg c36] at H
                   exact absurd H (by simp)
                 ·rw [if_neg c35] at H
                  exact absurd H (by simp)
                ·rw [if_neg c34] at H
                 exact absurd H (by simp)
               ·rw [if_neg c33] at H
                have c33b0 : ((bt t243 x9_3) == 48) = false := beq_eq_false_iff_ne.mpr c33
                have c33b1 : ((bt t243 x9_3) != 48) = true := bne_iff_ne.mpr c33
                by_cases c45 : x9_3 < (l2_2.length : Int)
                ·rw [if_pos c45] at H
                 have c45b0 : decide (x9_3 < (l2_2.length : Int)) = true := decide_eq_true c45
                 clear c45
                 by_cases c46 : x8_3.length + (rdOf ByteArray.empty l2_2 x9_3).size < 140737488355328
                 ·rw [if_pos c46] at H
                  have LMc46 := am_ c46
                  clear c46
                  obtain ⟨y260,hy260⟩ : ∃ y_ : List Int,y_ = (x8_3 ++ bytesOf (rdOf ByteArray.empty l2_2 x9_3)) := ⟨_,rfl⟩
                  replace H : (if y260.length + t251.size < 140737488355328 then (spec_CheckSignature.l0 k3 a0 t243 (y260 ++ bytesOf t251) (wrap64 (x9_3 + 1)) a2_0 l2_1 l2_2 l2_3) else (none)) = some r := by first | (rw [hy260];with_reducible exact H) | (have H2_ := (Option.bind_some _ _).symm.trans H;rw [hy260];with_reducible exact H2_) | (have H2_ := (Option.bind_some _ _).symm.trans H;with_reducible exact H2_) | with_reducible exact H | (rw [hy260];exact H) | exact H
                  have Ny260 := am_ hy260
                  clear hy260
                  by_cases c47 : y260.length + t251.size < 140737488355328
                  ·rw [if_pos c47] at H
                   have LMc47 := am_ c47
                   clear c47
                   obtain ⟨y263,hy263⟩ : ∃ y_ : List Int,y_ = (y260 ++ bytesOf t251) := ⟨_,rfl⟩
                   replace H : (spec_CheckSignature.l0 k3 a0 t243 y263 (wrap64 (x9_3 + 1)) a2_0 l2_1 l2_2 l2_3) = some r := by first | (rw [hy263];with_reducible exact H) | (have H2_ := (Option.bind_some _ _).symm.trans H;rw [hy263];with_reducible exact H2_) | (have H2_ := (Option.bind_some _ _).symm.trans H;with_reducible exact H2_) | with_reducible exact H | (rw [hy263];exact H) | exact H
                   have Ny263 := am_ hy263
                   clear hy263
                   have H' := am_ H
                   clear H
                   obtain ⟨hcz48_0,hcz48_1,hcz48_2,hcz48_3,hfz48_0,hfz48_1,hfz48_2,hfz48_3⟩ := zc4 BK238
                   have p247 : 0 ≤ (x9_3 : Int) := zo_
                   have q247 : x9_3 < (l2_1.length : Int) := zo_
                   obtain ⟨ad247,e247,hx247_0⟩ := Kd.at_string HR2_1.out x9_3 p247 q247
                   cases e247
                   replace hx247_0 := zx_ HB hx247_0
                   replace p247 := eq_true p247
                   replace q247 := eq_true q247
                   go_wp2_with (first | ((with_reducible refine gate_dst (N := 60) rfl ?_);(try (refine gate_guard (by rfl) ?_;dsimp only));refine Kd.V_conv (Kd.int .u8) rfl _ 5 rfl (N := 60) rfl 9 46 _ rfl (rdOf ByteArray.empty l2_1 x9_3) rfl Tryd.underlying9 Tryd.underlying46 Tryd.underlying5 (ok := fun k_ => wr.heap.size ≤ k_) (okp := fun _ => False) (fun _ hk => hk.elim) (Nat.le_refl _) (by have := o1_ (by first | (with_reducible assumption) | assumption : decide ((rdOf ByteArray.empty l2_1 x9_3).size ≤ 140737488355328) = true);omega) (Below.refl _ _) (Nat.le_refl _) ?_;intro v249 w49 ho50 hb hg_ hnew_;clear hg_ hnew_;(first | rw [← Ny248.out] at ho50 | (simp only [Int.reduceToNat] at ho50;rw [← Ny248.out] at ho50));have HO250 := am_ (Kd.V_lower (Kd.V_mono (ok' := fun k_ => some k_ ≠ (u8 : Value).ownBlock ∧ k_ ≠ gb238) ho50 (fun k_ hk_ => ⟨(Kd.fresh' (Kd.U_lt (Kd.zrU HO_8)) k_ hk_),(Kd.freshB (g := gb238) (o := .cells #[.int .i64 a2_0,.slice (some ad247) l2_1.length c2_1,.slice A2_2 l2_2.length c2_2,.slice A2_3 l2_3.length c2_3] 52 (0,0)) (zk BK238) k_ hk_)⟩)) (below_size (zl_ HB)));replace HO_8 := Kd.zrbU HO_8 hb;replace BK238 := zb BK238 hb;replace HB := zs_ HB hb;clear hb ho50;obtain ⟨Ao51,co51,eo51⟩ := Kd.V_slice HO250.out;subst eo51) | ((with_reducible refine gate_callee (f := 113) rfl ?_);refine zgl (some 61) Tryd.func113 #[.slice Ao51 y248.length co51] ?_;(with_reducible refine (spec_l01Hash.calls k3 _ _ y248 t251 _ ?side1 ?side2 A30.out).mono ?_);(case side1 => repeat (first | exact (Kd.V_reads' HO250.out).2.2 | (with_reducible refine Kd.C_alloc ?_ _) | (with_reducible refine Kd.C_drewN ?_ _) | (with_reducible refine Kd.C_drew ?_)));(case side2 => exact (Kd.V_reads' HO250.out).2.1);rintro e w52 ⟨rfl,hb⟩;refine ⟨_,rfl,?_⟩;replace HO_8 := Kd.zrbU HO_8 hb;replace BK238 := zb BK238 hb;replace HB := zs_ HB hb;(try clear hb);(try clear hb2);(try clear hk);(try clear hi);have p32 : 0 ≤ (x9_3 : Int) := zo_;have q32 : x9_3 < (t243.size : Int) := zo_;have hx32 := bt_at t243 x9_3;replace p32 := eq_true p32;replace q32 := eq_true q32;obtain ⟨hcz53_0,hcz53_1,hcz53_2,hcz53_3,hfz53_0,hfz53_1,hfz53_2,hfz53_3⟩ := zc4 BK238;have p259 : 0 ≤ (x9_3 : Int) := zo_;have q259 : x9_3 < (l2_2.length : Int) := zo_;obtain ⟨ad259,e259,hx259_0⟩ := Kd.at_string HR2_2.out x9_3 p259 q259;cases e259;replace hx259_0 := zx_ HB hx259_0;replace p259 := eq_true p259;replace q259 := eq_true q259) | (at_builtin;refine Kd.U_append_str (Kd.int .u8) rfl (w0 := w) w.heap.size rfl (.tmp 75) _ 46 9 5 rfl Tryd.underlying46 Tryd.underlying9 info5 u8 x8_3 (rdOf ByteArray.empty l2_2 x9_3) (fun k_ => k_ ≠ gb238) rfl rfl ?aO ?aF ?aB ?aS ?aL ?_;(case aB => exact (zl_ HB));(case aF => exact (fun k_ hk_ => Nat.ne_of_gt (Nat.lt_of_lt_of_le (blk_lt (zk BK238)) hk_)));(case aO => exact (Kd.zrU HO_8));(case aS => exact (below_size (zl_ HB)));(case aL => have := LMc46.out;omega);intro v261 w54 ho hb hg hat;rw [← Ny260.out] at ho;replace BK238 := am_ (blk_grown (g := gb238) (o := .cells #[.int .i64 a2_0,.slice (some ad247) l2_1.length c2_1,.slice (some ad259) l2_2.length c2_2,.slice A2_3 l2_3.length c2_3] 52 (0,0)) (zk BK238) hg (Kd.U_ne' HO_8.out));replace HB := am_ (hb);have HO262 := am_ (ho);clear HO_8;clear ho hb hg hat) | (at_builtin;refine Kd.U_append_str (Kd.int .u8) rfl (w0 := w) w.heap.size rfl (.tmp 81) _ 46 9 5 rfl Tryd.underlying46 Tryd.underlying9 info5 v261 y260 t251 (fun k_ => k_ ≠ gb238) rfl rfl ?aO ?aF ?aB ?aS ?aL ?_;(case aB => exact (zl_ HB));(case aF => exact (fun k_ hk_ => Nat.ne_of_gt (Nat.lt_of_lt_of_le (blk_lt (zk BK238)) hk_)));(case aO => exact (Kd.zrU HO262));(case aS => exact (below_size (zl_ HB)));(case aL => have := LMc47.out;omega);intro v264 w55 ho hb hg hat;rw [← Ny263.out] at ho;replace BK238 := am_ (blk_grown (g := gb238) (o := .cells #[.int .i64 a2_0,.slice (some ad247) l2_1.length c2_1,.slice (some ad259) l2_2.length c2_2,.slice A2_3 l2_3.length c2_3] 52 (0,0)) (zk BK238) hg (Kd.U_ne' HO262.out));replace HB := am_ (hb);have HO265 := am_ (ho);clear HO262;clear ho hb hg hat))
                   go_roundg k3
                   case measure => have := HJ3.out;have := HJ7.out;have := HK3.out;omega
                   case rel => exact ⟨(y263),(wrap64 (x9_3 + 1)),(by first | rfl | (simp;done) | (simp [*];done)),H',⟨by have := HJ3.out;have := HJ7.out;have := HK3.out;omega⟩,⟨Kd.zrU HO265⟩,⟨by (with_reducible repeat (first | apply k1_ | apply k2_ | apply k3_));exact BK238.out⟩,⟨zl_ HB⟩⟩
                  ·rw [if_neg c47] at H
                   exact absurd H (by simp)
                 ·rw [if_neg c46] at H
                  exact absurd H (by simp)
                ·rw [if_neg c45] at H
                 exact absurd H (by simp)
              ·rw [if_neg c31] at H
               exact absurd H (by simp)
             ·rw [if_neg c29] at H
              exact absurd H (by simp)
            ·rw [if_neg c28] at H
             exact absurd H (by simp)
           ·rw [if_neg c27] at H
            exact absurd H (by simp)
          ·rw [if_neg c26] at H
           have c26b0 : decide (x9_3 < 32) = false := decide_eq_false c26
           clear c26
           replace H := Option.bind_eq_some_iff.mp H
           obtain ⟨t266,A560,H⟩ := H
           try dsimp only at H
           have A56 := am_ A560
           clear A560
           have H' := am_ H
           clear H
           obtain ⟨Ao57,co57,eo57⟩ := Kd.U_slice HO_8.out
           subst eo57
           go_wp2_with (first | ((with_reducible refine gate_callee (f := 113) rfl ?_);refine zgl (some 85) Tryd.func113 #[.slice Ao57 x8_3.length co57] ?_;(with_reducible refine (spec_l01Hash.calls k3 _ _ x8_3 t266 _ ?side1 ?side2 A56.out).mono ?_);(case side1 => repeat (first | exact (Kd.U_reads' HO_8.out).2.2 | (with_reducible refine Kd.C_alloc ?_ _) | (with_reducible refine Kd.C_drewN ?_ _) | (with_reducible refine Kd.C_drew ?_)));(case side2 => exact (Kd.U_reads' HO_8.out).2.1);rintro e w58 ⟨rfl,hb⟩;refine ⟨_,rfl,?_⟩;replace BK238 := zb BK238 hb;replace HB := zs_ HB hb;(try clear hb);(try clear hb2);(try clear hk);(try clear hi);obtain ⟨hcz59_0,hcz59_1,hcz59_2,hcz59_3,hfz59_0,hfz59_1,hfz59_2,hfz59_3⟩ := zc4 BK238))
           go_loopg [11,12,13] k3 (fun kq v11 v12 v13 w' => ∃ (x11_4 : ByteArray) (x12_4 : Int) (x13_4 : Int),v11 = .string x11_4 ∧ v12 = .int .i64 x12_4 ∧ v13 = .int .i64 x13_4 ∧ Aside0 (spec_CheckSignature.l1 kq a0 x11_4 x12_4 x13_4 a2_0 l2_1 l2_2 l2_3 = some r) ∧ Aside0 (kq ≤ k3) ∧ Aside0 (w'.heap[gb238]? = some (.cells #[.int .i64 a2_0,(.slice A2_1 l2_1.length c2_1),(.slice A2_2 l2_2.length c2_2),(.slice A2_3 l2_3.length c2_3)] 52 (0,0))) ∧ Aside0 (Below w.heap.size w w'))
           case atStart => exact ⟨(t266),(a2_0),(0),(by first | rfl | (simp;done) | (simp [*];done)),(by first | rfl | (simp;done) | (simp [*];done)),(by first | rfl | (simp;done) | (simp [*];done)),H',⟨Nat.le_refl _⟩,⟨by (with_reducible repeat (first | apply k1_ | apply k2_ | apply k3_));exact BK238.out⟩,⟨zl_ HB⟩⟩
           case round =>
            clear H'
            try clear c1
            try clear c2
            try clear p2
            try clear q2
            try clear hx2
            try clear c3
            try clear p3
            try clear q3
            try clear hx3
            try clear c4
            try clear c5
            try clear c6
            try clear c6b0
            try clear c6b1
            try clear p6
            try clear c7
            try clear c9
            try clear c9b0
            try clear c9b1
            try clear c11
            try clear c13
            try clear c18
            try clear c20
            try clear p24
            try clear q24
            try clear hx24
            try clear p25
            try clear q25
            try clear hx25
            try clear c26
            try clear c26b0
            try clear c27
            try clear c27b0
            try clear c28
            try clear c28b0
            try clear c29
            try clear c29b0
            try clear c29b1
            try clear c31
            try clear c31b0
            try clear p32
            try clear q32
            try clear hx32
            try clear c33
            try clear c33b0
            try clear c33b1
            try clear c34
            try clear c35
            try clear c35b0
            try clear c36
            try clear c45
            try clear c45b0
            try clear c46
            try clear c47
            try clear hcz15_0
            try clear hcz15_1
            try clear hcz15_2
            try clear hcz15_3
            try clear hcz16_0
            try clear hcz16_1
            try clear hcz16_2
            try clear hcz16_3
            try clear hcz17_0
            try clear hcz17_1
            try clear hcz17_2
            try clear hcz17_3
            try clear hcz22_0
            try clear hcz22_1
            try clear hcz22_2
            try clear hcz22_3
            try clear hcz37_0
            try clear hcz37_1
            try clear hcz37_2
            try clear hcz37_3
            try clear hcz48_0
            try clear hcz48_1
            try clear hcz48_2
            try clear hcz48_3
            try clear hcz53_0
            try clear hcz53_1
            try clear hcz53_2
            try clear hcz53_3
            try clear hcz59_0
            try clear hcz59_1
            try clear hcz59_2
            try clear hcz59_3
            try clear hfz15_0
            try clear hfz15_1
            try clear hfz15_2
            try clear hfz15_3
            try clear hfz16_0
            try clear hfz16_1
            try clear hfz16_2
            try clear hfz16_3
            try clear hfz17_0
            try clear hfz17_1
            try clear hfz17_2
            try clear hfz17_3
            try clear hfz22_0
            try clear hfz22_1
            try clear hfz22_2
            try clear hfz22_3
            try clear hfz37_0
            try clear hfz37_1
            try clear hfz37_2
            try clear hfz37_3
            try clear hfz48_0
            try clear hfz48_1
            try clear hfz48_2
            try clear hfz48_3
            try clear hfz53_0
            try clear hfz53_1
            try clear hfz53_2
            try clear hfz53_3
            try clear hfz59_0
            try clear hfz59_1
            try clear hfz59_2
            try clear hfz59_3
            try clear hx247_0
            try clear hx255_0
            try clear hx259_0
            try clear p2
            try clear p247
            try clear p255
            try clear p259
            try clear p32
            try clear q247
            try clear q255
            try clear q259
            try clear q32
            obtain ⟨x11_4,x12_4,x13_4,rfl,rfl,rfl,HA,HK4,BK238,HB⟩ := hrel
            cases gk with
            | zero => exact absurd HA.out (by simp [spec_CheckSignature.l1])
            | succ k4 =>
             have H := HA.out
             clear HA
             simp only [spec_CheckSignature.l1] at H
             by_cases c60 : x13_4 < 3
             ·rw [if_pos c60] at H
              have c60b0 : decide (x13_4 < 3) = true := decide_eq_true c60
              clear c60
              by_cases c61 : (Int.tmod x12_4 2) = 0
              ·rw [if_pos c61] at H
               have c61b0 : ((Int.tmod x12_4 2) == 0) = true := beq_iff_eq.mpr c61
               have c61b1 : ((Int.tmod x12_4 2) != 0) = false := bne_eq_false_iff_eq.mpr c61
               clear c61
               by_cases c62 : 0 ≤ x13_4
               ·rw [if_pos c62] at H
                have c62b0 : decide (0 ≤ x13_4) = true := decide_eq_true c62
                clear c62
                by_cases c63 : x13_4 < (l2_3.length : Int)
                ·rw [if_pos c63] at H
                 have c63b0 : decide (x13_4 < (l2_3.length : Int)) = true := decide_eq_true c63
                 clear c63
                 replace H := Option.bind_eq_some_iff.mp H
                 obtain ⟨t268,A640,H⟩ := H
                 try dsimp only at H
                 have A64 := am_ A640
                 clear A640
                 have H' := am_ H
                 clear H
                 obtain ⟨hcz65_0,hcz65_1,hcz65_2,hcz65_3,hfz65_0,hfz65_1,hfz65_2,hfz65_3⟩ := zc4 BK238
                 have p267 : 0 ≤ (x13_4 : Int) := zo_
                 have q267 : x13_4 < (l2_3.length : Int) := zo_
                 obtain ⟨ad267,e267,hx267_0⟩ := Kd.at_string HR2_3.out x13_4 p267 q267
                 cases e267
                 replace hx267_0 := zx_ HB hx267_0
                 replace p267 := eq_true p267
                 replace q267 := eq_true q267
                 go_wp2_with (first | ((with_reducible refine gate_callee (f := 114) rfl ?_);refine zgl (some 101) Tryd.func114 #[.string x11_4,.string (rdOf ByteArray.empty l2_3 x13_4)] ?_;(with_reducible refine (spec_l03Node.calls k4 x11_4 (rdOf ByteArray.empty l2_3 x13_4) t268 _ A64.out).mono ?_);rintro e w66 ⟨rfl,hb⟩;refine ⟨_,rfl,?_⟩;replace BK238 := zb BK238 hb;replace HB := zs_ HB hb;(try clear hb);(try clear hb2);(try clear hk);(try clear hi)))
                 go_roundg k4
                 case measure => have := HJ3.out;have := HJ7.out;have := HK3.out;have := HK4.out;omega
                 case rel => exact ⟨(t268),(wrap64 (Int.tdiv x12_4 2)),(wrap64 (x13_4 + 1)),(by first | rfl | (simp;done) | (simp [*];done)),(by first | rfl | (simp;done) | (simp [*];done)),(by first | rfl | (simp;done) | (simp [*];done)),H',⟨by have := HJ3.out;have := HJ7.out;have := HK3.out;have := HK4.out;omega⟩,⟨by (with_reducible repeat (first | apply k1_ | apply k2_ | apply k3_));exact BK238.out⟩,⟨zl_ HB⟩⟩
                ·rw [if_neg c63] at H
                 exact absurd H (by simp)
               ·rw [if_neg c62] at H
                exact absurd H (by simp)
              ·rw [if_neg c61] at H
               have c61b0 : ((Int.tmod x12_4 2) == 0) = false := beq_eq_false_iff_ne.mpr c61
               have c61b1 : ((Int.tmod x12_4 2) != 0) = true := bne_iff_ne.mpr c61
               by_cases c67 : 0 ≤ x13_4
               ·rw [if_pos c67] at H
                have c67b0 : decide (0 ≤ x13_4) = true := decide_eq_true c67
                clear c67
                by_cases c68 : x13_4 < (l2_3.length : Int)
                ·rw [if_pos c68] at H
                 have c68b0 : decide (x13_4 < (l2_3.length : Int)) = true := decide_eq_true c68
                 clear c68
                 replace H := Option.bind_eq_some_iff.mp H
                 obtain ⟨t270,A690,H⟩ := H
                 try dsimp only at H
                 have A69 := am_ A690
                 clear A690
                 have H' := am_ H
                 clear H
                 obtain ⟨hcz70_0,hcz70_1,hcz70_2,hcz70_3,hfz70_0,hfz70_1,hfz70_2,hfz70_3⟩ := zc4 BK238
                 have p269 : 0 ≤ (x13_4 : Int) := zo_
                 have q269 : x13_4 < (l2_3.length : Int) := zo_
                 obtain ⟨ad269,e269,hx269_0⟩ := Kd.at_string HR2_3.out x13_4 p269 q269
                 cases e269
                 replace hx269_0 := zx_ HB hx269_0
                 replace p269 := eq_true p269
                 replace q269 := eq_true q269
                 go_wp2_with (first | ((with_reducible refine gate_callee (f := 114) rfl ?_);refine zgl (some 108) Tryd.func114 #[.string (rdOf ByteArray.empty l2_3 x13_4),.string x11_4] ?_;(with_reducible refine (spec_l03Node.calls k4 (rdOf ByteArray.empty l2_3 x13_4) x11_4 t270 _ A69.out).mono ?_);rintro e w71 ⟨rfl,hb⟩;refine ⟨_,rfl,?_⟩;replace BK238 := zb BK238 hb;replace HB := zs_ HB hb;(try clear hb);(try clear hb2);(try clear hk);(try clear hi)))
                 go_roundg k4
                 case measure => have := HJ3.out;have := HJ7.out;have := HK3.out;have := HK4.out;omega
                 case rel => exact ⟨(t270),(wrap64 (Int.tdiv x12_4 2)),(wrap64 (x13_4 + 1)),(by first | rfl | (simp;done) | (simp [*];done)),(by first | rfl | (simp;done) | (simp [*];done)),(by first | rfl | (simp;done) | (simp [*];done)),H',⟨by have := HJ3.out;have := HJ7.out;have := HK3.out;have := HK4.out;omega⟩,⟨by (with_reducible repeat (first | apply k1_ | apply k2_ | apply k3_));exact BK238.out⟩,⟨zl_ HB⟩⟩
                ·rw [if_neg c68] at H
                 exact absurd H (by simp)
               ·rw [if_neg c67] at H
                exact absurd H (by simp)
             ·rw [if_neg c60] at H
              have c60b0 : decide (x13_4 < 3) = false := decide_eq_false c60
              clear c60
              by_cases c72 : x11_4.toList = a0.toList
              ·rw [if_pos c72] at H
               have c72b0 : (x11_4.toList == a0.toList) = true := beq_iff_eq.mpr c72
               have c72b1 : (x11_4.toList != a0.toList) = false := bne_eq_false_iff_eq.mpr c72
               clear c72
               obtain rfl := Option.some.inj H
               go_wp2
               go_ret
               exact ⟨zt_,zl_ HB⟩
              ·rw [if_neg c72] at H
               have c72b0 : (x11_4.toList == a0.toList) = false := beq_eq_false_iff_ne.mpr c72
               have c72b1 : (x11_4.toList != a0.toList) = true := bne_iff_ne.mpr c72
               obtain rfl := Option.some.inj H
               go_wp2
               go_ret
               exact ⟨zt_,zl_ HB⟩
       ·replace c20 := Bool.eq_false_iff.mpr c20
        subst c20
        have H1 : (some 4) = some r := by rw [if_neg (show ¬ (false = true) by decide)] at H;exact H
        clear H
        have H := H1
        clear H1
        obtain rfl := Option.some.inj H
        obtain ⟨hcz73_0,hcz73_1,hcz73_2,hcz73_3,hfz73_0,hfz73_1,hfz73_2,hfz73_3⟩ := zc4 BK238
        go_wp2_with (first | ((with_reducible refine gate_callee (f := 69) rfl ?_);refine zgl (some 45) Tryd.func69 #[.int .i64 a2_0,.int .i64 0,.int .i64 7] ?_;(with_reducible refine (spec_l01In.calls a2_0 0 7 false _ A19.out).mono ?_);rintro e w' ⟨rfl,⟨nd,rfl⟩⟩;refine ⟨_,rfl,?_⟩))
        go_ret
        exact ⟨zt_,zl_ HB⟩
set_option maxHeartbeats 8000000 in
set_option maxRecDepth 100000 in
theorem spec_l00Digit.calls (a0 : Int) (r : Bool) (w : World) (h : spec_l00Digit.f a0 = some r) :
  Calls Tryd.prog 195 #[.int .u8 a0] w fun e w' => e = .returned (.bool r) ∧ Drawn0 w w' := by
 have H : (if a0 ≥ 48 then (some (decide (a0 ≤ 57))) else (some false)) = some r := h
 clear h
 by_cases c2 : a0 ≥ 48
 ·rw [if_pos c2] at H
  have c2b0 : decide (48 ≤ a0) = true := decide_eq_true c2
  clear c2
  obtain rfl := Option.some.inj H
  go_enter Tryd.func195,Tryd.ntmps195
  go_wp2
  go_ret
  exact ⟨by first | rfl | (simp;done) | (simp [*];done),by repeat (first | exact Drawn0.refl _ | apply Drawn0.step)⟩
 ·rw [if_neg c2] at H
  have c2b0 : decide (48 ≤ a0) = false := decide_eq_false c2
  clear c2
  obtain rfl := Option.some.inj H
  go_enter Tryd.func195,Tryd.ntmps195
  go_wp2
  go_ret
  exact ⟨by first | rfl | (simp;done) | (simp [*];done),by repeat (first | exact Drawn0.refl _ | apply Drawn0.step)⟩
set_option maxHeartbeats 8000000 in
set_option maxRecDepth 100000 in
theorem spec_l00Letter.calls (a0 : Int) (r : Bool) (w : World) (h : spec_l00Letter.f a0 = some r) :
  Calls Tryd.prog 194 #[.int .u8 a0] w fun e w' => e = .returned (.bool r) ∧ Drawn0 w w' := by
 have H : (if a0 ≥ 97 then (if a0 ≤ 122 then (some true) else (if a0 ≥ 65 then (if a0 ≤ 90 then (some true) else (some (a0 == 95))) else (some (a0 == 95)))) else (if a0 ≥ 65 then (if a0 ≤ 90 then (some true) else (some (a0 == 95))) else (some (a0 == 95)))) = some r := h
 clear h
 by_cases c2 : a0 ≥ 97
 ·rw [if_pos c2] at H
  have c2b0 : decide (97 ≤ a0) = true := decide_eq_true c2
  clear c2
  by_cases c3 : a0 ≤ 122
  ·rw [if_pos c3] at H
   have c3b0 : decide (a0 ≤ 122) = true := decide_eq_true c3
   clear c3
   obtain rfl := Option.some.inj H
   go_enter Tryd.func194,Tryd.ntmps194
   go_wp2
   go_ret
   exact ⟨by first | rfl | (simp;done) | (simp [*];done),by repeat (first | exact Drawn0.refl _ | apply Drawn0.step)⟩
  ·rw [if_neg c3] at H
   have c3b0 : decide (a0 ≤ 122) = false := decide_eq_false c3
   clear c3
   by_cases c4 : a0 ≥ 65
   ·rw [if_pos c4] at H
    have c4b0 : decide (65 ≤ a0) = true := decide_eq_true c4
    clear c4
    by_cases c5 : a0 ≤ 90
    ·rw [if_pos c5] at H
     have c5b0 : decide (a0 ≤ 90) = true := decide_eq_true c5
     clear c5
     obtain rfl := Option.some.inj H
     go_enter Tryd.func194,Tryd.ntmps194
     go_wp2
     go_ret
     exact ⟨by first | rfl | (simp;done) | (simp [*];done),by repeat (first | exact Drawn0.refl _ | apply Drawn0.step)⟩
    ·rw [if_neg c5] at H
     have c5b0 : decide (a0 ≤ 90) = false := decide_eq_false c5
     clear c5
     obtain rfl := Option.some.inj H
     go_enter Tryd.func194,Tryd.ntmps194
     go_wp2
     go_ret
     exact ⟨by first | rfl | (simp;done) | (simp [*];done),by repeat (first | exact Drawn0.refl _ | apply Drawn0.step)⟩
   ·rw [if_neg c4] at H
    have c4b0 : decide (65 ≤ a0) = false := decide_eq_false c4
    clear c4
    obtain rfl := Option.some.inj H
    go_enter Tryd.func194,Tryd.ntmps194
    go_wp2
    go_ret
    exact ⟨by first | rfl | (simp;done) | (simp [*];done),by repeat (first | exact Drawn0.refl _ | apply Drawn0.step)⟩
 ·rw [if_neg c2] at H
  have c2b0 : decide (97 ≤ a0) = false := decide_eq_false c2
  clear c2
  by_cases c6 : a0 ≥ 65
  ·rw [if_pos c6] at H
   have c6b0 : decide (65 ≤ a0) = true := decide_eq_true c6
   clear c6
   by_cases c7 : a0 ≤ 90
   ·rw [if_pos c7] at H
    have c7b0 : decide (a0 ≤ 90) = true := decide_eq_true c7
    clear c7
    obtain rfl := Option.some.inj H
    go_enter Tryd.func194,Tryd.ntmps194
    go_wp2
    go_ret
    exact ⟨by first | rfl | (simp;done) | (simp [*];done),by repeat (first | exact Drawn0.refl _ | apply Drawn0.step)⟩
   ·rw [if_neg c7] at H
    have c7b0 : decide (a0 ≤ 90) = false := decide_eq_false c7
    clear c7
    obtain rfl := Option.some.inj H
    go_enter Tryd.func194,Tryd.ntmps194
    go_wp2
    go_ret
    exact ⟨by first | rfl | (simp;done) | (simp [*];done),by repeat (first | exact Drawn0.refl _ | apply Drawn0.step)⟩
  ·rw [if_neg c6] at H
   have c6b0 : decide (65 ≤ a0) = false := decide_eq_false c6
   clear c6
   obtain rfl := Option.some.inj H
   go_enter Tryd.func194,Tryd.ntmps194
   go_wp2
   go_ret
   exact ⟨by first | rfl | (simp;done) | (simp [*];done),by repeat (first | exact Drawn0.refl _ | apply Drawn0.step)⟩
set_option maxHeartbeats 8000000 in
set_option maxRecDepth 100000 in
theorem spec_l00Word.calls (k : Nat) (a0 : ByteArray) (r : Bool) (w : World) (h : spec_l00Word.f k a0 = some r) :
  Calls Tryd.prog 178 #[.string a0] w fun e w' => e = .returned (.bool r) ∧ Drawn0 w w' := by
 have H : (if (a0.size : Int) < 1 then (spec_l00Word.j0 k a0 true) else (if (a0.size : Int) > 40 then (spec_l00Word.j0 k a0 true) else (if 0 < (a0.size : Int) then ((spec_l00Letter.f (bt a0 0)).bind fun t113 => (spec_l00Word.j0 k a0 (!t113))) else (none)))) = some r := h
 clear h
 have HC2 := am_ H
 clear H
 go_enter Tryd.func178,Tryd.ntmps178
 go_upto_region 1 with (fail)
 go_cut [17] (fun v17 wc => ∃ (kq : Nat) (x17_1 : Bool),v17 = .bool x17_1 ∧ Aside0 (spec_l00Word.j0 kq a0 x17_1 = some r) ∧ Aside0 (kq ≤ k) ∧ Drawn0 w wc)
 case first =>
  have H := HC2.out
  clear HC2
  by_cases c3 : (a0.size : Int) < 1
  ·rw [if_pos c3] at H
   have c3b0 : decide ((a0.size : Int) < 1) = true := decide_eq_true c3
   have c3b1 : decide (a0.size < 1) = true := decide_eq_true (by omega)
   clear c3
   (first | rw [c3b0] | (simp only [i64_w,i32_w];rw [c3b0]) | skip)
   have H' := am_ H
   clear H
   go_wp2
   go_meet
   case rel => exact ⟨_,(true),(by first | rfl | (simp;done) | (simp [*];done)),H',⟨by first | omega | exact Nat.le_refl _⟩,by repeat (first | exact Drawn0.refl _ | apply Drawn0.step)⟩
  ·rw [if_neg c3] at H
   have c3b0 : decide ((a0.size : Int) < 1) = false := decide_eq_false c3
   have c3b1 : decide (a0.size < 1) = false := decide_eq_false (by omega)
   clear c3
   (first | rw [c3b0] | (simp only [i64_w,i32_w];rw [c3b0]) | skip)
   by_cases c4 : (a0.size : Int) > 40
   ·rw [if_pos c4] at H
    have c4b0 : decide (40 < (a0.size : Int)) = true := decide_eq_true c4
    have c4b1 : decide (40 < a0.size) = true := decide_eq_true (by omega)
    clear c4
    have H' := am_ H
    clear H
    go_wp2
    go_meet
    case rel => exact ⟨_,(true),(by first | rfl | (simp;done) | (simp [*];done)),H',⟨by first | omega | exact Nat.le_refl _⟩,by repeat (first | exact Drawn0.refl _ | apply Drawn0.step)⟩
   ·rw [if_neg c4] at H
    have c4b0 : decide (40 < (a0.size : Int)) = false := decide_eq_false c4
    have c4b1 : decide (40 < a0.size) = false := decide_eq_false (by omega)
    clear c4
    by_cases c5 : 0 < (a0.size : Int)
    ·rw [if_pos c5] at H
     have c5b0 : decide (0 < (a0.size : Int)) = true := decide_eq_true c5
     have c5b1 : decide (0 < a0.size) = true := decide_eq_true (by omega)
     clear c5
     replace H := Option.bind_eq_some_iff.mp H
     obtain ⟨t113,A70,H⟩ := H
     try dsimp only at H
     have A7 := am_ A70
     clear A70
     have H' := am_ H
     clear H
     have p6 : 0 ≤ (0 : Int) := (by omega)
     have q6 : 0 < a0.size := (by have : (0 : Int) < (a0.size : Int) := zo_;omega)
     have hx6 : ∀ h : 0 < a0.size,((a0[0]'h).toNat : Int) = bt a0 0 := bt_at a0 0
     clear p6
     have qi6 : (0 < (a0.size : Int)) = True := eq_true (zo_)
     replace q6 := eq_true q6
     go_wp2_with (first | (go_at_call 194;(with_reducible refine (spec_l00Letter.calls (bt a0 0) t113 _ A7.out).mono ?_);rintro e w' ⟨rfl,⟨nd,rfl⟩⟩))
     go_meet
     case rel => exact ⟨_,(!t113),(by first | rfl | (simp;done) | (simp [*];done)),H',⟨by first | omega | exact Nat.le_refl _⟩,by repeat (first | exact Drawn0.refl _ | apply Drawn0.step)⟩
    ·rw [if_neg c5] at H
     exact absurd H (by simp)
 case rest =>
  clear HC2
  try clear c1
  try clear p2
  try clear c3
  try clear c3b0
  try clear c3b1
  try clear c4
  try clear c4b0
  try clear c4b1
  try clear c5
  try clear c5b0
  try clear c5b1
  try clear p6
  try clear q6
  try clear hx6
  try clear qi6
  try clear p6
  try clear q6
  obtain ⟨kq,x17_1,rfl,HA,HJ1,⟨mc1,rfl⟩⟩ := hcut
  cases kq with
  | zero => exact absurd HA.out (by simp [spec_l00Word.j0])
  | succ kj1 =>
   have H := HA.out
   clear HA
   simp only [spec_l00Word.j0] at H
   by_cases c8 : x17_1 = true
   ·subst c8
    have H1 : (some false) = some r := by rw [if_pos rfl] at H;exact H
    clear H
    have H := H1
    clear H1
    obtain rfl := Option.some.inj H
    go_wp2
    go_ret
    exact ⟨by first | rfl | (simp;done) | (simp [*];done),by repeat (first | exact Drawn0.refl _ | apply Drawn0.step)⟩
   ·replace c8 := Bool.eq_false_iff.mpr c8
    subst c8
    have H1 : (spec_l00Word.l0 kj1 a0 1) = some r := by rw [if_neg (show ¬ (false = true) by decide)] at H;exact H
    clear H
    have H := H1
    clear H1
    have H' := am_ H
    clear H
    go_wp2
    go_loopg [3] kj1 (fun kq v3 w' => ∃ (x3_2 : Int),v3 = .int .i64 x3_2 ∧ Aside0 (spec_l00Word.l0 kq a0 x3_2 = some r) ∧ Aside0 (kq ≤ kj1) ∧ Drawn0 w w')
    case atStart => exact ⟨(1),(by first | rfl | (simp;done) | (simp [*];done)),H',⟨Nat.le_refl _⟩,by repeat (first | exact Drawn0.refl _ | apply Drawn0.step)⟩
    case round =>
     clear H'
     try clear c1
     try clear p2
     try clear c3
     try clear c3b0
     try clear c3b1
     try clear c4
     try clear c4b0
     try clear c4b1
     try clear c5
     try clear c5b0
     try clear c5b1
     try clear p6
     try clear q6
     try clear hx6
     try clear qi6
     try clear c8
     try clear p2
     try clear p6
     try clear q6
     obtain ⟨x3_2,rfl,HA,HK2,⟨m2,rfl⟩⟩ := hrel
     cases gk with
     | zero => exact absurd HA.out (by simp [spec_l00Word.l0])
     | succ k2 =>
      have H := HA.out
      clear HA
      simp only [spec_l00Word.l0] at H
      by_cases c9 : x3_2 < (a0.size : Int)
      ·rw [if_pos c9] at H
       have c9b0 : decide (x3_2 < (a0.size : Int)) = true := decide_eq_true c9
       clear c9
       by_cases c10 : 0 ≤ x3_2
       ·rw [if_pos c10] at H
        have c10b0 : decide (0 ≤ x3_2) = true := decide_eq_true c10
        clear c10
        replace H := Option.bind_eq_some_iff.mp H
        obtain ⟨t114,A120,H⟩ := H
        try dsimp only at H
        have A12 := am_ A120
        clear A120
        by_cases c13 : t114 = true
        ·subst c13
         have H1 : (spec_l00Word.l0 k2 a0 (wrap64 (x3_2 + 1))) = some r := by rw [if_pos rfl] at H;exact H
         clear H
         have H := H1
         clear H1
         have H' := am_ H
         clear H
         have p11 : 0 ≤ (x3_2 : Int) := zo_
         have q11 : x3_2 < (a0.size : Int) := zo_
         have hx11 := bt_at a0 x3_2
         replace p11 := eq_true p11
         replace q11 := eq_true q11
         go_wp2_with (first | ((with_reducible refine gate_callee (f := 194) rfl ?_);refine zgl (some 27) Tryd.func194 #[.int .u8 (bt a0 x3_2)] ?_;(with_reducible refine (spec_l00Letter.calls (bt a0 x3_2) true _ A12.out).mono ?_);rintro e w' ⟨rfl,⟨nd,rfl⟩⟩;refine ⟨_,rfl,?_⟩))
         go_roundg k2
         case measure => have := HJ1.out;have := HK2.out;omega
         case rel => exact ⟨(wrap64 (x3_2 + 1)),(by first | rfl | (simp;done) | (simp [*];done)),H',⟨by have := HJ1.out;have := HK2.out;omega⟩,by repeat (first | exact Drawn0.refl _ | apply Drawn0.step)⟩
        ·replace c13 := Bool.eq_false_iff.mpr c13
         subst c13
         have H1 : ((spec_l00Digit.f (bt a0 x3_2)).bind fun t115 => (if t115 = true then (spec_l00Word.l0 k2 a0 (wrap64 (x3_2 + 1))) else (some false))) = some r := by rw [if_neg (show ¬ (false = true) by decide)] at H;exact H
         clear H
         have H := H1
         clear H1
         replace H := Option.bind_eq_some_iff.mp H
         obtain ⟨t115,A150,H⟩ := H
         try dsimp only at H
         have A15 := am_ A150
         clear A150
         by_cases c16 : t115 = true
         ·subst c16
          have H1 : (spec_l00Word.l0 k2 a0 (wrap64 (x3_2 + 1))) = some r := by rw [if_pos rfl] at H;exact H
          clear H
          have H := H1
          clear H1
          have H' := am_ H
          clear H
          have p11 : 0 ≤ (x3_2 : Int) := zo_
          have q11 : x3_2 < (a0.size : Int) := zo_
          have hx11 := bt_at a0 x3_2
          replace p11 := eq_true p11
          replace q11 := eq_true q11
          go_wp2_with (first | ((with_reducible refine gate_callee (f := 194) rfl ?_);refine zgl (some 27) Tryd.func194 #[.int .u8 (bt a0 x3_2)] ?_;(with_reducible refine (spec_l00Letter.calls (bt a0 x3_2) false _ A12.out).mono ?_);rintro e w' ⟨rfl,⟨nd,rfl⟩⟩;refine ⟨_,rfl,?_⟩;have p14 : 0 ≤ (x3_2 : Int) := zo_;have q14 : x3_2 < (a0.size : Int) := zo_;have hx14 := bt_at a0 x3_2;replace p14 := eq_true p14;replace q14 := eq_true q14) | (go_at_call 195;(with_reducible refine (spec_l00Digit.calls (bt a0 x3_2) true _ A15.out).mono ?_);rintro e w' ⟨rfl,⟨nd,rfl⟩⟩))
          go_roundg k2
          case measure => have := HJ1.out;have := HK2.out;omega
          case rel => exact ⟨(wrap64 (x3_2 + 1)),(by first | rfl | (simp;done) | (simp [*];done)),H',⟨by have := HJ1.out;have := HK2.out;omega⟩,by repeat (first | exact Drawn0.refl _ | apply Drawn0.step)⟩
         ·replace c16 := Bool.eq_false_iff.mpr c16
          subst c16
          have H1 : (some false) = some r := by rw [if_neg (show ¬ (false = true) by decide)] at H;exact H
          clear H
          have H := H1
          clear H1
          obtain rfl := Option.some.inj H
          have p11 : 0 ≤ (x3_2 : Int) := zo_
          have q11 : x3_2 < (a0.size : Int) := zo_
          have hx11 := bt_at a0 x3_2
          replace p11 := eq_true p11
          replace q11 := eq_true q11
          go_wp2_with (first | ((with_reducible refine gate_callee (f := 194) rfl ?_);refine zgl (some 27) Tryd.func194 #[.int .u8 (bt a0 x3_2)] ?_;(with_reducible refine (spec_l00Letter.calls (bt a0 x3_2) false _ A12.out).mono ?_);rintro e w' ⟨rfl,⟨nd,rfl⟩⟩;refine ⟨_,rfl,?_⟩;have p14 : 0 ≤ (x3_2 : Int) := zo_;have q14 : x3_2 < (a0.size : Int) := zo_;have hx14 := bt_at a0 x3_2;replace p14 := eq_true p14;replace q14 := eq_true q14) | (go_at_call 195;(with_reducible refine (spec_l00Digit.calls (bt a0 x3_2) false _ A15.out).mono ?_);rintro e w' ⟨rfl,⟨nd,rfl⟩⟩))
          go_ret
          exact ⟨by first | rfl | (simp;done) | (simp [*];done),by repeat (first | exact Drawn0.refl _ | apply Drawn0.step)⟩
       ·rw [if_neg c10] at H
        exact absurd H (by simp)
      ·rw [if_neg c9] at H
       have c9b0 : decide (x3_2 < (a0.size : Int)) = false := decide_eq_false c9
       clear c9
       obtain rfl := Option.some.inj H
       go_wp2
       go_ret
       exact ⟨by first | rfl | (simp;done) | (simp [*];done),by repeat (first | exact Drawn0.refl _ | apply Drawn0.step)⟩
set_option maxHeartbeats 8000000 in
set_option maxRecDepth 100000 in
theorem spec_NameOK.calls (k : Nat) (a0 : ByteArray) (r : Bool) (w : World) (h : spec_NameOK.f k a0 = some r) :
  Calls Tryd.prog 152 #[.string a0] w fun e w' => e = .returned (.bool r) ∧ Drawn0 w w' := by
 have H : ((spec_l00Word.f k a0).bind fun t116 => (some t116)) = some r := h
 clear h
 replace H := Option.bind_eq_some_iff.mp H
 obtain ⟨t116,A20,H⟩ := H
 try dsimp only at H
 have A2 := am_ A20
 clear A20
 obtain rfl := Option.some.inj H
 go_enter Tryd.func152,Tryd.ntmps152
 go_wp2_with (first | ((with_reducible refine gate_callee (f := 178) rfl ?_);refine zgl (some 4) Tryd.func178 #[.string a0] ?_;(with_reducible refine (spec_l00Word.calls k a0 t116 _ A2.out).mono ?_);rintro e w' ⟨rfl,⟨nd,rfl⟩⟩;refine ⟨_,rfl,?_⟩))
 go_ret
 exact ⟨by first | rfl | (simp;done) | (simp [*];done),by repeat (first | exact Drawn0.refl _ | apply Drawn0.step)⟩
set_option maxHeartbeats 8000000 in
set_option maxRecDepth 100000 in
theorem spec_l02Text.calls (k : Nat) (a0 : ByteArray) (a1 : Int) (r : Bool) (w : World) (h : spec_l02Text.f k a0 a1 = some r) :
  Calls Tryd.prog 110 #[.string a0,.int .i64 a1] w fun e w' => e = .returned (.bool r) ∧ Drawn0 w w' := by
 have H : ((spec_l01In.f (a0.size : Int) 1 a1).bind fun t117 => (if t117 = true then ((spec_NameOK.f k a0).bind fun t118 => (some t118)) else (some false))) = some r := h
 clear h
 replace H := Option.bind_eq_some_iff.mp H
 obtain ⟨t117,A30,H⟩ := H
 try dsimp only at H
 have A3 := am_ A30
 clear A30
 by_cases c4 : t117 = true
 ·subst c4
  have H1 : ((spec_NameOK.f k a0).bind fun t118 => (some t118)) = some r := by rw [if_pos rfl] at H;exact H
  clear H
  have H := H1
  clear H1
  replace H := Option.bind_eq_some_iff.mp H
  obtain ⟨t118,A50,H⟩ := H
  try dsimp only at H
  have A5 := am_ A50
  clear A50
  obtain rfl := Option.some.inj H
  go_enter Tryd.func110,Tryd.ntmps110
  go_wp2_with (first | ((with_reducible refine gate_callee (f := 69) rfl ?_);refine zgl (some 8) Tryd.func69 #[.int .i64 (a0.size : Int),.int .i64 1,.int .i64 a1] ?_;(with_reducible refine (spec_l01In.calls (a0.size : Int) 1 a1 true _ A3.out).mono ?_);rintro e w' ⟨rfl,⟨nd,rfl⟩⟩;refine ⟨_,rfl,?_⟩) | (go_at_call 152;(with_reducible refine (spec_NameOK.calls k a0 t118 _ A5.out).mono ?_);rintro e w' ⟨rfl,⟨nd,rfl⟩⟩))
  go_ret
  exact ⟨by first | rfl | (simp;done) | (simp [*];done),by repeat (first | exact Drawn0.refl _ | apply Drawn0.step)⟩
 ·replace c4 := Bool.eq_false_iff.mpr c4
  subst c4
  have H1 : (some false) = some r := by rw [if_neg (show ¬ (false = true) by decide)] at H;exact H
  clear H
  have H := H1
  clear H1
  obtain rfl := Option.some.inj H
  go_enter Tryd.func110,Tryd.ntmps110
  go_wp2_with (first | ((with_reducible refine gate_callee (f := 69) rfl ?_);refine zgl (some 8) Tryd.func69 #[.int .i64 (a0.size : Int),.int .i64 1,.int .i64 a1] ?_;(with_reducible refine (spec_l01In.calls (a0.size : Int) 1 a1 false _ A3.out).mono ?_);rintro e w' ⟨rfl,⟨nd,rfl⟩⟩;refine ⟨_,rfl,?_⟩))
  go_ret
  exact ⟨by first | rfl | (simp;done) | (simp [*];done),by repeat (first | exact Drawn0.refl _ | apply Drawn0.step)⟩
set_option maxHeartbeats 8000000 in
set_option maxRecDepth 100000 in
theorem spec_GrantOK.calls (k : Nat) (a0_0 : ByteArray) (a0_1 : Int) (a0_2 : Int) (a0_3 : Int) (r : Bool) (w : World) (h : spec_GrantOK.f k a0_0 a0_1 a0_2 a0_3 = some r) :
  Calls Tryd.prog 51 #[.agg #[.string a0_0,.int .i64 a0_1,.int .i64 a0_2,.int .i64 a0_3]] w fun e w' => e = .returned (.bool r) ∧ Below w.heap.size w w' := by
 have hu30 := Tryd.underlying30
 have HB := am_ (Below.refl w.heap.size w)
 have H : ((spec_l02Text.f k a0_0 12).bind fun t120 => (if t120 = true then ((spec_l01In.f a0_1 0 255).bind fun t121 => (if t121 = true then ((spec_l01In.f a0_2 1 1000000).bind fun t122 => (if t122 = true then ((spec_l01In.f a0_3 0 2000000000).bind fun t123 => (some t123)) else (some false))) else (some false))) else (some false))) = some r := h
 clear h
 replace H := Option.bind_eq_some_iff.mp H
 obtain ⟨t120,A20,H⟩ := H
 try dsimp only at H
 have A2 := am_ A20
 clear A20
 by_cases c3 : t120 = true
 ·subst c3
  have H1 : ((spec_l01In.f a0_1 0 255).bind fun t121 => (if t121 = true then ((spec_l01In.f a0_2 1 1000000).bind fun t122 => (if t122 = true then ((spec_l01In.f a0_3 0 2000000000).bind fun t123 => (some t123)) else (some false))) else (some false))) = some r := by rw [if_pos rfl] at H;exact H
  clear H
  have H := H1
  clear H1
  replace H := Option.bind_eq_some_iff.mp H
  obtain ⟨t121,A40,H⟩ := H
  try dsimp only at H
  have A4 := am_ A40
  clear A40
  by_cases c5 : t121 = true
  ·subst c5
   have H1 : ((spec_l01In.f a0_2 1 1000000).bind fun t122 => (if t122 = true then ((spec_l01In.f a0_3 0 2000000000).bind fun t123 => (some t123)) else (some false))) = some r := by rw [if_pos rfl] at H;exact H
   clear H
   have H := H1
   clear H1
   replace H := Option.bind_eq_some_iff.mp H
   obtain ⟨t122,A60,H⟩ := H
   try dsimp only at H
   have A6 := am_ A60
   clear A60
   by_cases c7 : t122 = true
   ·subst c7
    have H1 : ((spec_l01In.f a0_3 0 2000000000).bind fun t123 => (some t123)) = some r := by rw [if_pos rfl] at H;exact H
    clear H
    have H := H1
    clear H1
    replace H := Option.bind_eq_some_iff.mp H
    obtain ⟨t123,A80,H⟩ := H
    try dsimp only at H
    have A8 := am_ A80
    clear A80
    obtain rfl := Option.some.inj H
    go_enter Tryd.func51,Tryd.ntmps51
    go_wp2_with (first | ((with_reducible refine gate_dst (N := 1) rfl ?_);refine zbx (N := 1) (cs := #[.string a0_0,.int .i64 a0_1,.int .i64 a0_2,.int .i64 a0_3]) (t := 30) ?_;intro gb119 hg w9 hbox hb;have BK119 := am_ (hbox);have GW119 := zw_ HB hg;have GE119 := zw_ HB hg;replace HB := zs_ HB hb;clear hb hbox hg;obtain ⟨hcz10_0,hcz10_1,hcz10_2,hcz10_3,hfz10_0,hfz10_1,hfz10_2,hfz10_3⟩ := zc4 BK119) | ((with_reducible refine gate_callee (f := 110) rfl ?_);refine zgl (some 5) Tryd.func110 #[.string a0_0,.int .i64 12] ?_;(with_reducible refine (spec_l02Text.calls k a0_0 12 true _ A2.out).mono ?_);rintro e w' ⟨rfl,⟨nd,rfl⟩⟩;refine ⟨_,rfl,?_⟩) | (go_at_call 69;(with_reducible refine (spec_l01In.calls a0_1 0 255 true _ A4.out).mono ?_);rintro e w' ⟨rfl,⟨nd,rfl⟩⟩) | (go_at_call 69;(with_reducible refine (spec_l01In.calls a0_2 1 1000000 true _ A6.out).mono ?_);rintro e w' ⟨rfl,⟨nd,rfl⟩⟩) | (go_at_call 69;(with_reducible refine (spec_l01In.calls a0_3 0 2000000000 t123 _ A8.out).mono ?_);rintro e w' ⟨rfl,⟨nd,rfl⟩⟩))
    go_ret
    exact ⟨zt_,zl_ HB⟩
   ·replace c7 := Bool.eq_false_iff.mpr c7
    subst c7
    have H1 : (some false) = some r := by rw [if_neg (show ¬ (false = true) by decide)] at H;exact H
    clear H
    have H := H1
    clear H1
    obtain rfl := Option.some.inj H
    go_enter Tryd.func51,Tryd.ntmps51
    go_wp2_with (first | ((with_reducible refine gate_dst (N := 1) rfl ?_);refine zbx (N := 1) (cs := #[.string a0_0,.int .i64 a0_1,.int .i64 a0_2,.int .i64 a0_3]) (t := 30) ?_;intro gb119 hg w11 hbox hb;have BK119 := am_ (hbox);have GW119 := zw_ HB hg;have GE119 := zw_ HB hg;replace HB := zs_ HB hb;clear hb hbox hg;obtain ⟨hcz12_0,hcz12_1,hcz12_2,hcz12_3,hfz12_0,hfz12_1,hfz12_2,hfz12_3⟩ := zc4 BK119) | ((with_reducible refine gate_callee (f := 110) rfl ?_);refine zgl (some 5) Tryd.func110 #[.string a0_0,.int .i64 12] ?_;(with_reducible refine (spec_l02Text.calls k a0_0 12 true _ A2.out).mono ?_);rintro e w' ⟨rfl,⟨nd,rfl⟩⟩;refine ⟨_,rfl,?_⟩) | (go_at_call 69;(with_reducible refine (spec_l01In.calls a0_1 0 255 true _ A4.out).mono ?_);rintro e w' ⟨rfl,⟨nd,rfl⟩⟩) | (go_at_call 69;(with_reducible refine (spec_l01In.calls a0_2 1 1000000 false _ A6.out).mono ?_);rintro e w' ⟨rfl,⟨nd,rfl⟩⟩))
    go_ret
    exact ⟨zt_,zl_ HB⟩
  ·replace c5 := Bool.eq_false_iff.mpr c5
   subst c5
   have H1 : (some false) = some r := by rw [if_neg (show ¬ (false = true) by decide)] at H;exact H
   clear H
   have H := H1
   clear H1
   obtain rfl := Option.some.inj H
   go_enter Tryd.func51,Tryd.ntmps51
   go_wp2_with (first | ((with_reducible refine gate_dst (N := 1) rfl ?_);refine zbx (N := 1) (cs := #[.string a0_0,.int .i64 a0_1,.int .i64 a0_2,.int .i64 a0_3]) (t := 30) ?_;intro gb119 hg w13 hbox hb;have BK119 := am_ (hbox);have GW119 := zw_ HB hg;have GE119 := zw_ HB hg;replace HB := zs_ HB hb;clear hb hbox hg;obtain ⟨hcz14_0,hcz14_1,hcz14_2,hcz14_3,hfz14_0,hfz14_1,hfz14_2,hfz14_3⟩ := zc4 BK119) | ((with_reducible refine gate_callee (f := 110) rfl ?_);refine zgl (some 5) Tryd.func110 #[.string a0_0,.int .i64 12] ?_;(with_reducible refine (spec_l02Text.calls k a0_0 12 true _ A2.out).mono ?_);rintro e w' ⟨rfl,⟨nd,rfl⟩⟩;refine ⟨_,rfl,?_⟩) | (go_at_call 69;(with_reducible refine (spec_l01In.calls a0_1 0 255 false _ A4.out).mono ?_);rintro e w' ⟨rfl,⟨nd,rfl⟩⟩))
   go_ret
   exact ⟨zt_,zl_ HB⟩
 ·replace c3 := Bool.eq_false_iff.mpr c3
  subst c3
  have H1 : (some false) = some r := by rw [if_neg (show ¬ (false = true) by decide)] at H;exact H
  clear H
  have H := H1
  clear H1
  obtain rfl := Option.some.inj H
  go_enter Tryd.func51,Tryd.ntmps51
  go_wp2_with (first | ((with_reducible refine gate_dst (N := 1) rfl ?_);refine zbx (N := 1) (cs := #[.string a0_0,.int .i64 a0_1,.int .i64 a0_2,.int .i64 a0_3]) (t := 30) ?_;intro gb119 hg w15 hbox hb;have BK119 := am_ (hbox);have GW119 := zw_ HB hg;have GE119 := zw_ HB hg;replace HB := zs_ HB hb;clear hb hbox hg;obtain ⟨hcz16_0,hcz16_1,hcz16_2,hcz16_3,hfz16_0,hfz16_1,hfz16_2,hfz16_3⟩ := zc4 BK119) | ((with_reducible refine gate_callee (f := 110) rfl ?_);refine zgl (some 5) Tryd.func110 #[.string a0_0,.int .i64 12] ?_;(with_reducible refine (spec_l02Text.calls k a0_0 12 false _ A2.out).mono ?_);rintro e w' ⟨rfl,⟨nd,rfl⟩⟩;refine ⟨_,rfl,?_⟩))
  go_ret
  exact ⟨zt_,zl_ HB⟩
set_option maxHeartbeats 8000000 in
set_option maxRecDepth 100000 in
theorem spec_l03Secret.calls (k : Nat) (a0 : ByteArray) (a1 : Int) (a2 : Int) (a3 : Int) (r : ByteArray) (w : World) (h : spec_l03Secret.f k a0 a1 a2 a3 = some r) :
  Calls Tryd.prog 131 #[.string a0,.int .i64 a1,.int .i64 a2,.int .i64 a3] w fun e w' => e = .returned (.string r) ∧ Below w.heap.size w w' := by
 have HB := am_ (Below.refl w.heap.size w)
 have H : (if 6 + a0.size ≤ 9223372036854775807 then ((some (([(a1) % 256,(a2) % 256,(a3) % 256] : List Int) : List Int)).bind fun y284 => (if ((⟨#[115,101,99,114,101,116]⟩ : ByteArray) ++ a0).size + (strOfNums y284).size ≤ 9223372036854775807 then (if (((⟨#[115,101,99,114,101,116]⟩ : ByteArray) ++ a0) ++ (strOfNums y284)).size ≤ 140737488355328 then ((spec_l01Hash.f k (bytesOf (((⟨#[115,101,99,114,101,116]⟩ : ByteArray) ++ a0) ++ (strOfNums y284)))).bind fun t290 => (some t290)) else (none)) else (none))) else (none)) = some r := h
 clear h
 by_cases c5 : 6 + a0.size ≤ 9223372036854775807
 ·rw [if_pos c5] at H
  have c5b0 := eq_true c5
  have c5b1 : decide (6 + a0.size ≤ 9223372036854775807) = true := decide_eq_true c5
  try have c5b2 : (9223372036854775807 < 6 + a0.size) = False := eq_false (Nat.not_lt.2 c5)
  obtain ⟨y284,hy284⟩ : ∃ y_ : List Int,y_ = (([(a1) % 256,(a2) % 256,(a3) % 256] : List Int)) := ⟨_,rfl⟩
  replace H : (if ((⟨#[115,101,99,114,101,116]⟩ : ByteArray) ++ a0).size + (strOfNums y284).size ≤ 9223372036854775807 then (if (((⟨#[115,101,99,114,101,116]⟩ : ByteArray) ++ a0) ++ (strOfNums y284)).size ≤ 140737488355328 then ((spec_l01Hash.f k (bytesOf (((⟨#[115,101,99,114,101,116]⟩ : ByteArray) ++ a0) ++ (strOfNums y284)))).bind fun t290 => (some t290)) else (none)) else (none)) = some r := by first | (rw [hy284];with_reducible exact H) | (have H2_ := (Option.bind_some _ _).symm.trans H;rw [hy284];with_reducible exact H2_) | (have H2_ := (Option.bind_some _ _).symm.trans H;with_reducible exact H2_) | with_reducible exact H | (rw [hy284];exact H) | exact H
  have Ny284 := am_ hy284
  clear hy284
  by_cases c6 : ((⟨#[115,101,99,114,101,116]⟩ : ByteArray) ++ a0).size + (strOfNums y284).size ≤ 9223372036854775807
  ·rw [if_pos c6] at H
   have c6b0 := eq_true c6
   have c6b1 : decide (((⟨#[115,101,99,114,101,116]⟩ : ByteArray) ++ a0).size + (strOfNums y284).size ≤ 9223372036854775807) = true := decide_eq_true c6
   try have c6b2 : (9223372036854775807 < ((⟨#[115,101,99,114,101,116]⟩ : ByteArray) ++ a0).size + (strOfNums y284).size) = False := eq_false (Nat.not_lt.2 c6)
   (try have c6b3 := c6b2;simp only [ByteArray.size_append,show (⟨#[115,101,99,114,101,116]⟩ : ByteArray).size = 6 from rfl] at c6b3)
   by_cases c7 : (((⟨#[115,101,99,114,101,116]⟩ : ByteArray) ++ a0) ++ (strOfNums y284)).size ≤ 140737488355328
   ·rw [if_pos c7] at H
    have c7b0 := eq_true c7
    have c7b1 : decide ((((⟨#[115,101,99,114,101,116]⟩ : ByteArray) ++ a0) ++ (strOfNums y284)).size ≤ 140737488355328) = true := decide_eq_true c7
    obtain ⟨y287,hy287⟩ : ∃ y_ : List Int,y_ = (bytesOf (((⟨#[115,101,99,114,101,116]⟩ : ByteArray) ++ a0) ++ (strOfNums y284))) := ⟨_,rfl⟩
    replace H : ((spec_l01Hash.f k y287).bind fun t290 => (some t290)) = some r := by first | (rw [hy287];with_reducible exact H) | (have H2_ := (Option.bind_some _ _).symm.trans H;rw [hy287];with_reducible exact H2_) | (have H2_ := (Option.bind_some _ _).symm.trans H;with_reducible exact H2_) | with_reducible exact H | (rw [hy287];exact H) | exact H
    have Ny287 := am_ hy287
    clear hy287
    replace H := Option.bind_eq_some_iff.mp H
    obtain ⟨t290,A80,H⟩ := H
    try dsimp only at H
    have A8 := am_ A80
    clear A80
    obtain rfl := Option.some.inj H
    go_enter Tryd.func131,Tryd.ntmps131
    go_wp2_with (first | ((with_reducible refine gate_dst (N := 17) rfl ?_);refine Kd.R_lit (Kd.int .u8) _ 5 ?hg (N := 17) ?hd (xs := ([(a1) % 256,(a2) % 256,(a3) % 256] : List Int)) (inner := [.int .u8 ((a1) % 256),.int .u8 ((a2) % 256),.int .u8 ((a3) % 256)]) (ok := fun _ => True) (okp := fun _ => True) ?hr ?hp (fun _ hk => hk) trivial (Below.refl _ _) (Nat.le_refl _) (by simp) ?_;(case hd => rfl);(case hg => rfl);(case hr => first | (go_simp;done) | (go_simp;rfl));(case hp => exact (Reps.one (show Kd.M (Kd.int .u8) _ _ _ ((a1) % 256) [.int .u8 ((a1) % 256)] from rfl) (Reps.one (show Kd.M (Kd.int .u8) _ _ _ ((a2) % 256) [.int .u8 ((a2) % 256)] from rfl) (Reps.one (show Kd.M (Kd.int .u8) _ _ _ ((a3) % 256) [.int .u8 ((a3) % 256)] from rfl) (Reps.none _ _)))));intro v285 w9 ho10 hb hg_ hnew_;clear hg_ hnew_;(first | rw [← Ny284.out] at ho10 | (simp only [Int.reduceToNat] at ho10;rw [← Ny284.out] at ho10));have HO286 := am_ (Kd.R_lower ho10 (below_size (zl_ HB)));replace HB := zs_ HB hb;clear hb ho10;have hcv11 := own_string (P := Tryd.prog) Tryd.underlying46 Tryd.underlying5 Tryd.underlying9 (Kd.own_of_R HO286.out)) | ((with_reducible refine gate_dst (N := 20) rfl ?_);refine Kd.V_conv (Kd.int .u8) rfl _ 5 rfl (N := 20) rfl 9 46 _ rfl (((⟨#[115,101,99,114,101,116]⟩ : ByteArray) ++ a0) ++ (strOfNums y284)) rfl Tryd.underlying9 Tryd.underlying46 Tryd.underlying5 (ok := fun k_ => w9.heap.size ≤ k_) (okp := fun _ => False) (fun _ hk => hk.elim) (Nat.le_refl _) (by have := o1_ (by first | (with_reducible assumption) | assumption : decide ((((⟨#[115,101,99,114,101,116]⟩ : ByteArray) ++ a0) ++ (strOfNums y284)).size ≤ 140737488355328) = true);omega) (Below.refl _ _) (Nat.le_refl _) ?_;intro v288 w12 ho13 hb hg_ hnew_;clear hg_ hnew_;(first | rw [← Ny287.out] at ho13 | (simp only [Int.reduceToNat] at ho13;rw [← Ny287.out] at ho13));have HO289 := am_ (Kd.V_lower (Kd.V_mono (ok' := fun k_ => some k_ ≠ (v285 : Value).ownBlock) ho13 (fun k_ hk_ => (Kd.fresh' (Kd.R_lt (zr HO286)) k_ hk_))) (below_size (zl_ HB)));replace HB := zs_ HB hb;clear hb ho13;obtain ⟨Ao14,co14,eo14⟩ := Kd.V_slice HO289.out;subst eo14) | ((with_reducible refine gate_callee (f := 113) rfl ?_);refine zgl (some 21) Tryd.func113 #[.slice Ao14 y287.length co14] ?_;(with_reducible refine (spec_l01Hash.calls k _ _ y287 t290 _ ?side1 ?side2 A8.out).mono ?_);(case side1 => repeat (first | exact (Kd.V_reads' HO289.out).2.2 | (with_reducible refine Kd.C_alloc ?_ _) | (with_reducible refine Kd.C_drewN ?_ _) | (with_reducible refine Kd.C_drew ?_)));(case side2 => exact (Kd.V_reads' HO289.out).2.1);rintro e w15 ⟨rfl,hb⟩;refine ⟨_,rfl,?_⟩;replace HB := zs_ HB hb;(try clear hb);(try clear hb2);(try clear hk);(try clear hi)))
    go_ret
    exact ⟨zt_,zl_ HB⟩
   ·rw [if_neg c7] at H
    exact absurd H (by simp)
  ·rw [if_neg c6] at H
   exact absurd H (by simp)
 ·rw [if_neg c5] at H
  exact absurd H (by simp)
end Go.Proofs.YtlifdodphkimpaaDoor.A
end

section
namespace Go.Proofs.YtlifdodphkimpaaDoor.A
open Go.RowKit Go.Proofs.YtlifdodphkimpaaDoorW.PrintWords Go.Proofs.YtlifdodphkimpaaDoorW.PrintLast Go.Proofs.YtlifdodphkimpaaDoorW.PrintMore
set_option maxHeartbeats 2000000 in
set_option maxRecDepth 100000 in
theorem key_walk (k : Nat) (a0 : ByteArray) (a1 : Int) (r : ByteArray) (w : World) (h : spec_l03Key.f k a0 a1 = some r) :
    Calls Tryd.prog 116 #[.string a0, .int .i64 a1] w fun e w' => e = .returned (.string r) ∧ Below w.heap.size w w' := by
  have H' : Aside0 (spec_l03Key.l0 k a0 a1 [107, 101, 121] 0 = some r) := Aside0.mk h
  clear h
  go_enter Tryd.func116, Tryd.ntmps116
  go_wp2_with (first | ((with_reducible refine gate_dst (N := 9) rfl ?_); refine convlit_hs 46 5 [107, 101, 121] rfl (.tmp 8) rfl Tryd.underlying46 Tryd.underlying5 rfl rfl (by decide) rfl ?_; intro g cap w1 F0; have F := Aside0.mk F0; clear F0))
  go_loopg [5, 6] k (fun kq v5 v6 w' => ∃ (x5 : List Int) (x6 : Int) (g cap : Nat), v5 = .slice (some ⟨g, 0, none⟩) x5.length cap ∧ v6 = .int .i64 x6 ∧ Aside0 (spec_l03Key.l0 kq a0 a1 x5 x6 = some r) ∧ Aside0 (kq ≤ k) ∧ Aside0 (0 < x5.length ∧ x5.length ≤ 140737488355328) ∧ Aside0 (Hs w w' w.heap.size g cap x5))
  case atStart => exact ⟨_, 0, _, _, rfl, rfl, H', ⟨Nat.le_refl _⟩, ⟨by decide, by decide⟩, F⟩
  case round =>
    clear H' F
    obtain ⟨x5, x6, g1, cap1, rfl, rfl, HA, HK1, HP, F⟩ := hrel
    cases gk with
    | zero => exact absurd HA.out (by simp [spec_l03Key.l0])
    | succ k1 =>
      have H := HA.out
      clear HA
      simp only [spec_l03Key.l0] at H
      by_cases c5 : x6 < 32
      · rw [if_pos c5] at H
        have c5b0 : decide (x6 < 32) = true := decide_eq_true c5
        clear c5
        have H' := Aside0.mk H
        clear H
        go_wp2
        go_loopg [5, 7] k1 (fun kq v5 v7 w' => ∃ (x5 : List Int) (x7 : Int) (g cap : Nat), v5 = .slice (some ⟨g, 0, none⟩) x5.length cap ∧ v7 = .int .i64 x7 ∧ Aside0 (spec_l03Key.l1 kq a0 a1 x5 x6 x7 = some r) ∧ Aside0 (kq ≤ k1) ∧ Aside0 (0 < x5.length ∧ x5.length ≤ 140737488355328) ∧ Aside0 (Hs w w' w.heap.size g cap x5))
        case atStart => exact ⟨_, 0, _, _, rfl, rfl, H', ⟨Nat.le_refl _⟩, HP, F⟩
        case round =>
          clear H' F HP c5b0
          obtain ⟨x5, x7, g2, cap2, rfl, rfl, HA, HK2, HP, F⟩ := hrel
          cases gk with
          | zero => exact absurd HA.out (by simp [spec_l03Key.l1])
          | succ k2 =>
            have H := HA.out
            clear HA
            simp only [spec_l03Key.l1] at H
            by_cases c6 : x7 < 2
            · rw [if_pos c6] at H
              have c6b0 : decide (x7 < 2) = true := decide_eq_true c6
              clear c6
              replace H := Option.bind_eq_some_iff.mp H
              obtain ⟨t, A70, H⟩ := H
              have A7 := Aside0.mk A70
              clear A70
              by_cases c8 : t.size ≤ 140737488355328
              · rw [if_pos c8] at H
                have L8 := Aside0.mk c8
                clear c8
                replace H := Option.bind_eq_some_iff.mp H
                obtain ⟨t2, A90, H⟩ := H
                have A9 := Aside0.mk A90
                clear A90
                by_cases c10 : x5.length + t2.size < 140737488355328
                · rw [if_pos c10] at H
                  have L10 := Aside0.mk c10
                  clear c10
                  have H' := Aside0.mk H
                  clear H
                  go_wp2_with (first | (go_at_call 131; with_reducible refine (spec_l03Secret.calls k2 a0 a1 x6 x7 t _ A7.out).mono ?_; rintro e w4 ⟨rfl, hb4⟩; have F' := Aside0.mk (F.out.on hb4); clear F hb4) | ((with_reducible refine gate_dst (N := 24) rfl ?_); refine conv_hs 5 rfl 9 46 _ rfl t rfl Tryd.underlying9 Tryd.underlying46 Tryd.underlying5 ?_; intro g3 cap3 w5 G0; have G := Aside0.mk G0; clear G0; have F := Aside0.mk (F'.out.on G.out.below); clear F') | (go_at_call 113; refine calls_of_args (args' := #[.slice (some ⟨g3, 0, none⟩) (bytesOf t).length cap3]) (by rw [bytesOf_length]) ?_; with_reducible refine (spec_l01Hash.calls k2 (some ⟨g3, 0, none⟩) cap3 (bytesOf t) t2 _ (bmC G.out.row (by have := L8.out; rw [bytesOf_length]; omega)) G.out.row.room A9.out).mono ?_; rintro e w6 ⟨rfl, hb6⟩; have F' := Aside0.mk (F.out.on hb6); clear hb6 F G) | ((with_reducible refine gate_builtin (b := .append) (xs := #[.tmp 18, .tmp 25]) rfl ?_); at_builtin; refine appendT_hs (l := x5) 46 9 5 rfl (.tmp 18) (.tmp 25) rfl Tryd.underlying46 Tryd.underlying9 info5 t2 rfl rfl HP.out.1 F'.out (by have := L10.out; omega) ?_; clear F'; intro g' cap' w7 F0; have F := Aside0.mk F0; clear F0))
                  go_roundg k2
                  case measure => have := HK1.out; have := HK2.out; omega
                  case rel => exact ⟨x5 ++ bytesOf t2, _, _, _, by rw [List.length_append], rfl, H', ⟨by have := HK1.out; have := HK2.out; omega⟩, ⟨by have := HP.out.1; rw [List.length_append]; omega, by have := L10.out; rw [List.length_append, bytesOf_length]; omega⟩, F⟩
                · rw [if_neg c10] at H
                  exact absurd H (by simp)
              · rw [if_neg c8] at H
                exact absurd H (by simp)
            · rw [if_neg c6] at H
              have c6b0 : decide (x7 < 2) = false := decide_eq_false c6
              clear c6
              have H' := Aside0.mk H
              clear H
              go_wp2
              go_roundg k2
              case measure => have := HK1.out; have := HK2.out; omega
              case rel => exact ⟨_, _, _, _, rfl, rfl, H', ⟨by have := HK1.out; have := HK2.out; omega⟩, HP, F⟩
      · rw [if_neg c5] at H
        have c5b0 : decide (x6 < 32) = false := decide_eq_false c5
        clear c5
        replace H := Option.bind_eq_some_iff.mp H
        obtain ⟨t, A170, H⟩ := H
        have A17 := Aside0.mk A170
        clear A170
        obtain rfl := Option.some.inj H
        go_wp2_with (first | (go_at_call 113; with_reducible refine (spec_l01Hash.calls k1 (some ⟨g1, 0, none⟩) cap1 x5 t _ (bmC F.out.row HP.out.2) F.out.row.room A17.out).mono ?_; rintro e w6 ⟨rfl, hb6⟩; have B := Aside0.mk (Below.trans F.out.below (hb6.mono (by have := F.out.below.size; exact this))); clear hb6 F))
        go_ret
        exact ⟨by first | rfl | (simp; done), B.out⟩
end Go.Proofs.YtlifdodphkimpaaDoor.A
end

section
namespace Go.Proofs.YtlifdodphkimpaaDoor.A
open Go.RowKit Go.Proofs.YtlifdodphkimpaaDoorW.PrintWords Go.Proofs.YtlifdodphkimpaaDoorW.PrintLast Go.Proofs.YtlifdodphkimpaaDoorW.PrintMore
attribute [local go_sem] max2_int min2_int max_two min_two max_three min_three max_four min_four
set_option maxHeartbeats 8000000 in
set_option maxRecDepth 100000 in
theorem spec_l03Key.calls (k : Nat) (a0 : ByteArray) (a1 : Int) (r : ByteArray) (w : World) (h : spec_l03Key.f k a0 a1 = some r) :
  Calls Tryd.prog 116 #[.string a0,.int .i64 a1] w fun e w' => e = .returned (.string r) ∧ Below w.heap.size w w' := key_walk k a0 a1 r w h
set_option maxHeartbeats 8000000 in
set_option maxRecDepth 100000 in
theorem spec_l03Keys.calls (k : Nat) (a0 : ByteArray) (r : List ByteArray) (w : World) (h : spec_l03Keys.f k a0 = some r) :
  Calls Tryd.prog 56 #[.string a0] w fun e w' => ∃ v0_ : Value,e = .returned (v0_) ∧ Kd.R Kd.string 9 w' w.heap.size (fun _ => True) v0_ r ∧ Below w.heap.size w w' := by
 have HB := am_ (Below.refl w.heap.size w)
 have H : (spec_l03Keys.l0 k a0 (([] : List ByteArray)) 0) = some r := h
 clear h
 obtain ⟨y303,hy303⟩ : ∃ y_ : List ByteArray,y_ = (([] : List ByteArray)) := ⟨_,rfl⟩
 replace H : (spec_l03Keys.l0 k a0 y303 0) = some r := by first | (rw [hy303];with_reducible exact H) | (have H2_ := (Option.bind_some _ _).symm.trans H;rw [hy303];with_reducible exact H2_) | (have H2_ := (Option.bind_some _ _).symm.trans H;with_reducible exact H2_) | with_reducible exact H | (rw [hy303];exact H) | exact H
 have Ny303 := am_ hy303
 clear hy303
 have H' := am_ H
 clear H
 go_enter Tryd.func56,Tryd.ntmps56
 go_wp2_with (first | ((with_reducible refine gate_dst (N := 5) rfl ?_);refine Kd.R_lit Kd.string _ 9 ?hg (N := 5) ?hd (xs := ([] : List ByteArray)) (inner := []) (ok := fun _ => True) (okp := fun _ => True) ?hr ?hp (fun _ hk => hk) trivial (Below.refl _ _) (Nat.le_refl _) (by simp) ?_;(case hd => rfl);(case hg => rfl);(case hr => first | (go_simp;done) | (go_simp;rfl));(case hp => exact (Reps.none _ _));intro v304 w2 ho3 hb hg_ hnew_;clear hg_ hnew_;(first | rw [← Ny303.out] at ho3 | (simp only [Int.reduceToNat] at ho3;rw [← Ny303.out] at ho3));have HO305 := am_ (Kd.R_lower ho3 (below_size (zl_ HB)));replace HB := zs_ HB hb;clear hb ho3))
 go_loopg [3,4] k (fun kq v3 v4 w' => ∃ (x3_1 : List ByteArray) (x4_1 : Int),v4 = .int .i64 x4_1 ∧ Aside0 (spec_l03Keys.l0 kq a0 x3_1 x4_1 = some r) ∧ Aside0 (kq ≤ k) ∧ Aside0 (Kd.R Kd.string 9 w' w.heap.size (fun _ => True) v3 x3_1) ∧ Aside0 (Below w.heap.size w w'))
 case atStart => exact ⟨(y303),(0),(by first | rfl | (simp;done) | (simp [*];done)),H',⟨Nat.le_refl _⟩,⟨zr HO305⟩,⟨zl_ HB⟩⟩
 case round =>
  clear H'
  try clear p2
  obtain ⟨x3_1,x4_1,rfl,HA,HK1,HO_3,HB⟩ := hrel
  cases gk with
  | zero => exact absurd HA.out (by simp [spec_l03Keys.l0])
  | succ k1 =>
   have H := HA.out
   clear HA
   simp only [spec_l03Keys.l0] at H
   by_cases c4 : x4_1 < 8
   ·rw [if_pos c4] at H
    have c4b0 : decide (x4_1 < 8) = true := decide_eq_true c4
    clear c4
    replace H := Option.bind_eq_some_iff.mp H
    obtain ⟨t306,A50,H⟩ := H
    try dsimp only at H
    have A5 := am_ A50
    clear A50
    by_cases c6 : x3_1.length < 8796093022208
    ·rw [if_pos c6] at H
     have LMc6 := am_ c6
     clear c6
     obtain ⟨y307,hy307⟩ : ∃ y_ : List ByteArray,y_ = (x3_1 ++ [t306]) := ⟨_,rfl⟩
     replace H : (spec_l03Keys.l0 k1 a0 y307 (wrap64 (x4_1 + 1))) = some r := by first | (rw [hy307];with_reducible exact H) | (have H2_ := (Option.bind_some _ _).symm.trans H;rw [hy307];with_reducible exact H2_) | (have H2_ := (Option.bind_some _ _).symm.trans H;with_reducible exact H2_) | with_reducible exact H | (rw [hy307];exact H) | exact H
     have Ny307 := am_ hy307
     clear hy307
     have H' := am_ H
     clear H
     go_wp2_with (first | ((with_reducible refine gate_callee (f := 116) rfl ?_);refine zgl (some 13) Tryd.func116 #[.string a0,.int .i64 x4_1] ?_;(with_reducible refine (spec_l03Key.calls k1 a0 x4_1 t306 _ A5.out).mono ?_);rintro e w7 ⟨rfl,hb⟩;refine ⟨_,rfl,?_⟩;replace HO_3 := zrb HO_3 hb;replace HB := zs_ HB hb;(try clear hb);(try clear hb2);(try clear hk);(try clear hi)) | ((with_reducible refine gate_builtin (b := .append) (xs := #[.tmp 10,.tmp 14]) rfl ?_);at_builtin;refine Kd.R_append Kd.string (w0 := w) w.heap.size rfl (.tmp 10) (.tmp 14) 50 9 (.string ⟨#[]⟩) 16 rfl Tryd.underlying50 info9 rfl (by decide) (by omega) u3 x3_1 t306 [.string t306] (fun _ => True) (fun _ => False) rfl rfl ?aP (fun _ hk => hk.elim) ?aF ?aO ?aB ?aS ?aL ?_;(case aP => exact rfl);(case aB => exact (zl_ HB));(case aF => exact (fun _ _ => trivial));(case aO => exact (zr HO_3));(case aS => exact (below_size (zl_ HB)));(case aL => have := LMc6.out;omega);intro v308 w8 ho hb hg hat;rw [← Ny307.out] at ho;replace HB := am_ (hb);have HO309 := am_ (ho);clear HO_3;clear ho hb hg hat))
     go_roundg k1
     case measure => have := HK1.out;omega
     case rel => exact ⟨(y307),(wrap64 (x4_1 + 1)),(by first | rfl | (simp;done) | (simp [*];done)),H',⟨by have := HK1.out;omega⟩,⟨zr HO309⟩,⟨zl_ HB⟩⟩
    ·rw [if_neg c6] at H
     exact absurd H (by simp)
   ·rw [if_neg c4] at H
    have c4b0 : decide (x4_1 < 8) = false := decide_eq_false c4
    clear c4
    obtain rfl := Option.some.inj H
    go_wp2
    go_ret
    exact ⟨_,zt_,zr HO_3,zl_ HB⟩
def spec_l03Level.T5 : Bool × List (List Nat × List Nat) := (true,[([],[]),([],[]),([],[]),([1,2],[1,2]),([3],[3]),([],[]),([],[]),([6],[6]),([5,7],[5,7]),([8],[8]),([4,9],[4,9]),([10],[10]),([0,11,10],[0,11]),([12,12,0,1,2,3,4,5,6,7,8,9,10,11,12],[0,12])])
def spec_l03Level.B5 : List Nat := [0,0,0,6,14,0,0,64,224,480,1022,2046,4095,8191]
theorem spec_l03Level.tab5 : rtab .any (opsOf Tryd.f115 5) = spec_l03Level.T5 := by kernel_rfl
theorem spec_l03Level.bits5 : waitsOk spec_l03Level.T5.2 spec_l03Level.B5 = true := by kernel_rfl
set_option maxHeartbeats 8000000 in
set_option maxRecDepth 100000 in
theorem spec_l03Level.calls (k : Nat) (A0 : Option Addr) (c0 : Nat) (l0 : List ByteArray) (r : List ByteArray) (w : World) (hr0 : Kd.C Kd.string w A0 l0.length l0) (hc0 : l0.length ≤ c0) (h : spec_l03Level.f k l0 = some r) :
  Calls Tryd.prog 115 #[.slice A0 l0.length c0] w fun e w' => ∃ v0_ : Value,e = .returned (v0_) ∧ Kd.R Kd.string 9 w' w.heap.size (fun _ => True) v0_ r ∧ Below w.heap.size w w' := by
 have HR0 := am_ hr0
 have HC0 := am_ hc0
 clear hr0 hc0
 have HB := am_ (Below.refl w.heap.size w)
 have H : (spec_l03Level.l0 k l0 (([] : List ByteArray)) 0) = some r := h
 clear h
 obtain ⟨y271,hy271⟩ : ∃ y_ : List ByteArray,y_ = (([] : List ByteArray)) := ⟨_,rfl⟩
 replace H : (spec_l03Level.l0 k l0 y271 0) = some r := by first | (rw [hy271];with_reducible exact H) | (have H2_ := (Option.bind_some _ _).symm.trans H;rw [hy271];with_reducible exact H2_) | (have H2_ := (Option.bind_some _ _).symm.trans H;with_reducible exact H2_) | with_reducible exact H | (rw [hy271];exact H) | exact H
 have Ny271 := am_ hy271
 clear hy271
 have H' := am_ H
 clear H
 go_enter Tryd.func115,Tryd.ntmps115
 go_wp2_with (first | ((with_reducible refine gate_dst (N := 5) rfl ?_);refine Kd.R_lit Kd.string _ 9 ?hg (N := 5) ?hd (xs := ([] : List ByteArray)) (inner := []) (ok := fun _ => True) (okp := fun _ => True) ?hr ?hp (fun _ hk => hk) trivial (Below.refl _ _) (Nat.le_refl _) (by simp) ?_;(case hd => rfl);(case hg => rfl);(case hr => first | (go_simp;done) | (go_simp;rfl));(case hp => exact (Reps.none _ _));intro v272 w2 ho3 hb hg_ hnew_;clear hg_ hnew_;(first | rw [← Ny271.out] at ho3 | (simp only [Int.reduceToNat] at ho3;rw [← Ny271.out] at ho3));have HO273 := am_ (Kd.R_lower ho3 (below_size (zl_ HB)));replace HB := zs_ HB hb;clear hb ho3))
 go_loopg [3,4] k (fun kq v3 v4 w' => ∃ (x3_1 : List ByteArray) (x4_1 : Int),v4 = .int .i64 x4_1 ∧ Aside0 (spec_l03Level.l0 kq l0 x3_1 x4_1 = some r) ∧ Aside0 (kq ≤ k) ∧ Aside0 (Kd.R Kd.string 9 w' w.heap.size (fun _ => True) v3 x3_1) ∧ Aside0 (Below w.heap.size w w'))
 case atStart => exact ⟨(y271),(0),(by first | rfl | (simp;done) | (simp [*];done)),H',⟨Nat.le_refl _⟩,⟨zr HO273⟩,⟨zl_ HB⟩⟩
 case round =>
  clear H'
  try clear c1
  try clear p2
  obtain ⟨x3_1,x4_1,rfl,HA,HK1,HO_3,HB⟩ := hrel
  cases gk with
  | zero => exact absurd HA.out (by simp [spec_l03Level.l0])
  | succ k1 =>
   have H := HA.out
   clear HA
   simp only [spec_l03Level.l0] at H
   by_cases c4 : x4_1 < (l0.length : Int)
   ·rw [if_pos c4] at H
    have c4b0 : decide (x4_1 < (l0.length : Int)) = true := decide_eq_true c4
    clear c4
    by_cases c5 : 0 ≤ x4_1
    ·rw [if_pos c5] at H
     have c5b0 : decide (0 ≤ x4_1) = true := decide_eq_true c5
     clear c5
     obtain ⟨ji6,hji6⟩ : ∃ j_ : Int,(wrap64 (x4_1 + 1)) = j_ := ⟨_,rfl⟩
     replace H : (if 0 ≤ (ji6) then (if (ji6) < (l0.length : Int) then ((spec_l03Node.f k1 (rdOf ByteArray.empty l0 x4_1) (rdOf ByteArray.empty l0 (ji6))).bind fun t276 => (if x3_1.length < 8796093022208 then (spec_l03Level.l0 k1 l0 (x3_1 ++ [t276]) (wrap64 (x4_1 + 2))) else (none))) else (none)) else (none)) = some r := by first | (rw [hji6] at H;exact H) | (simp only [hji6] at H ⊢;exact H)
     have hji6w : (IntKind.i64.wrap (x4_1 + 1)) = ji6 := (i64_w _).trans hji6
     by_cases c7 : 0 ≤ (ji6)
     ·rw [if_pos c7] at H
      have c7b0 : decide (0 ≤ (ji6)) = true := decide_eq_true c7
      clear c7
      by_cases c8 : (ji6) < (l0.length : Int)
      ·rw [if_pos c8] at H
       have c8b0 : decide ((ji6) < (l0.length : Int)) = true := decide_eq_true c8
       clear c8
       replace H := Option.bind_eq_some_iff.mp H
       obtain ⟨t276,A90,H⟩ := H
       try dsimp only at H
       have A9 := am_ A90
       clear A90
       by_cases c10 : x3_1.length < 8796093022208
       ·rw [if_pos c10] at H
        have LMc10 := am_ c10
        clear c10
        obtain ⟨y277,hy277⟩ : ∃ y_ : List ByteArray,y_ = (x3_1 ++ [t276]) := ⟨_,rfl⟩
        replace H : (spec_l03Level.l0 k1 l0 y277 (wrap64 (x4_1 + 2))) = some r := by first | (rw [hy277];with_reducible exact H) | (have H2_ := (Option.bind_some _ _).symm.trans H;rw [hy277];with_reducible exact H2_) | (have H2_ := (Option.bind_some _ _).symm.trans H;with_reducible exact H2_) | with_reducible exact H | (rw [hy277];exact H) | exact H
        have Ny277 := am_ hy277
        clear hy277
        have H' := am_ H
        clear H
        try go_wp2
        replace HO_3 := am_ (Kd.R_drew HO_3.out)
        replace HB := am_ (below_drew1 HB.out)
        have p274 : 0 ≤ (x4_1 : Int) := zo_
        have q274 : x4_1 < (l0.length : Int) := zo_
        obtain ⟨ad274,e274,hx274_0⟩ := Kd.at_string HR0.out x4_1 p274 q274
        have hw274_0 := hx274_0
        cases e274
        replace hx274_0 := zx_ HB hx274_0
        replace p274 := eq_true p274
        replace q274 := eq_true q274
        have p275 : 0 ≤ ((ji6) : Int) := zo_
        have q275 : (ji6) < (l0.length : Int) := zo_
        obtain ⟨ad275,e275,hx275_0⟩ := Kd.at_string HR0.out (ji6) p275 q275
        have hw275_0 := hx275_0
        obtain rfl : ad274 = ad275 := (by injection e275)
        replace hx275_0 := zx_ HB hx275_0
        replace p275 := eq_true p275
        replace q275 := eq_true q275
        refine start_ (n := 14) (S := fun w' => w'.cell? (ad274.add (x4_1).toNat) = some (.string (rdOf ByteArray.empty l0 x4_1)) ∧ w'.cell? (ad274.add ((ji6)).toNat) = some (.string (rdOf ByteArray.empty l0 (ji6)))) (ds := []) #[false,false,false,false,false,false,false,false,false,false,false,false,false,false] (by kernel_rfl) rfl rfl ⟨(zx_ HB hw274_0),(zx_ HB hw275_0)⟩ (fun hHeld => ?_);refine with_tabW spec_l03Level.tab5 spec_l03Level.bits5 (fun HT_ HW_ => ?_)
        generalize wr.drew = w11 at HO_3 HB hx274_0 hx275_0 hHeld ⊢
        refine zpu 0 (N := some 12) HT_ ?_
        refine zpu 1 (N := some 13) HT_ ?_
        refine zpu 2 (N := some 14) HT_ ?_
        refine zpu 3 (N := some 15) HT_ ?_
        refine zpu 5 (N := some 17) HT_ ?_
        refine zpu 6 (N := some 18) HT_ ?_
        refine zpu 7 (N := some 19) HT_ ?_
        refine zpu 8 (N := some 20) HT_ ?_
        refine ztk 4 (N := some 16) HT_ HW_ hHeld ?_
        refine ztk 9 (N := some 21) HT_ HW_ hHeld ?_
        refine zon 10 (N := some 22) HT_ (fun K hK => ?_)
        refine goes_ Tryd.func114 (by kernel_rfl) rfl #[.string (rdOf ByteArray.empty l0 x4_1),.string (rdOf ByteArray.empty l0 (ji6))] (by rfl) rfl rfl (by (try simp only [m1_,m2_,m3_]);first | done | (simp only [hji6];rfl) | rfl | (simp only [d1_,d2_];rfl)) ?_
        with_reducible refine (spec_l03Node.calls k1 (rdOf ByteArray.empty l0 x4_1) (rdOf ByteArray.empty l0 (ji6)) t276 _ A9.out).mono ?_
        rintro e w12 ⟨rfl,hb⟩
        refine ⟨_,rfl,?_⟩
        replace HO_3 := zrb HO_3 hb
        replace HB := zs_ HB hb
        (try clear hb)
        (try clear hb2)
        (try clear hk)
        (try clear hi)
        refine hK.out _ _ ⟨(zx_ HB hw274_0),(zx_ HB hw275_0)⟩ (fun hHeld => ?_)
        clear hK K
        refine norm_ (a' := ?_) ?_ ?_
        rotate_left
        ·show Act.put _ (some 22) _ = _
         simp only [Act.put,p1_,p2_,p3_,i64_w,i32_w]
         rfl
        refine zon 11 (N := some 23) HT_ (fun K hK => ?_)
        refine value_ (w1 := ?_) (v := ?_) (by rfl) rfl ?_ ?_
        rotate_left 2
        ·go_simp
         constructor
         ·rfl
         ·rfl
        refine hK.out _ _ ⟨(World.cell?_alloc_lt _ _ _ (World.block_lt_of_cell? _ _ ((zx_ HB hw274_0)))).trans ((zx_ HB hw274_0)),(World.cell?_alloc_lt _ _ _ (World.block_lt_of_cell? _ _ ((zx_ HB hw275_0)))).trans ((zx_ HB hw275_0))⟩ (fun hHeld => ?_)
        clear hK K
        refine norm_ (a' := ?_) ?_ ?_
        rotate_left
        ·show Act.put _ (some 23) _ = _
         simp only [Act.put,p1_,p2_,p3_,i64_w,i32_w]
         rfl
        refine zon 12 (N := some 24) HT_ (fun K hK => ?_)
        refine Kd.R_append_step Kd.string (w0 := w) w.heap.size (by rfl) (.tmp 12) (.tmp 23) 50 9 (.string ⟨#[]⟩) 16 rfl Tryd.underlying50 info9 rfl (by decide) (by omega) u3 x3_1 t276 [.string t276] (fun _ => True) (fun _ => False) rfl rfl ?aP (fun _ hk => hk.elim) ?aF ?aO ?aB ?aS ?aL ?_
        (case aP => exact rfl)
        (case aB => exact (zl_ HB))
        (case aF => exact (fun _ _ => trivial))
        (case aO => exact (zr HO_3))
        (case aS => exact (below_size (zl_ HB)))
        (case aL => have := LMc10.out;omega)
        intro v278 w13 ho hb hg hat
        rw [← Ny277.out] at ho
        replace HB := am_ (hb)
        have HO279 := am_ (ho)
        clear HO_3
        clear ho hb hg hat
        refine hK.out _ _ ⟨(zx_ HB hw274_0),(zx_ HB hw275_0)⟩ (fun hHeld => ?_)
        clear hK K
        refine norm_ (a' := ?_) ?_ ?_
        rotate_left
        ·show Act.put _ (some 24) _ = _
         simp only [Act.put,p1_,p2_,p3_,i64_w,i32_w]
         rfl
        refine zpu 13 (N := some 3) HT_ ?_
        refine done_ (done_of HT_.out (by kernel_rfl)) ?_
        try go_wp2
        go_roundg k1
        case measure => have := HK1.out;omega
        case rel => exact ⟨(y277),(wrap64 (x4_1 + 2)),(by first | rfl | (simp;done) | (simp [*];done)),H',⟨by have := HK1.out;omega⟩,⟨zr HO279⟩,⟨zl_ HB⟩⟩
       ·rw [if_neg c10] at H
        exact absurd H (by simp)
      ·rw [if_neg c8] at H
       exact absurd H (by simp)
     ·rw [if_neg c7] at H
      exact absurd H (by simp)
    ·rw [if_neg c5] at H
     exact absurd H (by simp)
   ·rw [if_neg c4] at H
    have c4b0 : decide (x4_1 < (l0.length : Int)) = false := decide_eq_false c4
    clear c4
    obtain rfl := Option.some.inj H
    go_wp2
    go_ret
    exact ⟨_,zt_,zr HO_3,zl_ HB⟩
set_option maxHeartbeats 8000000 in
set_option maxRecDepth 100000 in
theorem spec_l03Root.calls (k : Nat) (P0_ : Nat → Prop) (A0 : Option Addr) (c0 : Nat) (l0 : List ByteArray) (r : ByteArray) (w : World) (hs0 : Kd.V Kd.string 9 w w.heap.size (fun k_ => P0_ k_) (.slice A0 l0.length c0) l0) (h : spec_l03Root.f k l0 = some r) :
  Calls Tryd.prog 55 #[.slice A0 l0.length c0] w fun e w' => e = .returned (.string r) ∧ Below w.heap.size w w' := by
 have HO0 := am_ (show Kd.V Kd.string 9 w w.heap.size (fun k_ => (P0_ k_ ∨ w.heap.size ≤ k_)) (.slice A0 l0.length c0) l0 from Kd.V_mono hs0 (fun k_ hk => .inl hk))
 have HB := am_ (Below.refl w.heap.size w)
 have H : (spec_l03Root.l0 k l0) = some r := h
 clear h
 have H' := am_ H
 clear H
 go_enter Tryd.func55,Tryd.ntmps55
 go_wp2
 go_loopg [0] k (fun kq v0 w' => ∃ (x0_1 : List ByteArray),Aside0 (spec_l03Root.l0 kq x0_1 = some r) ∧ Aside0 (kq ≤ k) ∧ Aside0 (Kd.V Kd.string 9 w' w.heap.size (fun k_ => (P0_ k_ ∨ w.heap.size ≤ k_)) v0 x0_1) ∧ Aside0 (Below w.heap.size w w'))
 case atStart => exact ⟨(l0),H',⟨Nat.le_refl _⟩,⟨by (with_reducible repeat (first | apply Kd.V_alloc | apply Kd.V_drewN | apply Kd.V_drew));exact HO0.out⟩,⟨zl_ HB⟩⟩
 case round =>
  clear H'
  obtain ⟨x0_1,HA,HK1,HO_0,HB⟩ := hrel
  cases gk with
  | zero => exact absurd HA.out (by simp [spec_l03Root.l0])
  | succ k1 =>
   have H := HA.out
   clear HA
   simp only [spec_l03Root.l0] at H
   by_cases c2 : (x0_1.length : Int) > 1
   ·rw [if_pos c2] at H
    have c2b0 : decide (1 < (x0_1.length : Int)) = true := decide_eq_true c2
    have c2b1 : decide (1 < x0_1.length) = true := decide_eq_true (by omega)
    clear c2
    replace H := Option.bind_eq_some_iff.mp H
    obtain ⟨t280,A30,H⟩ := H
    try dsimp only at H
    have A3 := am_ A30
    clear A30
    have H' := am_ H
    clear H
    obtain ⟨Ao4,co4,eo4⟩ := Kd.V_slice HO_0.out
    subst eo4
    go_wp2_with (first | ((with_reducible refine gate_callee (f := 115) rfl ?_);refine zgl (some 7) Tryd.func115 #[.slice Ao4 x0_1.length co4] ?_;(with_reducible refine (spec_l03Level.calls k1 _ _ x0_1 t280 _ ?side1 ?side2 A3.out).mono ?_);(case side1 => repeat (first | exact (Kd.V_reads' HO_0.out).2.2 | (with_reducible refine Kd.C_alloc ?_ _) | (with_reducible refine Kd.C_drewN ?_ _) | (with_reducible refine Kd.C_drew ?_)));(case side2 => exact (Kd.V_reads' HO_0.out).2.1);rintro e w5 ⟨v281,rfl,ho0,hb⟩;refine ⟨_,rfl,?_⟩;replace HO_0 := am_ (Kd.V_elder' (by (with_reducible repeat (first | apply Kd.V_alloc | apply Kd.V_drewN | apply Kd.V_drew));exact HO_0.out) (Kd.R_base ho0) hb);have HO282 := am_ (Kd.R_lower (Kd.R_newM (M := fun k_ => (w.heap.size ≤ k_)) ho0 (below_size (zl_ HB)) (fun k_ h_ => h_)) (below_size (zl_ HB)));replace HB := zs_ HB hb;(try clear hb);(try clear hb2);(try clear hk);(try clear hi);(try clear ho0)))
    go_roundg k1
    case measure => have := HK1.out;omega
    case rel => exact ⟨(t280),H',⟨by have := HK1.out;omega⟩,⟨Kd.V_mono (Kd.R_V (by (with_reducible repeat (first | apply r1_ | apply r2_ | apply r3_));exact Kd.R_mono HO282.out (fun _ hk => hk.1))) (fun k_ hk => by first | exact ⟨(.inr (hk.1)),hk.2⟩ | exact (.inr (hk)))⟩,⟨zl_ HB⟩⟩
   ·rw [if_neg c2] at H
    have c2b0 : decide (1 < (x0_1.length : Int)) = false := decide_eq_false c2
    have c2b1 : decide (1 < x0_1.length) = false := decide_eq_false (by omega)
    clear c2
    by_cases c6 : 0 < (x0_1.length : Int)
    ·rw [if_pos c6] at H
     have c6b0 : decide (0 < (x0_1.length : Int)) = true := decide_eq_true c6
     have c6b1 : decide (0 < x0_1.length) = true := decide_eq_true (by omega)
     clear c6
     obtain rfl := Option.some.inj H
     obtain ⟨Ao7,co7,eo7⟩ := Kd.V_slice HO_0.out
     subst eo7
     have p283 : 0 ≤ (0 : Int) := (by omega)
     have q283 : 0 < (x0_1.length : Int) := zo_
     obtain ⟨ad283,e283,hx283_0⟩ := Kd.at_string (Kd.V_reads' HO_0.out).2.2 0 p283 q283
     cases e283
     have qi283 : (0 < x0_1.length) = True := eq_true (by omega)
     (try rw [show ((0 : Int)).toNat = 0 from rfl] at hx283_0)
     (try rw [Addr.add_zero'] at hx283_0)
     replace p283 := eq_true p283
     replace q283 := eq_true q283
     go_wp2
     go_ret
     exact ⟨zt_,zl_ HB⟩
    ·rw [if_neg c6] at H
     exact absurd H (by simp)
set_option maxHeartbeats 8000000 in
set_option maxRecDepth 100000 in
theorem spec_l04Nodes.calls (a0 : Int) (r : Bool) (w : World) (h : spec_l04Nodes.f a0 = some r) :
  Calls Tryd.prog 52 #[.int .i64 a0] w fun e w' => e = .returned (.bool r) ∧ Drawn0 w w' := by
 have H : (if a0 = 1 then (some true) else (if a0 = 4 then (some true) else (some (a0 == 7)))) = some r := h
 clear h
 by_cases c2 : a0 = 1
 ·rw [if_pos c2] at H
  have c2b0 : (a0 == 1) = true := beq_iff_eq.mpr c2
  have c2b1 : (a0 != 1) = false := bne_eq_false_iff_eq.mpr c2
  clear c2
  obtain rfl := Option.some.inj H
  go_enter Tryd.func52,Tryd.ntmps52
  go_wp2
  go_ret
  exact ⟨by first | rfl | (simp;done) | (simp [*];done),by repeat (first | exact Drawn0.refl _ | apply Drawn0.step)⟩
 ·rw [if_neg c2] at H
  have c2b0 : (a0 == 1) = false := beq_eq_false_iff_ne.mpr c2
  have c2b1 : (a0 != 1) = true := bne_iff_ne.mpr c2
  by_cases c3 : a0 = 4
  ·rw [if_pos c3] at H
   have c3b0 : (a0 == 4) = true := beq_iff_eq.mpr c3
   have c3b1 : (a0 != 4) = false := bne_eq_false_iff_eq.mpr c3
   clear c3
   obtain rfl := Option.some.inj H
   go_enter Tryd.func52,Tryd.ntmps52
   go_wp2
   go_ret
   exact ⟨by first | rfl | (simp;done) | (simp [*];done),by repeat (first | exact Drawn0.refl _ | apply Drawn0.step)⟩
  ·rw [if_neg c3] at H
   have c3b0 : (a0 == 4) = false := beq_eq_false_iff_ne.mpr c3
   have c3b1 : (a0 != 4) = true := bne_iff_ne.mpr c3
   obtain rfl := Option.some.inj H
   go_enter Tryd.func52,Tryd.ntmps52
   go_wp2
   go_ret
   exact ⟨by first | rfl | (simp;done) | (simp [*];done),by repeat (first | exact Drawn0.refl _ | apply Drawn0.step)⟩
set_option maxHeartbeats 8000000 in
set_option maxRecDepth 100000 in
theorem spec_l12From.calls (k : Nat) (a0 : Int) (A1 : Option Addr) (c1 : Nat) (l1 : List Int) (r : Bool) (w : World) (hr1 : Kd.C (Kd.int .i64) w A1 l1.length l1) (hc1 : l1.length ≤ c1) (h : spec_l12From.f k a0 l1 = some r) :
  Calls Tryd.prog 53 #[.int .i64 a0,.slice A1 l1.length c1] w fun e w' => e = .returned (.bool r) ∧ Drawn0 w w' := by
 have HR1 := am_ hr1
 have HC1 := am_ hc1
 clear hr1 hc1
 have H : (if (l1.length : Int) = (wrap64 ((wrap64 (Int.tdiv (wrap64 (a0 - 1)) 3)) + 1)) then (spec_l12From.l0 k a0 l1 0) else (some false)) = some r := h
 clear h
 by_cases c3 : (l1.length : Int) = (wrap64 ((wrap64 (Int.tdiv (wrap64 (a0 - 1)) 3)) + 1))
 ·rw [if_pos c3] at H
  have c3b0 : ((l1.length : Int) == (wrap64 ((wrap64 (Int.tdiv (wrap64 (a0 - 1)) 3)) + 1))) = true := beq_iff_eq.mpr c3
  have c3b1 : ((l1.length : Int) != (wrap64 ((wrap64 (Int.tdiv (wrap64 (a0 - 1)) 3)) + 1))) = false := bne_eq_false_iff_eq.mpr c3
  clear c3
  have H' := am_ H
  clear H
  go_enter Tryd.func53,Tryd.ntmps53
  go_wp2
  repeat (go_quiet (fail);try go_wp2)
  go_loopg [5] k (fun kq v5 w' => ∃ (x5_1 : Int),v5 = .int .i64 x5_1 ∧ Aside0 (spec_l12From.l0 kq a0 l1 x5_1 = some r) ∧ Aside0 (kq ≤ k) ∧ Drawn0 w w')
  case atStart => exact ⟨(0),(by first | rfl | (simp;done) | (simp [*];done)),H',⟨Nat.le_refl _⟩,by repeat (first | exact Drawn0.refl _ | apply Drawn0.step)⟩
  case round =>
   clear H'
   try clear c1
   try clear p2
   try clear c3
   try clear c3b0
   try clear c3b1
   obtain ⟨x5_1,rfl,HA,HK1,⟨m1,rfl⟩⟩ := hrel
   cases gk with
   | zero => exact absurd HA.out (by simp [spec_l12From.l0])
   | succ k1 =>
    have H := HA.out
    clear HA
    simp only [spec_l12From.l0] at H
    by_cases c4 : x5_1 < (l1.length : Int)
    ·rw [if_pos c4] at H
     have c4b0 : decide (x5_1 < (l1.length : Int)) = true := decide_eq_true c4
     clear c4
     by_cases c5 : 0 ≤ x5_1
     ·rw [if_pos c5] at H
      have c5b0 : decide (0 ≤ x5_1) = true := decide_eq_true c5
      clear c5
      replace H := Option.bind_eq_some_iff.mp H
      obtain ⟨t125,A60,H⟩ := H
      try dsimp only at H
      have A6 := am_ A60
      clear A60
      by_cases c7 : t125 = true
      ·subst c7
       have H1 : (if x5_1 > 0 then (if 0 ≤ (wrap64 (x5_1 - 1)) then (if (wrap64 (x5_1 - 1)) < (l1.length : Int) then (if (rd l1 (wrap64 (x5_1 - 1))) ≥ (rd l1 x5_1) then (some false) else (spec_l12From.l0 k1 a0 l1 (wrap64 (x5_1 + 1)))) else (none)) else (none)) else (spec_l12From.l0 k1 a0 l1 (wrap64 (x5_1 + 1)))) = some r := by rw [if_pos rfl] at H;exact H
       clear H
       have H := H1
       clear H1
       by_cases c8 : x5_1 > 0
       ·rw [if_pos c8] at H
        have c8b0 : decide (0 < x5_1) = true := decide_eq_true c8
        clear c8
        obtain ⟨ji9,hji9⟩ : ∃ j_ : Int,(wrap64 (x5_1 - 1)) = j_ := ⟨_,rfl⟩
        replace H : (if 0 ≤ (ji9) then (if (ji9) < (l1.length : Int) then (if (rd l1 (ji9)) ≥ (rd l1 x5_1) then (some false) else (spec_l12From.l0 k1 a0 l1 (wrap64 (x5_1 + 1)))) else (none)) else (none)) = some r := by first | (rw [hji9] at H;exact H) | (simp only [hji9] at H ⊢;exact H)
        (try rw [hji9] at A6)
        have hji9w : (IntKind.i64.wrap (x5_1 - 1)) = ji9 := (i64_w _).trans hji9
        by_cases c10 : 0 ≤ (ji9)
        ·rw [if_pos c10] at H
         have c10b0 : decide (0 ≤ (ji9)) = true := decide_eq_true c10
         clear c10
         by_cases c11 : (ji9) < (l1.length : Int)
         ·rw [if_pos c11] at H
          have c11b0 : decide ((ji9) < (l1.length : Int)) = true := decide_eq_true c11
          clear c11
          by_cases c12 : (rd l1 (ji9)) ≥ (rd l1 x5_1)
          ·rw [if_pos c12] at H
           have c12b0 : decide ((rd l1 x5_1) ≤ (rd l1 (ji9))) = true := decide_eq_true c12
           clear c12
           obtain rfl := Option.some.inj H
           have p124 : 0 ≤ (x5_1 : Int) := zo_
           have q124 : x5_1 < (l1.length : Int) := zo_
           obtain ⟨ad124,e124,hx124_0⟩ := Kd.at_int HR1.out x5_1 p124 q124
           cases e124
           replace p124 := eq_true p124
           replace q124 := eq_true q124
           have p126 : 0 ≤ ((ji9) : Int) := zo_
           have q126 : (ji9) < (l1.length : Int) := zo_
           obtain ⟨ad126,e126,hx126_0⟩ := Kd.at_int HR1.out (ji9) p126 q126
           obtain rfl : ad124 = ad126 := (by injection e126)
           replace p126 := eq_true p126
           replace q126 := eq_true q126
           have p127 : 0 ≤ (x5_1 : Int) := zo_
           have q127 : x5_1 < (l1.length : Int) := zo_
           obtain ⟨ad127,e127,hx127_0⟩ := Kd.at_int HR1.out x5_1 p127 q127
           obtain rfl : ad124 = ad127 := (by injection e127)
           replace p127 := eq_true p127
           replace q127 := eq_true q127
           go_wp2_with (first | (go_at_call 69;(with_reducible refine (spec_l01In.calls (rd l1 x5_1) 0 (wrap64 (a0 - 1)) true _ A6.out).mono ?_);rintro e w' ⟨rfl,⟨nd,rfl⟩⟩;(try first | exact ⟨rfl,_,World.drewN_drewN _ _ _⟩ | exact ⟨rfl,_,Eq.trans (World.drewN_drewN _ _ _) (congrArg (World.drewN _) (Nat.add_assoc _ _ _))⟩)))
           repeat (go_quiet (first | (go_at_call 69;(with_reducible refine (spec_l01In.calls (rd l1 x5_1) 0 (wrap64 (a0 - 1)) true _ A6.out).mono ?_);rintro e w' ⟨rfl,⟨nd,rfl⟩⟩;(try first | exact ⟨rfl,_,World.drewN_drewN _ _ _⟩ | exact ⟨rfl,_,Eq.trans (World.drewN_drewN _ _ _) (congrArg (World.drewN _) (Nat.add_assoc _ _ _))⟩)));try go_wp2_with (first | (go_at_call 69;(with_reducible refine (spec_l01In.calls (rd l1 x5_1) 0 (wrap64 (a0 - 1)) true _ A6.out).mono ?_);rintro e w' ⟨rfl,⟨nd,rfl⟩⟩;(try first | exact ⟨rfl,_,World.drewN_drewN _ _ _⟩ | exact ⟨rfl,_,Eq.trans (World.drewN_drewN _ _ _) (congrArg (World.drewN _) (Nat.add_assoc _ _ _))⟩))))
           go_ret
           exact ⟨by first | rfl | (simp;done) | (simp only [← hji9] <;> (first | rfl | simp)) | (simp [*];done),by repeat (first | exact Drawn0.refl _ | apply Drawn0.step)⟩
          ·rw [if_neg c12] at H
           have c12b0 : decide ((rd l1 x5_1) ≤ (rd l1 (ji9))) = false := decide_eq_false c12
           clear c12
           have H' := am_ H
           clear H
           have p124 : 0 ≤ (x5_1 : Int) := zo_
           have q124 : x5_1 < (l1.length : Int) := zo_
           obtain ⟨ad124,e124,hx124_0⟩ := Kd.at_int HR1.out x5_1 p124 q124
           cases e124
           replace p124 := eq_true p124
           replace q124 := eq_true q124
           have p126 : 0 ≤ ((ji9) : Int) := zo_
           have q126 : (ji9) < (l1.length : Int) := zo_
           obtain ⟨ad126,e126,hx126_0⟩ := Kd.at_int HR1.out (ji9) p126 q126
           obtain rfl : ad124 = ad126 := (by injection e126)
           replace p126 := eq_true p126
           replace q126 := eq_true q126
           have p127 : 0 ≤ (x5_1 : Int) := zo_
           have q127 : x5_1 < (l1.length : Int) := zo_
           obtain ⟨ad127,e127,hx127_0⟩ := Kd.at_int HR1.out x5_1 p127 q127
           obtain rfl : ad124 = ad127 := (by injection e127)
           replace p127 := eq_true p127
           replace q127 := eq_true q127
           go_wp2_with (first | (go_at_call 69;(with_reducible refine (spec_l01In.calls (rd l1 x5_1) 0 (wrap64 (a0 - 1)) true _ A6.out).mono ?_);rintro e w' ⟨rfl,⟨nd,rfl⟩⟩;(try first | exact ⟨rfl,_,World.drewN_drewN _ _ _⟩ | exact ⟨rfl,_,Eq.trans (World.drewN_drewN _ _ _) (congrArg (World.drewN _) (Nat.add_assoc _ _ _))⟩)))
           repeat (go_quiet (first | (go_at_call 69;(with_reducible refine (spec_l01In.calls (rd l1 x5_1) 0 (wrap64 (a0 - 1)) true _ A6.out).mono ?_);rintro e w' ⟨rfl,⟨nd,rfl⟩⟩;(try first | exact ⟨rfl,_,World.drewN_drewN _ _ _⟩ | exact ⟨rfl,_,Eq.trans (World.drewN_drewN _ _ _) (congrArg (World.drewN _) (Nat.add_assoc _ _ _))⟩)));try go_wp2_with (first | (go_at_call 69;(with_reducible refine (spec_l01In.calls (rd l1 x5_1) 0 (wrap64 (a0 - 1)) true _ A6.out).mono ?_);rintro e w' ⟨rfl,⟨nd,rfl⟩⟩;(try first | exact ⟨rfl,_,World.drewN_drewN _ _ _⟩ | exact ⟨rfl,_,Eq.trans (World.drewN_drewN _ _ _) (congrArg (World.drewN _) (Nat.add_assoc _ _ _))⟩))))
           go_roundg k1
           case measure => have := HK1.out;omega
           case rel => exact ⟨(wrap64 (x5_1 + 1)),(by first | rfl | (simp;done) | (simp [*];done)),H',⟨by have := HK1.out;omega⟩,by repeat (first | exact Drawn0.refl _ | apply Drawn0.step)⟩
         ·rw [if_neg c11] at H
          exact absurd H (by simp)
        ·rw [if_neg c10] at H
         exact absurd H (by simp)
       ·rw [if_neg c8] at H
        have c8b0 : decide (0 < x5_1) = false := decide_eq_false c8
        clear c8
        have H' := am_ H
        clear H
        have p124 : 0 ≤ (x5_1 : Int) := zo_
        have q124 : x5_1 < (l1.length : Int) := zo_
        obtain ⟨ad124,e124,hx124_0⟩ := Kd.at_int HR1.out x5_1 p124 q124
        cases e124
        replace p124 := eq_true p124
        replace q124 := eq_true q124
        go_wp2_with (first | (go_at_call 69;(with_reducible refine (spec_l01In.calls (rd l1 x5_1) 0 (wrap64 (a0 - 1)) true _ A6.out).mono ?_);rintro e w' ⟨rfl,⟨nd,rfl⟩⟩;(try first | exact ⟨rfl,_,World.drewN_drewN _ _ _⟩ | exact ⟨rfl,_,Eq.trans (World.drewN_drewN _ _ _) (congrArg (World.drewN _) (Nat.add_assoc _ _ _))⟩)))
        repeat (go_quiet (first | (go_at_call 69;(with_reducible refine (spec_l01In.calls (rd l1 x5_1) 0 (wrap64 (a0 - 1)) true _ A6.out).mono ?_);rintro e w' ⟨rfl,⟨nd,rfl⟩⟩;(try first | exact ⟨rfl,_,World.drewN_drewN _ _ _⟩ | exact ⟨rfl,_,Eq.trans (World.drewN_drewN _ _ _) (congrArg (World.drewN _) (Nat.add_assoc _ _ _))⟩)));try go_wp2_with (first | (go_at_call 69;(with_reducible refine (spec_l01In.calls (rd l1 x5_1) 0 (wrap64 (a0 - 1)) true _ A6.out).mono ?_);rintro e w' ⟨rfl,⟨nd,rfl⟩⟩;(try first | exact ⟨rfl,_,World.drewN_drewN _ _ _⟩ | exact ⟨rfl,_,Eq.trans (World.drewN_drewN _ _ _) (congrArg (World.drewN _) (Nat.add_assoc _ _ _))⟩))))
        go_roundg k1
        case measure => have := HK1.out;omega
        case rel => exact ⟨(wrap64 (x5_1 + 1)),(by first | rfl | (simp;done) | (simp [*];done)),H',⟨by have := HK1.out;omega⟩,by repeat (first | exact Drawn0.refl _ | apply Drawn0.step)⟩
      ·replace c7 := Bool.eq_false_iff.mpr c7
       subst c7
       have H1 : (some false) = some r := by rw [if_neg (show ¬ (false = true) by decide)] at H;exact H
       clear H
       have H := H1
       clear H1
       obtain rfl := Option.some.inj H
       have p124 : 0 ≤ (x5_1 : Int) := zo_
       have q124 : x5_1 < (l1.length : Int) := zo_
       obtain ⟨ad124,e124,hx124_0⟩ := Kd.at_int HR1.out x5_1 p124 q124
       cases e124
       replace p124 := eq_true p124
       replace q124 := eq_true q124
       go_wp2_with (first | (go_at_call 69;(with_reducible refine (spec_l01In.calls (rd l1 x5_1) 0 (wrap64 (a0 - 1)) false _ A6.out).mono ?_);rintro e w' ⟨rfl,⟨nd,rfl⟩⟩;(try first | exact ⟨rfl,_,World.drewN_drewN _ _ _⟩ | exact ⟨rfl,_,Eq.trans (World.drewN_drewN _ _ _) (congrArg (World.drewN _) (Nat.add_assoc _ _ _))⟩)))
       repeat (go_quiet (first | (go_at_call 69;(with_reducible refine (spec_l01In.calls (rd l1 x5_1) 0 (wrap64 (a0 - 1)) false _ A6.out).mono ?_);rintro e w' ⟨rfl,⟨nd,rfl⟩⟩;(try first | exact ⟨rfl,_,World.drewN_drewN _ _ _⟩ | exact ⟨rfl,_,Eq.trans (World.drewN_drewN _ _ _) (congrArg (World.drewN _) (Nat.add_assoc _ _ _))⟩)));try go_wp2_with (first | (go_at_call 69;(with_reducible refine (spec_l01In.calls (rd l1 x5_1) 0 (wrap64 (a0 - 1)) false _ A6.out).mono ?_);rintro e w' ⟨rfl,⟨nd,rfl⟩⟩;(try first | exact ⟨rfl,_,World.drewN_drewN _ _ _⟩ | exact ⟨rfl,_,Eq.trans (World.drewN_drewN _ _ _) (congrArg (World.drewN _) (Nat.add_assoc _ _ _))⟩))))
       go_ret
       exact ⟨by first | rfl | (simp;done) | (simp [*];done),by repeat (first | exact Drawn0.refl _ | apply Drawn0.step)⟩
     ·rw [if_neg c5] at H
      exact absurd H (by simp)
    ·rw [if_neg c4] at H
     have c4b0 : decide (x5_1 < (l1.length : Int)) = false := decide_eq_false c4
     clear c4
     obtain rfl := Option.some.inj H
     go_wp2
     repeat (go_quiet (fail);try go_wp2)
     go_ret
     exact ⟨by first | rfl | (simp;done) | (simp [*];done),by repeat (first | exact Drawn0.refl _ | apply Drawn0.step)⟩
 ·rw [if_neg c3] at H
  have c3b0 : ((l1.length : Int) == (wrap64 ((wrap64 (Int.tdiv (wrap64 (a0 - 1)) 3)) + 1))) = false := beq_eq_false_iff_ne.mpr c3
  have c3b1 : ((l1.length : Int) != (wrap64 ((wrap64 (Int.tdiv (wrap64 (a0 - 1)) 3)) + 1))) = true := bne_iff_ne.mpr c3
  obtain rfl := Option.some.inj H
  go_enter Tryd.func53,Tryd.ntmps53
  go_wp2
  repeat (go_quiet (fail);try go_wp2)
  go_ret
  exact ⟨by first | rfl | (simp;done) | (simp [*];done),by repeat (first | exact Drawn0.refl _ | apply Drawn0.step)⟩
set_option maxHeartbeats 8000000 in
set_option maxRecDepth 100000 in
theorem spec_l12Seed.calls (k : Nat) (a0 : Int) (r : ByteArray) (w : World) (h : spec_l12Seed.f k a0 = some r) :
  Calls Tryd.prog 57 #[.int .i64 a0] w fun e w' => e = .returned (.string r) ∧ Below w.heap.size w w' := by
 have HB := am_ (Below.refl w.heap.size w)
 have H : ((some (([(a0) % 256] : List Int) : List Int)).bind fun y310 => (if 9 + (strOfNums y310).size ≤ 9223372036854775807 then (if ((⟨#[110,111,100,101,32,115,101,101,100]⟩ : ByteArray) ++ (strOfNums y310)).size ≤ 140737488355328 then ((spec_l01Hash.f k (bytesOf ((⟨#[110,111,100,101,32,115,101,101,100]⟩ : ByteArray) ++ (strOfNums y310)))).bind fun t316 => (some t316)) else (none)) else (none))) = some r := h
 clear h
 obtain ⟨y310,hy310⟩ : ∃ y_ : List Int,y_ = (([(a0) % 256] : List Int)) := ⟨_,rfl⟩
 replace H : (if 9 + (strOfNums y310).size ≤ 9223372036854775807 then (if ((⟨#[110,111,100,101,32,115,101,101,100]⟩ : ByteArray) ++ (strOfNums y310)).size ≤ 140737488355328 then ((spec_l01Hash.f k (bytesOf ((⟨#[110,111,100,101,32,115,101,101,100]⟩ : ByteArray) ++ (strOfNums y310)))).bind fun t316 => (some t316)) else (none)) else (none)) = some r := by first | (rw [hy310];with_reducible exact H) | (have H2_ := (Option.bind_some _ _).symm.trans H;rw [hy310];with_reducible exact H2_) | (have H2_ := (Option.bind_some _ _).symm.trans H;with_reducible exact H2_) | with_reducible exact H | (rw [hy310];exact H) | exact H
 have Ny310 := am_ hy310
 clear hy310
 by_cases c2 : 9 + (strOfNums y310).size ≤ 9223372036854775807
 ·rw [if_pos c2] at H
  have c2b0 := eq_true c2
  have c2b1 : decide (9 + (strOfNums y310).size ≤ 9223372036854775807) = true := decide_eq_true c2
  try have c2b2 : (9223372036854775807 < 9 + (strOfNums y310).size) = False := eq_false (Nat.not_lt.2 c2)
  by_cases c3 : ((⟨#[110,111,100,101,32,115,101,101,100]⟩ : ByteArray) ++ (strOfNums y310)).size ≤ 140737488355328
  ·rw [if_pos c3] at H
   have c3b0 := eq_true c3
   have c3b1 : decide (((⟨#[110,111,100,101,32,115,101,101,100]⟩ : ByteArray) ++ (strOfNums y310)).size ≤ 140737488355328) = true := decide_eq_true c3
   obtain ⟨y313,hy313⟩ : ∃ y_ : List Int,y_ = (bytesOf ((⟨#[110,111,100,101,32,115,101,101,100]⟩ : ByteArray) ++ (strOfNums y310))) := ⟨_,rfl⟩
   replace H : ((spec_l01Hash.f k y313).bind fun t316 => (some t316)) = some r := by first | (rw [hy313];with_reducible exact H) | (have H2_ := (Option.bind_some _ _).symm.trans H;rw [hy313];with_reducible exact H2_) | (have H2_ := (Option.bind_some _ _).symm.trans H;with_reducible exact H2_) | with_reducible exact H | (rw [hy313];exact H) | exact H
   have Ny313 := am_ hy313
   clear hy313
   replace H := Option.bind_eq_some_iff.mp H
   obtain ⟨t316,A40,H⟩ := H
   try dsimp only at H
   have A4 := am_ A40
   clear A40
   obtain rfl := Option.some.inj H
   go_enter Tryd.func57,Tryd.ntmps57
   go_wp2_with (first | ((with_reducible refine gate_dst (N := 5) rfl ?_);refine Kd.R_lit (Kd.int .u8) _ 5 ?hg (N := 5) ?hd (xs := ([(a0) % 256] : List Int)) (inner := [.int .u8 ((a0) % 256)]) (ok := fun _ => True) (okp := fun _ => True) ?hr ?hp (fun _ hk => hk) trivial (Below.refl _ _) (Nat.le_refl _) (by simp) ?_;(case hd => rfl);(case hg => rfl);(case hr => first | (go_simp;done) | (go_simp;rfl));(case hp => exact (Reps.one (show Kd.M (Kd.int .u8) _ _ _ ((a0) % 256) [.int .u8 ((a0) % 256)] from rfl) (Reps.none _ _)));intro v311 w5 ho6 hb hg_ hnew_;clear hg_ hnew_;(first | rw [← Ny310.out] at ho6 | (simp only [Int.reduceToNat] at ho6;rw [← Ny310.out] at ho6));have HO312 := am_ (Kd.R_lower ho6 (below_size (zl_ HB)));replace HB := zs_ HB hb;clear hb ho6;have hcv7 := own_string (P := Tryd.prog) Tryd.underlying46 Tryd.underlying5 Tryd.underlying9 (Kd.own_of_R HO312.out)) | ((with_reducible refine gate_dst (N := 8) rfl ?_);refine Kd.V_conv (Kd.int .u8) rfl _ 5 rfl (N := 8) rfl 9 46 _ rfl ((⟨#[110,111,100,101,32,115,101,101,100]⟩ : ByteArray) ++ (strOfNums y310)) rfl Tryd.underlying9 Tryd.underlying46 Tryd.underlying5 (ok := fun k_ => w5.heap.size ≤ k_) (okp := fun _ => False) (fun _ hk => hk.elim) (Nat.le_refl _) (by have := o1_ (by first | (with_reducible assumption) | assumption : decide (((⟨#[110,111,100,101,32,115,101,101,100]⟩ : ByteArray) ++ (strOfNums y310)).size ≤ 140737488355328) = true);omega) (Below.refl _ _) (Nat.le_refl _) ?_;intro v314 w8 ho9 hb hg_ hnew_;clear hg_ hnew_;(first | rw [← Ny313.out] at ho9 | (simp only [Int.reduceToNat] at ho9;rw [← Ny313.out] at ho9));have HO315 := am_ (Kd.V_lower (Kd.V_mono (ok' := fun k_ => some k_ ≠ (v311 : Value).ownBlock) ho9 (fun k_ hk_ => (Kd.fresh' (Kd.R_lt (zr HO312)) k_ hk_))) (below_size (zl_ HB)));replace HB := zs_ HB hb;clear hb ho9;obtain ⟨Ao10,co10,eo10⟩ := Kd.V_slice HO315.out;subst eo10) | ((with_reducible refine gate_callee (f := 113) rfl ?_);refine zgl (some 9) Tryd.func113 #[.slice Ao10 y313.length co10] ?_;(with_reducible refine (spec_l01Hash.calls k _ _ y313 t316 _ ?side1 ?side2 A4.out).mono ?_);(case side1 => repeat (first | exact (Kd.V_reads' HO315.out).2.2 | (with_reducible refine Kd.C_alloc ?_ _) | (with_reducible refine Kd.C_drewN ?_ _) | (with_reducible refine Kd.C_drew ?_)));(case side2 => exact (Kd.V_reads' HO315.out).2.1);rintro e w11 ⟨rfl,hb⟩;refine ⟨_,rfl,?_⟩;replace HB := zs_ HB hb;(try clear hb);(try clear hb2);(try clear hk);(try clear hi)))
   go_ret
   exact ⟨zt_,zl_ HB⟩
  ·rw [if_neg c3] at H
   exact absurd H (by simp)
 ·rw [if_neg c2] at H
  exact absurd H (by simp)
def spec_l00Digits.T7 : Bool × List (List Nat × List Nat) := (true,[([],[]),([0],[0]),([1],[1]),([],[]),([3],[3]),([4],[4]),([5],[5]),([6],[6]),([7],[7]),([2,8],[2,8]),([9,2,0,1,2,3,4,5,6,7,8,9],[9])])
def spec_l00Digits.B7 : List Nat := [0,1,3,0,8,24,56,120,248,511,1023]
theorem spec_l00Digits.tab7 : rtab .any (opsOf Tryd.f117 7) = spec_l00Digits.T7 := by kernel_rfl
theorem spec_l00Digits.bits7 : waitsOk spec_l00Digits.T7.2 spec_l00Digits.B7 = true := by kernel_rfl
set_option maxHeartbeats 8000000 in
set_option maxRecDepth 100000 in
theorem spec_l00Digits.calls (k : Nat) : ∀ (a0 : Int) (r : ByteArray) (w : World) (h : spec_l00Digits.f k a0 = some r),
  Calls Tryd.prog 117 #[.int .i64 a0] w fun e w' => e = .returned (.string r) ∧ Below w.heap.size w w' := by
 induction k using Nat.strongRecOn with
 | _ k ih =>
 intro a0 r w h
 cases k with
 | zero => exact absurd h (by simp [spec_l00Digits.f])
 | succ k =>
 simp only [spec_l00Digits.f] at h
 have HB := am_ (Below.refl w.heap.size w)
 have H : (if a0 = (-9223372036854775808) then (some (⟨#[45,57,50,50,51,51,55,50,48,51,54,56,53,52,55,55,53,56,48,56]⟩ : ByteArray)) else (if a0 < 0 then ((spec_l00Digits.f k (wrap64 (-a0))).bind fun t317 => (if 1 + t317.size ≤ 9223372036854775807 then (some ((⟨#[45]⟩ : ByteArray) ++ t317)) else (none))) else (if a0 < 10 then (some (strOfNums (([(wrap64 (48 + a0)) % 256] : List Int)))) else ((spec_l00Digits.f k (wrap64 (Int.tdiv a0 10))).bind fun t321 => ((some (([(wrap64 (48 + (Int.tmod a0 10))) % 256] : List Int) : List Int)).bind fun y322 => (if t321.size + (strOfNums y322).size ≤ 9223372036854775807 then (some (t321 ++ (strOfNums y322))) else (none))))))) = some r := h
 clear h
 by_cases c2 : a0 = (-9223372036854775808)
 ·rw [if_pos c2] at H
  have c2b0 : (a0 == (-9223372036854775808)) = true := beq_iff_eq.mpr c2
  have c2b1 : (a0 != (-9223372036854775808)) = false := bne_eq_false_iff_eq.mpr c2
  clear c2
  obtain rfl := Option.some.inj H
  go_enter Tryd.func117,Tryd.ntmps117
  go_wp2
  go_ret
  exact ⟨zt_,zl_ HB⟩
 ·rw [if_neg c2] at H
  have c2b0 : (a0 == (-9223372036854775808)) = false := beq_eq_false_iff_ne.mpr c2
  have c2b1 : (a0 != (-9223372036854775808)) = true := bne_iff_ne.mpr c2
  by_cases c3 : a0 < 0
  ·rw [if_pos c3] at H
   have c3b0 : decide (a0 < 0) = true := decide_eq_true c3
   clear c3
   replace H := Option.bind_eq_some_iff.mp H
   obtain ⟨t317,A40,H⟩ := H
   try dsimp only at H
   have A4 := am_ A40
   clear A40
   by_cases c5 : 1 + t317.size ≤ 9223372036854775807
   ·rw [if_pos c5] at H
    have c5b0 := eq_true c5
    have c5b1 : decide (1 + t317.size ≤ 9223372036854775807) = true := decide_eq_true c5
    try have c5b2 : (9223372036854775807 < 1 + t317.size) = False := eq_false (Nat.not_lt.2 c5)
    obtain rfl := Option.some.inj H
    go_enter Tryd.func117,Tryd.ntmps117
    go_wp2_with (first | ((with_reducible refine gate_callee (f := 117) rfl ?_);refine zgl (some 9) Tryd.func117 #[.int .i64 (wrap64 (-a0))] ?_;(with_reducible refine (ih k (by omega) (wrap64 (-a0)) t317 _ A4.out).mono ?_);rintro e w6 ⟨rfl,hb⟩;refine ⟨_,rfl,?_⟩;replace HB := zs_ HB hb;(try clear hb);(try clear hb2);(try clear hk);(try clear hi)))
    go_ret
    exact ⟨zt_,zl_ HB⟩
   ·rw [if_neg c5] at H
    exact absurd H (by simp)
  ·rw [if_neg c3] at H
   have c3b0 : decide (a0 < 0) = false := decide_eq_false c3
   clear c3
   by_cases c7 : a0 < 10
   ·rw [if_pos c7] at H
    have c7b0 : decide (a0 < 10) = true := decide_eq_true c7
    clear c7
    obtain ⟨y318,hy318⟩ : ∃ y_ : List Int,y_ = (([(wrap64 (48 + a0)) % 256] : List Int)) := ⟨_,rfl⟩
    replace H : (some (strOfNums y318)) = some r := by first | (rw [hy318];with_reducible exact H) | (have H2_ := (Option.bind_some _ _).symm.trans H;rw [hy318];with_reducible exact H2_) | (have H2_ := (Option.bind_some _ _).symm.trans H;with_reducible exact H2_) | with_reducible exact H | (rw [hy318];exact H) | exact H
    have Ny318 := am_ hy318
    clear hy318
    obtain rfl := Option.some.inj H
    go_enter Tryd.func117,Tryd.ntmps117
    go_wp2_with (first | ((with_reducible refine gate_dst (N := 16) rfl ?_);refine Kd.R_lit (Kd.int .u8) _ 5 ?hg (N := 16) ?hd (xs := ([(wrap64 (48 + a0)) % 256] : List Int)) (inner := [.int .u8 ((wrap64 (48 + a0)) % 256)]) (ok := fun _ => True) (okp := fun _ => True) ?hr ?hp (fun _ hk => hk) trivial (Below.refl _ _) (Nat.le_refl _) (by simp) ?_;(case hd => rfl);(case hg => rfl);(case hr => first | (go_simp;done) | (go_simp;rfl));(case hp => exact (Reps.one (show Kd.M (Kd.int .u8) _ _ _ ((wrap64 (48 + a0)) % 256) [.int .u8 ((wrap64 (48 + a0)) % 256)] from rfl) (Reps.none _ _)));intro v319 w8 ho9 hb hg_ hnew_;clear hg_ hnew_;(first | rw [← Ny318.out] at ho9 | (simp only [Int.reduceToNat] at ho9;rw [← Ny318.out] at ho9));have HO320 := am_ (Kd.R_lower ho9 (below_size (zl_ HB)));replace HB := zs_ HB hb;clear hb ho9;have hcv10 := own_string (P := Tryd.prog) Tryd.underlying46 Tryd.underlying5 Tryd.underlying9 (Kd.own_of_R HO320.out)))
    go_ret
    exact ⟨zt_,zl_ HB⟩
   ·rw [if_neg c7] at H
    have c7b0 : decide (a0 < 10) = false := decide_eq_false c7
    clear c7
    replace H := Option.bind_eq_some_iff.mp H
    obtain ⟨t321,A110,H⟩ := H
    try dsimp only at H
    have A11 := am_ A110
    clear A110
    obtain ⟨y322,hy322⟩ : ∃ y_ : List Int,y_ = (([(wrap64 (48 + (Int.tmod a0 10))) % 256] : List Int)) := ⟨_,rfl⟩
    replace H : (if t321.size + (strOfNums y322).size ≤ 9223372036854775807 then (some (t321 ++ (strOfNums y322))) else (none)) = some r := by first | (rw [hy322];with_reducible exact H) | (have H2_ := (Option.bind_some _ _).symm.trans H;rw [hy322];with_reducible exact H2_) | (have H2_ := (Option.bind_some _ _).symm.trans H;with_reducible exact H2_) | with_reducible exact H | (rw [hy322];exact H) | exact H
    have Ny322 := am_ hy322
    clear hy322
    by_cases c12 : t321.size + (strOfNums y322).size ≤ 9223372036854775807
    ·rw [if_pos c12] at H
     have c12b0 := eq_true c12
     have c12b1 : decide (t321.size + (strOfNums y322).size ≤ 9223372036854775807) = true := decide_eq_true c12
     try have c12b2 : (9223372036854775807 < t321.size + (strOfNums y322).size) = False := eq_false (Nat.not_lt.2 c12)
     obtain rfl := Option.some.inj H
     go_enter Tryd.func117,Tryd.ntmps117
     try go_wp2
     replace HB := am_ (below_drew1 HB.out)
     refine start_ (n := 11) (S := fun w' => True) (ds := []) #[false,false,false,false,false,false,false,false,false,false,false] (by kernel_rfl) rfl rfl trivial (fun hHeld => ?_);refine with_tabW spec_l00Digits.tab7 spec_l00Digits.bits7 (fun HT_ HW_ => ?_)
     generalize w.drew = w13 at HB hHeld ⊢
     refine zpu 0 (N := some 18) HT_ ?_
     refine zpu 1 (N := some 19) HT_ ?_
     refine zpu 3 (N := some 21) HT_ ?_
     refine zpu 4 (N := some 22) HT_ ?_
     refine zpu 5 (N := some 23) HT_ ?_
     refine zpu 6 (N := some 24) HT_ ?_
     refine join_ (σ := Value) 2 #[true,true,true,true,true,true,true,true,true,false,false] (fun s_ => [(20,.string t321),(25,s_),(26,.string (strOfNums y322))]) (fun s_ w' => (Kd.R (Kd.int .u8) 5 w' w.heap.size (fun _ => True) s_ y322) ∧ (Below w.heap.size w w')) ?_ ?_
     rotate_left
     ·intro hCont
      refine two_ (i := 2) (j := 7) (Ni := some 20) (Nj := some 25) #[true,true,true,true,true,true,true,false,false,false,false] #[true,true,false,true,true,true,true,true,false,false,false] rfl rfl rfl rfl (two_of HT_.out (by kernel_rfl)) (by decide) (by decide) (fun K hK => ?_) (fun K hK => ?_)
      ·skip
       refine zgo Tryd.func117 #[.int .i64 (wrap64 (Int.tdiv a0 10))] ?_
       with_reducible refine (ih k (by omega) (wrap64 (Int.tdiv a0 10)) t321 _ A11.out).mono ?_
       rintro e w14 ⟨rfl,hb⟩
       refine ⟨_,rfl,?_⟩
       replace HB := zs_ HB hb
       (try clear hb)
       (try clear hb2)
       (try clear hk)
       (try clear hi)
       refine hK.out _ _ trivial (fun hHeld => ?_)
       clear hK K
       refine norm_ (a' := ?_) ?_ ?_
       rotate_left
       ·show Act.put _ (some 20) _ = _
        simp only [Act.put,p1_,p2_,p3_,i64_w,i32_w]
        rfl
       refine zon 7 (N := some 25) HT_ (fun K hK => ?_)
       refine Kd.R_lit_step (Kd.int .u8) _ 5 ?hg (N := 25) ?hd (xs := ([(wrap64 (48 + (Int.tmod a0 10))) % 256] : List Int)) (inner := [.int .u8 ((wrap64 (48 + (Int.tmod a0 10))) % 256)]) (ok := fun _ => True) (okp := fun _ => True) ?hr ?hp (fun _ hk => hk) trivial (Below.refl _ _) (Nat.le_refl _) (by simp) ?_;(case hd => rfl);(case hg => rfl);(case hr => first | (go_simp;done) | (go_simp;rfl));(case hp => exact (Reps.one (show Kd.M (Kd.int .u8) _ _ _ ((wrap64 (48 + (Int.tmod a0 10))) % 256) [.int .u8 ((wrap64 (48 + (Int.tmod a0 10))) % 256)] from rfl) (Reps.none _ _)))
       intro v323 w15 ho16 hb hg_ hnew_
       clear hg_ hnew_
       (first | rw [← Ny322.out] at ho16 | (simp only [Int.reduceToNat] at ho16;rw [← Ny322.out] at ho16))
       have HO324 := am_ (Kd.R_lower ho16 (below_size (zl_ HB)))
       replace HB := zs_ HB hb
       clear hb ho16
       refine hK.out _ _ trivial (fun hHeld => ?_)
       clear hK K
       refine norm_ (a' := ?_) ?_ ?_
       rotate_left
       ·show Act.put _ (some 25) _ = _
        simp only [Act.put,p1_,p2_,p3_,i64_w,i32_w]
        rfl
       refine zon 8 (N := some 26) HT_ (fun K hK => ?_)
       have hcv17 := own_string (P := Tryd.prog) Tryd.underlying46 Tryd.underlying5 Tryd.underlying9 (Kd.own_of_R HO324.out)
       refine value_ (w1 := ?_) (v := ?_) (by rfl) rfl ?_ ?_
       rotate_left 2
       ·go_simp
        constructor
        ·rfl
        ·rfl
       clear hcv17
       refine hK.out _ _ trivial (fun hHeld => ?_)
       clear hK K
       refine norm_ (a' := ?_) ?_ ?_
       rotate_left
       ·show Act.put _ (some 26) _ = _
        simp only [Act.put,p1_,p2_,p3_,i64_w,i32_w]
        rfl
       exact norm_ (by simp only [putAll,Act.put,p1_,p2_,p3_]) (hCont (v323) _ ⟨(zr HO324),(zl_ HB)⟩)
      ·skip
       refine Kd.R_lit_step (Kd.int .u8) _ 5 ?hg (N := 25) ?hd (xs := ([(wrap64 (48 + (Int.tmod a0 10))) % 256] : List Int)) (inner := [.int .u8 ((wrap64 (48 + (Int.tmod a0 10))) % 256)]) (ok := fun _ => True) (okp := fun _ => True) ?hr ?hp (fun _ hk => hk) trivial (Below.refl _ _) (Nat.le_refl _) (by simp) ?_;(case hd => rfl);(case hg => rfl);(case hr => first | (go_simp;done) | (go_simp;rfl));(case hp => exact (Reps.one (show Kd.M (Kd.int .u8) _ _ _ ((wrap64 (48 + (Int.tmod a0 10))) % 256) [.int .u8 ((wrap64 (48 + (Int.tmod a0 10))) % 256)] from rfl) (Reps.none _ _)))
       intro v323 w14 ho15 hb hg_ hnew_
       clear hg_ hnew_
       (first | rw [← Ny322.out] at ho15 | (simp only [Int.reduceToNat] at ho15;rw [← Ny322.out] at ho15))
       have HO324 := am_ (Kd.R_lower ho15 (below_size (zl_ HB)))
       replace HB := zs_ HB hb
       clear hb ho15
       refine hK.out _ _ trivial (fun hHeld => ?_)
       clear hK K
       refine norm_ (a' := ?_) ?_ ?_
       rotate_left
       ·show Act.put _ (some 25) _ = _
        simp only [Act.put,p1_,p2_,p3_,i64_w,i32_w]
        rfl
       refine two_ (i := 2) (j := 8) (Ni := some 20) (Nj := some 26) #[true,true,true,true,true,true,true,true,false,false,false] #[true,true,false,true,true,true,true,true,true,false,false] rfl rfl rfl rfl (two_of HT_.out (by kernel_rfl)) (by decide) (by decide) (fun K hK => ?_) (fun K hK => ?_)
       ·skip
        refine zgo Tryd.func117 #[.int .i64 (wrap64 (Int.tdiv a0 10))] ?_
        with_reducible refine (ih k (by omega) (wrap64 (Int.tdiv a0 10)) t321 _ A11.out).mono ?_
        rintro e w16 ⟨rfl,hb⟩
        refine ⟨_,rfl,?_⟩
        replace HO324 := zrb HO324 hb
        replace HB := zs_ HB hb
        (try clear hb)
        (try clear hb2)
        (try clear hk)
        (try clear hi)
        refine hK.out _ _ trivial (fun hHeld => ?_)
        clear hK K
        refine norm_ (a' := ?_) ?_ ?_
        rotate_left
        ·show Act.put _ (some 20) _ = _
         simp only [Act.put,p1_,p2_,p3_,i64_w,i32_w]
         rfl
        refine zon 8 (N := some 26) HT_ (fun K hK => ?_)
        have hcv17 := own_string (P := Tryd.prog) Tryd.underlying46 Tryd.underlying5 Tryd.underlying9 (Kd.own_of_R HO324.out)
        refine value_ (w1 := ?_) (v := ?_) (by rfl) rfl ?_ ?_
        rotate_left 2
        ·go_simp
         constructor
         ·rfl
         ·rfl
        clear hcv17
        refine hK.out _ _ trivial (fun hHeld => ?_)
        clear hK K
        refine norm_ (a' := ?_) ?_ ?_
        rotate_left
        ·show Act.put _ (some 26) _ = _
         simp only [Act.put,p1_,p2_,p3_,i64_w,i32_w]
         rfl
        exact norm_ (by simp only [putAll,Act.put,p1_,p2_,p3_]) (hCont (v323) _ ⟨(zr HO324),(zl_ HB)⟩)
       ·skip
        have hcv16 := own_string (P := Tryd.prog) Tryd.underlying46 Tryd.underlying5 Tryd.underlying9 (Kd.own_of_R HO324.out)
        refine value_ (w1 := ?_) (v := ?_) (by rfl) rfl ?_ ?_
        rotate_left 2
        ·go_simp
         constructor
         ·rfl
         ·rfl
        clear hcv16
        refine hK.out _ _ trivial (fun hHeld => ?_)
        clear hK K
        refine norm_ (a' := ?_) ?_ ?_
        rotate_left
        ·show Act.put _ (some 26) _ = _
         simp only [Act.put,p1_,p2_,p3_,i64_w,i32_w]
         rfl
        refine zon 2 (N := some 20) HT_ (fun K hK => ?_)
        refine zgo Tryd.func117 #[.int .i64 (wrap64 (Int.tdiv a0 10))] ?_
        with_reducible refine (ih k (by omega) (wrap64 (Int.tdiv a0 10)) t321 _ A11.out).mono ?_
        rintro e w17 ⟨rfl,hb⟩
        refine ⟨_,rfl,?_⟩
        replace HO324 := zrb HO324 hb
        replace HB := zs_ HB hb
        (try clear hb)
        (try clear hb2)
        (try clear hk)
        (try clear hi)
        refine hK.out _ _ trivial (fun hHeld => ?_)
        clear hK K
        refine norm_ (a' := ?_) ?_ ?_
        rotate_left
        ·show Act.put _ (some 20) _ = _
         simp only [Act.put,p1_,p2_,p3_,i64_w,i32_w]
         rfl
        exact norm_ (by simp only [putAll,Act.put,p1_,p2_,p3_]) (hCont (v323) _ ⟨(zr HO324),(zl_ HB)⟩)
     rintro v323 w18 ⟨h0_,h1_⟩
     have n0_ : Aside0 (Kd.R (Kd.int .u8) 5 w18 w.heap.size (fun _ => True) v323 y322) := ⟨h0_⟩
     have n1_ : Aside0 (Below w.heap.size w w18) := ⟨h1_⟩
     clear HB
     clear h0_ h1_
     have HB := n1_
     clear n0_ n1_
     have hHeld := trivial
     refine norm_ (a' := ?_) ?_ ?_
     rotate_left
     ·simp only [putAll,Act.put,p1_,p2_,p3_]
      rfl
     refine zpu 9 (N := some 27) HT_ ?_
     refine zpu 10 (N := some 2) HT_ ?_
     refine done_ (done_of HT_.out (by kernel_rfl)) ?_
     try go_wp2
     go_ret
     exact ⟨zt_,zl_ HB⟩
    ·rw [if_neg c12] at H
     exact absurd H (by simp)
def spec_l12Text.T1 : Bool × List (List Nat × List Nat) := (true,[([],[]),([0],[0]),([1],[1]),([2],[2]),([],[]),([4],[4]),([5],[5]),([3,6],[3,6]),([7],[7]),([],[]),([9],[9]),([10,6],[10]),([8,11],[8,11]),([12],[12]),([],[]),([14],[14]),([15,11],[15]),([13,16],[13,16]),([17,16,0,1,2,3,4,5,6,7,8,9,10,11,12,13,14,15,16,17],[17])])
def spec_l12Text.B1 : List Nat := [0,1,3,7,0,16,48,127,255,0,512,1648,4095,8191,0,16384,52848,131071,262143]
theorem spec_l12Text.tab1 : rtab .any (opsOf Tryd.f58 1) = spec_l12Text.T1 := by kernel_rfl
theorem spec_l12Text.bits1 : waitsOk spec_l12Text.T1.2 spec_l12Text.B1 = true := by kernel_rfl
set_option maxHeartbeats 8000000 in
set_option maxRecDepth 100000 in
theorem spec_l12Text.calls (k : Nat) (a0_0 : ByteArray) (a0_1 : Int) (a0_2 : Int) (a0_3 : Int) (r : ByteArray) (w : World) (h : spec_l12Text.f k a0_0 a0_1 a0_2 a0_3 = some r) :
  Calls Tryd.prog 58 #[.agg #[.string a0_0,.int .i64 a0_1,.int .i64 a0_2,.int .i64 a0_3]] w fun e w' => e = .returned (.string r) ∧ Below w.heap.size w w' := by
 have hu30 := Tryd.underlying30
 have HB := am_ (Below.refl w.heap.size w)
 have H : (if 6 + a0_0.size ≤ 9223372036854775807 then (if ((⟨#[103,114,97,110,116,32]⟩ : ByteArray) ++ a0_0).size + 1 ≤ 9223372036854775807 then ((spec_l00Digits.f k a0_1).bind fun t326 => (if (((⟨#[103,114,97,110,116,32]⟩ : ByteArray) ++ a0_0) ++ (⟨#[32]⟩ : ByteArray)).size + t326.size ≤ 9223372036854775807 then (if ((((⟨#[103,114,97,110,116,32]⟩ : ByteArray) ++ a0_0) ++ (⟨#[32]⟩ : ByteArray)) ++ t326).size + 1 ≤ 9223372036854775807 then ((spec_l00Digits.f k a0_2).bind fun t327 => (if (((((⟨#[103,114,97,110,116,32]⟩ : ByteArray) ++ a0_0) ++ (⟨#[32]⟩ : ByteArray)) ++ t326) ++ (⟨#[32]⟩ : ByteArray)).size + t327.size ≤ 9223372036854775807 then (if ((((((⟨#[103,114,97,110,116,32]⟩ : ByteArray) ++ a0_0) ++ (⟨#[32]⟩ : ByteArray)) ++ t326) ++ (⟨#[32]⟩ : ByteArray)) ++ t327).size + 1 ≤ 9223372036854775807 then ((spec_l00Digits.f k a0_3).bind fun t328 => (if (((((((⟨#[103,114,97,110,116,32]⟩ : ByteArray) ++ a0_0) ++ (⟨#[32]⟩ : ByteArray)) ++ t326) ++ (⟨#[32]⟩ : ByteArray)) ++ t327) ++ (⟨#[32]⟩ : ByteArray)).size + t328.size ≤ 9223372036854775807 then (some ((((((((⟨#[103,114,97,110,116,32]⟩ : ByteArray) ++ a0_0) ++ (⟨#[32]⟩ : ByteArray)) ++ t326) ++ (⟨#[32]⟩ : ByteArray)) ++ t327) ++ (⟨#[32]⟩ : ByteArray)) ++ t328)) else (none))) else (none)) else (none))) else (none)) else (none))) else (none)) else (none)) = some r := h
 clear h
 by_cases c2 : 6 + a0_0.size ≤ 9223372036854775807
 ·rw [if_pos c2] at H
  have c2b0 := eq_true c2
  have c2b1 : decide (6 + a0_0.size ≤ 9223372036854775807) = true := decide_eq_true c2
  try have c2b2 : (9223372036854775807 < 6 + a0_0.size) = False := eq_false (Nat.not_lt.2 c2)
  by_cases c3 : ((⟨#[103,114,97,110,116,32]⟩ : ByteArray) ++ a0_0).size + 1 ≤ 9223372036854775807
  ·rw [if_pos c3] at H
   have c3b0 := eq_true c3
   have c3b1 : decide (((⟨#[103,114,97,110,116,32]⟩ : ByteArray) ++ a0_0).size + 1 ≤ 9223372036854775807) = true := decide_eq_true c3
   try have c3b2 : (9223372036854775807 < ((⟨#[103,114,97,110,116,32]⟩ : ByteArray) ++ a0_0).size + 1) = False := eq_false (Nat.not_lt.2 c3)
   (try have c3b3 := c3b2;simp only [ByteArray.size_append,show (⟨#[103,114,97,110,116,32]⟩ : ByteArray).size = 6 from rfl] at c3b3)
   replace H := Option.bind_eq_some_iff.mp H
   obtain ⟨t326,A40,H⟩ := H
   try dsimp only at H
   have A4 := am_ A40
   clear A40
   by_cases c5 : (((⟨#[103,114,97,110,116,32]⟩ : ByteArray) ++ a0_0) ++ (⟨#[32]⟩ : ByteArray)).size + t326.size ≤ 9223372036854775807
   ·rw [if_pos c5] at H
    have c5b0 := eq_true c5
    have c5b1 : decide ((((⟨#[103,114,97,110,116,32]⟩ : ByteArray) ++ a0_0) ++ (⟨#[32]⟩ : ByteArray)).size + t326.size ≤ 9223372036854775807) = true := decide_eq_true c5
    try have c5b2 : (9223372036854775807 < (((⟨#[103,114,97,110,116,32]⟩ : ByteArray) ++ a0_0) ++ (⟨#[32]⟩ : ByteArray)).size + t326.size) = False := eq_false (Nat.not_lt.2 c5)
    (try have c5b3 := c5b2;simp only [ByteArray.size_append,show (⟨#[103,114,97,110,116,32]⟩ : ByteArray).size = 6 from rfl,show (⟨#[32]⟩ : ByteArray).size = 1 from rfl] at c5b3)
    by_cases c6 : ((((⟨#[103,114,97,110,116,32]⟩ : ByteArray) ++ a0_0) ++ (⟨#[32]⟩ : ByteArray)) ++ t326).size + 1 ≤ 9223372036854775807
    ·rw [if_pos c6] at H
     have c6b0 := eq_true c6
     have c6b1 : decide (((((⟨#[103,114,97,110,116,32]⟩ : ByteArray) ++ a0_0) ++ (⟨#[32]⟩ : ByteArray)) ++ t326).size + 1 ≤ 9223372036854775807) = true := decide_eq_true c6
     try have c6b2 : (9223372036854775807 < ((((⟨#[103,114,97,110,116,32]⟩ : ByteArray) ++ a0_0) ++ (⟨#[32]⟩ : ByteArray)) ++ t326).size + 1) = False := eq_false (Nat.not_lt.2 c6)
     (try have c6b3 := c6b2;simp only [ByteArray.size_append,show (⟨#[103,114,97,110,116,32]⟩ : ByteArray).size = 6 from rfl,show (⟨#[32]⟩ : ByteArray).size = 1 from rfl] at c6b3)
     replace H := Option.bind_eq_some_iff.mp H
     obtain ⟨t327,A70,H⟩ := H
     try dsimp only at H
     have A7 := am_ A70
     clear A70
     by_cases c8 : (((((⟨#[103,114,97,110,116,32]⟩ : ByteArray) ++ a0_0) ++ (⟨#[32]⟩ : ByteArray)) ++ t326) ++ (⟨#[32]⟩ : ByteArray)).size + t327.size ≤ 9223372036854775807
     ·rw [if_pos c8] at H
      have c8b0 := eq_true c8
      have c8b1 : decide ((((((⟨#[103,114,97,110,116,32]⟩ : ByteArray) ++ a0_0) ++ (⟨#[32]⟩ : ByteArray)) ++ t326) ++ (⟨#[32]⟩ : ByteArray)).size + t327.size ≤ 9223372036854775807) = true := decide_eq_true c8
      try have c8b2 : (9223372036854775807 < (((((⟨#[103,114,97,110,116,32]⟩ : ByteArray) ++ a0_0) ++ (⟨#[32]⟩ : ByteArray)) ++ t326) ++ (⟨#[32]⟩ : ByteArray)).size + t327.size) = False := eq_false (Nat.not_lt.2 c8)
      (try have c8b3 := c8b2;simp only [ByteArray.size_append,show (⟨#[103,114,97,110,116,32]⟩ : ByteArray).size = 6 from rfl,show (⟨#[32]⟩ : ByteArray).size = 1 from rfl] at c8b3)
      by_cases c9 : ((((((⟨#[103,114,97,110,116,32]⟩ : ByteArray) ++ a0_0) ++ (⟨#[32]⟩ : ByteArray)) ++ t326) ++ (⟨#[32]⟩ : ByteArray)) ++ t327).size + 1 ≤ 9223372036854775807
      ·rw [if_pos c9] at H
       have c9b0 := eq_true c9
       have c9b1 : decide (((((((⟨#[103,114,97,110,116,32]⟩ : ByteArray) ++ a0_0) ++ (⟨#[32]⟩ : ByteArray)) ++ t326) ++ (⟨#[32]⟩ : ByteArray)) ++ t327).size + 1 ≤ 9223372036854775807) = true := decide_eq_true c9
       try have c9b2 : (9223372036854775807 < ((((((⟨#[103,114,97,110,116,32]⟩ : ByteArray) ++ a0_0) ++ (⟨#[32]⟩ : ByteArray)) ++ t326) ++ (⟨#[32]⟩ : ByteArray)) ++ t327).size + 1) = False := eq_false (Nat.not_lt.2 c9)
       (try have c9b3 := c9b2;simp only [ByteArray.size_append,show (⟨#[103,114,97,110,116,32]⟩ : ByteArray).size = 6 from rfl,show (⟨#[32]⟩ : ByteArray).size = 1 from rfl] at c9b3)
       replace H := Option.bind_eq_some_iff.mp H
       obtain ⟨t328,A100,H⟩ := H
       try dsimp only at H
       have A10 := am_ A100
       clear A100
       by_cases c11 : (((((((⟨#[103,114,97,110,116,32]⟩ : ByteArray) ++ a0_0) ++ (⟨#[32]⟩ : ByteArray)) ++ t326) ++ (⟨#[32]⟩ : ByteArray)) ++ t327) ++ (⟨#[32]⟩ : ByteArray)).size + t328.size ≤ 9223372036854775807
       ·rw [if_pos c11] at H
        have c11b0 := eq_true c11
        have c11b1 : decide ((((((((⟨#[103,114,97,110,116,32]⟩ : ByteArray) ++ a0_0) ++ (⟨#[32]⟩ : ByteArray)) ++ t326) ++ (⟨#[32]⟩ : ByteArray)) ++ t327) ++ (⟨#[32]⟩ : ByteArray)).size + t328.size ≤ 9223372036854775807) = true := decide_eq_true c11
        try have c11b2 : (9223372036854775807 < (((((((⟨#[103,114,97,110,116,32]⟩ : ByteArray) ++ a0_0) ++ (⟨#[32]⟩ : ByteArray)) ++ t326) ++ (⟨#[32]⟩ : ByteArray)) ++ t327) ++ (⟨#[32]⟩ : ByteArray)).size + t328.size) = False := eq_false (Nat.not_lt.2 c11)
        (try have c11b3 := c11b2;simp only [ByteArray.size_append,show (⟨#[103,114,97,110,116,32]⟩ : ByteArray).size = 6 from rfl,show (⟨#[32]⟩ : ByteArray).size = 1 from rfl] at c11b3)
        obtain rfl := Option.some.inj H
        go_enter Tryd.func58,Tryd.ntmps58
        try go_wp2_with (first | ((with_reducible refine gate_dst (N := 1) rfl ?_);refine zbx (N := 1) (cs := #[.string a0_0,.int .i64 a0_1,.int .i64 a0_2,.int .i64 a0_3]) (t := 30) ?_;intro gb325 hg w12 hbox hb;have BK325 := am_ (hbox);have GW325 := zw_ HB hg;have GE325 := zw_ HB hg;replace HB := zs_ HB hb;clear hb hbox hg))
        replace BK325 := am_ (blk_drew BK325.out)
        replace HB := am_ (below_drew1 HB.out)
        refine start_ (n := 19) (S := fun w' => w'.cell? ⟨gb325,0,none⟩ = some (.string a0_0) ∧ w'.cell? ⟨gb325,1,none⟩ = some (.int .i64 a0_1) ∧ w'.cell? ⟨gb325,2,none⟩ = some (.int .i64 a0_2) ∧ w'.cell? ⟨gb325,3,none⟩ = some (.int .i64 a0_3)) (ds := []) #[false,false,false,false,false,false,false,false,false,false,false,false,false,false,false,false,false,false,false] (by kernel_rfl) rfl rfl ⟨(blk_cell BK325.out 0).trans rfl,(blk_cell BK325.out 1).trans rfl,(blk_cell BK325.out 2).trans rfl,(blk_cell BK325.out 3).trans rfl⟩ (fun hHeld => ?_);refine with_tabW spec_l12Text.tab1 spec_l12Text.bits1 (fun HT_ HW_ => ?_)
        generalize w12.drew = w13 at BK325 HB hHeld ⊢
        refine zpu 0 (N := some 3) HT_ ?_
        refine zpu 4 (N := some 7) HT_ ?_
        refine zpu 9 (N := some 12) HT_ ?_
        refine zpu 14 (N := some 17) HT_ ?_
        refine ztk 1 (N := some 4) HT_ HW_ hHeld ?_
        refine zpu 2 (N := some 5) HT_ ?_
        refine zpu 3 (N := some 6) HT_ ?_
        refine ztk 5 (N := some 8) HT_ HW_ hHeld ?_
        refine ztk 10 (N := some 13) HT_ HW_ hHeld ?_
        refine ztk 15 (N := some 18) HT_ HW_ hHeld ?_
        refine zon 6 (N := some 9) HT_ (fun K hK => ?_)
        refine zgo Tryd.func117 #[.int .i64 a0_1] ?_
        with_reducible refine (spec_l00Digits.calls k a0_1 t326 _ A4.out).mono ?_
        rintro e w14 ⟨rfl,hb⟩
        refine ⟨_,rfl,?_⟩
        replace BK325 := zb BK325 hb
        replace HB := zs_ HB hb
        (try clear hb)
        (try clear hb2)
        (try clear hk)
        (try clear hi)
        refine hK.out _ _ ⟨(blk_cell BK325.out 0).trans rfl,(blk_cell BK325.out 1).trans rfl,(blk_cell BK325.out 2).trans rfl,(blk_cell BK325.out 3).trans rfl⟩ (fun hHeld => ?_)
        clear hK K
        refine norm_ (a' := ?_) ?_ ?_
        rotate_left
        ·show Act.put _ (some 9) _ = _
         simp only [Act.put,p1_,p2_,p3_,i64_w,i32_w]
         rfl
        refine zpu 7 (N := some 10) HT_ ?_
        refine zpu 8 (N := some 11) HT_ ?_
        refine zon 11 (N := some 14) HT_ (fun K hK => ?_)
        refine zgo Tryd.func117 #[.int .i64 a0_2] ?_
        with_reducible refine (spec_l00Digits.calls k a0_2 t327 _ A7.out).mono ?_
        rintro e w15 ⟨rfl,hb⟩
        refine ⟨_,rfl,?_⟩
        replace BK325 := zb BK325 hb
        replace HB := zs_ HB hb
        (try clear hb)
        (try clear hb2)
        (try clear hk)
        (try clear hi)
        refine hK.out _ _ ⟨(blk_cell BK325.out 0).trans rfl,(blk_cell BK325.out 1).trans rfl,(blk_cell BK325.out 2).trans rfl,(blk_cell BK325.out 3).trans rfl⟩ (fun hHeld => ?_)
        clear hK K
        refine norm_ (a' := ?_) ?_ ?_
        rotate_left
        ·show Act.put _ (some 14) _ = _
         simp only [Act.put,p1_,p2_,p3_,i64_w,i32_w]
         rfl
        refine zpu 12 (N := some 15) HT_ ?_
        refine zpu 13 (N := some 16) HT_ ?_
        refine zon 16 (N := some 19) HT_ (fun K hK => ?_)
        refine zgo Tryd.func117 #[.int .i64 a0_3] ?_
        with_reducible refine (spec_l00Digits.calls k a0_3 t328 _ A10.out).mono ?_
        rintro e w16 ⟨rfl,hb⟩
        refine ⟨_,rfl,?_⟩
        replace BK325 := zb BK325 hb
        replace HB := zs_ HB hb
        (try clear hb)
        (try clear hb2)
        (try clear hk)
        (try clear hi)
        refine hK.out _ _ ⟨(blk_cell BK325.out 0).trans rfl,(blk_cell BK325.out 1).trans rfl,(blk_cell BK325.out 2).trans rfl,(blk_cell BK325.out 3).trans rfl⟩ (fun hHeld => ?_)
        clear hK K
        refine norm_ (a' := ?_) ?_ ?_
        rotate_left
        ·show Act.put _ (some 19) _ = _
         simp only [Act.put,p1_,p2_,p3_,i64_w,i32_w]
         rfl
        refine zpu 17 (N := some 20) HT_ ?_
        refine zpu 18 (N := some 2) HT_ ?_
        refine done_ (done_of HT_.out (by kernel_rfl)) ?_
        try go_wp2
        go_ret
        exact ⟨zt_,zl_ HB⟩
       ·rw [if_neg c11] at H
        exact absurd H (by simp)
      ·rw [if_neg c9] at H
       exact absurd H (by simp)
     ·rw [if_neg c8] at H
      exact absurd H (by simp)
    ·rw [if_neg c6] at H
     exact absurd H (by simp)
   ·rw [if_neg c5] at H
    exact absurd H (by simp)
  ·rw [if_neg c3] at H
   exact absurd H (by simp)
 ·rw [if_neg c2] at H
  exact absurd H (by simp)
def spec_CheckCertificate.T10 : Bool × List (List Nat × List Nat) := (true,[([],[]),([0],[0]),([],[]),([1,2],[1,2]),([3],[3]),([4],[4]),([5,5],[5]),([6,6],[6]),([],[]),([8],[8]),([9,7],[9]),([],[]),([11],[11]),([],[]),([12,13],[12,13]),([14],[14]),([7,10,15,10],[7,10,15]),([16,16,0,1,2,3,4,5,6,7,8,9,10,11,12,13,14,15,16],[16])])
def spec_CheckCertificate.B10 : List Nat := [0,1,0,7,15,31,63,127,0,256,1023,0,2048,0,14336,30720,65535,131071]
theorem spec_CheckCertificate.tab10 : rtab .any (opsOf Tryd.f11 10) = spec_CheckCertificate.T10 := by kernel_rfl
theorem spec_CheckCertificate.bits10 : waitsOk spec_CheckCertificate.T10.2 spec_CheckCertificate.B10 = true := by kernel_rfl
set_option maxHeartbeats 8000000 in
set_option maxRecDepth 100000 in
theorem spec_CheckCertificate.calls (k : Nat) (a0 : Int) (a1_0 : ByteArray) (a1_1 : Int) (a1_2 : Int) (a1_3 : Int) (A1_4 : Option Addr) (c1_4 : Nat) (l1_4 : List Int) (A1_5 : Option Addr) (c1_5 : Nat) (l1_5 : List (S52)) (r : Int) (w : World) (hr1_4 : Kd.C (Kd.int .i64) w A1_4 l1_4.length l1_4) (hc1_4 : l1_4.length ≤ c1_4) (hr1_5 : Kd.C k52 w A1_5 l1_5.length l1_5) (hc1_5 : l1_5.length ≤ c1_5) (h : spec_CheckCertificate.f k a0 a1_0 a1_1 a1_2 a1_3 l1_4 l1_5 = some r) :
  Calls Tryd.prog 11 #[.int .i64 a0,.agg #[.string a1_0,.int .i64 a1_1,.int .i64 a1_2,.int .i64 a1_3,.slice A1_4 l1_4.length c1_4,.slice A1_5 l1_5.length c1_5]] w fun e w' => e = .returned (.int .i64 r) ∧ Below w.heap.size w w' := by
 have hu33 := Tryd.underlying33
 have hu30 := Tryd.underlying30
 have hu52 := Tryd.underlying52
 have HR1_4 := am_ hr1_4
 have HC1_4 := am_ hc1_4
 clear hr1_4 hc1_4
 have HR1_5 := am_ hr1_5
 have HC1_5 := am_ hc1_5
 clear hr1_5 hc1_5
 have HB := am_ (Below.refl w.heap.size w)
 have H : ((spec_GrantOK.f k a1_0 a1_1 a1_2 a1_3).bind fun t330 => (if t330 = true then ((spec_l04Nodes.f a0).bind fun t331 => (if t331 = true then ((spec_l12From.f k a0 l1_4).bind fun t332 => (if t332 = true then (spec_CheckCertificate.j0 k ((l1_5.length : Int) != (l1_4.length : Int)) a1_0 a1_1 a1_2 a1_3 l1_4 l1_5) else (spec_CheckCertificate.j0 k true a1_0 a1_1 a1_2 a1_3 l1_4 l1_5))) else (some 4))) else (some 1))) = some r := h
 clear h
 replace H := Option.bind_eq_some_iff.mp H
 obtain ⟨t330,A30,H⟩ := H
 try dsimp only at H
 have A3 := am_ A30
 clear A30
 by_cases c4 : t330 = true
 ·subst c4
  have H1 : ((spec_l04Nodes.f a0).bind fun t331 => (if t331 = true then ((spec_l12From.f k a0 l1_4).bind fun t332 => (if t332 = true then (spec_CheckCertificate.j0 k ((l1_5.length : Int) != (l1_4.length : Int)) a1_0 a1_1 a1_2 a1_3 l1_4 l1_5) else (spec_CheckCertificate.j0 k true a1_0 a1_1 a1_2 a1_3 l1_4 l1_5))) else (some 4))) = some r := by rw [if_pos rfl] at H;exact H
  clear H
  have H := H1
  clear H1
  replace H := Option.bind_eq_some_iff.mp H
  obtain ⟨t331,A50,H⟩ := H
  try dsimp only at H
  have A5 := am_ A50
  clear A50
  by_cases c6 : t331 = true
  ·subst c6
   have H1 : ((spec_l12From.f k a0 l1_4).bind fun t332 => (if t332 = true then (spec_CheckCertificate.j0 k ((l1_5.length : Int) != (l1_4.length : Int)) a1_0 a1_1 a1_2 a1_3 l1_4 l1_5) else (spec_CheckCertificate.j0 k true a1_0 a1_1 a1_2 a1_3 l1_4 l1_5))) = some r := by rw [if_pos rfl] at H;exact H
   clear H
   have H := H1
   clear H1
   have HC7 := am_ H
   clear H
   go_enter Tryd.func11,Tryd.ntmps11
   go_upto_region 5 with (first | ((with_reducible refine gate_dst (N := 3) rfl ?_);(try (refine gate_guard (by rfl) ?_;dsimp only));refine zbx (N := 3) (cs := #[.string a1_0,.int .i64 a1_1,.int .i64 a1_2,.int .i64 a1_3,.slice A1_4 l1_4.length c1_4,.slice A1_5 l1_5.length c1_5]) (t := 33) ?_;intro gb329 hg w8 hbox hb;have BK329 := am_ (hbox);have GW329 := zw_ HB hg;have GE329 := zw_ HB hg;replace HB := zs_ HB hb;clear hb hbox hg;obtain ⟨hcz9_0,hcz9_1,hcz9_2,hcz9_3,hcz9_4,hcz9_5,hfz9_0,hfz9_1,hfz9_2,hfz9_3,hfz9_4,hfz9_5⟩ := zc6 BK329) | ((with_reducible refine gate_callee (f := 51) rfl ?_);refine zgl (some 9) Tryd.func51 #[.agg #[.string a1_0,.int .i64 a1_1,.int .i64 a1_2,.int .i64 a1_3]] ?_;(with_reducible refine (spec_GrantOK.calls k a1_0 a1_1 a1_2 a1_3 true _ A3.out).mono ?_);rintro e w10 ⟨rfl,hb⟩;refine ⟨_,rfl,?_⟩;replace BK329 := zb BK329 hb;replace HB := zs_ HB hb;(try clear hb);(try clear hb2);(try clear hk);(try clear hi)) | ((with_reducible refine gate_callee (f := 52) rfl ?_);refine zgl (some 12) Tryd.func52 #[.int .i64 a0] ?_;(with_reducible refine (spec_l04Nodes.calls a0 true _ A5.out).mono ?_);rintro e w' ⟨rfl,⟨nd,rfl⟩⟩;refine ⟨_,rfl,?_⟩))
   (try simp only [Act.put,p1_,p2_,p3_])
   go_cut [27] (fun v27 wc => ∃ (kq : Nat) (x27_6 : Bool),v27 = .bool x27_6 ∧ Aside0 (spec_CheckCertificate.j0 kq x27_6 a1_0 a1_1 a1_2 a1_3 l1_4 l1_5 = some r) ∧ Aside0 (kq ≤ k) ∧ Aside0 (wc.heap[gb329]? = some (.cells #[.string a1_0,.int .i64 a1_1,.int .i64 a1_2,.int .i64 a1_3,(.slice A1_4 l1_4.length c1_4),(.slice A1_5 l1_5.length c1_5)] 33 (0,0))) ∧ Aside0 (Below w.heap.size w wc))
   case first =>
    have H := HC7.out
    clear HC7
    replace H := Option.bind_eq_some_iff.mp H
    obtain ⟨t332,A110,H⟩ := H
    try dsimp only at H
    have A11 := am_ A110
    clear A110
    by_cases c12 : t332 = true
    ·subst c12
     have H1 : (spec_CheckCertificate.j0 k ((l1_5.length : Int) != (l1_4.length : Int)) a1_0 a1_1 a1_2 a1_3 l1_4 l1_5) = some r := by rw [if_pos rfl] at H;exact H
     clear H
     have H := H1
     clear H1
     have H' := am_ H
     clear H
     obtain ⟨hcz13_0,hcz13_1,hcz13_2,hcz13_3,hcz13_4,hcz13_5,hfz13_0,hfz13_1,hfz13_2,hfz13_3,hfz13_4,hfz13_5⟩ := zc6 BK329
     go_wp2_with (first | ((with_reducible refine gate_callee (f := 53) rfl ?_);refine zgl (some 17) Tryd.func53 #[.int .i64 a0,.slice A1_4 l1_4.length c1_4] ?_;(with_reducible refine (spec_l12From.calls k a0 _ _ l1_4 true _ ?side1 ?side2 A11.out).mono ?_);(case side1 => exact zc_ HR1_4 HB);(case side2 => exact HC1_4.out);rintro e w' ⟨rfl,⟨nd,rfl⟩⟩;refine ⟨_,rfl,?_⟩))
     go_meet
     case rel => exact ⟨_,(((l1_5.length : Int) != (l1_4.length : Int))),(by first | rfl | (simp;done) | (simp [*];done)),H',⟨by first | omega | exact Nat.le_refl _⟩,⟨by (with_reducible repeat (first | apply k1_ | apply k2_ | apply k3_));exact BK329.out⟩,⟨zl_ HB⟩⟩
    ·replace c12 := Bool.eq_false_iff.mpr c12
     subst c12
     have H1 : (spec_CheckCertificate.j0 k true a1_0 a1_1 a1_2 a1_3 l1_4 l1_5) = some r := by rw [if_neg (show ¬ (false = true) by decide)] at H;exact H
     clear H
     have H := H1
     clear H1
     have H' := am_ H
     clear H
     obtain ⟨hcz14_0,hcz14_1,hcz14_2,hcz14_3,hcz14_4,hcz14_5,hfz14_0,hfz14_1,hfz14_2,hfz14_3,hfz14_4,hfz14_5⟩ := zc6 BK329
     go_wp2_with (first | ((with_reducible refine gate_callee (f := 53) rfl ?_);refine zgl (some 17) Tryd.func53 #[.int .i64 a0,.slice A1_4 l1_4.length c1_4] ?_;(with_reducible refine (spec_l12From.calls k a0 _ _ l1_4 false _ ?side1 ?side2 A11.out).mono ?_);(case side1 => exact zc_ HR1_4 HB);(case side2 => exact HC1_4.out);rintro e w' ⟨rfl,⟨nd,rfl⟩⟩;refine ⟨_,rfl,?_⟩))
     go_meet
     case rel => exact ⟨_,(true),(by first | rfl | (simp;done) | (simp [*];done)),H',⟨by first | omega | exact Nat.le_refl _⟩,⟨by (with_reducible repeat (first | apply k1_ | apply k2_ | apply k3_));exact BK329.out⟩,⟨zl_ HB⟩⟩
   case rest =>
    clear HC7
    try clear c1
    try clear p2
    try clear c4
    try clear c5
    try clear c6
    try clear c11
    try clear c12
    try clear hcz13_0
    try clear hcz13_1
    try clear hcz13_2
    try clear hcz13_3
    try clear hcz13_4
    try clear hcz13_5
    try clear hcz14_0
    try clear hcz14_1
    try clear hcz14_2
    try clear hcz14_3
    try clear hcz14_4
    try clear hcz14_5
    try clear hcz9_0
    try clear hcz9_1
    try clear hcz9_2
    try clear hcz9_3
    try clear hcz9_4
    try clear hcz9_5
    try clear hfz13_0
    try clear hfz13_1
    try clear hfz13_2
    try clear hfz13_3
    try clear hfz13_4
    try clear hfz13_5
    try clear hfz14_0
    try clear hfz14_1
    try clear hfz14_2
    try clear hfz14_3
    try clear hfz14_4
    try clear hfz14_5
    try clear hfz9_0
    try clear hfz9_1
    try clear hfz9_2
    try clear hfz9_3
    try clear hfz9_4
    try clear hfz9_5
    obtain ⟨kq,x27_6,rfl,HA,HJ6,BK329,HB⟩ := hcut
    cases kq with
    | zero => exact absurd HA.out (by simp [spec_CheckCertificate.j0])
    | succ kj6 =>
     have H := HA.out
     clear HA
     simp only [spec_CheckCertificate.j0] at H
     by_cases c15 : x27_6 = true
     ·subst c15
      have H1 : (some 19) = some r := by rw [if_pos rfl] at H;exact H
      clear H
      have H := H1
      clear H1
      obtain rfl := Option.some.inj H
      go_wp2
      go_ret
      exact ⟨zt_,zl_ HB⟩
     ·replace c15 := Bool.eq_false_iff.mpr c15
      subst c15
      have H1 : (spec_CheckCertificate.l0 kj6 0 a1_0 a1_1 a1_2 a1_3 l1_4 l1_5) = some r := by rw [if_neg (show ¬ (false = true) by decide)] at H;exact H
      clear H
      have H := H1
      clear H1
      have H' := am_ H
      clear H
      go_wp2
      go_loopg [5] kj6 (fun kq v5 w' => ∃ (x5_2 : Int),v5 = .int .i64 x5_2 ∧ Aside0 (spec_CheckCertificate.l0 kq x5_2 a1_0 a1_1 a1_2 a1_3 l1_4 l1_5 = some r) ∧ Aside0 (kq ≤ kj6) ∧ Aside0 (w'.heap[gb329]? = some (.cells #[.string a1_0,.int .i64 a1_1,.int .i64 a1_2,.int .i64 a1_3,(.slice A1_4 l1_4.length c1_4),(.slice A1_5 l1_5.length c1_5)] 33 (0,0))) ∧ Aside0 (Below w.heap.size w w'))
      case atStart => exact ⟨(0),(by first | rfl | (simp;done) | (simp [*];done)),H',⟨Nat.le_refl _⟩,⟨by (with_reducible repeat (first | apply k1_ | apply k2_ | apply k3_));exact BK329.out⟩,⟨zl_ HB⟩⟩
      case round =>
       clear H'
       try clear c1
       try clear p2
       try clear c4
       try clear c5
       try clear c6
       try clear c11
       try clear c12
       try clear c15
       try clear hcz13_0
       try clear hcz13_1
       try clear hcz13_2
       try clear hcz13_3
       try clear hcz13_4
       try clear hcz13_5
       try clear hcz14_0
       try clear hcz14_1
       try clear hcz14_2
       try clear hcz14_3
       try clear hcz14_4
       try clear hcz14_5
       try clear hcz9_0
       try clear hcz9_1
       try clear hcz9_2
       try clear hcz9_3
       try clear hcz9_4
       try clear hcz9_5
       try clear hfz13_0
       try clear hfz13_1
       try clear hfz13_2
       try clear hfz13_3
       try clear hfz13_4
       try clear hfz13_5
       try clear hfz14_0
       try clear hfz14_1
       try clear hfz14_2
       try clear hfz14_3
       try clear hfz14_4
       try clear hfz14_5
       try clear hfz9_0
       try clear hfz9_1
       try clear hfz9_2
       try clear hfz9_3
       try clear hfz9_4
       try clear hfz9_5
       try clear p2
       obtain ⟨x5_2,rfl,HA,HK2,BK329,HB⟩ := hrel
       cases gk with
       | zero => exact absurd HA.out (by simp [spec_CheckCertificate.l0])
       | succ k2 =>
        have H := HA.out
        clear HA
        simp only [spec_CheckCertificate.l0] at H
        by_cases c16 : x5_2 < (l1_4.length : Int)
        ·rw [if_pos c16] at H
         have c16b0 : decide (x5_2 < (l1_4.length : Int)) = true := decide_eq_true c16
         clear c16
         by_cases c17 : 0 ≤ x5_2
         ·rw [if_pos c17] at H
          have c17b0 : decide (0 ≤ x5_2) = true := decide_eq_true c17
          clear c17
          replace H := Option.bind_eq_some_iff.mp H
          obtain ⟨t334,A180,H⟩ := H
          try dsimp only at H
          have A18 := am_ A180
          clear A180
          replace H := Option.bind_eq_some_iff.mp H
          obtain ⟨t335,A190,H⟩ := H
          try dsimp only at H
          have A19 := am_ A190
          clear A190
          replace H := Option.bind_eq_some_iff.mp H
          obtain ⟨t338,A200,H⟩ := H
          try dsimp only at H
          have A20 := am_ A200
          clear A200
          replace H := Option.bind_eq_some_iff.mp H
          obtain ⟨t339,A210,H⟩ := H
          try dsimp only at H
          have A21 := am_ A210
          clear A210
          by_cases c22 : x5_2 < (l1_5.length : Int)
          ·rw [if_pos c22] at H
           have c22b0 : decide (x5_2 < (l1_5.length : Int)) = true := decide_eq_true c22
           clear c22
           replace H := Option.bind_eq_some_iff.mp H
           obtain ⟨t341,A230,H⟩ := H
           try dsimp only at H
           have A23 := am_ A230
           clear A230
           by_cases c24 : t341 = 0
           ·rw [if_pos c24] at H
            have c24b0 : (t341 == 0) = true := beq_iff_eq.mpr c24
            have c24b1 : (t341 != 0) = false := bne_eq_false_iff_eq.mpr c24
            clear c24
            have H' := am_ H
            clear H
            obtain ⟨hcz25_0,hcz25_1,hcz25_2,hcz25_3,hcz25_4,hcz25_5,hfz25_0,hfz25_1,hfz25_2,hfz25_3,hfz25_4,hfz25_5⟩ := zc6 BK329
            try go_wp2
            replace BK329 := am_ (blk_drew BK329.out)
            replace HB := am_ (below_drew1 HB.out)
            have p333 : 0 ≤ (x5_2 : Int) := zo_
            have q333 : x5_2 < (l1_4.length : Int) := zo_
            obtain ⟨ad333,e333,hx333_0⟩ := Kd.at_int HR1_4.out x5_2 p333 q333
            have hw333_0 := hx333_0
            cases e333
            replace hx333_0 := zx_ HB hx333_0
            replace p333 := eq_true p333
            replace q333 := eq_true q333
            have p340 : 0 ≤ (x5_2 : Int) := zo_
            have q340 : x5_2 < (l1_5.length : Int) := zo_
            obtain ⟨ad340,A340_1,c340_1,A340_2,c340_2,A340_3,c340_3,e340,hx340_0,hx340_1,hx340_2,hx340_3,hl340_1,hi340_1,hl340_2,hi340_2,hl340_3,hi340_3⟩ := at_T52 HR1_5.out x5_2 p340 q340
            have hw340_3 := hx340_3
            have hw340_2 := hx340_2
            have hw340_1 := hx340_1
            have hw340_0 := hx340_0
            have hv340_1 := hx340_1
            have hv340_2 := hx340_2
            have hv340_3 := hx340_3
            cases e340
            replace hx340_0 := zx_ HB hx340_0
            replace hx340_1 := zx_ HB hx340_1
            replace hx340_2 := zx_ HB hx340_2
            replace hx340_3 := zx_ HB hx340_3
            have HR340_1 := am_ hi340_1
            have HC340_1 := am_ hl340_1
            clear hi340_1 hl340_1
            have HR340_2 := am_ hi340_2
            have HC340_2 := am_ hl340_2
            clear hi340_2 hl340_2
            have HR340_3 := am_ hi340_3
            have HC340_3 := am_ hl340_3
            clear hi340_3 hl340_3
            replace p340 := eq_true p340
            replace q340 := eq_true q340
            refine start_ (n := 18) (S := fun w' => w'.cell? ⟨gb329,0,none⟩ = some (.string a1_0) ∧ w'.cell? ⟨gb329,1,none⟩ = some (.int .i64 a1_1) ∧ w'.cell? ⟨gb329,2,none⟩ = some (.int .i64 a1_2) ∧ w'.cell? ⟨gb329,3,none⟩ = some (.int .i64 a1_3) ∧ w'.cell? ⟨gb329,4,none⟩ = some (.slice (some ad333) l1_4.length c1_4) ∧ w'.cell? ⟨gb329,5,none⟩ = some (.slice (some ad340) l1_5.length c1_5) ∧ w'.cell? (ad333.add (x5_2).toNat) = some (.int .i64 (rd l1_4 x5_2)) ∧ w'.cell? (ad340.add ((x5_2).toNat * 4)) = some (.int .i64 ((rd_T52 l1_5 x5_2).f0)) ∧ w'.cell? ⟨(ad340.add ((x5_2).toNat * 4)).block,(ad340.add ((x5_2).toNat * 4)).off + 1,none⟩ = some (.slice A340_1 ((rd_T52 l1_5 x5_2).f1).length c340_1) ∧ w'.cell? ⟨(ad340.add ((x5_2).toNat * 4)).block,(ad340.add ((x5_2).toNat * 4)).off + 2,none⟩ = some (.slice A340_2 ((rd_T52 l1_5 x5_2).f2).length c340_2) ∧ w'.cell? ⟨(ad340.add ((x5_2).toNat * 4)).block,(ad340.add ((x5_2).toNat * 4)).off + 3,none⟩ = some (.slice A340_3 ((rd_T52 l1_5 x5_2).f3).length c340_3)) (ds := []) #[false,false,false,false,false,false,false,false,false,false,false,false,false,false,false,false,false,false] (by kernel_rfl) rfl rfl ⟨(blk_cell BK329.out 0).trans rfl,(blk_cell BK329.out 1).trans rfl,(blk_cell BK329.out 2).trans rfl,(blk_cell BK329.out 3).trans rfl,(blk_cell BK329.out 4).trans rfl,(blk_cell BK329.out 5).trans rfl,(zx_ HB hw333_0),(zx_ HB hw340_0),(zx_ HB hw340_1),(zx_ HB hw340_2),(zx_ HB hw340_3)⟩ (fun hHeld => ?_);refine with_tabW spec_CheckCertificate.tab10 spec_CheckCertificate.bits10 (fun HT_ HW_ => ?_)
            generalize wr.drew = w26 at BK329 HB HR340_1 HR340_2 HR340_3 hx333_0 hx340_0 hx340_1 hx340_2 hx340_3 hHeld ⊢
            refine zpu 0 (N := some 35) HT_ ?_
            refine zpu 2 (N := some 37) HT_ ?_
            refine zpu 8 (N := some 43) HT_ ?_
            refine zpu 11 (N := some 46) HT_ ?_
            refine zpu 13 (N := some 48) HT_ ?_
            refine ztk 1 (N := some 36) HT_ HW_ hHeld ?_
            refine zpu 3 (N := some 38) HT_ ?_
            refine ztk 4 (N := some 39) HT_ HW_ hHeld ?_
            refine ztk 9 (N := some 44) HT_ HW_ hHeld ?_
            refine ztk 12 (N := some 47) HT_ HW_ hHeld ?_
            refine zpu 14 (N := some 49) HT_ ?_
            refine ztk 15 (N := some 50) HT_ HW_ hHeld ?_
            refine zon 5 (N := some 40) HT_ (fun K hK => ?_)
            refine zgo Tryd.func57 #[.int .i64 (rd l1_4 x5_2)] ?_
            with_reducible refine (spec_l12Seed.calls k2 (rd l1_4 x5_2) t334 _ A18.out).mono ?_
            rintro e w27 ⟨rfl,hb⟩
            refine ⟨_,rfl,?_⟩
            replace BK329 := zb BK329 hb
            replace HB := zs_ HB hb
            (try clear hb)
            (try clear hb2)
            (try clear hk)
            (try clear hi)
            refine hK.out _ _ ⟨(blk_cell BK329.out 0).trans rfl,(blk_cell BK329.out 1).trans rfl,(blk_cell BK329.out 2).trans rfl,(blk_cell BK329.out 3).trans rfl,(blk_cell BK329.out 4).trans rfl,(blk_cell BK329.out 5).trans rfl,(zx_ HB hw333_0),(zx_ HB hw340_0),(zx_ HB hw340_1),(zx_ HB hw340_2),(zx_ HB hw340_3)⟩ (fun hHeld => ?_)
            clear hK K
            refine norm_ (a' := ?_) ?_ ?_
            rotate_left
            ·show Act.put _ (some 40) _ = _
             simp only [Act.put,p1_,p2_,p3_,i64_w,i32_w]
             rfl
            refine zon 6 (N := some 41) HT_ (fun K hK => ?_)
            refine zgo Tryd.func56 #[.string t334] ?_
            with_reducible refine (spec_l03Keys.calls k2 t334 t335 _ A19.out).mono ?_
            rintro e w28 ⟨v336,rfl,ho0,hb⟩
            refine ⟨_,rfl,?_⟩
            have HO337 := am_ (Kd.R_lower ho0 (below_size (zl_ HB)))
            replace BK329 := zb BK329 hb
            replace HB := zs_ HB hb
            (try clear hb)
            (try clear hb2)
            (try clear hk)
            (try clear hi)
            (try clear ho0)
            obtain ⟨Ao29,co29,eo29⟩ := Kd.R_slice HO337.out
            (first | subst eo29 | (injection eo29 with f1_ f2_ f3_;have f4_ := f1_.symm;have f5_ := f3_.symm;clear f1_ f2_ f3_;subst f4_;subst f5_))
            refine hK.out _ _ ⟨(blk_cell BK329.out 0).trans rfl,(blk_cell BK329.out 1).trans rfl,(blk_cell BK329.out 2).trans rfl,(blk_cell BK329.out 3).trans rfl,(blk_cell BK329.out 4).trans rfl,(blk_cell BK329.out 5).trans rfl,(zx_ HB hw333_0),(zx_ HB hw340_0),(zx_ HB hw340_1),(zx_ HB hw340_2),(zx_ HB hw340_3)⟩ (fun hHeld => ?_)
            clear hK K
            refine norm_ (a' := ?_) ?_ ?_
            rotate_left
            ·show Act.put _ (some 41) _ = _
             simp only [Act.put,p1_,p2_,p3_,i64_w,i32_w]
             rfl
            refine zon 7 (N := some 42) HT_ (fun K hK => ?_)
            refine zgo Tryd.func55 #[.slice Ao29 t335.length co29] ?_
            with_reducible refine (spec_l03Root.calls k2 (fun k_ => some k_ = (.slice Ao29 t335.length co29 : Value).ownBlock) _ _ t335 t338 _ ?side1 A20.out).mono ?_
            (case side1 => exact Kd.R_V (Kd.R_tight rfl (Kd.R_types (HO337.out) BK329.out (by decide))))
            rintro e w30 ⟨rfl,hb⟩
            refine ⟨_,rfl,?_⟩
            replace HO337 := zrb HO337 hb
            replace BK329 := zb BK329 hb
            replace HB := zs_ HB hb
            (try clear hb)
            (try clear hb2)
            (try clear hk)
            (try clear hi)
            refine hK.out _ _ ⟨(blk_cell BK329.out 0).trans rfl,(blk_cell BK329.out 1).trans rfl,(blk_cell BK329.out 2).trans rfl,(blk_cell BK329.out 3).trans rfl,(blk_cell BK329.out 4).trans rfl,(blk_cell BK329.out 5).trans rfl,(zx_ HB hw333_0),(zx_ HB hw340_0),(zx_ HB hw340_1),(zx_ HB hw340_2),(zx_ HB hw340_3)⟩ (fun hHeld => ?_)
            clear hK K
            refine norm_ (a' := ?_) ?_ ?_
            rotate_left
            ·show Act.put _ (some 42) _ = _
             simp only [Act.put,p1_,p2_,p3_,i64_w,i32_w]
             rfl
            refine zon 10 (N := some 45) HT_ (fun K hK => ?_)
            refine zgo Tryd.func58 #[.agg #[.string a1_0,.int .i64 a1_1,.int .i64 a1_2,.int .i64 a1_3]] ?_
            with_reducible refine (spec_l12Text.calls k2 a1_0 a1_1 a1_2 a1_3 t339 _ A21.out).mono ?_
            rintro e w31 ⟨rfl,hb⟩
            refine ⟨_,rfl,?_⟩
            replace HO337 := zrb HO337 hb
            replace BK329 := zb BK329 hb
            replace HB := zs_ HB hb
            (try clear hb)
            (try clear hb2)
            (try clear hk)
            (try clear hi)
            refine hK.out _ _ ⟨(blk_cell BK329.out 0).trans rfl,(blk_cell BK329.out 1).trans rfl,(blk_cell BK329.out 2).trans rfl,(blk_cell BK329.out 3).trans rfl,(blk_cell BK329.out 4).trans rfl,(blk_cell BK329.out 5).trans rfl,(zx_ HB hw333_0),(zx_ HB hw340_0),(zx_ HB hw340_1),(zx_ HB hw340_2),(zx_ HB hw340_3)⟩ (fun hHeld => ?_)
            clear hK K
            refine norm_ (a' := ?_) ?_ ?_
            rotate_left
            ·show Act.put _ (some 45) _ = _
             simp only [Act.put,p1_,p2_,p3_,i64_w,i32_w]
             rfl
            refine zon 16 (N := some 51) HT_ (fun K hK => ?_)
            refine zgo Tryd.func54 #[.string t338,.string t339,.agg #[.int .i64 ((rd_T52 l1_5 x5_2).f0),.slice A340_1 ((rd_T52 l1_5 x5_2).f1).length c340_1,.slice A340_2 ((rd_T52 l1_5 x5_2).f2).length c340_2,.slice A340_3 ((rd_T52 l1_5 x5_2).f3).length c340_3]] ?_
            with_reducible refine (spec_CheckSignature.calls k2 t338 t339 ((rd_T52 l1_5 x5_2).f0) _ _ ((rd_T52 l1_5 x5_2).f1) _ _ ((rd_T52 l1_5 x5_2).f2) _ _ ((rd_T52 l1_5 x5_2).f3) t341 _ ?side1 ?side2 ?side3 ?side4 ?side5 ?side6 A23.out).mono ?_
            (case side1 => exact zc_ HR340_1 HB)
            (case side2 => exact HC340_1.out)
            (case side3 => exact zc_ HR340_2 HB)
            (case side4 => exact HC340_2.out)
            (case side5 => exact zc_ HR340_3 HB)
            (case side6 => exact HC340_3.out)
            rintro e w32 ⟨rfl,hb⟩
            refine ⟨_,rfl,?_⟩
            replace HO337 := zrb HO337 hb
            replace BK329 := zb BK329 hb
            replace HB := zs_ HB hb
            (try clear hb)
            (try clear hb2)
            (try clear hk)
            (try clear hi)
            refine hK.out _ _ ⟨(blk_cell BK329.out 0).trans rfl,(blk_cell BK329.out 1).trans rfl,(blk_cell BK329.out 2).trans rfl,(blk_cell BK329.out 3).trans rfl,(blk_cell BK329.out 4).trans rfl,(blk_cell BK329.out 5).trans rfl,(zx_ HB hw333_0),(zx_ HB hw340_0),(zx_ HB hw340_1),(zx_ HB hw340_2),(zx_ HB hw340_3)⟩ (fun hHeld => ?_)
            clear hK K
            refine norm_ (a' := ?_) ?_ ?_
            rotate_left
            ·show Act.put _ (some 51) _ = _
             simp only [Act.put,p1_,p2_,p3_,i64_w,i32_w]
             rfl
            refine zpu 17 (N := some 6) HT_ ?_
            refine done_ (done_of HT_.out (by kernel_rfl)) ?_
            try go_wp2
            go_roundg k2
            case measure => have := HJ6.out;have := HK2.out;omega
            case rel => exact ⟨(wrap64 (x5_2 + 1)),(by first | rfl | (simp;done) | (simp [*];done)),H',⟨by have := HJ6.out;have := HK2.out;omega⟩,⟨by (with_reducible repeat (first | apply k1_ | apply k2_ | apply k3_));exact BK329.out⟩,⟨zl_ HB⟩⟩
           ·rw [if_neg c24] at H
            have c24b0 : (t341 == 0) = false := beq_eq_false_iff_ne.mpr c24
            have c24b1 : (t341 != 0) = true := bne_iff_ne.mpr c24
            obtain rfl := Option.some.inj H
            obtain ⟨hcz33_0,hcz33_1,hcz33_2,hcz33_3,hcz33_4,hcz33_5,hfz33_0,hfz33_1,hfz33_2,hfz33_3,hfz33_4,hfz33_5⟩ := zc6 BK329
            try go_wp2
            replace BK329 := am_ (blk_drew BK329.out)
            replace HB := am_ (below_drew1 HB.out)
            have p333 : 0 ≤ (x5_2 : Int) := zo_
            have q333 : x5_2 < (l1_4.length : Int) := zo_
            obtain ⟨ad333,e333,hx333_0⟩ := Kd.at_int HR1_4.out x5_2 p333 q333
            have hw333_0 := hx333_0
            cases e333
            replace hx333_0 := zx_ HB hx333_0
            replace p333 := eq_true p333
            replace q333 := eq_true q333
            have p340 : 0 ≤ (x5_2 : Int) := zo_
            have q340 : x5_2 < (l1_5.length : Int) := zo_
            obtain ⟨ad340,A340_1,c340_1,A340_2,c340_2,A340_3,c340_3,e340,hx340_0,hx340_1,hx340_2,hx340_3,hl340_1,hi340_1,hl340_2,hi340_2,hl340_3,hi340_3⟩ := at_T52 HR1_5.out x5_2 p340 q340
            have hw340_3 := hx340_3
            have hw340_2 := hx340_2
            have hw340_1 := hx340_1
            have hw340_0 := hx340_0
            have hv340_1 := hx340_1
            have hv340_2 := hx340_2
            have hv340_3 := hx340_3
            cases e340
            replace hx340_0 := zx_ HB hx340_0
            replace hx340_1 := zx_ HB hx340_1
            replace hx340_2 := zx_ HB hx340_2
            replace hx340_3 := zx_ HB hx340_3
            have HR340_1 := am_ hi340_1
            have HC340_1 := am_ hl340_1
            clear hi340_1 hl340_1
            have HR340_2 := am_ hi340_2
            have HC340_2 := am_ hl340_2
            clear hi340_2 hl340_2
            have HR340_3 := am_ hi340_3
            have HC340_3 := am_ hl340_3
            clear hi340_3 hl340_3
            replace p340 := eq_true p340
            replace q340 := eq_true q340
            refine start_ (n := 18) (S := fun w' => w'.cell? ⟨gb329,0,none⟩ = some (.string a1_0) ∧ w'.cell? ⟨gb329,1,none⟩ = some (.int .i64 a1_1) ∧ w'.cell? ⟨gb329,2,none⟩ = some (.int .i64 a1_2) ∧ w'.cell? ⟨gb329,3,none⟩ = some (.int .i64 a1_3) ∧ w'.cell? ⟨gb329,4,none⟩ = some (.slice (some ad333) l1_4.length c1_4) ∧ w'.cell? ⟨gb329,5,none⟩ = some (.slice (some ad340) l1_5.length c1_5) ∧ w'.cell? (ad333.add (x5_2).toNat) = some (.int .i64 (rd l1_4 x5_2)) ∧ w'.cell? (ad340.add ((x5_2).toNat * 4)) = some (.int .i64 ((rd_T52 l1_5 x5_2).f0)) ∧ w'.cell? ⟨(ad340.add ((x5_2).toNat * 4)).block,(ad340.add ((x5_2).toNat * 4)).off + 1,none⟩ = some (.slice A340_1 ((rd_T52 l1_5 x5_2).f1).length c340_1) ∧ w'.cell? ⟨(ad340.add ((x5_2).toNat * 4)).block,(ad340.add ((x5_2).toNat * 4)).off + 2,none⟩ = some (.slice A340_2 ((rd_T52 l1_5 x5_2).f2).length c340_2) ∧ w'.cell? ⟨(ad340.add ((x5_2).toNat * 4)).block,(ad340.add ((x5_2).toNat * 4)).off + 3,none⟩ = some (.slice A340_3 ((rd_T52 l1_5 x5_2).f3).length c340_3)) (ds := []) #[false,false,false,false,false,false,false,false,false,false,false,false,false,false,false,false,false,false] (by kernel_rfl) rfl rfl ⟨(blk_cell BK329.out 0).trans rfl,(blk_cell BK329.out 1).trans rfl,(blk_cell BK329.out 2).trans rfl,(blk_cell BK329.out 3).trans rfl,(blk_cell BK329.out 4).trans rfl,(blk_cell BK329.out 5).trans rfl,(zx_ HB hw333_0),(zx_ HB hw340_0),(zx_ HB hw340_1),(zx_ HB hw340_2),(zx_ HB hw340_3)⟩ (fun hHeld => ?_);refine with_tabW spec_CheckCertificate.tab10 spec_CheckCertificate.bits10 (fun HT_ HW_ => ?_)
            generalize wr.drew = w34 at BK329 HB HR340_1 HR340_2 HR340_3 hx333_0 hx340_0 hx340_1 hx340_2 hx340_3 hHeld ⊢
            refine zpu 0 (N := some 35) HT_ ?_
            refine zpu 2 (N := some 37) HT_ ?_
            refine zpu 8 (N := some 43) HT_ ?_
            refine zpu 11 (N := some 46) HT_ ?_
            refine zpu 13 (N := some 48) HT_ ?_
            refine ztk 1 (N := some 36) HT_ HW_ hHeld ?_
            refine zpu 3 (N := some 38) HT_ ?_
            refine ztk 4 (N := some 39) HT_ HW_ hHeld ?_
            refine ztk 9 (N := some 44) HT_ HW_ hHeld ?_
            refine ztk 12 (N := some 47) HT_ HW_ hHeld ?_
            refine zpu 14 (N := some 49) HT_ ?_
            refine ztk 15 (N := some 50) HT_ HW_ hHeld ?_
            refine zon 5 (N := some 40) HT_ (fun K hK => ?_)
            refine zgo Tryd.func57 #[.int .i64 (rd l1_4 x5_2)] ?_
            with_reducible refine (spec_l12Seed.calls k2 (rd l1_4 x5_2) t334 _ A18.out).mono ?_
            rintro e w35 ⟨rfl,hb⟩
            refine ⟨_,rfl,?_⟩
            replace BK329 := zb BK329 hb
            replace HB := zs_ HB hb
            (try clear hb)
            (try clear hb2)
            (try clear hk)
            (try clear hi)
            refine hK.out _ _ ⟨(blk_cell BK329.out 0).trans rfl,(blk_cell BK329.out 1).trans rfl,(blk_cell BK329.out 2).trans rfl,(blk_cell BK329.out 3).trans rfl,(blk_cell BK329.out 4).trans rfl,(blk_cell BK329.out 5).trans rfl,(zx_ HB hw333_0),(zx_ HB hw340_0),(zx_ HB hw340_1),(zx_ HB hw340_2),(zx_ HB hw340_3)⟩ (fun hHeld => ?_)
            clear hK K
            refine norm_ (a' := ?_) ?_ ?_
            rotate_left
            ·show Act.put _ (some 40) _ = _
             simp only [Act.put,p1_,p2_,p3_,i64_w,i32_w]
             rfl
            refine zon 6 (N := some 41) HT_ (fun K hK => ?_)
            refine zgo Tryd.func56 #[.string t334] ?_
            with_reducible refine (spec_l03Keys.calls k2 t334 t335 _ A19.out).mono ?_
            rintro e w36 ⟨v336,rfl,ho0,hb⟩
            refine ⟨_,rfl,?_⟩
            have HO337 := am_ (Kd.R_lower ho0 (below_size (zl_ HB)))
            replace BK329 := zb BK329 hb
            replace HB := zs_ HB hb
            (try clear hb)
            (try clear hb2)
            (try clear hk)
            (try clear hi)
            (try clear ho0)
            obtain ⟨Ao37,co37,eo37⟩ := Kd.R_slice HO337.out
            (first | subst eo37 | (injection eo37 with f1_ f2_ f3_;have f4_ := f1_.symm;have f5_ := f3_.symm;clear f1_ f2_ f3_;subst f4_;subst f5_))
            refine hK.out _ _ ⟨(blk_cell BK329.out 0).trans rfl,(blk_cell BK329.out 1).trans rfl,(blk_cell BK329.out 2).trans rfl,(blk_cell BK329.out 3).trans rfl,(blk_cell BK329.out 4).trans rfl,(blk_cell BK329.out 5).trans rfl,(zx_ HB hw333_0),(zx_ HB hw340_0),(zx_ HB hw340_1),(zx_ HB hw340_2),(zx_ HB hw340_3)⟩ (fun hHeld => ?_)
            clear hK K
            refine norm_ (a' := ?_) ?_ ?_
            rotate_left
            ·show Act.put _ (some 41) _ = _
             simp only [Act.put,p1_,p2_,p3_,i64_w,i32_w]
             rfl
            refine zon 7 (N := some 42) HT_ (fun K hK => ?_)
            refine zgo Tryd.func55 #[.slice Ao37 t335.length co37] ?_
            with_reducible refine (spec_l03Root.calls k2 (fun k_ => some k_ = (.slice Ao37 t335.length co37 : Value).ownBlock) _ _ t335 t338 _ ?side1 A20.out).mono ?_
            (case side1 => exact Kd.R_V (Kd.R_tight rfl (Kd.R_types (HO337.out) BK329.out (by decide))))
            rintro e w38 ⟨rfl,hb⟩
            refine ⟨_,rfl,?_⟩
            replace BK329 := zb BK329 hb
            replace HB := zs_ HB hb
            (try clear hb)
            (try clear hb2)
            (try clear hk)
            (try clear hi)
            refine hK.out _ _ ⟨(blk_cell BK329.out 0).trans rfl,(blk_cell BK329.out 1).trans rfl,(blk_cell BK329.out 2).trans rfl,(blk_cell BK329.out 3).trans rfl,(blk_cell BK329.out 4).trans rfl,(blk_cell BK329.out 5).trans rfl,(zx_ HB hw333_0),(zx_ HB hw340_0),(zx_ HB hw340_1),(zx_ HB hw340_2),(zx_ HB hw340_3)⟩ (fun hHeld => ?_)
            clear hK K
            refine norm_ (a' := ?_) ?_ ?_
            rotate_left
            ·show Act.put _ (some 42) _ = _
             simp only [Act.put,p1_,p2_,p3_,i64_w,i32_w]
             rfl
            refine zon 10 (N := some 45) HT_ (fun K hK => ?_)
            refine zgo Tryd.func58 #[.agg #[.string a1_0,.int .i64 a1_1,.int .i64 a1_2,.int .i64 a1_3]] ?_
            with_reducible refine (spec_l12Text.calls k2 a1_0 a1_1 a1_2 a1_3 t339 _ A21.out).mono ?_
            rintro e w39 ⟨rfl,hb⟩
            refine ⟨_,rfl,?_⟩
            replace BK329 := zb BK329 hb
            replace HB := zs_ HB hb
            (try clear hb)
            (try clear hb2)
            (try clear hk)
            (try clear hi)
            refine hK.out _ _ ⟨(blk_cell BK329.out 0).trans rfl,(blk_cell BK329.out 1).trans rfl,(blk_cell BK329.out 2).trans rfl,(blk_cell BK329.out 3).trans rfl,(blk_cell BK329.out 4).trans rfl,(blk_cell BK329.out 5).trans rfl,(zx_ HB hw333_0),(zx_ HB hw340_0),(zx_ HB hw340_1),(zx_ HB hw340_2),(zx_ HB hw340_3)⟩ (fun hHeld => ?_)
            clear hK K
            refine norm_ (a' := ?_) ?_ ?_
            rotate_left
            ·show Act.put _ (some 45) _ = _
             simp only [Act.put,p1_,p2_,p3_,i64_w,i32_w]
             rfl
            refine zon 16 (N := some 51) HT_ (fun K hK => ?_)
            refine zgo Tryd.func54 #[.string t338,.string t339,.agg #[.int .i64 ((rd_T52 l1_5 x5_2).f0),.slice A340_1 ((rd_T52 l1_5 x5_2).f1).length c340_1,.slice A340_2 ((rd_T52 l1_5 x5_2).f2).length c340_2,.slice A340_3 ((rd_T52 l1_5 x5_2).f3).length c340_3]] ?_
            with_reducible refine (spec_CheckSignature.calls k2 t338 t339 ((rd_T52 l1_5 x5_2).f0) _ _ ((rd_T52 l1_5 x5_2).f1) _ _ ((rd_T52 l1_5 x5_2).f2) _ _ ((rd_T52 l1_5 x5_2).f3) t341 _ ?side1 ?side2 ?side3 ?side4 ?side5 ?side6 A23.out).mono ?_
            (case side1 => exact zc_ HR340_1 HB)
            (case side2 => exact HC340_1.out)
            (case side3 => exact zc_ HR340_2 HB)
            (case side4 => exact HC340_2.out)
            (case side5 => exact zc_ HR340_3 HB)
            (case side6 => exact HC340_3.out)
            rintro e w40 ⟨rfl,hb⟩
            refine ⟨_,rfl,?_⟩
            replace BK329 := zb BK329 hb
            replace HB := zs_ HB hb
            (try clear hb)
            (try clear hb2)
            (try clear hk)
            (try clear hi)
            refine hK.out _ _ ⟨(blk_cell BK329.out 0).trans rfl,(blk_cell BK329.out 1).trans rfl,(blk_cell BK329.out 2).trans rfl,(blk_cell BK329.out 3).trans rfl,(blk_cell BK329.out 4).trans rfl,(blk_cell BK329.out 5).trans rfl,(zx_ HB hw333_0),(zx_ HB hw340_0),(zx_ HB hw340_1),(zx_ HB hw340_2),(zx_ HB hw340_3)⟩ (fun hHeld => ?_)
            clear hK K
            refine norm_ (a' := ?_) ?_ ?_
            rotate_left
            ·show Act.put _ (some 51) _ = _
             simp only [Act.put,p1_,p2_,p3_,i64_w,i32_w]
             rfl
            refine zpu 17 (N := some 6) HT_ ?_
            refine done_ (done_of HT_.out (by kernel_rfl)) ?_
            try go_wp2
            go_ret
            exact ⟨zt_,zl_ HB⟩
          ·rw [if_neg c22] at H
           exact absurd H (by simp)
         ·rw [if_neg c17] at H
          exact absurd H (by simp)
        ·rw [if_neg c16] at H
         have c16b0 : decide (x5_2 < (l1_4.length : Int)) = false := decide_eq_false c16
         clear c16
         obtain rfl := Option.some.inj H
         obtain ⟨hcz41_0,hcz41_1,hcz41_2,hcz41_3,hcz41_4,hcz41_5,hfz41_0,hfz41_1,hfz41_2,hfz41_3,hfz41_4,hfz41_5⟩ := zc6 BK329
         go_wp2
         go_ret
         exact ⟨zt_,zl_ HB⟩
  ·replace c6 := Bool.eq_false_iff.mpr c6
   subst c6
   have H1 : (some 4) = some r := by rw [if_neg (show ¬ (false = true) by decide)] at H;exact H
   clear H
   have H := H1
   clear H1
   obtain rfl := Option.some.inj H
   go_enter Tryd.func11,Tryd.ntmps11
   go_wp2_with (first | ((with_reducible refine gate_dst (N := 3) rfl ?_);(try (refine gate_guard (by rfl) ?_;dsimp only));refine zbx (N := 3) (cs := #[.string a1_0,.int .i64 a1_1,.int .i64 a1_2,.int .i64 a1_3,.slice A1_4 l1_4.length c1_4,.slice A1_5 l1_5.length c1_5]) (t := 33) ?_;intro gb329 hg w42 hbox hb;have BK329 := am_ (hbox);have GW329 := zw_ HB hg;have GE329 := zw_ HB hg;replace HB := zs_ HB hb;clear hb hbox hg;obtain ⟨hcz43_0,hcz43_1,hcz43_2,hcz43_3,hcz43_4,hcz43_5,hfz43_0,hfz43_1,hfz43_2,hfz43_3,hfz43_4,hfz43_5⟩ := zc6 BK329) | ((with_reducible refine gate_callee (f := 51) rfl ?_);refine zgl (some 9) Tryd.func51 #[.agg #[.string a1_0,.int .i64 a1_1,.int .i64 a1_2,.int .i64 a1_3]] ?_;(with_reducible refine (spec_GrantOK.calls k a1_0 a1_1 a1_2 a1_3 true _ A3.out).mono ?_);rintro e w44 ⟨rfl,hb⟩;refine ⟨_,rfl,?_⟩;replace HB := zs_ HB hb;(try clear hb);(try clear hb2);(try clear hk);(try clear hi)) | ((with_reducible refine gate_callee (f := 52) rfl ?_);refine zgl (some 12) Tryd.func52 #[.int .i64 a0] ?_;(with_reducible refine (spec_l04Nodes.calls a0 false _ A5.out).mono ?_);rintro e w' ⟨rfl,⟨nd,rfl⟩⟩;refine ⟨_,rfl,?_⟩))
   go_ret
   exact ⟨zt_,zl_ HB⟩
 ·replace c4 := Bool.eq_false_iff.mpr c4
  subst c4
  have H1 : (some 1) = some r := by rw [if_neg (show ¬ (false = true) by decide)] at H;exact H
  clear H
  have H := H1
  clear H1
  obtain rfl := Option.some.inj H
  go_enter Tryd.func11,Tryd.ntmps11
  go_wp2_with (first | ((with_reducible refine gate_dst (N := 3) rfl ?_);(try (refine gate_guard (by rfl) ?_;dsimp only));refine zbx (N := 3) (cs := #[.string a1_0,.int .i64 a1_1,.int .i64 a1_2,.int .i64 a1_3,.slice A1_4 l1_4.length c1_4,.slice A1_5 l1_5.length c1_5]) (t := 33) ?_;intro gb329 hg w45 hbox hb;have BK329 := am_ (hbox);have GW329 := zw_ HB hg;have GE329 := zw_ HB hg;replace HB := zs_ HB hb;clear hb hbox hg;obtain ⟨hcz46_0,hcz46_1,hcz46_2,hcz46_3,hcz46_4,hcz46_5,hfz46_0,hfz46_1,hfz46_2,hfz46_3,hfz46_4,hfz46_5⟩ := zc6 BK329) | ((with_reducible refine gate_callee (f := 51) rfl ?_);refine zgl (some 9) Tryd.func51 #[.agg #[.string a1_0,.int .i64 a1_1,.int .i64 a1_2,.int .i64 a1_3]] ?_;(with_reducible refine (spec_GrantOK.calls k a1_0 a1_1 a1_2 a1_3 false _ A3.out).mono ?_);rintro e w47 ⟨rfl,hb⟩;refine ⟨_,rfl,?_⟩;replace HB := zs_ HB hb;(try clear hb);(try clear hb2);(try clear hk);(try clear hi)))
  go_ret
  exact ⟨zt_,zl_ HB⟩
end Go.Proofs.YtlifdodphkimpaaDoor.A
end
