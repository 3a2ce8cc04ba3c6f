/- A part of the proof that FnExactProofsOf returns true at every input: plain functions, contracts and lemmas. No conditions. -/
import Derived.Test.YtadablpppkjdbaaDoorQProofsOfc
set_option linter.unusedVariables false
set_option linter.unusedSimpArgs false
set_option linter.unusedSectionVars false
section
namespace Go.Proofs.YtadablpppkjdbaaDoor.A
open Go.RowKit Go.Proofs.YtadablpppkjdbaaDoorW.PrintWords Go.Proofs.YtadablpppkjdbaaDoorW.PrintLast Go.Proofs.YtadablpppkjdbaaDoorW.PrintMore
attribute [local go_sem] max2_int min2_int max_two min_two max_three min_three max_four min_four
def spec_l01Hash.T18 : Bool × List (List Nat × List Nat) := (true,[([],[]),([],[]),([],[]),([1,2],[1,2]),([3],[3]),([4],[4]),([5],[5]),([],[]),([],[]),([7,8],[7,8]),([9],[9]),([10],[10]),([11],[11]),([],[]),([],[]),([13,14],[13,14]),([15],[15]),([16],[16]),([17],[17]),([],[]),([],[]),([19,20],[19,20]),([21],[21]),([22],[22]),([6,12,18,23],[6,12,18,23]),([0,24],[0,24]),([25,25,0,1,2,3,4,5,6,7,8,9,10,11,12,13,14,15,16,17,18,19,20,21,22,23,24,25],[0,25])])
def spec_l01Hash.B18 : List Nat := [0,0,0,6,14,30,62,0,0,384,896,1920,3968,0,0,24576,57344,122880,253952,0,0,1572864,3670016,7864320,16777214,33554431,67108863]
theorem spec_l01Hash.tab18 : rtab .any (opsOf Tryd.f123 18) = spec_l01Hash.T18 := by kernel_rfl
theorem spec_l01Hash.bits18 : waitsOk spec_l01Hash.T18.2 spec_l01Hash.B18 = true := by kernel_rfl
set_option maxHeartbeats 8000000 in
set_option maxRecDepth 100000 in
theorem spec_l01Hash.calls (k : Nat) (A0 : Option Addr) (c0 : Nat) (l0 : List Int) (r : ByteArray) (w : World) (hr0 : Kd.C (Kd.int .u8) w A0 l0.length l0) (hc0 : l0.length ≤ c0) (h : spec_l01Hash.f k l0 = some r) :
  Calls Tryd.prog 123 #[.slice A0 l0.length c0] w fun e w' => e = .returned (.string r) ∧ Below w.heap.size w w' := by
 have HR0 := am_ hr0
 have HC0 := am_ hc0
 clear hr0 hc0
 have HB := am_ (Below.refl w.heap.size w)
 have H : ((some (([] : List Int) : List Int)).bind fun y164 => (if y164.length + l0.length < 140737488355328 then ((some (y164 ++ l0 : List Int)).bind fun y167 => (if y167.length < 140737488355328 then (spec_l01Hash.l0 k l0 (([1779033703,3144134277,1013904242,2773480762,1359893119,2600822924,528734635,1541459225] : List Int)) (y167 ++ [128])) else (none))) else (none))) = some r := h
 clear h
 obtain ⟨y161,hy161⟩ : ∃ y_ : List Int,y_ = (([1779033703,3144134277,1013904242,2773480762,1359893119,2600822924,528734635,1541459225] : List Int)) := ⟨_,rfl⟩
 replace H : ((some (([] : List Int) : List Int)).bind fun y164 => (if y164.length + l0.length < 140737488355328 then ((some (y164 ++ l0 : List Int)).bind fun y167 => (if y167.length < 140737488355328 then (spec_l01Hash.l0 k l0 y161 (y167 ++ [128])) else (none))) else (none))) = some r := by first | (rw [hy161];with_reducible exact H) | (have H2_ := (Option.bind_some _ _).symm.trans H;rw [hy161];with_reducible exact H2_) | (have H2_ := (Option.bind_some _ _).symm.trans H;with_reducible exact H2_) | with_reducible exact H | (rw [hy161];exact H) | exact H
 have Ny161 := am_ hy161
 clear hy161
 obtain ⟨y164,hy164⟩ : ∃ y_ : List Int,y_ = (([] : List Int)) := ⟨_,rfl⟩
 replace H : (if y164.length + l0.length < 140737488355328 then ((some (y164 ++ l0 : List Int)).bind fun y167 => (if y167.length < 140737488355328 then (spec_l01Hash.l0 k l0 y161 (y167 ++ [128])) else (none))) else (none)) = some r := by first | (rw [hy164];with_reducible exact H) | (have H2_ := (Option.bind_some _ _).symm.trans H;rw [hy164];with_reducible exact H2_) | (have H2_ := (Option.bind_some _ _).symm.trans H;with_reducible exact H2_) | with_reducible exact H | (rw [hy164];exact H) | exact H
 have Ny164 := am_ hy164
 clear hy164
 by_cases c2 : y164.length + l0.length < 140737488355328
 ·rw [if_pos c2] at H
  have LMc2 := am_ c2
  clear c2
  obtain ⟨y167,hy167⟩ : ∃ y_ : List Int,y_ = (y164 ++ l0) := ⟨_,rfl⟩
  replace H : (if y167.length < 140737488355328 then (spec_l01Hash.l0 k l0 y161 (y167 ++ [128])) else (none)) = some r := by first | (rw [hy167];with_reducible exact H) | (have H2_ := (Option.bind_some _ _).symm.trans H;rw [hy167];with_reducible exact H2_) | (have H2_ := (Option.bind_some _ _).symm.trans H;with_reducible exact H2_) | with_reducible exact H | (rw [hy167];exact H) | exact H
  have Ny167 := am_ hy167
  clear hy167
  by_cases c3 : y167.length < 140737488355328
  ·rw [if_pos c3] at H
   have LMc3 := am_ c3
   clear c3
   obtain ⟨y170,hy170⟩ : ∃ y_ : List Int,y_ = (y167 ++ [128]) := ⟨_,rfl⟩
   replace H : (spec_l01Hash.l0 k l0 y161 y170) = some r := by first | (rw [hy170];with_reducible exact H) | (have H2_ := (Option.bind_some _ _).symm.trans H;rw [hy170];with_reducible exact H2_) | (have H2_ := (Option.bind_some _ _).symm.trans H;with_reducible exact H2_) | with_reducible exact H | (rw [hy170];exact H) | exact H
   have Ny170 := am_ hy170
   clear hy170
   have H' := am_ H
   clear H
   go_enter Tryd.func123,Tryd.ntmps123
   go_wp2_with (first | ((with_reducible refine gate_dst (N := 10) rfl ?_);refine Kd.R_lit (Kd.int .u32) _ 153 ?hg (N := 10) ?hd (xs := ([1779033703,3144134277,1013904242,2773480762,1359893119,2600822924,528734635,1541459225] : List Int)) (inner := [.int .u32 1779033703,.int .u32 3144134277,.int .u32 1013904242,.int .u32 2773480762,.int .u32 1359893119,.int .u32 2600822924,.int .u32 528734635,.int .u32 1541459225]) (ok := fun _ => True) (okp := fun _ => True) ?hr ?hp (fun _ hk => hk) trivial (Below.refl _ _) (Nat.le_refl _) (by simp) ?_;(case hd => rfl);(case hg => rfl);(case hr => first | (go_simp;done) | (go_simp;rfl));(case hp => exact (Reps.one (show Kd.M (Kd.int .u32) _ _ _ 1779033703 [.int .u32 1779033703] from rfl) (Reps.one (show Kd.M (Kd.int .u32) _ _ _ 3144134277 [.int .u32 3144134277] from rfl) (Reps.one (show Kd.M (Kd.int .u32) _ _ _ 1013904242 [.int .u32 1013904242] from rfl) (Reps.one (show Kd.M (Kd.int .u32) _ _ _ 2773480762 [.int .u32 2773480762] from rfl) (Reps.one (show Kd.M (Kd.int .u32) _ _ _ 1359893119 [.int .u32 1359893119] from rfl) (Reps.one (show Kd.M (Kd.int .u32) _ _ _ 2600822924 [.int .u32 2600822924] from rfl) (Reps.one (show Kd.M (Kd.int .u32) _ _ _ 528734635 [.int .u32 528734635] from rfl) (Reps.one (show Kd.M (Kd.int .u32) _ _ _ 1541459225 [.int .u32 1541459225] from rfl) (Reps.none _ _))))))))));intro v162 w4 ho5 hb hg_ hnew_;clear hg_ hnew_;(first | rw [← Ny161.out] at ho5 | (simp only [Int.reduceToNat] at ho5;rw [← Ny161.out] at ho5));have HO163 := am_ (Kd.R_lower ho5 (below_size (zl_ HB)));replace HB := zs_ HB hb;clear hb ho5) | ((with_reducible refine gate_dst (N := 11) rfl ?_);refine Kd.R_lit (Kd.int .u8) _ 5 ?hg (N := 11) ?hd (xs := ([] : List Int)) (inner := []) (ok := fun _ => True) (okp := fun _ => True) ?hr ?hp (fun _ hk => hk) trivial (Below.refl _ _) (Nat.le_refl _) (by simp) ?_;(case hd => rfl);(case hg => rfl);(case hr => first | (go_simp;done) | (go_simp;rfl));(case hp => exact (Reps.none _ _));intro v165 w6 ho7 hb hg_ hnew_;clear hg_ hnew_;(first | rw [← Ny164.out] at ho7 | (simp only [Int.reduceToNat] at ho7;rw [← Ny164.out] at ho7));replace HO163 := zrb HO163 hb;have HO166 := am_ (Kd.R_lower ho7 (below_size (zl_ HB)));replace HB := zs_ HB hb;clear hb ho7) | ((with_reducible refine gate_builtin (b := .append) (xs := #[.tmp 11,.tmp 12]) rfl ?_);at_builtin;refine Kd.R_append_rows (Kd.int .u8) (w0 := w) w.heap.size rfl (.tmp 11) (.tmp 12) 31 5 (.int .u8 0) 1 rfl Tryd.underlying31 info5 rfl (by decide) (by omega) v165 y164 l0 _ _ _ (fun _ => True) (fun _ => False) rfl rfl ?aO ?aR (fun _ _ h => h) (fun _ h => h.elim) ?aF ?aB ?aS ?aL ?_;(case aR => exact zc_ HR0 HB);(case aB => exact (zl_ HB));(case aF => exact (fun _ _ => trivial));(case aO => exact (zr HO166));(case aS => exact (below_size (zl_ HB)));(case aL => have := LMc2.out;omega);intro v168 w8 ho hb hg hat;rw [← Ny167.out] at ho;replace HO163 := am_ (Kd.R_over' (zr HO163) (Kd.R_typed (zr HO166)) (by decide) hg);replace HB := am_ (hb);have HO169 := am_ (ho);clear HO166;clear ho hb hg hat) | ((with_reducible refine gate_builtin (b := .append) (xs := #[.tmp 13,.tmp 14]) rfl ?_);at_builtin;refine Kd.R_append (Kd.int .u8) (w0 := w) w.heap.size rfl (.tmp 13) (.tmp 14) 31 5 (.int .u8 0) 1 rfl Tryd.underlying31 info5 rfl (by decide) (by omega) v168 y167 128 [.int .u8 128] (fun _ => True) (fun _ => False) rfl rfl ?aP (fun _ hk => hk.elim) ?aF ?aO ?aB ?aS ?aL ?_;(case aP => exact rfl);(case aB => exact (zl_ HB));(case aF => exact (fun _ _ => trivial));(case aO => exact (zr HO169));(case aS => exact (below_size (zl_ HB)));(case aL => have := LMc3.out;omega);intro v171 w9 ho hb hg hat;rw [← Ny170.out] at ho;replace HO163 := am_ (Kd.R_over' (zr HO163) (Kd.R_typed (zr HO169)) (by decide) hg);replace HB := am_ (hb);have HO172 := am_ (ho);clear HO169;clear ho hb hg hat))
   go_loopg [4] k (fun kq v4 w' => ∃ (x4_1 : List Int),Aside0 (spec_l01Hash.l0 kq l0 y161 x4_1 = some r) ∧ Aside0 (kq ≤ k) ∧ Aside0 (Kd.R (Kd.int .u32) 153 w' w.heap.size (fun _ => True) v162 y161) ∧ Aside0 (Kd.R (Kd.int .u8) 5 w' w.heap.size (fun _ => True) v4 x4_1) ∧ Aside0 (Below w.heap.size w w'))
   case atStart => exact ⟨(y170),H',⟨Nat.le_refl _⟩,⟨zr HO163⟩,⟨zr HO172⟩,⟨zl_ HB⟩⟩
   case round =>
    clear H'
    try clear c1
    try clear c2
    try clear p2
    try clear c3
    obtain ⟨x4_1,HA,HK1,HO_3,HO_4,HB⟩ := hrel
    cases gk with
    | zero => exact absurd HA.out (by simp [spec_l01Hash.l0])
    | succ k1 =>
     have H := HA.out
     clear HA
     simp only [spec_l01Hash.l0] at H
     by_cases c10 : ((x4_1.length : Int) % 64) = 56
     ·rw [if_pos c10] at H
      have c10b0 : (((x4_1.length : Int) % 64) == 56) = true := beq_iff_eq.mpr c10
      have c10b1 : (((x4_1.length : Int) % 64) != 56) = false := bne_eq_false_iff_eq.mpr c10
      clear c10
      have H' := am_ H
      clear H
      obtain ⟨Ao11,co11,eo11⟩ := Kd.R_slice HO_4.out
      subst eo11
      go_wp2
      go_loopg [4,5] k1 (fun kq v4 v5 w' => ∃ (x4_2 : List Int) (x5_2 : Int),v5 = .int .i64 x5_2 ∧ Aside0 (spec_l01Hash.l1 kq l0 y161 x4_2 x5_2 = some r) ∧ Aside0 (kq ≤ k1) ∧ Aside0 (Kd.R (Kd.int .u32) 153 w' w.heap.size (fun _ => True) v162 y161) ∧ Aside0 (Kd.R (Kd.int .u8) 5 w' w.heap.size (fun _ => True) v4 x4_2) ∧ Aside0 (Below w.heap.size w w'))
      case atStart => exact ⟨(x4_1),(7),(by first | rfl | (simp;done) | (simp [*];done)),H',⟨Nat.le_refl _⟩,⟨zr HO_3⟩,⟨zr HO_4⟩,⟨zl_ HB⟩⟩
      case round =>
       clear H'
       try clear c1
       try clear c2
       try clear p2
       try clear c3
       try clear c10
       try clear c10b0
       try clear c10b1
       try clear p2
       obtain ⟨x4_2,x5_2,rfl,HA,HK2,HO_3,HO_4,HB⟩ := hrel
       cases gk with
       | zero => exact absurd HA.out (by simp [spec_l01Hash.l1])
       | succ k2 =>
        have H := HA.out
        clear HA
        simp only [spec_l01Hash.l1] at H
        by_cases c12 : x5_2 ≥ 0
        ·rw [if_pos c12] at H
         have c12b0 : decide (0 ≤ x5_2) = true := decide_eq_true c12
         clear c12
         obtain ⟨ji13,hji13⟩ : ∃ j_ : Int,(IntKind.u64.wrap (wrap64 (8 * x5_2))) = j_ := ⟨_,rfl⟩
         replace H : (if 0 ≤ (ji13) then (if x4_2.length < 140737488355328 then (spec_l01Hash.l1 k2 l0 y161 (x4_2 ++ [(shr .i64 (wrap64 (8 * (l0.length : Int))) (ji13)) % 256]) (wrap64 (x5_2 - 1))) else (none)) else (none)) = some r := by first | (rw [hji13] at H;exact H) | (simp only [hji13] at H ⊢;exact H)
         by_cases c14 : 0 ≤ (ji13)
         ·rw [if_pos c14] at H
          have c14b0 := eq_true c14
          have c14b1 : decide (0 ≤ (ji13)) = true := decide_eq_true c14
          clear c14
          obtain ⟨ji15,hji15⟩ : ∃ j_ : Int,(shr .i64 (wrap64 (8 * (l0.length : Int))) (ji13)) = j_ := ⟨_,rfl⟩
          replace H : (if x4_2.length < 140737488355328 then (spec_l01Hash.l1 k2 l0 y161 (x4_2 ++ [(ji15) % 256]) (wrap64 (x5_2 - 1))) else (none)) = some r := by first | (rw [hji15] at H;exact H) | (simp only [hji15] at H ⊢;exact H)
          have hji15_ : ((wrap64 (8 * (l0.length : Int))) / 2 ^ min (ji13).toNat 64) = ji15 := hji15
          have hji15z : (ji13) ≤ 64 → ((wrap64 (8 * (l0.length : Int))) / 2 ^ (ji13).toNat) = ji15 := shr_small hji15
          by_cases c16 : x4_2.length < 140737488355328
          ·rw [if_pos c16] at H
           have LMc16 := am_ c16
           clear c16
           obtain ⟨y176,hy176⟩ : ∃ y_ : List Int,y_ = (x4_2 ++ [(ji15) % 256]) := ⟨_,rfl⟩
           replace H : (spec_l01Hash.l1 k2 l0 y161 y176 (wrap64 (x5_2 - 1))) = some r := by first | (rw [hy176];with_reducible exact H) | (have H2_ := (Option.bind_some _ _).symm.trans H;rw [hy176];with_reducible exact H2_) | (have H2_ := (Option.bind_some _ _).symm.trans H;with_reducible exact H2_) | with_reducible exact H | (rw [hy176];exact H) | exact H
           have Ny176 := am_ hy176
           clear hy176
           have H' := am_ H
           clear H
           go_wp2_with (first | ((with_reducible refine gate_builtin (b := .append) (xs := #[.tmp 27,.tmp 36]) rfl ?_);at_builtin;refine Kd.R_append (Kd.int .u8) (w0 := w) w.heap.size rfl (.tmp 27) (.tmp 36) 31 5 (.int .u8 0) 1 rfl Tryd.underlying31 info5 rfl (by decide) (by omega) u4 x4_2 ((ji15) % 256) [.int .u8 ((ji15) % 256)] (fun _ => True) (fun _ => False) rfl rfl ?aP (fun _ hk => hk.elim) ?aF ?aO ?aB ?aS ?aL ?_;(case aP => exact rfl);(case aB => exact (zl_ HB));(case aF => exact (fun _ _ => trivial));(case aO => exact (zr HO_4));(case aS => exact (below_size (zl_ HB)));(case aL => have := LMc16.out;omega);intro v177 w17 ho hb hg hat;rw [← Ny176.out] at ho;replace HO_3 := am_ (Kd.R_over' (zr HO_3) (Kd.R_typed (zr HO_4)) (by decide) hg);replace HB := am_ (hb);have HO178 := am_ (ho);clear HO_4;clear ho hb hg hat))
           go_roundg k2
           case measure => have := HK1.out;have := HK2.out;omega
           case rel => exact ⟨(y176),(wrap64 (x5_2 - 1)),(by first | rfl | (simp;done) | (simp [*];done)),H',⟨by have := HK1.out;have := HK2.out;omega⟩,⟨zr HO_3⟩,⟨zr HO178⟩,⟨zl_ HB⟩⟩
          ·rw [if_neg c16] at H
           exact absurd H (by simp)
         ·rw [if_neg c14] at H
          exact absurd H (by simp)
        ·rw [if_neg c12] at H
         have c12b0 : decide (0 ≤ x5_2) = false := decide_eq_false c12
         clear c12
         replace H := Option.bind_eq_some_iff.mp H
         obtain ⟨t179,A180,H⟩ := H
         try dsimp only at H
         have A18 := am_ A180
         clear A180
         have H' := am_ H
         clear H
         go_wp2_with (first | ((with_reducible refine gate_callee (f := 170) rfl ?_);refine zgl (some 38) Tryd.func170 #[] ?_;(with_reducible refine (spec_l01Consts.calls  t179 _ A18.out).mono ?_);rintro e w19 ⟨v180,rfl,ho0,hb⟩;refine ⟨_,rfl,?_⟩;replace HO_4 := zrb HO_4 hb;have HO181 := am_ (Kd.R_lower (Kd.R_new' ho0 (Kd.R_lt (zr HO_3))) (below_size (zl_ HB)));replace HO_3 := am_ (Kd.R_elder' (zr HO_3) (Kd.R_base ho0) hb);replace HB := zs_ HB hb;(try clear hb);(try clear hb2);(try clear hk);(try clear hi);(try clear ho0)))
         go_loopg [7] k2 (fun kq v7 w' => ∃ (x3_3 : List Int) (x7_3 : Int),v7 = .int .i64 x7_3 ∧ Aside0 (spec_l01Hash.l2 kq x3_3 x4_2 t179 x7_3 = some r) ∧ Aside0 (kq ≤ k2) ∧ Aside0 (Kd.R (Kd.int .u32) 153 w' w.heap.size (fun k_ => some k_ ≠ (v180 : Value).ownBlock) v162 x3_3) ∧ Aside0 (Kd.R (Kd.int .u8) 5 w' w.heap.size (fun _ => True) u4 x4_2) ∧ Aside0 (Kd.R (Kd.int .u32) 153 w' w.heap.size (fun k_ => some k_ ≠ (v162 : Value).ownBlock) v180 t179) ∧ Aside0 (Below w.heap.size w w'))
         case atStart => exact ⟨(y161),(0),(by first | rfl | (simp;done) | (simp [*];done)),H',⟨Nat.le_refl _⟩,⟨by (with_reducible repeat (first | apply r1_ | apply r2_ | apply r3_));exact Kd.R_mono HO_3.out (fun _ hk => hk.2)⟩,⟨zr HO_4⟩,⟨by (with_reducible repeat (first | apply r1_ | apply r2_ | apply r3_));exact Kd.R_mono HO181.out (fun _ hk => hk.2)⟩,⟨zl_ HB⟩⟩
         case round =>
          clear H'
          try clear c1
          try clear c2
          try clear p2
          try clear c3
          try clear p6
          try clear c10
          try clear c10b0
          try clear c10b1
          try clear c12
          try clear c12b0
          try clear c14
          try clear c14b0
          try clear c14b1
          try clear c16
          try clear c17
          try clear p2
          obtain ⟨x3_3,x7_3,rfl,HA,HK3,HO_3,HO_4,HO_6,HB⟩ := hrel
          cases gk with
          | zero => exact absurd HA.out (by simp [spec_l01Hash.l2])
          | succ k3 =>
           have H := HA.out
           clear HA
           simp only [spec_l01Hash.l2] at H
           by_cases c20 : x7_3 < (x4_2.length : Int)
           ·rw [if_pos c20] at H
            obtain ⟨je_,hje_⟩ : ∃ j_ : Int,(wrap64 (x7_3 + 64)) = j_ := ⟨_,rfl⟩
            rw [hje_] at H
            have hje_w : (IntKind.i64.wrap (x7_3 + 64)) = je_ := (i64_w _).trans hje_
            clear hje_
            have c20b0 : decide (x7_3 < (x4_2.length : Int)) = true := decide_eq_true c20
            clear c20
            by_cases c21 : 0 ≤ x7_3
            ·rw [if_pos c21] at H
             have c21b0 := eq_true c21
             have c21b1 : decide (0 ≤ x7_3) = true := decide_eq_true c21
             clear c21
             by_cases c22 : x7_3 ≤ (je_)
             ·rw [if_pos c22] at H
              have c22b0 := eq_true c22
              have c22b1 : decide (x7_3 ≤ (je_)) = true := decide_eq_true c22
              by_cases c23 : (je_) ≤ (x4_2.length : Int)
              ·rw [if_pos c23] at H
               have c23b0 := eq_true c23
               have c23b1 : decide ((je_) ≤ (x4_2.length : Int)) = true := decide_eq_true c23
               obtain ⟨y182,hy182⟩ : ∃ y_ : List Int,y_ = ((x4_2.take ((je_) : Int).toNat).drop (x7_3 : Int).toNat) := ⟨_,rfl⟩
               replace H : ((spec_l01Block.f k3 x3_3 y182 t179).bind fun t186 => (spec_l01Hash.l2 k3 t186 x4_2 t179 (je_))) = some r := by first | (rw [hy182];with_reducible exact H) | (have H2_ := (Option.bind_some _ _).symm.trans H;rw [hy182];with_reducible exact H2_) | (have H2_ := (Option.bind_some _ _).symm.trans H;with_reducible exact H2_) | with_reducible exact H | (rw [hy182];exact H) | exact H
               have Ny182 := am_ hy182
               clear hy182
               replace H := Option.bind_eq_some_iff.mp H
               obtain ⟨t186,A240,H⟩ := H
               try dsimp only at H
               have A24 := am_ A240
               clear A240
               have H' := am_ H
               clear H
               obtain ⟨Ao25,co25,eo25⟩ := Kd.R_slice HO_4.out
               subst eo25
               have q26 : ((je_) : Int) ≤ ((x4_2.length : Int) : Int) := zo_
               obtain ⟨i026,hi026,_,hsz26,_⟩ := info_parts info5
               have hroom26 : x4_2.length ≤ co25 := (Kd.R_reads' HO_4.out).2.1
               have hC26 : Kd.C (Kd.int .u8) _ Ao25 x4_2.length x4_2 := (Kd.R_reads' HO_4.out).2.2
               have ql26 : (x7_3 : Int) ≤ ((je_) : Int) := zo_
               have q026 : (0 : Int) ≤ (x7_3 : Int) := zo_
               have hcut26 := cut_mid (P := Tryd.prog) 31 5 .i64 .i64 Tryd.underlying31 hi026 1 hsz26 Ao25 x4_2.length co25 x7_3 (je_) q026 ql26 q26 hroom26
               have hr26 := Kd.C_mid (lo := (x7_3 : Int).toNat) (hi := ((je_) : Int).toNat) (c := co25) hC26 (by omega) (by omega) hroom26
               obtain ⟨A26,hA26⟩ : ∃ A1,A1 = (if co25 = (x7_3 : Int).toNat then Ao25 else (Ao25 : Option Addr).map (·.add ((x7_3 : Int).toNat * 1))) := ⟨_,rfl⟩
               obtain ⟨c26,hc26⟩ : ∃ c1,c1 = co25 - (x7_3 : Int).toNat := ⟨_,rfl⟩
               have hy26 : y182.length = ((je_) : Int).toNat - (x7_3 : Int).toNat := (by rw [Ny182.out,d1_,d2_] <;> omega)
               rw [show ((x4_2).take ((je_) : Int).toNat).drop (x7_3 : Int).toNat = y182 from Ny182.out.symm] at hr26
               replace hr26 : Kd.C (Kd.int .u8) _ A26 y182.length y182 := (by rw [hA26];exact hr26)
               rw [← hy26,← hA26,← hc26] at hcut26
               have HR185 := am_ hr26
               have HC185 := am_ (show y182.length ≤ c26 from by rw [hy26,hc26];exact Nat.sub_le_sub_right (Nat.le_trans (by omega) hroom26) _)
               clear hr26 hC26 hroom26 hi026 hsz26 hc26
               have KY26 := am_ hy26
               have KA26 := am_ hA26
               clear hy26 hA26
               have KL26 := am_ (show ((je_) : Int).toNat ≤ x4_2.length from by omega)
               have KM26 := am_ (show (x7_3 : Int).toNat ≤ ((je_) : Int).toNat from by omega)
               replace q26 := eq_true q26
               obtain ⟨Ao27,co27,eo27⟩ := Kd.R_slice HO_3.out
               subst eo27
               obtain ⟨Ao28,co28,eo28⟩ := Kd.R_slice HO_6.out
               subst eo28
               go_wp2_with (first | ((with_reducible refine gate_callee (f := 171) rfl ?_);refine zgl (some 52) Tryd.func171 #[.slice Ao27 x3_3.length co27,.slice A26 y182.length c26,.slice Ao28 t179.length co28] ?_;(with_reducible refine (spec_l01Block.calls k3 (fun k_ => some k_ = (.slice Ao27 x3_3.length co27 : Value).ownBlock) (.slice Ao27 x3_3.length co27) x3_3 _ _ y182 _ _ t179 t186 w _ ?side1 ?side2 ?side3 ?side4 ?side5 ?side6 A24.out).mono ?_);(case side1 => exact zl_ HB);(case side2 => exact Kd.R_tight rfl HO_3.out);(case side3 => exact fun W1_ hk1_ => (show Kd.C (Kd.int .u8) W1_ A26 y182.length y182 from by rw [Ny182.out,KA26.out];exact Kd.C_mid (lo := (x7_3 : Int).toNat) (hi := ((je_) : Int).toNat) (c := co25) (Kd.C_kept_own ((Kd.R_apart' HO_4.out (Kd.R_typed HO_3.out) (by decide))) (fun k_ hk_ hs_ => (hk_.2) hs_) W1_ hk1_) KM26.out KL26.out ((Kd.R_reads' HO_4.out).2.1)));(case side4 => exact HC185.out);(case side5 => exact Kd.C_kept_own (HO_6.out) (fun k_ hk_ hs_ => (hk_) hs_));(case side6 => exact (Kd.R_reads' HO_6.out).2.1);rintro e w29 ⟨rfl,hy0,hb,hkp⟩;refine ⟨_,rfl,?_⟩;replace HO_4 := am_ (Kd.R_mono (ok' := fun k_ => True) (Kd.R_keptB ((Kd.R_apart' HO_4.out (Kd.R_typed HO_3.out) (by decide))) hkp (fun k_ hk_ hs_ => (hk_.2) hs_)) (fun k_ hk_ => trivial));replace HO_3 := am_ (Kd.R_reok rfl hy0 (fun k_ e_ => HO_3.out.1 k_ e_));replace HO_6 := am_ (Kd.R_mono (ok' := fun k_ => some k_ ≠ (.slice Ao27 x3_3.length co27 : Value).ownBlock) (Kd.R_keptB (HO_6.out) hkp (fun k_ hk_ hs_ => (hk_) hs_)) (fun k_ hk_ => hk_.1));replace HB := am_ (hb);(try clear hb);(try clear hkp);(try clear hy0)))
               go_roundg k3
               case measure => have := HK1.out;have := HK2.out;have := HK3.out;omega
               case rel => exact ⟨(t186),(je_),(by first | rfl | (simp;done) | (simp [*];done)),H',⟨by have := HK1.out;have := HK2.out;have := HK3.out;omega⟩,⟨zr HO_3⟩,⟨zr HO_4⟩,⟨zr HO_6⟩,⟨zl_ HB⟩⟩
              ·rw [if_neg c23] at H
               exact absurd H (by simp)
             ·rw [if_neg c22] at H
              exact absurd H (by simp)
            ·rw [if_neg c21] at H
             exact absurd H (by simp)
           ·rw [if_neg c20] at H
            have c20b0 : decide (x7_3 < (x4_2.length : Int)) = false := decide_eq_false c20
            clear c20
            obtain ⟨y187,hy187⟩ : ∃ y_ : List Int,y_ = (([] : List Int)) := ⟨_,rfl⟩
            replace H : (spec_l01Hash.l3 k3 x3_3 y187 0) = some r := by first | (rw [hy187];with_reducible exact H) | (have H2_ := (Option.bind_some _ _).symm.trans H;rw [hy187];with_reducible exact H2_) | (have H2_ := (Option.bind_some _ _).symm.trans H;with_reducible exact H2_) | with_reducible exact H | (rw [hy187];exact H) | exact H
            have Ny187 := am_ hy187
            clear hy187
            have H' := am_ H
            clear H
            obtain ⟨Ao30,co30,eo30⟩ := Kd.R_slice HO_4.out
            subst eo30
            go_wp2_with (first | ((with_reducible refine gate_dst (N := 53) rfl ?_);refine Kd.R_lit (Kd.int .u8) _ 5 ?hg (N := 53) ?hd (xs := ([] : List Int)) (inner := []) (ok := fun _ => True) (okp := fun _ => True) ?hr ?hp (fun _ hk => hk) trivial (Below.refl _ _) (Nat.le_refl _) (by simp) ?_;(case hd => rfl);(case hg => rfl);(case hr => first | (go_simp;done) | (go_simp;rfl));(case hp => exact (Reps.none _ _));intro v188 w31 ho32 hb hg_ hnew_;clear hg_ hnew_;(first | rw [← Ny187.out] at ho32 | (simp only [Int.reduceToNat] at ho32;rw [← Ny187.out] at ho32));replace HO_3 := zrb HO_3 hb;have HO189 := am_ (Kd.R_lower (Kd.R_new' ho32 (Kd.R_lt (zr HO_4))) (below_size (zl_ HB)));replace HB := zs_ HB hb;clear hb ho32))
            go_loopg [8,9] k3 (fun kq v8 v9 w' => ∃ (x8_4 : List Int) (x9_4 : Int),v9 = .int .i64 x9_4 ∧ Aside0 (spec_l01Hash.l3 kq x3_3 x8_4 x9_4 = some r) ∧ Aside0 (kq ≤ k3) ∧ Aside0 (Kd.R (Kd.int .u32) 153 w' w.heap.size (fun _ => True) v162 x3_3) ∧ Aside0 (Kd.R (Kd.int .u8) 5 w' w.heap.size (fun _ => True) v8 x8_4) ∧ Aside0 (Below w.heap.size w w'))
            case atStart => exact ⟨(y187),(0),(by first | rfl | (simp;done) | (simp [*];done)),H',⟨Nat.le_refl _⟩,⟨by (with_reducible repeat (first | apply r1_ | apply r2_ | apply r3_));exact Kd.R_mono HO_3.out (fun _ hk => trivial)⟩,⟨by (with_reducible repeat (first | apply r1_ | apply r2_ | apply r3_));exact Kd.R_mono HO189.out (fun _ hk => trivial)⟩,⟨zl_ HB⟩⟩
            case round =>
             clear H'
             try clear c1
             try clear c2
             try clear p2
             try clear q2
             try clear c3
             try clear p6
             try clear c10
             try clear c10b0
             try clear c10b1
             try clear c12
             try clear c12b0
             try clear c14
             try clear c14b0
             try clear c14b1
             try clear c16
             try clear c17
             try clear c20
             try clear c20b0
             try clear c21
             try clear c21b0
             try clear c21b1
             try clear c22
             try clear c22b0
             try clear c22b1
             try clear c23
             try clear c23b0
             try clear c23b1
             try clear c26
             try clear q26
             try clear p2
             try clear p6
             try clear q026
             try clear q26
             obtain ⟨x8_4,x9_4,rfl,HA,HK4,HO_3,HO_8,HB⟩ := hrel
             cases gk with
             | zero => exact absurd HA.out (by simp [spec_l01Hash.l3])
             | succ k4 =>
              have H := HA.out
              clear HA
              simp only [spec_l01Hash.l3] at H
              by_cases c33 : x9_4 < 8
              ·rw [if_pos c33] at H
               have c33b0 : decide (x9_4 < 8) = true := decide_eq_true c33
               clear c33
               by_cases c34 : 0 ≤ x9_4
               ·rw [if_pos c34] at H
                have c34b0 : decide (0 ≤ x9_4) = true := decide_eq_true c34
                clear c34
                by_cases c35 : x9_4 < (x3_3.length : Int)
                ·rw [if_pos c35] at H
                 have c35b0 : decide (x9_4 < (x3_3.length : Int)) = true := decide_eq_true c35
                 clear c35
                 obtain ⟨y194,hy194⟩ : ∃ y_ : List Int,y_ = (([((rd x3_3 x9_4) / 16777216) % 256,((rd x3_3 x9_4) / 65536) % 256,((rd x3_3 x9_4) / 256) % 256,(rd x3_3 x9_4) % 256] : List Int)) := ⟨_,rfl⟩
                 replace H : (if x8_4.length + y194.length < 140737488355328 then (spec_l01Hash.l3 k4 x3_3 (x8_4 ++ y194) (wrap64 (x9_4 + 1))) else (none)) = some r := by first | (rw [hy194];with_reducible exact H) | (have H2_ := (Option.bind_some _ _).symm.trans H;rw [hy194];with_reducible exact H2_) | (have H2_ := (Option.bind_some _ _).symm.trans H;with_reducible exact H2_) | with_reducible exact H | (rw [hy194];exact H) | exact H
                 have Ny194 := am_ hy194
                 clear hy194
                 by_cases c36 : x8_4.length + y194.length < 140737488355328
                 ·rw [if_pos c36] at H
                  have LMc36 := am_ c36
                  clear c36
                  obtain ⟨y197,hy197⟩ : ∃ y_ : List Int,y_ = (x8_4 ++ y194) := ⟨_,rfl⟩
                  replace H : (spec_l01Hash.l3 k4 x3_3 y197 (wrap64 (x9_4 + 1))) = some r := by first | (rw [hy197];with_reducible exact H) | (have H2_ := (Option.bind_some _ _).symm.trans H;rw [hy197];with_reducible exact H2_) | (have H2_ := (Option.bind_some _ _).symm.trans H;with_reducible exact H2_) | with_reducible exact H | (rw [hy197];exact H) | exact H
                  have Ny197 := am_ hy197
                  clear hy197
                  have H' := am_ H
                  clear H
                  try go_wp2
                  replace HO_3 := am_ (Kd.R_drew HO_3.out)
                  replace HO_8 := am_ (Kd.R_drew HO_8.out)
                  replace HB := am_ (below_drew1 HB.out)
                  obtain ⟨Ao38,co38,eo38⟩ := Kd.R_slice HO_3.out
                  (first | subst eo38 | (injection eo38 with f1_ f2_ f3_;have f4_ := f1_.symm;have f5_ := f3_.symm;clear f1_ f2_ f3_;subst f4_;subst f5_))
                  have p190 : 0 ≤ (x9_4 : Int) := zo_
                  have q190 : x9_4 < (x3_3.length : Int) := zo_
                  obtain ⟨ad190,e190,hx190_0⟩ := Kd.at_int (Kd.R_reads' HO_3.out).2.2 x9_4 p190 q190
                  cases e190
                  replace p190 := eq_true p190
                  replace q190 := eq_true q190
                  have p191 : 0 ≤ (x9_4 : Int) := zo_
                  have q191 : x9_4 < (x3_3.length : Int) := zo_
                  obtain ⟨ad191,e191,hx191_0⟩ := Kd.at_int (Kd.R_reads' HO_3.out).2.2 x9_4 p191 q191
                  obtain rfl : ad190 = ad191 := (by injection e191)
                  replace p191 := eq_true p191
                  replace q191 := eq_true q191
                  have p192 : 0 ≤ (x9_4 : Int) := zo_
                  have q192 : x9_4 < (x3_3.length : Int) := zo_
                  obtain ⟨ad192,e192,hx192_0⟩ := Kd.at_int (Kd.R_reads' HO_3.out).2.2 x9_4 p192 q192
                  obtain rfl : ad190 = ad192 := (by injection e192)
                  replace p192 := eq_true p192
                  replace q192 := eq_true q192
                  have p193 : 0 ≤ (x9_4 : Int) := zo_
                  have q193 : x9_4 < (x3_3.length : Int) := zo_
                  obtain ⟨ad193,e193,hx193_0⟩ := Kd.at_int (Kd.R_reads' HO_3.out).2.2 x9_4 p193 q193
                  obtain rfl : ad190 = ad193 := (by injection e193)
                  replace p193 := eq_true p193
                  replace q193 := eq_true q193
                  refine start_ (n := 27) (S := fun w' => w'.cell? (ad190.add (x9_4).toNat) = some (.int .u32 (rd x3_3 x9_4)) ∧ w'.cell? (ad190.add (x9_4).toNat) = some (.int .u32 (rd x3_3 x9_4)) ∧ w'.cell? (ad190.add (x9_4).toNat) = some (.int .u32 (rd x3_3 x9_4)) ∧ w'.cell? (ad190.add (x9_4).toNat) = some (.int .u32 (rd x3_3 x9_4))) (ds := [25]) #[false,false,false,false,false,false,false,false,false,false,false,false,false,false,false,false,false,false,false,false,false,false,false,false,false,false,false] (by kernel_rfl) rfl rfl ⟨hx190_0,hx191_0,hx192_0,hx193_0⟩ (fun hHeld => ?_);refine with_tabW spec_l01Hash.tab18 spec_l01Hash.bits18 (fun HT_ HW_ => ?_)
                  generalize wr.drew = w37 at HO_3 HO_8 HB hx190_0 hx191_0 hx192_0 hx193_0 hHeld ⊢
                  refine zpu 0 (N := some 58) HT_ ?_
                  refine zpu 1 (N := some 59) HT_ ?_
                  refine zpu 2 (N := some 60) HT_ ?_
                  refine zpu 3 (N := some 61) HT_ ?_
                  refine zpu 7 (N := some 65) HT_ ?_
                  refine zpu 8 (N := some 66) HT_ ?_
                  refine zpu 9 (N := some 67) HT_ ?_
                  refine zpu 13 (N := some 71) HT_ ?_
                  refine zpu 14 (N := some 72) HT_ ?_
                  refine zpu 15 (N := some 73) HT_ ?_
                  refine zpu 19 (N := some 77) HT_ ?_
                  refine zpu 20 (N := some 78) HT_ ?_
                  refine zpu 21 (N := some 79) HT_ ?_
                  refine ztk 4 (N := some 62) HT_ HW_ hHeld ?_
                  refine zpu 5 (N := some 63) HT_ ?_
                  refine zpu 6 (N := some 64) HT_ ?_
                  refine ztk 10 (N := some 68) HT_ HW_ hHeld ?_
                  refine zpu 11 (N := some 69) HT_ ?_
                  refine zpu 12 (N := some 70) HT_ ?_
                  refine ztk 16 (N := some 74) HT_ HW_ hHeld ?_
                  refine zpu 17 (N := some 75) HT_ ?_
                  refine zpu 18 (N := some 76) HT_ ?_
                  refine ztk 22 (N := some 80) HT_ HW_ hHeld ?_
                  refine zpu 23 (N := some 81) HT_ ?_
                  refine zon 24 (N := some 82) HT_ (fun K hK => ?_)
                  refine Kd.R_lit_step (Kd.int .u8) _ 5 ?hg (N := 82) ?hd (xs := ([((rd x3_3 x9_4) / 16777216) % 256,((rd x3_3 x9_4) / 65536) % 256,((rd x3_3 x9_4) / 256) % 256,(rd x3_3 x9_4) % 256] : List Int)) (inner := [.int .u8 (((rd x3_3 x9_4) / 16777216) % 256),.int .u8 (((rd x3_3 x9_4) / 65536) % 256),.int .u8 (((rd x3_3 x9_4) / 256) % 256),.int .u8 ((rd x3_3 x9_4) % 256)]) (ok := fun _ => True) (okp := fun _ => True) ?hr ?hp (fun _ hk => hk) trivial (Below.refl _ _) (Nat.le_refl _) (by simp) ?_;(case hd => rfl);(case hg => rfl);(case hr => first | (go_simp;done) | (go_simp;rfl));(case hp => exact (Reps.one (show Kd.M (Kd.int .u8) _ _ _ (((rd x3_3 x9_4) / 16777216) % 256) [.int .u8 (((rd x3_3 x9_4) / 16777216) % 256)] from rfl) (Reps.one (show Kd.M (Kd.int .u8) _ _ _ (((rd x3_3 x9_4) / 65536) % 256) [.int .u8 (((rd x3_3 x9_4) / 65536) % 256)] from rfl) (Reps.one (show Kd.M (Kd.int .u8) _ _ _ (((rd x3_3 x9_4) / 256) % 256) [.int .u8 (((rd x3_3 x9_4) / 256) % 256)] from rfl) (Reps.one (show Kd.M (Kd.int .u8) _ _ _ ((rd x3_3 x9_4) % 256) [.int .u8 ((rd x3_3 x9_4) % 256)] from rfl) (Reps.none _ _))))))
                  intro v195 w39 ho40 hb hg_ hnew_
                  have HS0_ := (hb.cell (World.block_lt_of_cell? _ _ (hHeld.1))).trans (hHeld.1)
                  have HS1_ := (hb.cell (World.block_lt_of_cell? _ _ (hHeld.2.1))).trans (hHeld.2.1)
                  have HS2_ := (hb.cell (World.block_lt_of_cell? _ _ (hHeld.2.2.1))).trans (hHeld.2.2.1)
                  have HS3_ := (hb.cell (World.block_lt_of_cell? _ _ (hHeld.2.2.2))).trans (hHeld.2.2.2)
                  clear hg_ hnew_
                  (first | rw [← Ny194.out] at ho40 | (simp only [Int.reduceToNat] at ho40;rw [← Ny194.out] at ho40))
                  replace HO_3 := zrb HO_3 hb
                  have HO196 := am_ (Kd.R_lower (Kd.R_new' ho40 (Kd.R_lt (zr HO_8))) (below_size (zl_ HB)))
                  replace HO_8 := am_ (Kd.R_elder' (zr HO_8) (Kd.R_base ho40) hb)
                  replace HB := zs_ HB hb
                  clear hb ho40
                  obtain ⟨Ao42,co42,eo42⟩ := Kd.R_slice HO196.out
                  (first | subst eo42 | (injection eo42 with f1_ f2_ f3_;have f4_ := f1_.symm;have f5_ := f3_.symm;clear f1_ f2_ f3_;subst f4_;subst f5_))
                  refine hK.out _ _ ⟨HS0_,HS1_,HS2_,HS3_⟩ (fun hHeld => ?_)
                  clear hK K
                  refine norm_ (a' := ?_) ?_ ?_
                  rotate_left
                  ·show Act.put _ (some 82) _ = _
                   simp only [Act.put,p1_,p2_,p3_,i64_w,i32_w]
                   rfl
                  refine last_ (i := 25) (N := some 83) #[true,true,true,true,true,true,true,true,true,true,true,true,true,true,true,true,true,true,true,true,true,true,true,true,true,true,false] rfl rfl (one_of HT_.out (by kernel_rfl)) (by decide) (fun K hK => ?_)
                  refine Kd.R_append_rows_step (Kd.int .u8) (w0 := w) w.heap.size (by rfl) (.tmp 58) (.tmp 82) 31 5 (.int .u8 0) 1 rfl Tryd.underlying31 info5 rfl (by decide) (by omega) u8 x8_4 y194 _ _ _ (fun k_ => some k_ ≠ (.slice Ao42 y194.length co42 : Value).ownBlock) (fun _ => False) rfl rfl ?aO ?aR (fun _ _ h => h) (fun _ h => h.elim) ?aF ?aB ?aS ?aL ?_
                  (case aR => repeat (first | exact (Kd.R_reads' HO196.out).2.2 | (with_reducible refine Kd.C_alloc ?_ _) | (with_reducible refine Kd.C_drewN ?_ _) | (with_reducible refine Kd.C_drew ?_)))
                  (case aB => exact (zl_ HB))
                  (case aF => exact (fun k_ hk => Kd.fresh' (Kd.R_lt (zr HO196)) k_ hk))
                  (case aO => exact (by (with_reducible repeat (first | apply r1_ | apply r2_ | apply r3_));exact Kd.R_mono HO_8.out (fun _ hk => hk.2)))
                  (case aS => exact (below_size (zl_ HB)))
                  (case aL => have := LMc36.out;omega)
                  intro v198 w41 ho hb hg hat
                  rw [← Ny197.out] at ho
                  replace HO_3 := am_ (Kd.R_over' (zr HO_3) (Kd.R_typed (zr HO_8)) (by decide) hg)
                  replace HB := am_ (hb)
                  have HO199 := am_ (ho)
                  clear HO_8
                  clear ho hb hg hat
                  refine hK.out _ _ ?_
                  clear hK K
                  refine norm_ (a' := ?_) ?_ ?_
                  rotate_left
                  ·show Act.put _ (some 83) _ = _
                   simp only [Act.put,p1_,p2_,p3_,i64_w,i32_w]
                   rfl
                  refine zpu 26 (N := some 8) HT_ ?_
                  refine done_ (done_of HT_.out (by kernel_rfl)) ?_
                  try go_wp2
                  go_roundg k4
                  case measure => have := HK1.out;have := HK2.out;have := HK3.out;have := HK4.out;omega
                  case rel => exact ⟨(y197),(wrap64 (x9_4 + 1)),(by first | rfl | (simp;done) | (simp [*];done)),H',⟨by have := HK1.out;have := HK2.out;have := HK3.out;have := HK4.out;omega⟩,⟨zr HO_3⟩,⟨by (with_reducible repeat (first | apply r1_ | apply r2_ | apply r3_));exact Kd.R_mono HO199.out (fun _ hk => trivial)⟩,⟨zl_ HB⟩⟩
                 ·rw [if_neg c36] at H
                  exact absurd H (by simp)
                ·rw [if_neg c35] at H
                 exact absurd H (by simp)
               ·rw [if_neg c34] at H
                exact absurd H (by simp)
              ·rw [if_neg c33] at H
               have c33b0 : decide (x9_4 < 8) = false := decide_eq_false c33
               clear c33
               obtain rfl := Option.some.inj H
               have hcv43 := own_string (P := Tryd.prog) Tryd.underlying31 Tryd.underlying5 Tryd.underlying9 (Kd.own_of_R HO_8.out)
               go_wp2
               go_ret
               exact ⟨zt_,zl_ HB⟩
     ·rw [if_neg c10] at H
      have c10b0 : (((x4_1.length : Int) % 64) == 56) = false := beq_eq_false_iff_ne.mpr c10
      have c10b1 : (((x4_1.length : Int) % 64) != 56) = true := bne_iff_ne.mpr c10
      by_cases c44 : x4_1.length < 140737488355328
      ·rw [if_pos c44] at H
       have LMc44 := am_ c44
       clear c44
       obtain ⟨y173,hy173⟩ : ∃ y_ : List Int,y_ = (x4_1 ++ [0]) := ⟨_,rfl⟩
       replace H : (spec_l01Hash.l0 k1 l0 y161 y173) = some r := by first | (rw [hy173];with_reducible exact H) | (have H2_ := (Option.bind_some _ _).symm.trans H;rw [hy173];with_reducible exact H2_) | (have H2_ := (Option.bind_some _ _).symm.trans H;with_reducible exact H2_) | with_reducible exact H | (rw [hy173];exact H) | exact H
       have Ny173 := am_ hy173
       clear hy173
       have H' := am_ H
       clear H
       obtain ⟨Ao45,co45,eo45⟩ := Kd.R_slice HO_4.out
       subst eo45
       go_wp2_with (first | ((with_reducible refine gate_builtin (b := .append) (xs := #[.tmp 20,.tmp 21]) rfl ?_);at_builtin;refine Kd.R_append (Kd.int .u8) (w0 := w) w.heap.size rfl (.tmp 20) (.tmp 21) 31 5 (.int .u8 0) 1 rfl Tryd.underlying31 info5 rfl (by decide) (by omega) (.slice Ao45 x4_1.length co45) x4_1 0 [.int .u8 0] (fun _ => True) (fun _ => False) rfl rfl ?aP (fun _ hk => hk.elim) ?aF ?aO ?aB ?aS ?aL ?_;(case aP => exact rfl);(case aB => exact (zl_ HB));(case aF => exact (fun _ _ => trivial));(case aO => exact (zr HO_4));(case aS => exact (below_size (zl_ HB)));(case aL => have := LMc44.out;omega);intro v174 w46 ho hb hg hat;rw [← Ny173.out] at ho;replace HO_3 := am_ (Kd.R_over' (zr HO_3) (Kd.R_typed (zr HO_4)) (by decide) hg);replace HB := am_ (hb);have HO175 := am_ (ho);clear HO_4;clear ho hb hg hat))
       go_roundg k1
       case measure => have := HK1.out;omega
       case rel => exact ⟨(y173),H',⟨by have := HK1.out;omega⟩,⟨zr HO_3⟩,⟨zr HO175⟩,⟨zl_ HB⟩⟩
      ·rw [if_neg c44] at H
       exact absurd H (by simp)
  ·rw [if_neg c3] at H
   exact absurd H (by simp)
 ·rw [if_neg c2] at H
  exact absurd H (by simp)
set_option maxHeartbeats 8000000 in
set_option maxRecDepth 100000 in
theorem spec_l03Node.calls (k : Nat) (a0 : ByteArray) (a1 : ByteArray) (r : ByteArray) (w : World) (h : spec_l03Node.f k a0 a1 = some r) :
  Calls Tryd.prog 149 #[.string a0,.string a1] w fun e w' => e = .returned (.string r) ∧ Below w.heap.size w w' := by
 have HB := am_ (Below.refl w.heap.size w)
 have H : (if 4 + a0.size ≤ 9223372036854775807 then (if ((⟨#[110,111,100,101]⟩ : ByteArray) ++ a0).size + a1.size ≤ 9223372036854775807 then (if (((⟨#[110,111,100,101]⟩ : ByteArray) ++ a0) ++ a1).size ≤ 140737488355328 then ((spec_l01Hash.f k (bytesOf (((⟨#[110,111,100,101]⟩ : ByteArray) ++ a0) ++ a1))).bind fun t203 => (some t203)) else (none)) else (none)) else (none)) = some r := h
 clear h
 by_cases c3 : 4 + a0.size ≤ 9223372036854775807
 ·rw [if_pos c3] at H
  have c3b0 := eq_true c3
  have c3b1 : decide (4 + a0.size ≤ 9223372036854775807) = true := decide_eq_true c3
  try have c3b2 : (9223372036854775807 < 4 + a0.size) = False := eq_false (Nat.not_lt.2 c3)
  by_cases c4 : ((⟨#[110,111,100,101]⟩ : ByteArray) ++ a0).size + a1.size ≤ 9223372036854775807
  ·rw [if_pos c4] at H
   have c4b0 := eq_true c4
   have c4b1 : decide (((⟨#[110,111,100,101]⟩ : ByteArray) ++ a0).size + a1.size ≤ 9223372036854775807) = true := decide_eq_true c4
   try have c4b2 : (9223372036854775807 < ((⟨#[110,111,100,101]⟩ : ByteArray) ++ a0).size + a1.size) = False := eq_false (Nat.not_lt.2 c4)
   (try have c4b3 := c4b2;simp only [ByteArray.size_append,show (⟨#[110,111,100,101]⟩ : ByteArray).size = 4 from rfl] at c4b3)
   by_cases c5 : (((⟨#[110,111,100,101]⟩ : ByteArray) ++ a0) ++ a1).size ≤ 140737488355328
   ·rw [if_pos c5] at H
    have c5b0 := eq_true c5
    have c5b1 : decide ((((⟨#[110,111,100,101]⟩ : ByteArray) ++ a0) ++ a1).size ≤ 140737488355328) = true := decide_eq_true c5
    obtain ⟨y200,hy200⟩ : ∃ y_ : List Int,y_ = (bytesOf (((⟨#[110,111,100,101]⟩ : ByteArray) ++ a0) ++ a1)) := ⟨_,rfl⟩
    replace H : ((spec_l01Hash.f k y200).bind fun t203 => (some t203)) = some r := by first | (rw [hy200];with_reducible exact H) | (have H2_ := (Option.bind_some _ _).symm.trans H;rw [hy200];with_reducible exact H2_) | (have H2_ := (Option.bind_some _ _).symm.trans H;with_reducible exact H2_) | with_reducible exact H | (rw [hy200];exact H) | exact H
    have Ny200 := am_ hy200
    clear hy200
    replace H := Option.bind_eq_some_iff.mp H
    obtain ⟨t203,A60,H⟩ := H
    try dsimp only at H
    have A6 := am_ A60
    clear A60
    obtain rfl := Option.some.inj H
    go_enter Tryd.func149,Tryd.ntmps149
    go_wp2_with (first | ((with_reducible refine gate_dst (N := 9) rfl ?_);refine Kd.V_conv (Kd.int .u8) rfl _ 5 rfl (N := 9) rfl 9 31 _ rfl (((⟨#[110,111,100,101]⟩ : ByteArray) ++ a0) ++ a1) rfl Tryd.underlying9 Tryd.underlying31 Tryd.underlying5 (ok := fun k_ => w.heap.size ≤ k_) (okp := fun _ => False) (fun _ hk => hk.elim) (Nat.le_refl _) (by have := o1_ (by first | (with_reducible assumption) | assumption : decide ((((⟨#[110,111,100,101]⟩ : ByteArray) ++ a0) ++ a1).size ≤ 140737488355328) = true);omega) (Below.refl _ _) (Nat.le_refl _) ?_;intro v201 w7 ho8 hb hg_ hnew_;clear hg_ hnew_;(first | rw [← Ny200.out] at ho8 | (simp only [Int.reduceToNat] at ho8;rw [← Ny200.out] at ho8));have HO202 := am_ (Kd.V_lower (Kd.V_mono (ok' := fun k_ => True) ho8 (fun k_ hk_ => trivial)) (below_size (zl_ HB)));replace HB := zs_ HB hb;clear hb ho8;obtain ⟨Ao9,co9,eo9⟩ := Kd.V_slice HO202.out;subst eo9) | ((with_reducible refine gate_callee (f := 123) rfl ?_);refine zgl (some 10) Tryd.func123 #[.slice Ao9 y200.length co9] ?_;(with_reducible refine (spec_l01Hash.calls k _ _ y200 t203 _ ?side1 ?side2 A6.out).mono ?_);(case side1 => repeat (first | exact (Kd.V_reads' HO202.out).2.2 | (with_reducible refine Kd.C_alloc ?_ _) | (with_reducible refine Kd.C_drewN ?_ _) | (with_reducible refine Kd.C_drew ?_)));(case side2 => exact (Kd.V_reads' HO202.out).2.1);rintro e w10 ⟨rfl,hb⟩;refine ⟨_,rfl,?_⟩;replace HB := zs_ HB hb;(try clear hb);(try clear hb2);(try clear hk);(try clear hi)))
    go_ret
    exact ⟨zt_,zl_ HB⟩
   ·rw [if_neg c5] at H
    exact absurd H (by simp)
  ·rw [if_neg c4] at H
   exact absurd H (by simp)
 ·rw [if_neg c3] at H
  exact absurd H (by simp)
set_option maxHeartbeats 8000000 in
set_option maxRecDepth 100000 in
theorem spec_l09Leaf.calls (k : Nat) (a0 : ByteArray) (r : ByteArray) (w : World) (h : spec_l09Leaf.f k a0 = some r) :
  Calls Tryd.prog 164 #[.string a0] w fun e w' => e = .returned (.string r) ∧ Below w.heap.size w w' := by
 have HB := am_ (Below.refl w.heap.size w)
 have H : (if 5 + a0.size ≤ 9223372036854775807 then (if ((⟨#[112,105,101,99,101]⟩ : ByteArray) ++ a0).size ≤ 140737488355328 then ((spec_l01Hash.f k (bytesOf ((⟨#[112,105,101,99,101]⟩ : ByteArray) ++ a0))).bind fun t207 => (some t207)) else (none)) else (none)) = some r := h
 clear h
 by_cases c2 : 5 + a0.size ≤ 9223372036854775807
 ·rw [if_pos c2] at H
  have c2b0 := eq_true c2
  have c2b1 : decide (5 + a0.size ≤ 9223372036854775807) = true := decide_eq_true c2
  try have c2b2 : (9223372036854775807 < 5 + a0.size) = False := eq_false (Nat.not_lt.2 c2)
  by_cases c3 : ((⟨#[112,105,101,99,101]⟩ : ByteArray) ++ a0).size ≤ 140737488355328
  ·rw [if_pos c3] at H
   have c3b0 := eq_true c3
   have c3b1 : decide (((⟨#[112,105,101,99,101]⟩ : ByteArray) ++ a0).size ≤ 140737488355328) = true := decide_eq_true c3
   obtain ⟨y204,hy204⟩ : ∃ y_ : List Int,y_ = (bytesOf ((⟨#[112,105,101,99,101]⟩ : ByteArray) ++ a0)) := ⟨_,rfl⟩
   replace H : ((spec_l01Hash.f k y204).bind fun t207 => (some t207)) = some r := by first | (rw [hy204];with_reducible exact H) | (have H2_ := (Option.bind_some _ _).symm.trans H;rw [hy204];with_reducible exact H2_) | (have H2_ := (Option.bind_some _ _).symm.trans H;with_reducible exact H2_) | with_reducible exact H | (rw [hy204];exact H) | exact H
   have Ny204 := am_ hy204
   clear hy204
   replace H := Option.bind_eq_some_iff.mp H
   obtain ⟨t207,A40,H⟩ := H
   try dsimp only at H
   have A4 := am_ A40
   clear A40
   obtain rfl := Option.some.inj H
   go_enter Tryd.func164,Tryd.ntmps164
   go_wp2_with (first | ((with_reducible refine gate_dst (N := 5) rfl ?_);refine Kd.V_conv (Kd.int .u8) rfl _ 5 rfl (N := 5) rfl 9 31 _ rfl ((⟨#[112,105,101,99,101]⟩ : ByteArray) ++ a0) rfl Tryd.underlying9 Tryd.underlying31 Tryd.underlying5 (ok := fun k_ => w.heap.size ≤ k_) (okp := fun _ => False) (fun _ hk => hk.elim) (Nat.le_refl _) (by have := o1_ (by first | (with_reducible assumption) | assumption : decide (((⟨#[112,105,101,99,101]⟩ : ByteArray) ++ a0).size ≤ 140737488355328) = true);omega) (Below.refl _ _) (Nat.le_refl _) ?_;intro v205 w5 ho6 hb hg_ hnew_;clear hg_ hnew_;(first | rw [← Ny204.out] at ho6 | (simp only [Int.reduceToNat] at ho6;rw [← Ny204.out] at ho6));have HO206 := am_ (Kd.V_lower (Kd.V_mono (ok' := fun k_ => True) ho6 (fun k_ hk_ => trivial)) (below_size (zl_ HB)));replace HB := zs_ HB hb;clear hb ho6;obtain ⟨Ao7,co7,eo7⟩ := Kd.V_slice HO206.out;subst eo7) | ((with_reducible refine gate_callee (f := 123) rfl ?_);refine zgl (some 6) Tryd.func123 #[.slice Ao7 y204.length co7] ?_;(with_reducible refine (spec_l01Hash.calls k _ _ y204 t207 _ ?side1 ?side2 A4.out).mono ?_);(case side1 => repeat (first | exact (Kd.V_reads' HO206.out).2.2 | (with_reducible refine Kd.C_alloc ?_ _) | (with_reducible refine Kd.C_drewN ?_ _) | (with_reducible refine Kd.C_drew ?_)));(case side2 => exact (Kd.V_reads' HO206.out).2.1);rintro e w8 ⟨rfl,hb⟩;refine ⟨_,rfl,?_⟩;replace HB := zs_ HB hb;(try clear hb);(try clear hb2);(try clear hk);(try clear hi)))
   go_ret
   exact ⟨zt_,zl_ HB⟩
  ·rw [if_neg c3] at H
   exact absurd H (by simp)
 ·rw [if_neg c2] at H
  exact absurd H (by simp)
def spec_l09Root.T7 : Bool × List (List Nat × List Nat) := (true,[([],[]),([],[]),([0,1],[0,1]),([2],[2]),([],[]),([],[]),([4,5],[4,5]),([6,3],[6]),([3,7,7],[3,7]),([8,8,0,1,2,3,4,5,6,7,8],[8])])
def spec_l09Root.B7 : List Nat := [0,0,3,7,0,0,48,127,255,511]
theorem spec_l09Root.tab7 : rtab .any (opsOf Tryd.f113 7) = spec_l09Root.T7 := by kernel_rfl
theorem spec_l09Root.bits7 : waitsOk spec_l09Root.T7.2 spec_l09Root.B7 = true := by kernel_rfl
set_option maxHeartbeats 8000000 in
set_option maxRecDepth 100000 in
theorem spec_l09Root.calls (k : Nat) : ∀ (A0 : Option Addr) (c0 : Nat) (l0 : List ByteArray) (r : ByteArray) (w : World) (hr0 : Kd.C Kd.string w A0 l0.length l0) (hc0 : l0.length ≤ c0) (h : spec_l09Root.f k l0 = some r),
  Calls Tryd.prog 113 #[.slice A0 l0.length c0] w fun e w' => e = .returned (.string r) ∧ Below w.heap.size w w' := by
 induction k using Nat.strongRecOn with
 | _ k ih =>
 intro A0 c0 l0 r w hr0 hc0 h
 cases k with
 | zero => exact absurd h (by simp [spec_l09Root.f])
 | succ k =>
 simp only [spec_l09Root.f] at h
 have HR0 := am_ hr0
 have HC0 := am_ hc0
 clear hr0 hc0
 have HB := am_ (Below.refl w.heap.size w)
 have H : (if (l0.length : Int) = 0 then ((spec_l01Hash.f k (([110,111,116,104,105,110,103] : List Int))).bind fun t211 => (some t211)) else (if (l0.length : Int) = 1 then (if 0 < (l0.length : Int) then ((spec_l09Leaf.f k (rdOf ByteArray.empty l0 0)).bind fun t213 => (some t213)) else (none)) else ((spec_l09Half.f k (l0.length : Int)).bind fun t214 => (if 0 ≤ t214 then (if t214 ≤ (l0.length : Int) then ((spec_l09Root.f k (l0.take (t214 : Int).toNat)).bind fun t216 => ((spec_l09Root.f k (l0.drop (t214 : Int).toNat)).bind fun t218 => ((spec_l03Node.f k t216 t218).bind fun t219 => (some t219)))) else (none)) else (none))))) = some r := h
 clear h
 by_cases c2 : (l0.length : Int) = 0
 ·rw [if_pos c2] at H
  have c2b0 : ((l0.length : Int) == 0) = true := beq_iff_eq.mpr c2
  have c2b1 : ((l0.length : Int) != 0) = false := bne_eq_false_iff_eq.mpr c2
  clear c2
  obtain ⟨y208,hy208⟩ : ∃ y_ : List Int,y_ = (([110,111,116,104,105,110,103] : List Int)) := ⟨_,rfl⟩
  replace H : ((spec_l01Hash.f k y208).bind fun t211 => (some t211)) = some r := by first | (rw [hy208];with_reducible exact H) | (have H2_ := (Option.bind_some _ _).symm.trans H;rw [hy208];with_reducible exact H2_) | (have H2_ := (Option.bind_some _ _).symm.trans H;with_reducible exact H2_) | with_reducible exact H | (rw [hy208];exact H) | exact H
  have Ny208 := am_ hy208
  clear hy208
  replace H := Option.bind_eq_some_iff.mp H
  obtain ⟨t211,A30,H⟩ := H
  try dsimp only at H
  have A3 := am_ A30
  clear A30
  obtain rfl := Option.some.inj H
  have e_ := Ny208.out
  subst e_
  go_enter Tryd.func113,Tryd.ntmps113
  go_wp2_with (first | ((with_reducible refine gate_dst (N := 9) rfl ?_);refine convlit_hs 31 5 [110,111,116,104,105,110,103] rfl (.tmp 8) rfl Tryd.underlying31 Tryd.underlying5 rfl rfl (by decide) rfl ?_;intro g_ cap_ w1_ F0;have F := am_ F0;clear F0) | (go_at_call 123;refine (spec_l01Hash.calls k (some ⟨g_,0,none⟩) cap_ [110,111,116,104,105,110,103] t211 _ (bmC F.out.row (by decide)) F.out.row.room A3.out).mono ?_;rintro e w6_ ⟨rfl,hb6⟩;have B := am_ (Below.trans F.out.below (hb6.mono (by have := F.out.below.size;exact this)));clear hb6 F))
  go_ret
  exact ⟨rfl,B.out⟩
 ·rw [if_neg c2] at H
  have c2b0 : ((l0.length : Int) == 0) = false := beq_eq_false_iff_ne.mpr c2
  have c2b1 : ((l0.length : Int) != 0) = true := bne_iff_ne.mpr c2
  have c2b2 : ¬ (l0 = []) := fun h_ => c2 (by rw [h_];rfl)
  by_cases c8 : (l0.length : Int) = 1
  ·rw [if_pos c8] at H
   have c8b0 : ((l0.length : Int) == 1) = true := beq_iff_eq.mpr c8
   have c8b1 : ((l0.length : Int) != 1) = false := bne_eq_false_iff_eq.mpr c8
   clear c8
   by_cases c9 : 0 < (l0.length : Int)
   ·rw [if_pos c9] at H
    have c9b0 : decide (0 < (l0.length : Int)) = true := decide_eq_true c9
    have c9b1 : decide (0 < l0.length) = true := decide_eq_true (by omega)
    clear c9
    replace H := Option.bind_eq_some_iff.mp H
    obtain ⟨t213,A100,H⟩ := H
    try dsimp only at H
    have A10 := am_ A100
    clear A100
    obtain rfl := Option.some.inj H
    have p212 : 0 ≤ (0 : Int) := (by omega)
    have q212 : 0 < (l0.length : Int) := zo_
    obtain ⟨ad212,e212,hx212_0⟩ := Kd.at_string HR0.out 0 p212 q212
    cases e212
    have qi212 : (0 < l0.length) = True := eq_true (by omega)
    (try rw [show ((0 : Int)).toNat = 0 from rfl] at hx212_0)
    (try rw [Addr.add_zero'] at hx212_0)
    replace p212 := eq_true p212
    replace q212 := eq_true q212
    go_enter Tryd.func113,Tryd.ntmps113
    go_wp2_with (first | ((with_reducible refine gate_callee (f := 164) rfl ?_);refine zgl (some 16) Tryd.func164 #[.string (rdOf ByteArray.empty l0 0)] ?_;(with_reducible refine (spec_l09Leaf.calls k (rdOf ByteArray.empty l0 0) t213 _ A10.out).mono ?_);rintro e w11 ⟨rfl,hb⟩;refine ⟨_,rfl,?_⟩;replace HB := zs_ HB hb;(try clear hb);(try clear hb2);(try clear hk);(try clear hi)))
    go_ret
    exact ⟨zt_,zl_ HB⟩
   ·rw [if_neg c9] at H
    exact absurd H (by simp)
  ·rw [if_neg c8] at H
   have c8b0 : ((l0.length : Int) == 1) = false := beq_eq_false_iff_ne.mpr c8
   have c8b1 : ((l0.length : Int) != 1) = true := bne_iff_ne.mpr c8
   replace H := Option.bind_eq_some_iff.mp H
   obtain ⟨t214,A120,H⟩ := H
   try dsimp only at H
   have A12 := am_ A120
   clear A120
   by_cases c13 : 0 ≤ t214
   ·rw [if_pos c13] at H
    have c13b0 := eq_true c13
    have c13b1 : decide (0 ≤ t214) = true := decide_eq_true c13
    clear c13
    by_cases c14 : t214 ≤ (l0.length : Int)
    ·rw [if_pos c14] at H
     have c14b0 := eq_true c14
     have c14b1 : decide (t214 ≤ (l0.length : Int)) = true := decide_eq_true c14
     clear c14
     replace H := Option.bind_eq_some_iff.mp H
     obtain ⟨t216,A150,H⟩ := H
     try dsimp only at H
     have A15 := am_ A150
     clear A150
     have c16b0 := eq_true (zo_ : 0 ≤ t214)
     have c17b0 := eq_true (zo_ : t214 ≤ (l0.length : Int))
     replace H := Option.bind_eq_some_iff.mp H
     obtain ⟨t218,A180,H⟩ := H
     try dsimp only at H
     have A18 := am_ A180
     clear A180
     replace H := Option.bind_eq_some_iff.mp H
     obtain ⟨t219,A190,H⟩ := H
     try dsimp only at H
     have A19 := am_ A190
     clear A190
     obtain rfl := Option.some.inj H
     go_enter Tryd.func113,Tryd.ntmps113
     try go_wp2_with (first | ((with_reducible refine gate_callee (f := 112) rfl ?_);refine zgl (some 19) Tryd.func112 #[.int .i64 (l0.length : Int)] ?_;(with_reducible refine (spec_l09Half.calls k (l0.length : Int) t214 _ A12.out).mono ?_);rintro e wq_ ⟨rfl,⟨nd,hq_⟩⟩;refine ⟨_,rfl,?_⟩;replace HB := am_ (show Below w.heap.size w wq_ from by rw [hq_];exact pw_below_drewN HB.out _);clear hq_))
     replace HB := am_ (below_drew1 HB.out)
     obtain ⟨i021,hi021,_,hsz21,_⟩ := info_parts info9
     obtain ⟨hcut21,hA21,hC21⟩ := print_take_of (P := Tryd.prog) Value.string ⟨#[]⟩ 22 9 .i64 Tryd.underlying22 hi021 hsz21 A0 c0 l0 t214 (zo_) (zo_) HC0.out
     have HR215 := am_ (Kd.C_of_reads (h1 := fun _ => rfl) (hA21 _ (Kd.reads_of_C HR0.out)))
     have HC215 := am_ hC21
     clear hA21 hC21 hi021 hsz21
     obtain ⟨i022,hi022,_,hsz22,_⟩ := info_parts info9
     obtain ⟨A22,hcut22,hA22,hC22⟩ := print_drop_of (P := Tryd.prog) Value.string ⟨#[]⟩ 22 9 .i64 Tryd.underlying22 hi022 hsz22 A0 c0 l0 t214 (zo_) (zo_) HC0.out
     have HR217 := am_ (Kd.C_of_reads (h1 := fun _ => rfl) (hA22 _ (Kd.reads_of_C HR0.out)))
     have HC217 := am_ hC22
     clear hA22 hC22 hi022 hsz22
     refine start_ (n := 10) (S := fun w' => True) (ds := []) #[false,false,false,false,false,false,false,false,false,false] (by kernel_rfl) rfl rfl trivial (fun hHeld => ?_);refine with_tabW spec_l09Root.tab7 spec_l09Root.bits7 (fun HT_ HW_ => ?_)
     generalize wq_.drew = w20 at HB HR215 HR217 hHeld ⊢
     refine zpu 0 (N := some 20) HT_ ?_
     refine zpu 1 (N := some 21) HT_ ?_
     refine zpu 2 (N := some 22) HT_ ?_
     refine zpu 4 (N := some 24) HT_ ?_
     refine zpu 5 (N := some 25) HT_ ?_
     refine zpu 6 (N := some 26) HT_ ?_
     refine zon 3 (N := some 23) HT_ (fun K hK => ?_)
     refine goes_ Tryd.func113 (by kernel_rfl) rfl #[.slice A0 (l0.take (t214 : Int).toNat).length c0] (by rfl) rfl rfl (by (try simp only [m1_,m2_,m3_]);first | done | (rw [show (l0.take (t214 : Int).toNat).length = t214.toNat from (by rw [List.length_take];have h_ : (t214 : Int) ≤ (l0.length : Int) := zo_;omega)] <;> rfl) | rfl | (simp only [d1_,d2_];rfl)) ?_
     with_reducible refine (ih k (by omega) _ _ (l0.take (t214 : Int).toNat) t216 _ ?side1 ?side2 A15.out).mono ?_
     (case side1 => exact zc_ HR215 HB)
     (case side2 => exact HC215.out)
     rintro e w23 ⟨rfl,hb⟩
     refine ⟨_,rfl,?_⟩
     replace HB := zs_ HB hb
     (try clear hb)
     (try clear hb2)
     (try clear hk)
     (try clear hi)
     refine hK.out _ _ trivial (fun hHeld => ?_)
     clear hK K
     refine norm_ (a' := ?_) ?_ ?_
     rotate_left
     ·show Act.put _ (some 23) _ = _
      simp only [Act.put,p1_,p2_,p3_,i64_w,i32_w]
      rfl
     refine zon 7 (N := some 27) HT_ (fun K hK => ?_)
     refine goes_ Tryd.func113 (by kernel_rfl) rfl #[.slice A22 (l0.drop (t214 : Int).toNat).length (c0 - t214.toNat)] (by rfl) rfl rfl (by (try simp only [m1_,m2_,m3_]);first | done | (rw [show (l0.drop (t214 : Int).toNat).length = (l0.length - t214.toNat) from List.length_drop] <;> rfl) | rfl | (simp only [d1_,d2_];rfl)) ?_
     with_reducible refine (ih k (by omega) _ _ (l0.drop (t214 : Int).toNat) t218 _ ?side1 ?side2 A18.out).mono ?_
     (case side1 => exact zc_ HR217 HB)
     (case side2 => exact HC217.out)
     rintro e w24 ⟨rfl,hb⟩
     refine ⟨_,rfl,?_⟩
     replace HB := zs_ HB hb
     (try clear hb)
     (try clear hb2)
     (try clear hk)
     (try clear hi)
     refine hK.out _ _ trivial (fun hHeld => ?_)
     clear hK K
     refine norm_ (a' := ?_) ?_ ?_
     rotate_left
     ·show Act.put _ (some 27) _ = _
      simp only [Act.put,p1_,p2_,p3_,i64_w,i32_w]
      rfl
     refine zon 8 (N := some 28) HT_ (fun K hK => ?_)
     refine zgo Tryd.func149 #[.string t216,.string t218] ?_
     with_reducible refine (spec_l03Node.calls k t216 t218 t219 _ A19.out).mono ?_
     rintro e w25 ⟨rfl,hb⟩
     refine ⟨_,rfl,?_⟩
     replace HB := zs_ HB hb
     (try clear hb)
     (try clear hb2)
     (try clear hk)
     (try clear hi)
     refine hK.out _ _ trivial (fun hHeld => ?_)
     clear hK K
     refine norm_ (a' := ?_) ?_ ?_
     rotate_left
     ·show Act.put _ (some 28) _ = _
      simp only [Act.put,p1_,p2_,p3_,i64_w,i32_w]
      rfl
     refine zpu 9 (N := some 2) HT_ ?_
     refine done_ (done_of HT_.out (by kernel_rfl)) ?_
     try go_wp2
     go_ret
     exact ⟨zt_,zl_ HB⟩
    ·rw [if_neg c14] at H
     exact absurd H (by simp)
   ·rw [if_neg c13] at H
    exact absurd H (by simp)
def spec_l09Path.T5 : Bool × List (List Nat × List Nat) := (true,[([],[]),([],[]),([0,1],[0,1]),([],[]),([2,3],[2,3]),([],[]),([],[]),([5,6],[5,6]),([7,4],[7]),([8],[8]),([4,9,8],[4,9]),([10,10,0,1,2,3,4,5,6,7,8,9,10],[10])])
def spec_l09Path.B5 : List Nat := [0,0,3,0,15,0,0,96,255,511,1023,2047]
theorem spec_l09Path.tab5 : rtab .any (opsOf Tryd.f54 5) = spec_l09Path.T5 := by kernel_rfl
theorem spec_l09Path.bits5 : waitsOk spec_l09Path.T5.2 spec_l09Path.B5 = true := by kernel_rfl
def spec_l09Path.T6 : Bool × List (List Nat × List Nat) := (true,[([],[]),([],[]),([0,1],[0,1]),([],[]),([],[]),([3,4],[3,4]),([2,5],[2,5]),([],[]),([],[]),([7,8],[7,8]),([9,6],[9]),([10],[10]),([6,11,10],[6,11]),([12,12,0,1,2,3,4,5,6,7,8,9,10,11,12],[12])])
def spec_l09Path.B6 : List Nat := [0,0,3,0,0,24,63,0,0,384,1023,2047,4095,8191]
theorem spec_l09Path.tab6 : rtab .any (opsOf Tryd.f54 6) = spec_l09Path.T6 := by kernel_rfl
theorem spec_l09Path.bits6 : waitsOk spec_l09Path.T6.2 spec_l09Path.B6 = true := by kernel_rfl
set_option maxHeartbeats 8000000 in
set_option maxRecDepth 100000 in
theorem spec_l09Path.calls (k : Nat) : ∀ (A0 : Option Addr) (c0 : Nat) (l0 : List ByteArray) (a1 : Int) (r : List ByteArray) (w : World) (hr0 : Kd.C Kd.string w A0 l0.length l0) (hc0 : l0.length ≤ c0) (h : spec_l09Path.f k l0 a1 = some r),
  Calls Tryd.prog 54 #[.slice A0 l0.length c0,.int .i64 a1] w fun e w' => ∃ v0_ : Value,e = .returned (v0_) ∧ Kd.R Kd.string 9 w' w.heap.size (fun _ => True) v0_ r ∧ Below w.heap.size w w' := by
 induction k using Nat.strongRecOn with
 | _ k ih =>
 intro A0 c0 l0 a1 r w hr0 hc0 h
 cases k with
 | zero => exact absurd h (by simp [spec_l09Path.f])
 | succ k =>
 simp only [spec_l09Path.f] at h
 have HR0 := am_ hr0
 have HC0 := am_ hc0
 clear hr0 hc0
 have HB := am_ (Below.refl w.heap.size w)
 have H : (if (l0.length : Int) = 1 then (some (([] : List ByteArray))) else ((spec_l09Half.f k (l0.length : Int)).bind fun t223 => (if a1 < t223 then (if 0 ≤ t223 then (if t223 ≤ (l0.length : Int) then ((spec_l09Path.f k (l0.take (t223 : Int).toNat) a1).bind fun t225 => ((spec_l09Root.f k (l0.drop (t223 : Int).toNat)).bind fun t229 => (if t225.length < 8796093022208 then (some (t225 ++ [t229])) else (none)))) else (none)) else (none)) else (if 0 ≤ t223 then (if t223 ≤ (l0.length : Int) then ((spec_l09Path.f k (l0.drop (t223 : Int).toNat) (wrap64 (a1 - t223))).bind fun t234 => ((spec_l09Root.f k (l0.take (t223 : Int).toNat)).bind fun t238 => (if t234.length < 8796093022208 then (some (t234 ++ [t238])) else (none)))) else (none)) else (none))))) = some r := h
 clear h
 by_cases c3 : (l0.length : Int) = 1
 ·rw [if_pos c3] at H
  have c3b0 : ((l0.length : Int) == 1) = true := beq_iff_eq.mpr c3
  have c3b1 : ((l0.length : Int) != 1) = false := bne_eq_false_iff_eq.mpr c3
  clear c3
  obtain ⟨y220,hy220⟩ : ∃ y_ : List ByteArray,y_ = (([] : List ByteArray)) := ⟨_,rfl⟩
  replace H : (some y220) = some r := by first | (rw [hy220];with_reducible exact H) | (have H2_ := (Option.bind_some _ _).symm.trans H;rw [hy220];with_reducible exact H2_) | (have H2_ := (Option.bind_some _ _).symm.trans H;with_reducible exact H2_) | with_reducible exact H | (rw [hy220];exact H) | exact H
  have Ny220 := am_ hy220
  clear hy220
  obtain rfl := Option.some.inj H
  go_enter Tryd.func54,Tryd.ntmps54
  go_wp2_with (first | ((with_reducible refine gate_dst (N := 9) rfl ?_);refine Kd.R_lit Kd.string _ 9 ?hg (N := 9) ?hd (xs := ([] : List ByteArray)) (inner := []) (ok := fun _ => True) (okp := fun _ => True) ?hr ?hp (fun _ hk => hk) trivial (Below.refl _ _) (Nat.le_refl _) (by simp) ?_;(case hd => rfl);(case hg => rfl);(case hr => first | (go_simp;done) | (go_simp;rfl));(case hp => exact (Reps.none _ _));intro v221 w4 ho5 hb hg_ hnew_;clear hg_ hnew_;(first | rw [← Ny220.out] at ho5 | (simp only [Int.reduceToNat] at ho5;rw [← Ny220.out] at ho5));have HO222 := am_ (Kd.R_lower ho5 (below_size (zl_ HB)));replace HB := zs_ HB hb;clear hb ho5))
  go_ret
  exact ⟨_,zt_,zr HO222,zl_ HB⟩
 ·rw [if_neg c3] at H
  have c3b0 : ((l0.length : Int) == 1) = false := beq_eq_false_iff_ne.mpr c3
  have c3b1 : ((l0.length : Int) != 1) = true := bne_iff_ne.mpr c3
  replace H := Option.bind_eq_some_iff.mp H
  obtain ⟨t223,A60,H⟩ := H
  try dsimp only at H
  have A6 := am_ A60
  clear A60
  by_cases c7 : a1 < t223
  ·rw [if_pos c7] at H
   have c7b0 : decide (a1 < t223) = true := decide_eq_true c7
   clear c7
   by_cases c8 : 0 ≤ t223
   ·rw [if_pos c8] at H
    have c8b0 := eq_true c8
    have c8b1 : decide (0 ≤ t223) = true := decide_eq_true c8
    clear c8
    by_cases c9 : t223 ≤ (l0.length : Int)
    ·rw [if_pos c9] at H
     have c9b0 := eq_true c9
     have c9b1 : decide (t223 ≤ (l0.length : Int)) = true := decide_eq_true c9
     clear c9
     replace H := Option.bind_eq_some_iff.mp H
     obtain ⟨t225,A100,H⟩ := H
     try dsimp only at H
     have A10 := am_ A100
     clear A100
     have c11b0 := eq_true (zo_ : 0 ≤ t223)
     have c12b0 := eq_true (zo_ : t223 ≤ (l0.length : Int))
     replace H := Option.bind_eq_some_iff.mp H
     obtain ⟨t229,A130,H⟩ := H
     try dsimp only at H
     have A13 := am_ A130
     clear A130
     by_cases c14 : t225.length < 8796093022208
     ·rw [if_pos c14] at H
      have LMc14 := am_ c14
      clear c14
      obtain ⟨y230,hy230⟩ : ∃ y_ : List ByteArray,y_ = (t225 ++ [t229]) := ⟨_,rfl⟩
      replace H : (some y230) = some r := by first | (rw [hy230];with_reducible exact H) | (have H2_ := (Option.bind_some _ _).symm.trans H;rw [hy230];with_reducible exact H2_) | (have H2_ := (Option.bind_some _ _).symm.trans H;with_reducible exact H2_) | with_reducible exact H | (rw [hy230];exact H) | exact H
      have Ny230 := am_ hy230
      clear hy230
      obtain rfl := Option.some.inj H
      go_enter Tryd.func54,Tryd.ntmps54
      try go_wp2_with (first | ((with_reducible refine gate_callee (f := 112) rfl ?_);refine zgl (some 12) Tryd.func112 #[.int .i64 (l0.length : Int)] ?_;(with_reducible refine (spec_l09Half.calls k (l0.length : Int) t223 _ A6.out).mono ?_);rintro e wq_ ⟨rfl,⟨nd,hq_⟩⟩;refine ⟨_,rfl,?_⟩;replace HB := am_ (show Below w.heap.size w wq_ from by rw [hq_];exact pw_below_drewN HB.out _);clear hq_))
      replace HB := am_ (below_drew1 HB.out)
      obtain ⟨i016,hi016,_,hsz16,_⟩ := info_parts info9
      obtain ⟨hcut16,hA16,hC16⟩ := print_take_of (P := Tryd.prog) Value.string ⟨#[]⟩ 22 9 .i64 Tryd.underlying22 hi016 hsz16 A0 c0 l0 t223 (zo_) (zo_) HC0.out
      have HR224 := am_ (Kd.C_of_reads (h1 := fun _ => rfl) (hA16 _ (Kd.reads_of_C HR0.out)))
      have HC224 := am_ hC16
      clear hA16 hC16 hi016 hsz16
      obtain ⟨i017,hi017,_,hsz17,_⟩ := info_parts info9
      obtain ⟨A17,hcut17,hA17,hC17⟩ := print_drop_of (P := Tryd.prog) Value.string ⟨#[]⟩ 22 9 .i64 Tryd.underlying22 hi017 hsz17 A0 c0 l0 t223 (zo_) (zo_) HC0.out
      have HR228 := am_ (Kd.C_of_reads (h1 := fun _ => rfl) (hA17 _ (Kd.reads_of_C HR0.out)))
      have HC228 := am_ hC17
      clear hA17 hC17 hi017 hsz17
      refine start_ (n := 12) (S := fun w' => True) (ds := []) #[false,false,false,false,false,false,false,false,false,false,false,false] (by kernel_rfl) rfl rfl trivial (fun hHeld => ?_);refine with_tabW spec_l09Path.tab5 spec_l09Path.bits5 (fun HT_ HW_ => ?_)
      generalize wq_.drew = w15 at HB HR224 HR228 hHeld ⊢
      refine zpu 0 (N := some 16) HT_ ?_
      refine zpu 1 (N := some 17) HT_ ?_
      refine zpu 2 (N := some 18) HT_ ?_
      refine zpu 3 (N := some 19) HT_ ?_
      refine zpu 5 (N := some 21) HT_ ?_
      refine zpu 6 (N := some 22) HT_ ?_
      refine zpu 7 (N := some 23) HT_ ?_
      refine zon 4 (N := some 20) HT_ (fun K hK => ?_)
      refine goes_ Tryd.func54 (by kernel_rfl) rfl #[.slice A0 (l0.take (t223 : Int).toNat).length c0,.int .i64 a1] (by rfl) rfl rfl (by (try simp only [m1_,m2_,m3_]);first | done | (rw [show (l0.take (t223 : Int).toNat).length = t223.toNat from (by rw [List.length_take];have h_ : (t223 : Int) ≤ (l0.length : Int) := zo_;omega)] <;> rfl) | rfl | (simp only [d1_,d2_];rfl)) ?_
      with_reducible refine (ih k (by omega) _ _ (l0.take (t223 : Int).toNat) a1 t225 _ ?side1 ?side2 A10.out).mono ?_
      (case side1 => exact zc_ HR224 HB)
      (case side2 => exact HC224.out)
      rintro e w18 ⟨v226,rfl,ho0,hb⟩
      refine ⟨_,rfl,?_⟩
      have HO227 := am_ (Kd.R_lower ho0 (below_size (zl_ HB)))
      replace HB := zs_ HB hb
      (try clear hb)
      (try clear hb2)
      (try clear hk)
      (try clear hi)
      (try clear ho0)
      refine hK.out _ _ trivial (fun hHeld => ?_)
      clear hK K
      refine norm_ (a' := ?_) ?_ ?_
      rotate_left
      ·show Act.put _ (some 20) _ = _
       simp only [Act.put,p1_,p2_,p3_,i64_w,i32_w]
       rfl
      refine zon 8 (N := some 24) HT_ (fun K hK => ?_)
      refine goes_ Tryd.func113 (by kernel_rfl) rfl #[.slice A17 (l0.drop (t223 : Int).toNat).length (c0 - t223.toNat)] (by rfl) rfl rfl (by (try simp only [m1_,m2_,m3_]);first | done | (rw [show (l0.drop (t223 : Int).toNat).length = (l0.length - t223.toNat) from List.length_drop] <;> rfl) | rfl | (simp only [d1_,d2_];rfl)) ?_
      with_reducible refine (spec_l09Root.calls k _ _ (l0.drop (t223 : Int).toNat) t229 _ ?side1 ?side2 A13.out).mono ?_
      (case side1 => exact zc_ HR228 HB)
      (case side2 => exact HC228.out)
      rintro e w19 ⟨rfl,hb⟩
      refine ⟨_,rfl,?_⟩
      replace HO227 := zrb HO227 hb
      replace HB := zs_ HB hb
      (try clear hb)
      (try clear hb2)
      (try clear hk)
      (try clear hi)
      refine hK.out _ _ trivial (fun hHeld => ?_)
      clear hK K
      refine norm_ (a' := ?_) ?_ ?_
      rotate_left
      ·show Act.put _ (some 24) _ = _
       simp only [Act.put,p1_,p2_,p3_,i64_w,i32_w]
       rfl
      refine zon 9 (N := some 25) HT_ (fun K hK => ?_)
      refine value_ (w1 := ?_) (v := ?_) (by rfl) rfl ?_ ?_
      rotate_left 2
      ·go_simp
       constructor
       ·rfl
       ·rfl
      refine hK.out _ _ trivial (fun hHeld => ?_)
      clear hK K
      refine norm_ (a' := ?_) ?_ ?_
      rotate_left
      ·show Act.put _ (some 25) _ = _
       simp only [Act.put,p1_,p2_,p3_,i64_w,i32_w]
       rfl
      refine zon 10 (N := some 26) HT_ (fun K hK => ?_)
      refine Kd.R_append_step Kd.string (w0 := w) w.heap.size (by rfl) (.tmp 20) (.tmp 25) 22 9 (.string ⟨#[]⟩) 16 rfl Tryd.underlying22 info9 rfl (by decide) (by omega) v226 t225 t229 [.string t229] (fun _ => True) (fun _ => False) rfl rfl ?aP (fun _ hk => hk.elim) ?aF ?aO ?aB ?aS ?aL ?_
      (case aP => exact rfl)
      (case aB => exact (zl_ HB))
      (case aF => exact (fun _ _ => trivial))
      (case aO => exact (zr HO227))
      (case aS => exact (below_size (zl_ HB)))
      (case aL => have := LMc14.out;omega)
      intro v231 w20 ho hb hg hat
      rw [← Ny230.out] at ho
      replace HB := am_ (hb)
      have HO232 := am_ (ho)
      clear HO227
      clear ho hb hg hat
      refine hK.out _ _ trivial (fun hHeld => ?_)
      clear hK K
      refine norm_ (a' := ?_) ?_ ?_
      rotate_left
      ·show Act.put _ (some 26) _ = _
       simp only [Act.put,p1_,p2_,p3_,i64_w,i32_w]
       rfl
      refine zpu 11 (N := some 4) HT_ ?_
      refine done_ (done_of HT_.out (by kernel_rfl)) ?_
      try go_wp2
      go_ret
      exact ⟨_,zt_,zr HO232,zl_ HB⟩
     ·rw [if_neg c14] at H
      exact absurd H (by simp)
    ·rw [if_neg c9] at H
     exact absurd H (by simp)
   ·rw [if_neg c8] at H
    exact absurd H (by simp)
  ·rw [if_neg c7] at H
   have c7b0 : decide (a1 < t223) = false := decide_eq_false c7
   clear c7
   by_cases c21 : 0 ≤ t223
   ·rw [if_pos c21] at H
    have c21b0 := eq_true c21
    have c21b1 : decide (0 ≤ t223) = true := decide_eq_true c21
    clear c21
    by_cases c22 : t223 ≤ (l0.length : Int)
    ·rw [if_pos c22] at H
     have c22b0 := eq_true c22
     have c22b1 : decide (t223 ≤ (l0.length : Int)) = true := decide_eq_true c22
     clear c22
     replace H := Option.bind_eq_some_iff.mp H
     obtain ⟨t234,A230,H⟩ := H
     try dsimp only at H
     have A23 := am_ A230
     clear A230
     have c24b0 := eq_true (zo_ : 0 ≤ t223)
     have c25b0 := eq_true (zo_ : t223 ≤ (l0.length : Int))
     replace H := Option.bind_eq_some_iff.mp H
     obtain ⟨t238,A260,H⟩ := H
     try dsimp only at H
     have A26 := am_ A260
     clear A260
     by_cases c27 : t234.length < 8796093022208
     ·rw [if_pos c27] at H
      have LMc27 := am_ c27
      clear c27
      obtain ⟨y239,hy239⟩ : ∃ y_ : List ByteArray,y_ = (t234 ++ [t238]) := ⟨_,rfl⟩
      replace H : (some y239) = some r := by first | (rw [hy239];with_reducible exact H) | (have H2_ := (Option.bind_some _ _).symm.trans H;rw [hy239];with_reducible exact H2_) | (have H2_ := (Option.bind_some _ _).symm.trans H;with_reducible exact H2_) | with_reducible exact H | (rw [hy239];exact H) | exact H
      have Ny239 := am_ hy239
      clear hy239
      obtain rfl := Option.some.inj H
      go_enter Tryd.func54,Tryd.ntmps54
      try go_wp2_with (first | ((with_reducible refine gate_callee (f := 112) rfl ?_);refine zgl (some 12) Tryd.func112 #[.int .i64 (l0.length : Int)] ?_;(with_reducible refine (spec_l09Half.calls k (l0.length : Int) t223 _ A6.out).mono ?_);rintro e wq_ ⟨rfl,⟨nd,hq_⟩⟩;refine ⟨_,rfl,?_⟩;replace HB := am_ (show Below w.heap.size w wq_ from by rw [hq_];exact pw_below_drewN HB.out _);clear hq_))
      replace HB := am_ (below_drew1 HB.out)
      obtain ⟨i029,hi029,_,hsz29,_⟩ := info_parts info9
      obtain ⟨A29,hcut29,hA29,hC29⟩ := print_drop_of (P := Tryd.prog) Value.string ⟨#[]⟩ 22 9 .i64 Tryd.underlying22 hi029 hsz29 A0 c0 l0 t223 (zo_) (zo_) HC0.out
      have HR233 := am_ (Kd.C_of_reads (h1 := fun _ => rfl) (hA29 _ (Kd.reads_of_C HR0.out)))
      have HC233 := am_ hC29
      clear hA29 hC29 hi029 hsz29
      obtain ⟨i030,hi030,_,hsz30,_⟩ := info_parts info9
      obtain ⟨hcut30,hA30,hC30⟩ := print_take_of (P := Tryd.prog) Value.string ⟨#[]⟩ 22 9 .i64 Tryd.underlying22 hi030 hsz30 A0 c0 l0 t223 (zo_) (zo_) HC0.out
      have HR237 := am_ (Kd.C_of_reads (h1 := fun _ => rfl) (hA30 _ (Kd.reads_of_C HR0.out)))
      have HC237 := am_ hC30
      clear hA30 hC30 hi030 hsz30
      refine start_ (n := 14) (S := fun w' => True) (ds := []) #[false,false,false,false,false,false,false,false,false,false,false,false,false,false] (by kernel_rfl) rfl rfl trivial (fun hHeld => ?_);refine with_tabW spec_l09Path.tab6 spec_l09Path.bits6 (fun HT_ HW_ => ?_)
      generalize wq_.drew = w28 at HB HR233 HR237 hHeld ⊢
      refine zpu 0 (N := some 27) HT_ ?_
      refine zpu 1 (N := some 28) HT_ ?_
      refine zpu 2 (N := some 29) HT_ ?_
      refine zpu 3 (N := some 30) HT_ ?_
      refine zpu 4 (N := some 31) HT_ ?_
      refine zpu 5 (N := some 32) HT_ ?_
      refine zpu 7 (N := some 34) HT_ ?_
      refine zpu 8 (N := some 35) HT_ ?_
      refine zpu 9 (N := some 36) HT_ ?_
      refine zon 6 (N := some 33) HT_ (fun K hK => ?_)
      refine goes_ Tryd.func54 (by kernel_rfl) rfl #[.slice A29 (l0.drop (t223 : Int).toNat).length (c0 - t223.toNat),.int .i64 (wrap64 (a1 - t223))] (by rfl) rfl rfl (by (try simp only [m1_,m2_,m3_]);first | done | (rw [show (l0.drop (t223 : Int).toNat).length = (l0.length - t223.toNat) from List.length_drop] <;> rfl) | rfl | (simp only [d1_,d2_];rfl)) ?_
      with_reducible refine (ih k (by omega) _ _ (l0.drop (t223 : Int).toNat) (wrap64 (a1 - t223)) t234 _ ?side1 ?side2 A23.out).mono ?_
      (case side1 => exact zc_ HR233 HB)
      (case side2 => exact HC233.out)
      rintro e w31 ⟨v235,rfl,ho0,hb⟩
      refine ⟨_,rfl,?_⟩
      have HO236 := am_ (Kd.R_lower ho0 (below_size (zl_ HB)))
      replace HB := zs_ HB hb
      (try clear hb)
      (try clear hb2)
      (try clear hk)
      (try clear hi)
      (try clear ho0)
      refine hK.out _ _ trivial (fun hHeld => ?_)
      clear hK K
      refine norm_ (a' := ?_) ?_ ?_
      rotate_left
      ·show Act.put _ (some 33) _ = _
       simp only [Act.put,p1_,p2_,p3_,i64_w,i32_w]
       rfl
      refine zon 10 (N := some 37) HT_ (fun K hK => ?_)
      refine goes_ Tryd.func113 (by kernel_rfl) rfl #[.slice A0 (l0.take (t223 : Int).toNat).length c0] (by rfl) rfl rfl (by (try simp only [m1_,m2_,m3_]);first | done | (rw [show (l0.take (t223 : Int).toNat).length = t223.toNat from (by rw [List.length_take];have h_ : (t223 : Int) ≤ (l0.length : Int) := zo_;omega)] <;> rfl) | rfl | (simp only [d1_,d2_];rfl)) ?_
      with_reducible refine (spec_l09Root.calls k _ _ (l0.take (t223 : Int).toNat) t238 _ ?side1 ?side2 A26.out).mono ?_
      (case side1 => exact zc_ HR237 HB)
      (case side2 => exact HC237.out)
      rintro e w32 ⟨rfl,hb⟩
      refine ⟨_,rfl,?_⟩
      replace HO236 := zrb HO236 hb
      replace HB := zs_ HB hb
      (try clear hb)
      (try clear hb2)
      (try clear hk)
      (try clear hi)
      refine hK.out _ _ trivial (fun hHeld => ?_)
      clear hK K
      refine norm_ (a' := ?_) ?_ ?_
      rotate_left
      ·show Act.put _ (some 37) _ = _
       simp only [Act.put,p1_,p2_,p3_,i64_w,i32_w]
       rfl
      refine zon 11 (N := some 38) HT_ (fun K hK => ?_)
      refine value_ (w1 := ?_) (v := ?_) (by rfl) rfl ?_ ?_
      rotate_left 2
      ·go_simp
       constructor
       ·rfl
       ·rfl
      refine hK.out _ _ trivial (fun hHeld => ?_)
      clear hK K
      refine norm_ (a' := ?_) ?_ ?_
      rotate_left
      ·show Act.put _ (some 38) _ = _
       simp only [Act.put,p1_,p2_,p3_,i64_w,i32_w]
       rfl
      refine zon 12 (N := some 39) HT_ (fun K hK => ?_)
      refine Kd.R_append_step Kd.string (w0 := w) w.heap.size (by rfl) (.tmp 33) (.tmp 38) 22 9 (.string ⟨#[]⟩) 16 rfl Tryd.underlying22 info9 rfl (by decide) (by omega) v235 t234 t238 [.string t238] (fun _ => True) (fun _ => False) rfl rfl ?aP (fun _ hk => hk.elim) ?aF ?aO ?aB ?aS ?aL ?_
      (case aP => exact rfl)
      (case aB => exact (zl_ HB))
      (case aF => exact (fun _ _ => trivial))
      (case aO => exact (zr HO236))
      (case aS => exact (below_size (zl_ HB)))
      (case aL => have := LMc27.out;omega)
      intro v240 w33 ho hb hg hat
      rw [← Ny239.out] at ho
      replace HB := am_ (hb)
      have HO241 := am_ (ho)
      clear HO236
      clear ho hb hg hat
      refine hK.out _ _ trivial (fun hHeld => ?_)
      clear hK K
      refine norm_ (a' := ?_) ?_ ?_
      rotate_left
      ·show Act.put _ (some 39) _ = _
       simp only [Act.put,p1_,p2_,p3_,i64_w,i32_w]
       rfl
      refine zpu 13 (N := some 4) HT_ ?_
      refine done_ (done_of HT_.out (by kernel_rfl)) ?_
      try go_wp2
      go_ret
      exact ⟨_,zt_,zr HO241,zl_ HB⟩
     ·rw [if_neg c27] at H
      exact absurd H (by simp)
    ·rw [if_neg c22] at H
     exact absurd H (by simp)
   ·rw [if_neg c21] at H
    exact absurd H (by simp)
set_option maxHeartbeats 8000000 in
set_option maxRecDepth 100000 in
theorem spec_l10Proofs.calls (k : Nat) (A0 : Option Addr) (c0 : Nat) (l0 : List ByteArray) (r : List ByteArray) (w : World) (hr0 : Kd.C Kd.string w A0 l0.length l0) (hc0 : l0.length ≤ c0) (h : spec_l10Proofs.f k l0 = some r) :
  Calls Tryd.prog 60 #[.slice A0 l0.length c0] w fun e w' => ∃ v0_ : Value,e = .returned (v0_) ∧ Kd.R Kd.string 9 w' w.heap.size (fun _ => True) v0_ r ∧ Below w.heap.size w w' := by
 have HR0 := am_ hr0
 have HC0 := am_ hc0
 clear hr0 hc0
 have HB := am_ (Below.refl w.heap.size w)
 have H : (spec_l10Proofs.l0 k l0 (([] : List ByteArray)) 0) = some r := h
 clear h
 obtain ⟨y358,hy358⟩ : ∃ y_ : List ByteArray,y_ = (([] : List ByteArray)) := ⟨_,rfl⟩
 replace H : (spec_l10Proofs.l0 k l0 y358 0) = some r := by first | (rw [hy358];with_reducible exact H) | (have H2_ := (Option.bind_some _ _).symm.trans H;rw [hy358];with_reducible exact H2_) | (have H2_ := (Option.bind_some _ _).symm.trans H;with_reducible exact H2_) | with_reducible exact H | (rw [hy358];exact H) | exact H
 have Ny358 := am_ hy358
 clear hy358
 have H' := am_ H
 clear H
 go_enter Tryd.func60,Tryd.ntmps60
 go_wp2_with (first | ((with_reducible refine gate_dst (N := 5) rfl ?_);refine Kd.R_lit Kd.string _ 9 ?hg (N := 5) ?hd (xs := ([] : List ByteArray)) (inner := []) (ok := fun _ => True) (okp := fun _ => True) ?hr ?hp (fun _ hk => hk) trivial (Below.refl _ _) (Nat.le_refl _) (by simp) ?_;(case hd => rfl);(case hg => rfl);(case hr => first | (go_simp;done) | (go_simp;rfl));(case hp => exact (Reps.none _ _));intro v359 w2 ho3 hb hg_ hnew_;clear hg_ hnew_;(first | rw [← Ny358.out] at ho3 | (simp only [Int.reduceToNat] at ho3;rw [← Ny358.out] at ho3));have HO360 := am_ (Kd.R_lower ho3 (below_size (zl_ HB)));replace HB := zs_ HB hb;clear hb ho3))
 go_loopg [3,4] k (fun kq v3 v4 w' => ∃ (x3_1 : List ByteArray) (x4_1 : Int),v4 = .int .i64 x4_1 ∧ Aside0 (spec_l10Proofs.l0 kq l0 x3_1 x4_1 = some r) ∧ Aside0 (kq ≤ k) ∧ Aside0 (Kd.R Kd.string 9 w' w.heap.size (fun _ => True) v3 x3_1) ∧ Aside0 (Below w.heap.size w w'))
 case atStart => exact ⟨(y358),(0),(by first | rfl | (simp;done) | (simp [*];done)),H',⟨Nat.le_refl _⟩,⟨zr HO360⟩,⟨zl_ HB⟩⟩
 case round =>
  clear H'
  try clear p2
  obtain ⟨x3_1,x4_1,rfl,HA,HK1,HO_3,HB⟩ := hrel
  cases gk with
  | zero => exact absurd HA.out (by simp [spec_l10Proofs.l0])
  | succ k1 =>
   have H := HA.out
   clear HA
   simp only [spec_l10Proofs.l0] at H
   by_cases c4 : x4_1 < (l0.length : Int)
   ·rw [if_pos c4] at H
    have c4b0 : decide (x4_1 < (l0.length : Int)) = true := decide_eq_true c4
    clear c4
    replace H := Option.bind_eq_some_iff.mp H
    obtain ⟨t361,A50,H⟩ := H
    try dsimp only at H
    have A5 := am_ A50
    clear A50
    replace H := Option.bind_eq_some_iff.mp H
    obtain ⟨t364,A60,H⟩ := H
    try dsimp only at H
    have A6 := am_ A60
    clear A60
    by_cases c7 : x3_1.length < 8796093022208
    ·rw [if_pos c7] at H
     have LMc7 := am_ c7
     clear c7
     obtain ⟨y365,hy365⟩ : ∃ y_ : List ByteArray,y_ = (x3_1 ++ [t364]) := ⟨_,rfl⟩
     replace H : (spec_l10Proofs.l0 k1 l0 y365 (wrap64 (x4_1 + 1))) = some r := by first | (rw [hy365];with_reducible exact H) | (have H2_ := (Option.bind_some _ _).symm.trans H;rw [hy365];with_reducible exact H2_) | (have H2_ := (Option.bind_some _ _).symm.trans H;with_reducible exact H2_) | with_reducible exact H | (rw [hy365];exact H) | exact H
     have Ny365 := am_ hy365
     clear hy365
     have H' := am_ H
     clear H
     go_wp2_with (first | ((with_reducible refine gate_callee (f := 54) rfl ?_);refine zgl (some 15) Tryd.func54 #[.slice A0 l0.length c0,.int .i64 x4_1] ?_;(with_reducible refine (spec_l09Path.calls k1 _ _ l0 x4_1 t361 _ ?side1 ?side2 A5.out).mono ?_);(case side1 => exact zc_ HR0 HB);(case side2 => exact HC0.out);rintro e w8 ⟨v362,rfl,ho0,hb⟩;refine ⟨_,rfl,?_⟩;have HO363 := am_ (Kd.R_lower (Kd.R_new' ho0 (Kd.R_lt (zr HO_3))) (below_size (zl_ HB)));replace HO_3 := am_ (Kd.R_elder' (zr HO_3) (Kd.R_base ho0) hb);replace HB := zs_ HB hb;(try clear hb);(try clear hb2);(try clear hk);(try clear hi);(try clear ho0);obtain ⟨Ao9,co9,eo9⟩ := Kd.R_slice HO363.out;subst eo9) | ((with_reducible refine gate_callee (f := 118) rfl ?_);refine zgl (some 16) Tryd.func118 #[.slice Ao9 t361.length co9,.string ⟨#[]⟩] ?_;(with_reducible refine (spec_l00Join.calls k1 _ _ t361 (⟨#[]⟩ : ByteArray) t364 _ ?side1 ?side2 A6.out).mono ?_);(case side1 => repeat (first | exact (Kd.R_reads' HO363.out).2.2 | (with_reducible refine Kd.C_alloc ?_ _) | (with_reducible refine Kd.C_drewN ?_ _) | (with_reducible refine Kd.C_drew ?_)));(case side2 => exact (Kd.R_reads' HO363.out).2.1);rintro e w' ⟨rfl,⟨nd,rfl⟩⟩;refine ⟨_,rfl,?_⟩) | ((with_reducible refine gate_builtin (b := .append) (xs := #[.tmp 12,.tmp 17]) rfl ?_);at_builtin;refine Kd.R_append Kd.string (w0 := w) w.heap.size rfl (.tmp 12) (.tmp 17) 22 9 (.string ⟨#[]⟩) 16 rfl Tryd.underlying22 info9 rfl (by decide) (by omega) u3 x3_1 t364 [.string t364] (fun k_ => some k_ ≠ (.slice Ao9 t361.length co9 : Value).ownBlock) (fun _ => False) rfl rfl ?aP (fun _ hk => hk.elim) ?aF ?aO ?aB ?aS ?aL ?_;(case aP => exact rfl);(case aB => exact (zl_ HB));(case aF => exact (fun k_ hk => Kd.fresh' (Kd.R_lt (zr HO363)) k_ hk));(case aO => exact (by (with_reducible repeat (first | apply r1_ | apply r2_ | apply r3_));exact Kd.R_mono HO_3.out (fun _ hk => hk.2)));(case aS => exact (below_size (zl_ HB)));(case aL => have := LMc7.out;omega);intro v366 w10 ho hb hg hat;rw [← Ny365.out] at ho;replace HB := am_ (hb);have HO367 := am_ (ho);clear HO_3;clear ho hb hg hat))
     go_roundg k1
     case measure => have := HK1.out;omega
     case rel => exact ⟨(y365),(wrap64 (x4_1 + 1)),(by first | rfl | (simp;done) | (simp [*];done)),H',⟨by have := HK1.out;omega⟩,⟨by (with_reducible repeat (first | apply r1_ | apply r2_ | apply r3_));exact Kd.R_mono HO367.out (fun _ hk => trivial)⟩,⟨zl_ HB⟩⟩
    ·rw [if_neg c7] at H
     exact absurd H (by simp)
   ·rw [if_neg c4] at H
    have c4b0 : decide (x4_1 < (l0.length : Int)) = false := decide_eq_false c4
    clear c4
    obtain rfl := Option.some.inj H
    go_wp2
    go_ret
    exact ⟨_,zt_,zr HO_3,zl_ HB⟩
set_option maxHeartbeats 8000000 in
set_option maxRecDepth 100000 in
theorem spec_ProofsOf.calls (k : Nat) (A0 : Option Addr) (c0 : Nat) (l0 : List ByteArray) (r1 : List ByteArray) (r2 : Int) (w : World) (hr0 : Kd.C Kd.string w A0 l0.length l0) (hc0 : l0.length ≤ c0) (h : spec_ProofsOf.f k l0 = some (r1,r2)) :
  Calls Tryd.prog 18 #[.slice A0 l0.length c0] w fun e w' => ∃ v0_ : Value,e = .returned (.tuple #[v0_,.int .i64 r2]) ∧ Kd.R Kd.string 9 w' w.heap.size (fun _ => True) v0_ r1 ∧ Below w.heap.size w w' := by
 have HR0 := am_ hr0
 have HC0 := am_ hc0
 clear hr0 hc0
 have HB := am_ (Below.refl w.heap.size w)
 have H : (if (l0.length : Int) > 4096 then (some ((([] : List ByteArray)),2)) else ((spec_l09OK.f k l0).bind fun t371 => (if t371 = true then ((spec_l10Proofs.f k l0).bind fun t372 => (some (t372,0))) else (some ((([] : List ByteArray)),1))))) = some (r1,r2) := h
 clear h
 by_cases c2 : (l0.length : Int) > 4096
 ·rw [if_pos c2] at H
  have c2b0 : decide (4096 < (l0.length : Int)) = true := decide_eq_true c2
  have c2b1 : decide (4096 < l0.length) = true := decide_eq_true (by omega)
  clear c2
  obtain ⟨y368,hy368⟩ : ∃ y_ : List ByteArray,y_ = (([] : List ByteArray)) := ⟨_,rfl⟩
  replace H : (some (y368,2)) = some (r1,r2) := by first | (rw [hy368];with_reducible exact H) | (have H2_ := (Option.bind_some _ _).symm.trans H;rw [hy368];with_reducible exact H2_) | (have H2_ := (Option.bind_some _ _).symm.trans H;with_reducible exact H2_) | with_reducible exact H | (rw [hy368];exact H) | exact H
  have Ny368 := am_ hy368
  clear hy368
  simp only [Option.some.injEq,Prod.mk.injEq] at H
  obtain ⟨rfl,rfl⟩ := H
  go_enter Tryd.func18,Tryd.ntmps18
  go_wp2_with (first | ((with_reducible refine gate_dst (N := 7) rfl ?_);refine Kd.R_lit Kd.string _ 9 ?hg (N := 7) ?hd (xs := ([] : List ByteArray)) (inner := []) (ok := fun _ => True) (okp := fun _ => True) ?hr ?hp (fun _ hk => hk) trivial (Below.refl _ _) (Nat.le_refl _) (by simp) ?_;(case hd => rfl);(case hg => rfl);(case hr => first | (go_simp;done) | (go_simp;rfl));(case hp => exact (Reps.none _ _));intro v369 w3 ho4 hb hg_ hnew_;clear hg_ hnew_;(first | rw [← Ny368.out] at ho4 | (simp only [Int.reduceToNat] at ho4;rw [← Ny368.out] at ho4));have HO370 := am_ (Kd.R_lower ho4 (below_size (zl_ HB)));replace HB := zs_ HB hb;clear hb ho4))
  go_ret2
  exact ⟨_,zt_,zr HO370,zl_ HB⟩
 ·rw [if_neg c2] at H
  have c2b0 : decide (4096 < (l0.length : Int)) = false := decide_eq_false c2
  have c2b1 : decide (4096 < l0.length) = false := decide_eq_false (by omega)
  clear c2
  replace H := Option.bind_eq_some_iff.mp H
  obtain ⟨t371,A50,H⟩ := H
  try dsimp only at H
  have A5 := am_ A50
  clear A50
  by_cases c6 : t371 = true
  ·subst c6
   have H1 : ((spec_l10Proofs.f k l0).bind fun t372 => (some (t372,0))) = some (r1,r2) := by rw [if_pos rfl] at H;exact H
   clear H
   have H := H1
   clear H1
   replace H := Option.bind_eq_some_iff.mp H
   obtain ⟨t372,A70,H⟩ := H
   try dsimp only at H
   have A7 := am_ A70
   clear A70
   simp only [Option.some.injEq,Prod.mk.injEq] at H
   obtain ⟨rfl,rfl⟩ := H
   go_enter Tryd.func18,Tryd.ntmps18
   go_wp2_with (first | ((with_reducible refine gate_callee (f := 52) rfl ?_);refine zgl (some 9) Tryd.func52 #[.slice A0 l0.length c0] ?_;(with_reducible refine (spec_l09OK.calls k _ _ l0 true _ ?side1 ?side2 A5.out).mono ?_);(case side1 => repeat (first | exact HR0.out | (with_reducible refine Kd.C_alloc ?_ _) | (with_reducible refine Kd.C_drewN ?_ _) | (with_reducible refine Kd.C_drew ?_)));(case side2 => exact HC0.out);rintro e w' ⟨rfl,⟨nd,rfl⟩⟩;refine ⟨_,rfl,?_⟩) | ((with_reducible refine gate_callee (f := 60) rfl ?_);refine zgl (some 13) Tryd.func60 #[.slice A0 l0.length c0] ?_;(with_reducible refine (spec_l10Proofs.calls k _ _ l0 t372 _ ?side1 ?side2 A7.out).mono ?_);(case side1 => repeat (first | exact HR0.out | (with_reducible refine Kd.C_alloc ?_ _) | (with_reducible refine Kd.C_drewN ?_ _) | (with_reducible refine Kd.C_drew ?_)));(case side2 => exact HC0.out);rintro e w8 ⟨v373,rfl,ho0,hb⟩;refine ⟨_,rfl,?_⟩;have HO374 := am_ (Kd.R_lower ho0 (below_size (zl_ HB)));replace HB := zs_ HB hb;(try clear hb);(try clear hb2);(try clear hk);(try clear hi);(try clear ho0)))
   go_ret2
   exact ⟨_,zt_,zr HO374,zl_ HB⟩
  ·replace c6 := Bool.eq_false_iff.mpr c6
   subst c6
   have H1 : (some ((([] : List ByteArray)),1)) = some (r1,r2) := by rw [if_neg (show ¬ (false = true) by decide)] at H;exact H
   clear H
   have H := H1
   clear H1
   obtain ⟨y375,hy375⟩ : ∃ y_ : List ByteArray,y_ = (([] : List ByteArray)) := ⟨_,rfl⟩
   replace H : (some (y375,1)) = some (r1,r2) := by first | (rw [hy375];with_reducible exact H) | (have H2_ := (Option.bind_some _ _).symm.trans H;rw [hy375];with_reducible exact H2_) | (have H2_ := (Option.bind_some _ _).symm.trans H;with_reducible exact H2_) | with_reducible exact H | (rw [hy375];exact H) | exact H
   have Ny375 := am_ hy375
   clear hy375
   simp only [Option.some.injEq,Prod.mk.injEq] at H
   obtain ⟨rfl,rfl⟩ := H
   go_enter Tryd.func18,Tryd.ntmps18
   go_wp2_with (first | ((with_reducible refine gate_callee (f := 52) rfl ?_);refine zgl (some 9) Tryd.func52 #[.slice A0 l0.length c0] ?_;(with_reducible refine (spec_l09OK.calls k _ _ l0 false _ ?side1 ?side2 A5.out).mono ?_);(case side1 => repeat (first | exact HR0.out | (with_reducible refine Kd.C_alloc ?_ _) | (with_reducible refine Kd.C_drewN ?_ _) | (with_reducible refine Kd.C_drew ?_)));(case side2 => exact HC0.out);rintro e w' ⟨rfl,⟨nd,rfl⟩⟩;refine ⟨_,rfl,?_⟩) | ((with_reducible refine gate_dst (N := 11) rfl ?_);refine Kd.R_lit Kd.string _ 9 ?hg (N := 11) ?hd (xs := ([] : List ByteArray)) (inner := []) (ok := fun _ => True) (okp := fun _ => True) ?hr ?hp (fun _ hk => hk) trivial (Below.refl _ _) (Nat.le_refl _) (by simp) ?_;(case hd => rfl);(case hg => rfl);(case hr => first | (go_simp;done) | (go_simp;rfl));(case hp => exact (Reps.none _ _));intro v376 w9 ho10 hb hg_ hnew_;clear hg_ hnew_;(first | rw [← Ny375.out] at ho10 | (simp only [Int.reduceToNat] at ho10;rw [← Ny375.out] at ho10));have HO377 := am_ (Kd.R_lower ho10 (below_size (zl_ HB)));replace HB := zs_ HB hb;clear hb ho10))
   go_ret2
   exact ⟨_,zt_,zr HO377,zl_ HB⟩
set_option maxHeartbeats 8000000 in
set_option maxRecDepth 100000 in
theorem laws_FnExactProofsOf.calls (k : Nat) (A0 : Option Addr) (c0 : Nat) (l0 : List ByteArray) (r : Bool) (w : World) (hr0 : Kd.C Kd.string w A0 l0.length l0) (hc0 : l0.length ≤ c0) (hL : Laid w) (h : laws_FnExactProofsOf.f k l0 = some r) :
  Calls Tryd.prog 4 #[.slice A0 l0.length c0] w fun e w' => e = .returned (.bool r) ∧ Below w.heap.size w w' := by
 have HR0 := am_ hr0
 have HC0 := am_ hc0
 clear hr0 hc0
 have HLD := am_ hL
 clear hL
 have HB := am_ (Below.refl w.heap.size w)
 have H : ((laws_szStringS.f k l0 1048576).bind fun t387 => (if t387 < 0 then (some true) else ((laws_toStringS.f k l0).bind fun t388 => ((spec_ProofsOf.f k t388).bind fun bt391 => ((laws_toStringS.f k l0).bind fun t395 => ((impl_ProofsOf.f k t395).bind fun bt398 => ((laws_eqStringS.f k bt398.1 bt391.1).bind fun t402 => (if t402 = true then (laws_FnExactProofsOf.j0 k l0 bt391.1 bt391.2 t395 bt398.1 bt398.2 (bt398.2 != bt391.2)) else (laws_FnExactProofsOf.j0 k l0 bt391.1 bt391.2 t395 bt398.1 bt398.2 true))))))))) = some r := h
 clear h
 replace H := Option.bind_eq_some_iff.mp H
 obtain ⟨t387,A20,H⟩ := H
 try dsimp only at H
 have A2 := am_ A20
 clear A20
 by_cases c3 : t387 < 0
 ·rw [if_pos c3] at H
  have c3b0 : decide (t387 < 0) = true := decide_eq_true c3
  clear c3
  obtain rfl := Option.some.inj H
  go_enter Tryd.func4,Tryd.ntmps4
  go_wp2_with (first | ((with_reducible refine gate_callee (f := 11) rfl ?_);refine zgl (some 16) Tryd.func11 #[.slice A0 l0.length c0,.int .i64 1048576] ?_;(with_reducible refine (laws_szStringS.calls k _ _ l0 1048576 t387 _ ?side1 ?side2 A2.out).mono ?_);(case side1 => repeat (first | exact HR0.out | (with_reducible refine Kd.C_alloc ?_ _) | (with_reducible refine Kd.C_drewN ?_ _) | (with_reducible refine Kd.C_drew ?_)));(case side2 => exact HC0.out);rintro e w' ⟨rfl,⟨nd,rfl⟩⟩;refine ⟨_,rfl,?_⟩))
  go_ret
  exact ⟨zt_,zl_ HB⟩
 ·rw [if_neg c3] at H
  have c3b0 : decide (t387 < 0) = false := decide_eq_false c3
  clear c3
  replace H := Option.bind_eq_some_iff.mp H
  obtain ⟨t388,A40,H⟩ := H
  try dsimp only at H
  have A4 := am_ A40
  clear A40
  replace H := Option.bind_eq_some_iff.mp H
  obtain ⟨⟨t391,t392⟩,A50,H⟩ := H
  try dsimp only at H
  have A5 := am_ A50
  clear A50
  replace H := Option.bind_eq_some_iff.mp H
  obtain ⟨t395,A60,H⟩ := H
  try dsimp only at H
  have A6 := am_ A60
  clear A60
  replace H := Option.bind_eq_some_iff.mp H
  obtain ⟨⟨t398,t399⟩,A70,H⟩ := H
  try dsimp only at H
  have A7 := am_ A70
  clear A70
  have HC8 := am_ H
  clear H
  go_enter Tryd.func4,Tryd.ntmps4
  go_upto_region 8 with (first | ((with_reducible refine gate_callee (f := 11) rfl ?_);refine zgl (some 16) Tryd.func11 #[.slice A0 l0.length c0,.int .i64 1048576] ?_;(with_reducible refine (laws_szStringS.calls k _ _ l0 1048576 t387 _ ?side1 ?side2 A2.out).mono ?_);(case side1 => repeat (first | exact HR0.out | (with_reducible refine Kd.C_alloc ?_ _) | (with_reducible refine Kd.C_drewN ?_ _) | (with_reducible refine Kd.C_drew ?_)));(case side2 => exact HC0.out);rintro e w' ⟨rfl,⟨nd,rfl⟩⟩;refine ⟨_,rfl,?_⟩) | ((with_reducible refine gate_callee (f := 13) rfl ?_);refine zgl (some 21) Tryd.func13 #[.slice A0 l0.length c0] ?_;(with_reducible refine (laws_toStringS.calls k _ _ l0 t388 _ ?side1 ?side2 A4.out).mono ?_);(case side1 => repeat (first | exact HR0.out | (with_reducible refine Kd.C_alloc ?_ _) | (with_reducible refine Kd.C_drewN ?_ _) | (with_reducible refine Kd.C_drew ?_)));(case side2 => exact HC0.out);rintro e w9 ⟨v389,rfl,ho0,hb⟩;refine ⟨_,rfl,?_⟩;have HO390 := am_ (Kd.R_lower ho0 (below_size (zl_ HB)));replace HB := zs_ HB hb;(try clear hb);(try clear hb2);(try clear hk);(try clear hi);(try clear ho0);obtain ⟨Ao10,co10,eo10⟩ := Kd.R_slice HO390.out;subst eo10) | ((with_reducible refine gate_callee (f := 18) rfl ?_);refine zgl (some 22) Tryd.func18 #[.slice Ao10 t388.length co10] ?_;(with_reducible refine (spec_ProofsOf.calls k _ _ t388 t391 t392 _ ?side1 ?side2 A5.out).mono ?_);(case side1 => repeat (first | exact (Kd.R_reads' HO390.out).2.2 | (with_reducible refine Kd.C_alloc ?_ _) | (with_reducible refine Kd.C_drewN ?_ _) | (with_reducible refine Kd.C_drew ?_)));(case side2 => exact (Kd.R_reads' HO390.out).2.1);rintro e w11 ⟨v393,rfl,ho0,hb⟩;refine ⟨_,rfl,?_⟩;have HO394 := am_ (Kd.R_lower (Kd.R_new' ho0 (Kd.R_lt (zr HO390))) (below_size (zl_ HB)));replace HO390 := am_ (Kd.R_elder' (zr HO390) (Kd.R_base ho0) hb);replace HB := zs_ HB hb;(try clear hb);(try clear hb2);(try clear hk);(try clear hi);(try clear ho0)) | ((with_reducible refine gate_callee (f := 13) rfl ?_);refine zgl (some 26) Tryd.func13 #[.slice A0 l0.length c0] ?_;(with_reducible refine (laws_toStringS.calls k _ _ l0 t395 _ ?side1 ?side2 A6.out).mono ?_);(case side1 => exact zc_ HR0 HB);(case side2 => exact HC0.out);rintro e w12 ⟨v396,rfl,ho0,hb⟩;refine ⟨_,rfl,?_⟩;have HO397 := am_ (Kd.R_lower (Kd.R_new' (Kd.R_new' ho0 (Kd.R_lt (zr HO390))) (Kd.R_lt (zr HO394))) (below_size (zl_ HB)));replace HO390 := am_ (Kd.R_elder' (zr HO390) (Kd.R_base ho0) hb);replace HO394 := am_ (Kd.R_elder' (zr HO394) (Kd.R_base ho0) hb);replace HB := zs_ HB hb;(try clear hb);(try clear hb2);(try clear hk);(try clear hi);(try clear ho0);obtain ⟨Ao13,co13,eo13⟩ := Kd.R_slice HO397.out;subst eo13) | ((with_reducible refine gate_callee (f := 19) rfl ?_);refine zgl (some 29) Tryd.func19 #[.slice Ao13 t395.length co13] ?_;(with_reducible refine (impl_ProofsOf.calls k _ _ t395 t398 t399 _ ?side1 ?side2 ?side3 A7.out).mono ?_);(case side1 => repeat (first | exact (Kd.R_reads' HO397.out).2.2 | (with_reducible refine Kd.C_alloc ?_ _) | (with_reducible refine Kd.C_drewN ?_ _) | (with_reducible refine Kd.C_drew ?_)));(case side2 => exact (Kd.R_reads' HO397.out).2.1);(case side3 => exact HLD.out.on (zl_ HB));rintro e w14 ⟨v400,rfl,ho0,hb⟩;refine ⟨_,rfl,?_⟩;have HO401 := am_ (Kd.R_lower (Kd.R_new' (Kd.R_new' (Kd.R_new' ho0 (Kd.R_lt (zr HO390))) (Kd.R_lt (zr HO394))) (Kd.R_lt (zr HO397))) (below_size (zl_ HB)));replace HO394 := am_ (Kd.R_elder' (zr HO394) (Kd.R_base ho0) hb);replace HO397 := am_ (Kd.R_elder' (zr HO397) (Kd.R_base ho0) hb);replace HB := zs_ HB hb;(try clear hb);(try clear hb2);(try clear hk);(try clear hi);(try clear ho0)))
  (try simp only [Act.put,p1_,p2_,p3_])
  go_cut [40] (fun v40 wc => ∃ (kq : Nat) (x40_7 : Bool),v40 = .bool x40_7 ∧ Aside0 (laws_FnExactProofsOf.j0 kq l0 t391 t392 t395 t398 t399 x40_7 = some r) ∧ Aside0 (kq ≤ k) ∧ Aside0 (Kd.R Kd.string 9 wc w.heap.size (fun k_ => some k_ ≠ ((.slice Ao13 t395.length co13) : Value).ownBlock ∧ some k_ ≠ (v400 : Value).ownBlock) v393 t391) ∧ Aside0 (Kd.R Kd.string 9 wc w.heap.size (fun k_ => some k_ ≠ (v393 : Value).ownBlock ∧ some k_ ≠ (v400 : Value).ownBlock) (.slice Ao13 t395.length co13) t395) ∧ Aside0 (Kd.R Kd.string 9 wc w.heap.size (fun k_ => some k_ ≠ (v393 : Value).ownBlock ∧ some k_ ≠ ((.slice Ao13 t395.length co13) : Value).ownBlock) v400 t398) ∧ Aside0 (Below w.heap.size w wc))
  case first =>
   have H := HC8.out
   clear HC8
   replace H := Option.bind_eq_some_iff.mp H
   obtain ⟨t402,A150,H⟩ := H
   try dsimp only at H
   have A15 := am_ A150
   clear A150
   by_cases c16 : t402 = true
   ·subst c16
    have H1 : (laws_FnExactProofsOf.j0 k l0 t391 t392 t395 t398 t399 (t399 != t392)) = some r := by rw [if_pos rfl] at H;exact H
    clear H
    have H := H1
    clear H1
    have H' := am_ H
    clear H
    obtain ⟨Ao17,co17,eo17⟩ := Kd.R_slice HO401.out
    subst eo17
    obtain ⟨Ao18,co18,eo18⟩ := Kd.R_slice HO394.out
    subst eo18
    go_wp2_with (first | ((with_reducible refine gate_callee (f := 15) rfl ?_);refine zgl (some 34) Tryd.func15 #[.slice Ao17 t398.length co17,.slice Ao18 t391.length co18] ?_;(with_reducible refine (laws_eqStringS.calls k _ _ t398 _ _ t391 true _ ?side1 ?side2 ?side3 ?side4 A15.out).mono ?_);(case side1 => repeat (first | exact (Kd.R_reads' HO401.out).2.2 | (with_reducible refine Kd.C_alloc ?_ _) | (with_reducible refine Kd.C_drewN ?_ _) | (with_reducible refine Kd.C_drew ?_)));(case side2 => exact (Kd.R_reads' HO401.out).2.1);(case side3 => repeat (first | exact (Kd.R_reads' HO394.out).2.2 | (with_reducible refine Kd.C_alloc ?_ _) | (with_reducible refine Kd.C_drewN ?_ _) | (with_reducible refine Kd.C_drew ?_)));(case side4 => exact (Kd.R_reads' HO394.out).2.1);rintro e w' ⟨rfl,⟨nd,rfl⟩⟩;refine ⟨_,rfl,?_⟩))
    go_meet
    case rel => exact ⟨_,((t399 != t392)),(by first | rfl | (simp;done) | (simp [*];done)),H',⟨by first | omega | exact Nat.le_refl _⟩,⟨by (with_reducible repeat (first | apply r1_ | apply r2_ | apply r3_));exact Kd.R_mono HO394.out (fun _ hk => ⟨hk.1.2,hk.2⟩)⟩,⟨by (with_reducible repeat (first | apply r1_ | apply r2_ | apply r3_));exact Kd.R_mono HO397.out (fun _ hk => ⟨hk.1.2,hk.2⟩)⟩,⟨by (with_reducible repeat (first | apply r1_ | apply r2_ | apply r3_));exact Kd.R_mono HO401.out (fun _ hk => ⟨hk.1.2,hk.2⟩)⟩,⟨zl_ HB⟩⟩
   ·replace c16 := Bool.eq_false_iff.mpr c16
    subst c16
    have H1 : (laws_FnExactProofsOf.j0 k l0 t391 t392 t395 t398 t399 true) = some r := by rw [if_neg (show ¬ (false = true) by decide)] at H;exact H
    clear H
    have H := H1
    clear H1
    have H' := am_ H
    clear H
    obtain ⟨Ao19,co19,eo19⟩ := Kd.R_slice HO401.out
    subst eo19
    obtain ⟨Ao20,co20,eo20⟩ := Kd.R_slice HO394.out
    subst eo20
    go_wp2_with (first | ((with_reducible refine gate_callee (f := 15) rfl ?_);refine zgl (some 34) Tryd.func15 #[.slice Ao19 t398.length co19,.slice Ao20 t391.length co20] ?_;(with_reducible refine (laws_eqStringS.calls k _ _ t398 _ _ t391 false _ ?side1 ?side2 ?side3 ?side4 A15.out).mono ?_);(case side1 => repeat (first | exact (Kd.R_reads' HO401.out).2.2 | (with_reducible refine Kd.C_alloc ?_ _) | (with_reducible refine Kd.C_drewN ?_ _) | (with_reducible refine Kd.C_drew ?_)));(case side2 => exact (Kd.R_reads' HO401.out).2.1);(case side3 => repeat (first | exact (Kd.R_reads' HO394.out).2.2 | (with_reducible refine Kd.C_alloc ?_ _) | (with_reducible refine Kd.C_drewN ?_ _) | (with_reducible refine Kd.C_drew ?_)));(case side4 => exact (Kd.R_reads' HO394.out).2.1);rintro e w' ⟨rfl,⟨nd,rfl⟩⟩;refine ⟨_,rfl,?_⟩))
    go_meet
    case rel => exact ⟨_,(true),(by first | rfl | (simp;done) | (simp [*];done)),H',⟨by first | omega | exact Nat.le_refl _⟩,⟨by (with_reducible repeat (first | apply r1_ | apply r2_ | apply r3_));exact Kd.R_mono HO394.out (fun _ hk => ⟨hk.1.2,hk.2⟩)⟩,⟨by (with_reducible repeat (first | apply r1_ | apply r2_ | apply r3_));exact Kd.R_mono HO397.out (fun _ hk => ⟨hk.1.2,hk.2⟩)⟩,⟨by (with_reducible repeat (first | apply r1_ | apply r2_ | apply r3_));exact Kd.R_mono HO401.out (fun _ hk => ⟨hk.1.2,hk.2⟩)⟩,⟨zl_ HB⟩⟩
  case rest =>
   clear HC8
   try clear c1
   try clear p2
   try clear c3
   try clear c3b0
   try clear c4
   try clear c11
   try clear c13
   try clear c15
   try clear c16
   try clear c18
   try clear c19
   obtain ⟨kq,x40_7,rfl,HA,HJ7,HO_4,HO_6,HO_7,HB⟩ := hcut
   cases kq with
   | zero => exact absurd HA.out (by simp [laws_FnExactProofsOf.j0])
   | succ kj7 =>
    have H := HA.out
    clear HA
    simp only [laws_FnExactProofsOf.j0] at H
    by_cases c21 : x40_7 = true
    ·subst c21
     have H1 : (some false) = some r := by rw [if_pos rfl] at H;exact H
     clear H
     have H := H1
     clear H1
     obtain rfl := Option.some.inj H
     go_wp2
     go_ret
     exact ⟨zt_,zl_ HB⟩
    ·replace c21 := Bool.eq_false_iff.mpr c21
     subst c21
     have H1 : ((laws_toStringS.f kj7 l0).bind fun t403 => ((laws_eqStringS.f kj7 t395 t403).bind fun t406 => (if t406 = true then ((laws_markStringS.f kj7 t395 1).bind fun bt407 => (if bt407.1 < 0 then (laws_FnExactProofsOf.j1 kj7 l0 t391 t392 t398 true) else ((laws_eqStringS.f kj7 t398 t391).bind fun t409 => (if t409 = true then (laws_FnExactProofsOf.j1 kj7 l0 t391 t392 t398 (t399 != t392)) else (laws_FnExactProofsOf.j1 kj7 l0 t391 t392 t398 true))))) else (some false)))) = some r := by rw [if_neg (show ¬ (false = true) by decide)] at H;exact H
     clear H
     have H := H1
     clear H1
     replace H := Option.bind_eq_some_iff.mp H
     obtain ⟨t403,A220,H⟩ := H
     try dsimp only at H
     have A22 := am_ A220
     clear A220
     replace H := Option.bind_eq_some_iff.mp H
     obtain ⟨t406,A230,H⟩ := H
     try dsimp only at H
     have A23 := am_ A230
     clear A230
     by_cases c24 : t406 = true
     ·subst c24
      have H1 : ((laws_markStringS.f kj7 t395 1).bind fun bt407 => (if bt407.1 < 0 then (laws_FnExactProofsOf.j1 kj7 l0 t391 t392 t398 true) else ((laws_eqStringS.f kj7 t398 t391).bind fun t409 => (if t409 = true then (laws_FnExactProofsOf.j1 kj7 l0 t391 t392 t398 (t399 != t392)) else (laws_FnExactProofsOf.j1 kj7 l0 t391 t392 t398 true))))) = some r := by rw [if_pos rfl] at H;exact H
      clear H
      have H := H1
      clear H1
      replace H := Option.bind_eq_some_iff.mp H
      obtain ⟨⟨t407,t408⟩,A250,H⟩ := H
      try dsimp only at H
      have A25 := am_ A250
      clear A250
      have HC26 := am_ H
      clear H
      go_upto_region 14 with (first | ((with_reducible refine gate_callee (f := 13) rfl ?_);refine zgl (some 43) Tryd.func13 #[.slice A0 l0.length c0] ?_;(with_reducible refine (laws_toStringS.calls kj7 _ _ l0 t403 _ ?side1 ?side2 A22.out).mono ?_);(case side1 => exact zc_ HR0 HB);(case side2 => exact HC0.out);rintro e w27 ⟨v404,rfl,ho0,hb⟩;refine ⟨_,rfl,?_⟩;have HO405 := am_ (Kd.R_lower (Kd.R_new' (Kd.R_new' (Kd.R_new' ho0 (Kd.R_lt (zr HO_4))) (Kd.R_lt (zr HO_6))) (Kd.R_lt (zr HO_7))) (below_size (zl_ HB)));replace HO_4 := am_ (Kd.R_elder' (zr HO_4) (Kd.R_base ho0) hb);replace HO_6 := am_ (Kd.R_elder' (zr HO_6) (Kd.R_base ho0) hb);replace HO_7 := am_ (Kd.R_elder' (zr HO_7) (Kd.R_base ho0) hb);replace HB := zs_ HB hb;(try clear hb);(try clear hb2);(try clear hk);(try clear hi);(try clear ho0);obtain ⟨Ao28,co28,eo28⟩ := Kd.R_slice HO405.out;subst eo28) | ((with_reducible refine gate_callee (f := 15) rfl ?_);refine zgl (some 44) Tryd.func15 #[.slice Ao13 t395.length co13,.slice Ao28 t403.length co28] ?_;(with_reducible refine (laws_eqStringS.calls kj7 _ _ t395 _ _ t403 true _ ?side1 ?side2 ?side3 ?side4 A23.out).mono ?_);(case side1 => repeat (first | exact (Kd.R_reads' HO_6.out).2.2 | (with_reducible refine Kd.C_alloc ?_ _) | (with_reducible refine Kd.C_drewN ?_ _) | (with_reducible refine Kd.C_drew ?_)));(case side2 => exact (Kd.R_reads' HO_6.out).2.1);(case side3 => repeat (first | exact (Kd.R_reads' HO405.out).2.2 | (with_reducible refine Kd.C_alloc ?_ _) | (with_reducible refine Kd.C_drewN ?_ _) | (with_reducible refine Kd.C_drew ?_)));(case side4 => exact (Kd.R_reads' HO405.out).2.1);rintro e w' ⟨rfl,⟨nd,rfl⟩⟩;refine ⟨_,rfl,?_⟩) | ((with_reducible refine gate_callee (f := 16) rfl ?_);refine zgl (some 48) Tryd.func16 #[.slice Ao13 t395.length co13,.int .i64 1] ?_;(with_reducible refine (laws_markStringS.calls kj7 (fun k_ => some k_ = (.slice Ao13 t395.length co13 : Value).ownBlock) (.slice Ao13 t395.length co13) t395 1 t407 t408 w _ ?side1 ?side2 A25.out).mono ?_);(case side1 => exact zl_ HB);(case side2 => exact Kd.R_tight rfl HO_6.out);rintro e w29 ⟨rfl,hy0,hb,hkp⟩;refine ⟨_,rfl,?_⟩;replace HO_4 := am_ (Kd.R_mono (ok' := fun k_ => some k_ ≠ (.slice Ao13 t395.length co13 : Value).ownBlock ∧ some k_ ≠ (v400 : Value).ownBlock ∧ some k_ ≠ (.slice Ao28 t403.length co28 : Value).ownBlock) (Kd.R_keptB (HO_4.out) hkp (fun k_ hk_ hs_ => (hk_.1.1) hs_)) (fun k_ hk_ => ⟨hk_.1.1.1,hk_.1.1.2,hk_.1.2⟩));replace HO_6 := am_ (Kd.R_reok rfl hy0 (fun k_ e_ => HO_6.out.1 k_ e_));replace HO_7 := am_ (Kd.R_mono (ok' := fun k_ => some k_ ≠ (v393 : Value).ownBlock ∧ some k_ ≠ (.slice Ao13 t395.length co13 : Value).ownBlock ∧ some k_ ≠ (.slice Ao28 t403.length co28 : Value).ownBlock) (Kd.R_keptB (HO_7.out) hkp (fun k_ hk_ hs_ => (hk_.1.2) hs_)) (fun k_ hk_ => ⟨hk_.1.1.1,hk_.1.1.2,hk_.1.2⟩));replace HO405 := am_ (Kd.R_mono (ok' := fun k_ => some k_ ≠ (v393 : Value).ownBlock ∧ some k_ ≠ (.slice Ao13 t395.length co13 : Value).ownBlock ∧ some k_ ≠ (v400 : Value).ownBlock) (Kd.R_keptB (HO405.out) hkp (fun k_ hk_ hs_ => (hk_.1.2) hs_)) (fun k_ hk_ => ⟨hk_.1.1.1.2,hk_.1.1.2,hk_.1.2⟩));replace HB := am_ (hb);(try clear hb);(try clear hkp);(try clear hy0)))
      (try simp only [Act.put,p1_,p2_,p3_])
      go_cut [61] (fun v61 wc => ∃ (kq : Nat) (x61_25 : Bool),v61 = .bool x61_25 ∧ Aside0 (laws_FnExactProofsOf.j1 kq l0 t391 t392 t398 x61_25 = some r) ∧ Aside0 (kq ≤ kj7) ∧ Aside0 (Kd.R Kd.string 9 wc w.heap.size (fun k_ => some k_ ≠ (v400 : Value).ownBlock) v393 t391) ∧ Aside0 (Kd.R Kd.string 9 wc w.heap.size (fun k_ => some k_ ≠ (v393 : Value).ownBlock) v400 t398) ∧ Aside0 (Below w.heap.size w wc))
      case first =>
       have H := HC26.out
       clear HC26
       by_cases c30 : t407 < 0
       ·rw [if_pos c30] at H
        have c30b0 : decide (t407 < 0) = true := decide_eq_true c30
        clear c30
        (first | rw [c30b0] | (simp only [i64_w,i32_w];rw [c30b0]) | skip)
        have H' := am_ H
        clear H
        go_wp2
        go_meet
        case rel => exact ⟨_,(true),(by first | rfl | (simp;done) | (simp [*];done)),H',⟨by have := HJ7.out;first | omega | exact Nat.le_refl _⟩,⟨by (with_reducible repeat (first | apply r1_ | apply r2_ | apply r3_));exact Kd.R_mono HO_4.out (fun _ hk => hk.2.1)⟩,⟨by (with_reducible repeat (first | apply r1_ | apply r2_ | apply r3_));exact Kd.R_mono HO_7.out (fun _ hk => hk.1)⟩,⟨zl_ HB⟩⟩
       ·rw [if_neg c30] at H
        have c30b0 : decide (t407 < 0) = false := decide_eq_false c30
        clear c30
        (first | rw [c30b0] | (simp only [i64_w,i32_w];rw [c30b0]) | skip)
        replace H := Option.bind_eq_some_iff.mp H
        obtain ⟨t409,A310,H⟩ := H
        try dsimp only at H
        have A31 := am_ A310
        clear A310
        by_cases c32 : t409 = true
        ·subst c32
         have H1 : (laws_FnExactProofsOf.j1 kj7 l0 t391 t392 t398 (t399 != t392)) = some r := by rw [if_pos rfl] at H;exact H
         clear H
         have H := H1
         clear H1
         have H' := am_ H
         clear H
         obtain ⟨Ao33,co33,eo33⟩ := Kd.R_slice HO_7.out
         subst eo33
         obtain ⟨Ao34,co34,eo34⟩ := Kd.R_slice HO_4.out
         subst eo34
         go_wp2_with (first | (go_at_call 15;(with_reducible refine (laws_eqStringS.calls kj7 _ _ t398 _ _ t391 true _ ?side1 ?side2 ?side3 ?side4 A31.out).mono ?_);(case side1 => repeat (first | exact (Kd.R_reads' HO_7.out).2.2 | (with_reducible refine Kd.C_alloc ?_ _) | (with_reducible refine Kd.C_drewN ?_ _) | (with_reducible refine Kd.C_drew ?_)));(case side2 => exact (Kd.R_reads' HO_7.out).2.1);(case side3 => repeat (first | exact (Kd.R_reads' HO_4.out).2.2 | (with_reducible refine Kd.C_alloc ?_ _) | (with_reducible refine Kd.C_drewN ?_ _) | (with_reducible refine Kd.C_drew ?_)));(case side4 => exact (Kd.R_reads' HO_4.out).2.1);rintro e w' ⟨rfl,⟨nd,rfl⟩⟩))
         go_meet
         case rel => exact ⟨_,((t399 != t392)),(by first | rfl | (simp;done) | (simp [*];done)),H',⟨by have := HJ7.out;first | omega | exact Nat.le_refl _⟩,⟨by (with_reducible repeat (first | apply r1_ | apply r2_ | apply r3_));exact Kd.R_mono HO_4.out (fun _ hk => hk.2.1)⟩,⟨by (with_reducible repeat (first | apply r1_ | apply r2_ | apply r3_));exact Kd.R_mono HO_7.out (fun _ hk => hk.1)⟩,⟨zl_ HB⟩⟩
        ·replace c32 := Bool.eq_false_iff.mpr c32
         subst c32
         have H1 : (laws_FnExactProofsOf.j1 kj7 l0 t391 t392 t398 true) = some r := by rw [if_neg (show ¬ (false = true) by decide)] at H;exact H
         clear H
         have H := H1
         clear H1
         have H' := am_ H
         clear H
         obtain ⟨Ao35,co35,eo35⟩ := Kd.R_slice HO_7.out
         subst eo35
         obtain ⟨Ao36,co36,eo36⟩ := Kd.R_slice HO_4.out
         subst eo36
         go_wp2_with (first | (go_at_call 15;(with_reducible refine (laws_eqStringS.calls kj7 _ _ t398 _ _ t391 false _ ?side1 ?side2 ?side3 ?side4 A31.out).mono ?_);(case side1 => repeat (first | exact (Kd.R_reads' HO_7.out).2.2 | (with_reducible refine Kd.C_alloc ?_ _) | (with_reducible refine Kd.C_drewN ?_ _) | (with_reducible refine Kd.C_drew ?_)));(case side2 => exact (Kd.R_reads' HO_7.out).2.1);(case side3 => repeat (first | exact (Kd.R_reads' HO_4.out).2.2 | (with_reducible refine Kd.C_alloc ?_ _) | (with_reducible refine Kd.C_drewN ?_ _) | (with_reducible refine Kd.C_drew ?_)));(case side4 => exact (Kd.R_reads' HO_4.out).2.1);rintro e w' ⟨rfl,⟨nd,rfl⟩⟩))
         go_meet
         case rel => exact ⟨_,(true),(by first | rfl | (simp;done) | (simp [*];done)),H',⟨by have := HJ7.out;first | omega | exact Nat.le_refl _⟩,⟨by (with_reducible repeat (first | apply r1_ | apply r2_ | apply r3_));exact Kd.R_mono HO_4.out (fun _ hk => hk.2.1)⟩,⟨by (with_reducible repeat (first | apply r1_ | apply r2_ | apply r3_));exact Kd.R_mono HO_7.out (fun _ hk => hk.1)⟩,⟨zl_ HB⟩⟩
      case rest =>
       clear HC26
       try clear c1
       try clear c2
       try clear p2
       try clear c3
       try clear c3b0
       try clear c4
       try clear c11
       try clear c13
       try clear c15
       try clear c16
       try clear c18
       try clear c19
       try clear c21
       try clear c24
       try clear c30
       try clear c30b0
       try clear c32
       try clear p2
       obtain ⟨kq,x61_25,rfl,HA,HJ25,HO_4,HO_7,HB⟩ := hcut
       cases kq with
       | zero => exact absurd HA.out (by simp [laws_FnExactProofsOf.j1])
       | succ kj25 =>
        have H := HA.out
        clear HA
        simp only [laws_FnExactProofsOf.j1] at H
        by_cases c37 : x61_25 = true
        ·subst c37
         have H1 : (some false) = some r := by rw [if_pos rfl] at H;exact H
         clear H
         have H := H1
         clear H1
         obtain rfl := Option.some.inj H
         go_wp2
         go_ret
         exact ⟨zt_,zl_ HB⟩
        ·replace c37 := Bool.eq_false_iff.mpr c37
         subst c37
         have H1 : ((laws_markStringS.f kj25 t398 1).bind fun bt410 => ((laws_heldStringS.f kj25 bt410.2 1).bind fun t412 => (if t412 < 0 then (some false) else (if t412 = bt410.1 then ((laws_toStringS.f kj25 l0).bind fun t413 => ((impl_ProofsOf.f kj25 t413).bind fun bt416 => ((laws_eqStringS.f kj25 bt416.1 t391).bind fun t420 => (if t420 = true then (laws_FnExactProofsOf.j2 kj25 bt410.2 bt410.1 (bt416.2 != t392)) else (laws_FnExactProofsOf.j2 kj25 bt410.2 bt410.1 true))))) else (some false))))) = some r := by rw [if_neg (show ¬ (false = true) by decide)] at H;exact H
         clear H
         have H := H1
         clear H1
         replace H := Option.bind_eq_some_iff.mp H
         obtain ⟨⟨t410,t411⟩,A380,H⟩ := H
         try dsimp only at H
         have A38 := am_ A380
         clear A380
         replace H := Option.bind_eq_some_iff.mp H
         obtain ⟨t412,A390,H⟩ := H
         try dsimp only at H
         have A39 := am_ A390
         clear A390
         by_cases c40 : t412 < 0
         ·rw [if_pos c40] at H
          have c40b0 : decide (t412 < 0) = true := decide_eq_true c40
          clear c40
          obtain rfl := Option.some.inj H
          obtain ⟨Ao41,co41,eo41⟩ := Kd.R_slice HO_7.out
          subst eo41
          go_wp2_with (first | ((with_reducible refine gate_callee (f := 16) rfl ?_);refine zgl (some 64) Tryd.func16 #[.slice Ao41 t398.length co41,.int .i64 1] ?_;(with_reducible refine (laws_markStringS.calls kj25 (fun k_ => some k_ = (.slice Ao41 t398.length co41 : Value).ownBlock) (.slice Ao41 t398.length co41) t398 1 t410 t411 w _ ?side1 ?side2 A38.out).mono ?_);(case side1 => exact zl_ HB);(case side2 => exact Kd.R_tight rfl HO_7.out);rintro e w42 ⟨rfl,hy0,hb,hkp⟩;refine ⟨_,rfl,?_⟩;replace HO_4 := am_ (Kd.R_mono (ok' := fun k_ => some k_ ≠ (.slice Ao41 t398.length co41 : Value).ownBlock) (Kd.R_keptB (HO_4.out) hkp (fun k_ hk_ hs_ => (hk_) hs_)) (fun k_ hk_ => hk_.1));replace HO_7 := am_ (Kd.R_reok rfl hy0 (fun k_ e_ => HO_7.out.1 k_ e_));replace HB := am_ (hb);(try clear hb);(try clear hkp);(try clear hy0)) | ((with_reducible refine gate_callee (f := 17) rfl ?_);refine goesL_ (some 67) rfl rfl Tryd.func17 (by kernel_rfl) rfl #[.slice Ao41 t411.length co41,.int .i64 1] rfl (by (try simp only [m1_,m2_,m3_]);first | done | (rw [show t411.length = t398.length from (Kd.R_reads' HO_7.out).1.symm] <;> rfl) | rfl | (simp only [d1_,d2_];rfl)) ?_;(with_reducible refine (laws_heldStringS.calls kj25 _ _ t411 1 t412 _ ?side1 ?side2 A39.out).mono ?_);(case side1 => repeat (first | exact (Kd.R_reads' HO_7.out).2.2 | (with_reducible refine Kd.C_alloc ?_ _) | (with_reducible refine Kd.C_drewN ?_ _) | (with_reducible refine Kd.C_drew ?_)));(case side2 => rw [show t411.length = t398.length from (Kd.R_reads' HO_7.out).1.symm];exact (Kd.R_reads' HO_7.out).2.1);rintro e w43 ⟨rfl,hb⟩;refine ⟨_,rfl,?_⟩;replace HO_4 := zrb HO_4 hb;replace HO_7 := zrb HO_7 hb;replace HB := zs_ HB hb;(try clear hb);(try clear hb2);(try clear hk);(try clear hi)))
          go_ret
          exact ⟨zt_,zl_ HB⟩
         ·rw [if_neg c40] at H
          have c40b0 : decide (t412 < 0) = false := decide_eq_false c40
          clear c40
          by_cases c44 : t412 = t410
          ·rw [if_pos c44] at H
           have c44b0 : (t412 == t410) = true := beq_iff_eq.mpr c44
           have c44b1 : (t412 != t410) = false := bne_eq_false_iff_eq.mpr c44
           clear c44
           replace H := Option.bind_eq_some_iff.mp H
           obtain ⟨t413,A450,H⟩ := H
           try dsimp only at H
           have A45 := am_ A450
           clear A450
           replace H := Option.bind_eq_some_iff.mp H
           obtain ⟨⟨t416,t417⟩,A460,H⟩ := H
           try dsimp only at H
           have A46 := am_ A460
           clear A460
           have HC47 := am_ H
           clear H
           obtain ⟨Ao48,co48,eo48⟩ := Kd.R_slice HO_7.out
           subst eo48
           go_upto_region 25 with (first | ((with_reducible refine gate_callee (f := 16) rfl ?_);refine zgl (some 64) Tryd.func16 #[.slice Ao48 t398.length co48,.int .i64 1] ?_;(with_reducible refine (laws_markStringS.calls kj25 (fun k_ => some k_ = (.slice Ao48 t398.length co48 : Value).ownBlock) (.slice Ao48 t398.length co48) t398 1 t410 t411 w _ ?side1 ?side2 A38.out).mono ?_);(case side1 => exact zl_ HB);(case side2 => exact Kd.R_tight rfl HO_7.out);rintro e w49 ⟨rfl,hy0,hb,hkp⟩;refine ⟨_,rfl,?_⟩;replace HO_4 := am_ (Kd.R_mono (ok' := fun k_ => some k_ ≠ (.slice Ao48 t398.length co48 : Value).ownBlock) (Kd.R_keptB (HO_4.out) hkp (fun k_ hk_ hs_ => (hk_) hs_)) (fun k_ hk_ => hk_.1));replace HO_7 := am_ (Kd.R_reok rfl hy0 (fun k_ e_ => HO_7.out.1 k_ e_));replace HB := am_ (hb);(try clear hb);(try clear hkp);(try clear hy0)) | ((with_reducible refine gate_callee (f := 17) rfl ?_);refine goesL_ (some 67) rfl rfl Tryd.func17 (by kernel_rfl) rfl #[.slice Ao48 t411.length co48,.int .i64 1] rfl (by (try simp only [m1_,m2_,m3_]);first | done | (rw [show t411.length = t398.length from (Kd.R_reads' HO_7.out).1.symm] <;> rfl) | rfl | (simp only [d1_,d2_];rfl)) ?_;(with_reducible refine (laws_heldStringS.calls kj25 _ _ t411 1 t412 _ ?side1 ?side2 A39.out).mono ?_);(case side1 => repeat (first | exact (Kd.R_reads' HO_7.out).2.2 | (with_reducible refine Kd.C_alloc ?_ _) | (with_reducible refine Kd.C_drewN ?_ _) | (with_reducible refine Kd.C_drew ?_)));(case side2 => rw [show t411.length = t398.length from (Kd.R_reads' HO_7.out).1.symm];exact (Kd.R_reads' HO_7.out).2.1);rintro e w50 ⟨rfl,hb⟩;refine ⟨_,rfl,?_⟩;replace HO_4 := zrb HO_4 hb;replace HO_7 := zrb HO_7 hb;replace HB := zs_ HB hb;(try clear hb);(try clear hb2);(try clear hk);(try clear hi)) | ((with_reducible refine gate_callee (f := 13) rfl ?_);refine zgl (some 75) Tryd.func13 #[.slice A0 l0.length c0] ?_;(with_reducible refine (laws_toStringS.calls kj25 _ _ l0 t413 _ ?side1 ?side2 A45.out).mono ?_);(case side1 => exact zc_ HR0 HB);(case side2 => exact HC0.out);rintro e w51 ⟨v414,rfl,ho0,hb⟩;refine ⟨_,rfl,?_⟩;have HO415 := am_ (Kd.R_lower (Kd.R_new' (Kd.R_new' ho0 (Kd.R_lt (zr HO_4))) (Kd.R_lt (zr HO_7))) (below_size (zl_ HB)));replace HO_4 := am_ (Kd.R_elder' (zr HO_4) (Kd.R_base ho0) hb);replace HO_7 := am_ (Kd.R_elder' (zr HO_7) (Kd.R_base ho0) hb);replace HB := zs_ HB hb;(try clear hb);(try clear hb2);(try clear hk);(try clear hi);(try clear ho0);obtain ⟨Ao52,co52,eo52⟩ := Kd.R_slice HO415.out;subst eo52) | ((with_reducible refine gate_callee (f := 19) rfl ?_);refine zgl (some 76) Tryd.func19 #[.slice Ao52 t413.length co52] ?_;(with_reducible refine (impl_ProofsOf.calls kj25 _ _ t413 t416 t417 _ ?side1 ?side2 ?side3 A46.out).mono ?_);(case side1 => repeat (first | exact (Kd.R_reads' HO415.out).2.2 | (with_reducible refine Kd.C_alloc ?_ _) | (with_reducible refine Kd.C_drewN ?_ _) | (with_reducible refine Kd.C_drew ?_)));(case side2 => exact (Kd.R_reads' HO415.out).2.1);(case side3 => exact HLD.out.on (zl_ HB));rintro e w53 ⟨v418,rfl,ho0,hb⟩;refine ⟨_,rfl,?_⟩;have HO419 := am_ (Kd.R_lower (Kd.R_new' (Kd.R_new' (Kd.R_new' ho0 (Kd.R_lt (zr HO_4))) (Kd.R_lt (zr HO_7))) (Kd.R_lt (zr HO415))) (below_size (zl_ HB)));replace HO_4 := am_ (Kd.R_elder' (zr HO_4) (Kd.R_base ho0) hb);replace HO_7 := am_ (Kd.R_elder' (zr HO_7) (Kd.R_base ho0) hb);replace HB := zs_ HB hb;(try clear hb);(try clear hb2);(try clear hk);(try clear hi);(try clear ho0)))
           (try simp only [Act.put,p1_,p2_,p3_])
           go_cut [87] (fun v87 wc => ∃ (kq : Nat) (x87_46 : Bool),v87 = .bool x87_46 ∧ Aside0 (laws_FnExactProofsOf.j2 kq t411 t410 x87_46 = some r) ∧ Aside0 (kq ≤ kj25) ∧ Aside0 (Kd.R Kd.string 9 wc w.heap.size (fun _ => True) (.slice Ao48 t398.length co48) t411) ∧ Aside0 (Below w.heap.size w wc))
           case first =>
            have H := HC47.out
            clear HC47
            replace H := Option.bind_eq_some_iff.mp H
            obtain ⟨t420,A540,H⟩ := H
            try dsimp only at H
            have A54 := am_ A540
            clear A540
            by_cases c55 : t420 = true
            ·subst c55
             have H1 : (laws_FnExactProofsOf.j2 kj25 t411 t410 (t417 != t392)) = some r := by rw [if_pos rfl] at H;exact H
             clear H
             have H := H1
             clear H1
             have H' := am_ H
             clear H
             obtain ⟨Ao56,co56,eo56⟩ := Kd.R_slice HO419.out
             subst eo56
             obtain ⟨Ao57,co57,eo57⟩ := Kd.R_slice HO_4.out
             subst eo57
             go_wp2_with (first | ((with_reducible refine gate_callee (f := 15) rfl ?_);refine zgl (some 81) Tryd.func15 #[.slice Ao56 t416.length co56,.slice Ao57 t391.length co57] ?_;(with_reducible refine (laws_eqStringS.calls kj25 _ _ t416 _ _ t391 true _ ?side1 ?side2 ?side3 ?side4 A54.out).mono ?_);(case side1 => repeat (first | exact (Kd.R_reads' HO419.out).2.2 | (with_reducible refine Kd.C_alloc ?_ _) | (with_reducible refine Kd.C_drewN ?_ _) | (with_reducible refine Kd.C_drew ?_)));(case side2 => exact (Kd.R_reads' HO419.out).2.1);(case side3 => repeat (first | exact (Kd.R_reads' HO_4.out).2.2 | (with_reducible refine Kd.C_alloc ?_ _) | (with_reducible refine Kd.C_drewN ?_ _) | (with_reducible refine Kd.C_drew ?_)));(case side4 => exact (Kd.R_reads' HO_4.out).2.1);rintro e w' ⟨rfl,⟨nd,rfl⟩⟩;refine ⟨_,rfl,?_⟩))
             go_meet
             case rel => exact ⟨_,((t417 != t392)),(by first | rfl | (simp;done) | (simp [*];done)),H',⟨by have := HJ7.out;have := HJ25.out;first | omega | exact Nat.le_refl _⟩,⟨by (with_reducible repeat (first | apply r1_ | apply r2_ | apply r3_));exact Kd.R_mono HO_7.out (fun _ hk => trivial)⟩,⟨zl_ HB⟩⟩
            ·replace c55 := Bool.eq_false_iff.mpr c55
             subst c55
             have H1 : (laws_FnExactProofsOf.j2 kj25 t411 t410 true) = some r := by rw [if_neg (show ¬ (false = true) by decide)] at H;exact H
             clear H
             have H := H1
             clear H1
             have H' := am_ H
             clear H
             obtain ⟨Ao58,co58,eo58⟩ := Kd.R_slice HO419.out
             subst eo58
             obtain ⟨Ao59,co59,eo59⟩ := Kd.R_slice HO_4.out
             subst eo59
             go_wp2_with (first | ((with_reducible refine gate_callee (f := 15) rfl ?_);refine zgl (some 81) Tryd.func15 #[.slice Ao58 t416.length co58,.slice Ao59 t391.length co59] ?_;(with_reducible refine (laws_eqStringS.calls kj25 _ _ t416 _ _ t391 false _ ?side1 ?side2 ?side3 ?side4 A54.out).mono ?_);(case side1 => repeat (first | exact (Kd.R_reads' HO419.out).2.2 | (with_reducible refine Kd.C_alloc ?_ _) | (with_reducible refine Kd.C_drewN ?_ _) | (with_reducible refine Kd.C_drew ?_)));(case side2 => exact (Kd.R_reads' HO419.out).2.1);(case side3 => repeat (first | exact (Kd.R_reads' HO_4.out).2.2 | (with_reducible refine Kd.C_alloc ?_ _) | (with_reducible refine Kd.C_drewN ?_ _) | (with_reducible refine Kd.C_drew ?_)));(case side4 => exact (Kd.R_reads' HO_4.out).2.1);rintro e w' ⟨rfl,⟨nd,rfl⟩⟩;refine ⟨_,rfl,?_⟩))
             go_meet
             case rel => exact ⟨_,(true),(by first | rfl | (simp;done) | (simp [*];done)),H',⟨by have := HJ7.out;have := HJ25.out;first | omega | exact Nat.le_refl _⟩,⟨by (with_reducible repeat (first | apply r1_ | apply r2_ | apply r3_));exact Kd.R_mono HO_7.out (fun _ hk => trivial)⟩,⟨zl_ HB⟩⟩
           case rest =>
            clear HC47
            try clear c1
            try clear c2
            try clear p2
            try clear c3
            try clear c3b0
            try clear c4
            try clear c5
            try clear c11
            try clear c13
            try clear c15
            try clear c16
            try clear c17
            try clear c18
            try clear c19
            try clear c21
            try clear c24
            try clear c30
            try clear c30b0
            try clear c32
            try clear c37
            try clear c40
            try clear c40b0
            try clear c44
            try clear c44b0
            try clear c44b1
            try clear c55
            try clear p2
            obtain ⟨kq,x87_46,rfl,HA,HJ46,HO_7,HB⟩ := hcut
            have hl7_46 := (Kd.R_reads' HO_7.out).1
            rw [hl7_46] at HO_7
            (try simp only [hl7_46])
            cases kq with
            | zero => exact absurd HA.out (by simp [laws_FnExactProofsOf.j2])
            | succ kj46 =>
             have H := HA.out
             clear HA
             simp only [laws_FnExactProofsOf.j2] at H
             by_cases c60 : x87_46 = true
             ·subst c60
              have H1 : (some false) = some r := by rw [if_pos rfl] at H;exact H
              clear H
              have H := H1
              clear H1
              obtain rfl := Option.some.inj H
              go_wp2
              go_ret
              exact ⟨zt_,zl_ HB⟩
             ·replace c60 := Bool.eq_false_iff.mpr c60
              subst c60
              have H1 : ((laws_heldStringS.f kj46 t411 1).bind fun t421 => (if t421 < 0 then (some false) else (if t421 = t410 then (some true) else (some false)))) = some r := by rw [if_neg (show ¬ (false = true) by decide)] at H;exact H
              clear H
              have H := H1
              clear H1
              replace H := Option.bind_eq_some_iff.mp H
              obtain ⟨t421,A610,H⟩ := H
              try dsimp only at H
              have A61 := am_ A610
              clear A610
              by_cases c62 : t421 < 0
              ·rw [if_pos c62] at H
               have c62b0 : decide (t421 < 0) = true := decide_eq_true c62
               clear c62
               obtain rfl := Option.some.inj H
               go_wp2_with (first | ((with_reducible refine gate_callee (f := 17) rfl ?_);refine zgl (some 90) Tryd.func17 #[.slice Ao48 t411.length co48,.int .i64 1] ?_;(with_reducible refine (laws_heldStringS.calls kj46 _ _ t411 1 t421 _ ?side1 ?side2 A61.out).mono ?_);(case side1 => repeat (first | exact (Kd.R_reads' HO_7.out).2.2 | (with_reducible refine Kd.C_alloc ?_ _) | (with_reducible refine Kd.C_drewN ?_ _) | (with_reducible refine Kd.C_drew ?_)));(case side2 => exact (Kd.R_reads' HO_7.out).2.1);rintro e w63 ⟨rfl,hb⟩;refine ⟨_,rfl,?_⟩;replace HO_7 := zrb HO_7 hb;replace HB := zs_ HB hb;(try clear hb);(try clear hb2);(try clear hk);(try clear hi)))
               go_ret
               exact ⟨zt_,zl_ HB⟩
              ·rw [if_neg c62] at H
               have c62b0 : decide (t421 < 0) = false := decide_eq_false c62
               clear c62
               by_cases c64 : t421 = t410
               ·rw [if_pos c64] at H
                have c64b0 : (t421 == t410) = true := beq_iff_eq.mpr c64
                have c64b1 : (t421 != t410) = false := bne_eq_false_iff_eq.mpr c64
                clear c64
                obtain rfl := Option.some.inj H
                go_wp2_with (first | ((with_reducible refine gate_callee (f := 17) rfl ?_);refine zgl (some 90) Tryd.func17 #[.slice Ao48 t411.length co48,.int .i64 1] ?_;(with_reducible refine (laws_heldStringS.calls kj46 _ _ t411 1 t421 _ ?side1 ?side2 A61.out).mono ?_);(case side1 => repeat (first | exact (Kd.R_reads' HO_7.out).2.2 | (with_reducible refine Kd.C_alloc ?_ _) | (with_reducible refine Kd.C_drewN ?_ _) | (with_reducible refine Kd.C_drew ?_)));(case side2 => exact (Kd.R_reads' HO_7.out).2.1);rintro e w65 ⟨rfl,hb⟩;refine ⟨_,rfl,?_⟩;replace HO_7 := zrb HO_7 hb;replace HB := zs_ HB hb;(try clear hb);(try clear hb2);(try clear hk);(try clear hi)))
                go_ret
                exact ⟨zt_,zl_ HB⟩
               ·rw [if_neg c64] at H
                have c64b0 : (t421 == t410) = false := beq_eq_false_iff_ne.mpr c64
                have c64b1 : (t421 != t410) = true := bne_iff_ne.mpr c64
                obtain rfl := Option.some.inj H
                go_wp2_with (first | ((with_reducible refine gate_callee (f := 17) rfl ?_);refine zgl (some 90) Tryd.func17 #[.slice Ao48 t411.length co48,.int .i64 1] ?_;(with_reducible refine (laws_heldStringS.calls kj46 _ _ t411 1 t421 _ ?side1 ?side2 A61.out).mono ?_);(case side1 => repeat (first | exact (Kd.R_reads' HO_7.out).2.2 | (with_reducible refine Kd.C_alloc ?_ _) | (with_reducible refine Kd.C_drewN ?_ _) | (with_reducible refine Kd.C_drew ?_)));(case side2 => exact (Kd.R_reads' HO_7.out).2.1);rintro e w66 ⟨rfl,hb⟩;refine ⟨_,rfl,?_⟩;replace HB := zs_ HB hb;(try clear hb);(try clear hb2);(try clear hk);(try clear hi)))
                go_ret
                exact ⟨zt_,zl_ HB⟩
          ·rw [if_neg c44] at H
           have c44b0 : (t412 == t410) = false := beq_eq_false_iff_ne.mpr c44
           have c44b1 : (t412 != t410) = true := bne_iff_ne.mpr c44
           obtain rfl := Option.some.inj H
           obtain ⟨Ao67,co67,eo67⟩ := Kd.R_slice HO_7.out
           subst eo67
           go_wp2_with (first | ((with_reducible refine gate_callee (f := 16) rfl ?_);refine zgl (some 64) Tryd.func16 #[.slice Ao67 t398.length co67,.int .i64 1] ?_;(with_reducible refine (laws_markStringS.calls kj25 (fun k_ => some k_ = (.slice Ao67 t398.length co67 : Value).ownBlock) (.slice Ao67 t398.length co67) t398 1 t410 t411 w _ ?side1 ?side2 A38.out).mono ?_);(case side1 => exact zl_ HB);(case side2 => exact Kd.R_tight rfl HO_7.out);rintro e w68 ⟨rfl,hy0,hb,hkp⟩;refine ⟨_,rfl,?_⟩;replace HO_7 := am_ (Kd.R_reok rfl hy0 (fun k_ e_ => HO_7.out.1 k_ e_));replace HB := am_ (hb);(try clear hb);(try clear hkp);(try clear hy0)) | ((with_reducible refine gate_callee (f := 17) rfl ?_);refine goesL_ (some 67) rfl rfl Tryd.func17 (by kernel_rfl) rfl #[.slice Ao67 t411.length co67,.int .i64 1] rfl (by (try simp only [m1_,m2_,m3_]);first | done | (rw [show t411.length = t398.length from (Kd.R_reads' HO_7.out).1.symm] <;> rfl) | rfl | (simp only [d1_,d2_];rfl)) ?_;(with_reducible refine (laws_heldStringS.calls kj25 _ _ t411 1 t412 _ ?side1 ?side2 A39.out).mono ?_);(case side1 => repeat (first | exact (Kd.R_reads' HO_7.out).2.2 | (with_reducible refine Kd.C_alloc ?_ _) | (with_reducible refine Kd.C_drewN ?_ _) | (with_reducible refine Kd.C_drew ?_)));(case side2 => rw [show t411.length = t398.length from (Kd.R_reads' HO_7.out).1.symm];exact (Kd.R_reads' HO_7.out).2.1);rintro e w69 ⟨rfl,hb⟩;refine ⟨_,rfl,?_⟩;replace HB := zs_ HB hb;(try clear hb);(try clear hb2);(try clear hk);(try clear hi)))
           go_ret
           exact ⟨zt_,zl_ HB⟩
     ·replace c24 := Bool.eq_false_iff.mpr c24
      subst c24
      have H1 : (some false) = some r := by rw [if_neg (show ¬ (false = true) by decide)] at H;exact H
      clear H
      have H := H1
      clear H1
      obtain rfl := Option.some.inj H
      go_wp2_with (first | ((with_reducible refine gate_callee (f := 13) rfl ?_);refine zgl (some 43) Tryd.func13 #[.slice A0 l0.length c0] ?_;(with_reducible refine (laws_toStringS.calls kj7 _ _ l0 t403 _ ?side1 ?side2 A22.out).mono ?_);(case side1 => exact zc_ HR0 HB);(case side2 => exact HC0.out);rintro e w70 ⟨v404,rfl,ho0,hb⟩;refine ⟨_,rfl,?_⟩;have HO405 := am_ (Kd.R_lower (Kd.R_new' (Kd.R_new' (Kd.R_new' ho0 (Kd.R_lt (zr HO_4))) (Kd.R_lt (zr HO_6))) (Kd.R_lt (zr HO_7))) (below_size (zl_ HB)));replace HO_6 := am_ (Kd.R_elder' (zr HO_6) (Kd.R_base ho0) hb);replace HB := zs_ HB hb;(try clear hb);(try clear hb2);(try clear hk);(try clear hi);(try clear ho0);obtain ⟨Ao71,co71,eo71⟩ := Kd.R_slice HO405.out;subst eo71) | ((with_reducible refine gate_callee (f := 15) rfl ?_);refine zgl (some 44) Tryd.func15 #[.slice Ao13 t395.length co13,.slice Ao71 t403.length co71] ?_;(with_reducible refine (laws_eqStringS.calls kj7 _ _ t395 _ _ t403 false _ ?side1 ?side2 ?side3 ?side4 A23.out).mono ?_);(case side1 => repeat (first | exact (Kd.R_reads' HO_6.out).2.2 | (with_reducible refine Kd.C_alloc ?_ _) | (with_reducible refine Kd.C_drewN ?_ _) | (with_reducible refine Kd.C_drew ?_)));(case side2 => exact (Kd.R_reads' HO_6.out).2.1);(case side3 => repeat (first | exact (Kd.R_reads' HO405.out).2.2 | (with_reducible refine Kd.C_alloc ?_ _) | (with_reducible refine Kd.C_drewN ?_ _) | (with_reducible refine Kd.C_drew ?_)));(case side4 => exact (Kd.R_reads' HO405.out).2.1);rintro e w' ⟨rfl,⟨nd,rfl⟩⟩;refine ⟨_,rfl,?_⟩))
      go_ret
      exact ⟨zt_,zl_ HB⟩
end Go.Proofs.YtadablpppkjdbaaDoor.A
end
