/- A part of the proof that FnExactReadTable returns true at every input: plain functions, contracts and lemmas. No conditions. -/
import Derived.Test.YtioocldcdonlpaaQReadTablef
set_option linter.unusedVariables false
set_option linter.unusedSimpArgs false
set_option linter.unusedSectionVars false
section
namespace Go.Proofs.Ytioocldcdonlpaa.B
open Go.RowKit Go.Proofs.YtioocldcdonlpaaW.PrintWords Go.Proofs.YtioocldcdonlpaaW.PrintLast Go.Proofs.YtioocldcdonlpaaW.PrintMore
attribute [local go_sem] max2_int min2_int max_two min_two max_three min_three max_four min_four
set_option maxHeartbeats 8000000 in
set_option maxRecDepth 100000 in
theorem spec_l02Of.calls (k : Nat) (a0 : ByteArray) (r : Int) (w : World) (h : spec_l02Of.f k a0 = some r) :
  Calls Try.prog 73 #[.string a0] w fun e w' => e = .returned (.int .i64 r) ∧ Drawn0 w w' := by
 have H : (spec_l02Of.l0 k a0 0 0) = some r := h
 clear h
 have H' := am_ H
 clear H
 go_enter Try.func73,Try.ntmps73
 go_wp2
 go_loopg [3,4] k (fun kq v3 v4 w' => ∃ (x3_1 : Int) (x4_1 : Int),v3 = .int .i64 x3_1 ∧ v4 = .int .i64 x4_1 ∧ Aside0 (spec_l02Of.l0 kq a0 x3_1 x4_1 = some r) ∧ Aside0 (kq ≤ k) ∧ Drawn0 w w')
 case atStart => exact ⟨(0),(0),(by first | rfl | (simp;done) | (simp [*];done)),(by first | rfl | (simp;done) | (simp [*];done)),H',⟨Nat.le_refl _⟩,by repeat (first | exact Drawn0.refl _ | apply Drawn0.step)⟩
 case round =>
  clear H'
  obtain ⟨x3_1,x4_1,rfl,rfl,HA,HK1,⟨m1,rfl⟩⟩ := hrel
  cases gk with
  | zero => exact absurd HA.out (by simp [spec_l02Of.l0])
  | succ k1 =>
   have H := HA.out
   clear HA
   simp only [spec_l02Of.l0] at H
   by_cases c2 : x4_1 < (a0.size : Int)
   ·rw [if_pos c2] at H
    have c2b0 : decide (x4_1 < (a0.size : Int)) = true := decide_eq_true c2
    clear c2
    by_cases c3 : 0 ≤ x4_1
    ·rw [if_pos c3] at H
     have c3b0 : decide (0 ≤ x4_1) = true := decide_eq_true c3
     clear c3
     have H' := am_ H
     clear H
     have p4 : 0 ≤ (x4_1 : Int) := zo_
     have q4 : x4_1 < (a0.size : Int) := zo_
     have hx4 := bt_at a0 x4_1
     replace p4 := eq_true p4
     replace q4 := eq_true q4
     go_wp2
     go_roundg k1
     case measure => have := HK1.out;omega
     case rel => exact ⟨(wrap64 ((wrap64 (x3_1 * 256)) + (wrap64 (bt a0 x4_1)))),(wrap64 (x4_1 + 1)),(by first | rfl | (simp;done) | (simp [*];done)),(by first | rfl | (simp;done) | (simp [*];done)),H',⟨by have := HK1.out;omega⟩,by repeat (first | exact Drawn0.refl _ | apply Drawn0.step)⟩
    ·rw [if_neg c3] at H
     exact absurd H (by simp)
   ·rw [if_neg c2] at H
    have c2b0 : decide (x4_1 < (a0.size : Int)) = false := decide_eq_false c2
    clear c2
    obtain rfl := Option.some.inj H
    go_wp2
    go_ret
    exact ⟨by first | rfl | (simp;done) | (simp [*];done),by repeat (first | exact Drawn0.refl _ | apply Drawn0.step)⟩
set_option maxHeartbeats 8000000 in
set_option maxRecDepth 100000 in
theorem spec_l05Reader_text.calls (g : Nat) (s0_0 : ByteArray) (s0_1 : Bool) (a1 : Int) (r1 : ByteArray) (r2 : ByteArray) (r3 : Bool) (w0 w : World) (hI : IsS73 w0 w g s0_0 s0_1) (hB : Below w0.heap.size w0 w) (h : spec_l05Reader_text.f s0_0 s0_1 a1 = some (r1,r2,r3)) :
  Calls Try.prog 47 #[.pointer (some ⟨g,0,none⟩),.int .i64 a1] w fun e w' => e = .returned (.string r1) ∧ IsS73 w0 w' g r2 r3 ∧ Below w0.heap.size w0 w' ∧ KeepBut w w' g none := by
 have HI0 := am_ hI
 have HK := am_ (KeepBut.refl w g none)
 have HL := am_ hB.size
 clear hI
 have HW0 := am_ hB.size
 have HB := am_ hB
 clear hB
 have H : (if s0_1 = true then (some ((⟨#[]⟩ : ByteArray),s0_0,true)) else (if a1 > (s0_0.size : Int) then (some ((⟨#[]⟩ : ByteArray),s0_0,true)) else (if 0 ≤ a1 then (if a1 ≤ (s0_0.size : Int) then (some (s0_0.extract 0 (a1 : Int).toNat,s0_0.extract (a1 : Int).toNat s0_0.size,s0_1)) else (none)) else (none)))) = some (r1,r2,r3) := h
 clear h
 by_cases c3 : s0_1 = true
 ·subst c3
  have H1 : (some ((⟨#[]⟩ : ByteArray),s0_0,true)) = some (r1,r2,r3) := by rw [if_pos rfl] at H;exact H
  clear H
  have H := H1
  clear H1
  simp only [Option.some.injEq,Prod.mk.injEq] at H
  obtain ⟨rfl,rfl,rfl⟩ := H
  obtain ⟨HGz4,hgz4⟩ := HI0.out
  have hcz4_0 := cellS73_0 HGz4
  have hcz4_1 := cellS73_1 HGz4
  have hfz4_0 := blk_frozen HGz4 0
  have hfz4_1 := blk_frozen HGz4 1
  clear HGz4 hgz4
  go_enter Try.func47,Try.ntmps47
  go_wp2
  go_ret
  exact ⟨zt_,(zi73 HI0),zl_ HB,zh_ HK⟩
 ·replace c3 := Bool.eq_false_iff.mpr c3
  subst c3
  have H1 : (if a1 > (s0_0.size : Int) then (some ((⟨#[]⟩ : ByteArray),s0_0,true)) else (if 0 ≤ a1 then (if a1 ≤ (s0_0.size : Int) then (some (s0_0.extract 0 (a1 : Int).toNat,s0_0.extract (a1 : Int).toNat s0_0.size,false)) else (none)) else (none))) = some (r1,r2,r3) := by rw [if_neg (show ¬ (false = true) by decide)] at H;exact H
  clear H
  have H := H1
  clear H1
  by_cases c5 : a1 > (s0_0.size : Int)
  ·rw [if_pos c5] at H
   have c5b0 : decide ((s0_0.size : Int) < a1) = true := decide_eq_true c5
   clear c5
   simp only [Option.some.injEq,Prod.mk.injEq] at H
   obtain ⟨rfl,rfl,rfl⟩ := H
   obtain ⟨HGz6,hgz6⟩ := HI0.out
   have hcz6_0 := cellS73_0 HGz6
   have hcz6_1 := cellS73_1 HGz6
   have hfz6_0 := blk_frozen HGz6 0
   have hfz6_1 := blk_frozen HGz6 1
   clear HGz6 hgz6
   go_enter Try.func47,Try.ntmps47
   go_wp2
   go_ret
   exact ⟨zt_,(zi73 HI0),zl_ HB,zh_ HK⟩
  ·rw [if_neg c5] at H
   have c5b0 : decide ((s0_0.size : Int) < a1) = false := decide_eq_false c5
   clear c5
   by_cases c7 : 0 ≤ a1
   ·rw [if_pos c7] at H
    have c7b0 := eq_true c7
    have c7b1 : decide (0 ≤ a1) = true := decide_eq_true c7
    clear c7
    by_cases c8 : a1 ≤ (s0_0.size : Int)
    ·rw [if_pos c8] at H
     have c8b0 := eq_true c8
     have c8b1 : decide (a1 ≤ (s0_0.size : Int)) = true := decide_eq_true c8
     clear c8
     have c9b0 := eq_true (zo_ : 0 ≤ a1)
     have c10b0 := eq_true (zo_ : a1 ≤ (s0_0.size : Int))
     simp only [Option.some.injEq,Prod.mk.injEq] at H
     obtain ⟨rfl,rfl,rfl⟩ := H
     obtain ⟨HGz11,hgz11⟩ := HI0.out
     have hcz11_0 := cellS73_0 HGz11
     have hcz11_1 := cellS73_1 HGz11
     have hfz11_0 := blk_frozen HGz11 0
     have hfz11_1 := blk_frozen HGz11 1
     clear HGz11 hgz11
     go_enter Try.func47,Try.ntmps47
     go_wp2
     go_ret
     exact ⟨zt_,(zi73 HI0),zl_ HB,zh_ HK⟩
    ·rw [if_neg c8] at H
     exact absurd H (by simp)
   ·rw [if_neg c7] at H
    exact absurd H (by simp)
set_option maxHeartbeats 8000000 in
set_option maxRecDepth 100000 in
theorem spec_l05Reader_number.calls (k : Nat) (g : Nat) (s0_0 : ByteArray) (s0_1 : Bool) (a1 : Int) (r1 : Int) (r2 : ByteArray) (r3 : Bool) (w0 w : World) (hI : IsS73 w0 w g s0_0 s0_1) (hB : Below w0.heap.size w0 w) (h : spec_l05Reader_number.f k s0_0 s0_1 a1 = some (r1,r2,r3)) :
  Calls Try.prog 46 #[.pointer (some ⟨g,0,none⟩),.int .i64 a1] w fun e w' => e = .returned (.int .i64 r1) ∧ IsS73 w0 w' g r2 r3 ∧ Below w0.heap.size w0 w' ∧ KeepBut w w' g none := by
 have HI0 := am_ hI
 have HK := am_ (KeepBut.refl w g none)
 have HL := am_ hB.size
 clear hI
 have HW0 := am_ hB.size
 have HB := am_ hB
 clear hB
 have H : ((spec_l05Reader_text.f s0_0 s0_1 a1).bind fun bt101 => ((spec_l02Of.f k bt101.1).bind fun t104 => (some (t104,bt101.2.1,bt101.2.2)))) = some (r1,r2,r3) := h
 clear h
 replace H := Option.bind_eq_some_iff.mp H
 obtain ⟨⟨t101,t102,t103⟩,A30,H⟩ := H
 try dsimp only at H
 have A3 := am_ A30
 clear A30
 replace H := Option.bind_eq_some_iff.mp H
 obtain ⟨t104,A40,H⟩ := H
 try dsimp only at H
 have A4 := am_ A40
 clear A40
 simp only [Option.some.injEq,Prod.mk.injEq] at H
 obtain ⟨rfl,rfl,rfl⟩ := H
 go_enter Try.func46,Try.ntmps46
 go_wp2_with (first | ((with_reducible refine gate_callee (f := 47) rfl ?_);refine zgl (some 7) Try.func47 #[.pointer (some ⟨g,0,none⟩),.int .i64 a1] ?_;(with_reducible refine (spec_l05Reader_text.calls g s0_0 s0_1 a1 t101 t102 t103 w0 _ ?side1 ?side2 A3.out).mono ?_);(case side1 => exact zi73 HI0);(case side2 => exact zl_ HB);rintro e w5 ⟨rfl,hi,hb,hk⟩;refine ⟨_,rfl,?_⟩;replace HK := am_ (KeepBut.trans (zh_ HK) hk (.inl rfl));replace HB := am_ (hb);replace HI0 := am_ (hi);(try clear hb);(try clear hb2);(try clear hk);(try clear hi)) | ((with_reducible refine gate_callee (f := 73) rfl ?_);refine zgl (some 8) Try.func73 #[.string t101] ?_;(with_reducible refine (spec_l02Of.calls k t101 t104 _ A4.out).mono ?_);rintro e w' ⟨rfl,⟨nd,rfl⟩⟩;refine ⟨_,rfl,?_⟩))
 go_ret
 exact ⟨zt_,(zi73 HI0),zl_ HB,zh_ HK⟩
def spec_l05Read.T16 : Bool × List (List Nat × List Nat) := (true,[([],[]),([0],[0]),([],[]),([],[]),([3],[3]),([2,4],[2,4]),([5],[5]),([1,6,4],[1,6]),([0,1,2,3,4,5,6,7],[]),([8,7,7,0,1,2,3,4,5,6,7],[7,8])])
def spec_l05Read.B16 : List Nat := [0,1,0,0,8,28,60,127,255,511]
theorem spec_l05Read.tab16 : rtab .any (opsOf Try.f21 16) = spec_l05Read.T16 := by kernel_rfl
theorem spec_l05Read.bits16 : waitsOk spec_l05Read.T16.2 spec_l05Read.B16 = true := by kernel_rfl
def spec_l05Read.T28 : Bool × List (List Nat × List Nat) := (true,[([],[]),([],[]),([1],[1]),([2],[2]),([3],[3]),([4],[4]),([5],[5]),([6],[6]),([7,6],[6,7]),([8,6],[6,8]),([9,6],[6,9]),([10,6],[6,10]),([6,11],[6,11]),([12,6],[12]),([13],[13]),([14,13,13],[13,14]),([13,15],[13,15]),([0,15,0],[0]),([16,17,0,1,2,3,4,5,6,7,8,9,10,11,12,13,14,15,16,17],[16])])
def spec_l05Read.B28 : List Nat := [0,0,2,6,14,30,62,126,254,510,1022,2046,4094,8190,16382,32766,65534,65535,262143]
theorem spec_l05Read.tab28 : rtab .any (opsOf Try.f21 28) = spec_l05Read.T28 := by kernel_rfl
theorem spec_l05Read.bits28 : waitsOk spec_l05Read.T28.2 spec_l05Read.B28 = true := by kernel_rfl
set_option maxHeartbeats 8000000 in
set_option maxRecDepth 100000 in
theorem spec_l05Read.calls (k : Nat) (a0 : ByteArray) (r1 : Int) (r2 : Int) (r3 : List (S78)) (r4 : List (S84)) (r5 : Bool) (w : World) (h : spec_l05Read.f k a0 = some (r1,r2,r3,r4,r5)) :
  Calls Try.prog 21 #[.string a0] w fun e w' => ∃ v2_ v3_ : Value,e = .returned (.tuple #[.agg #[.int .i64 r1,.int .i64 r2,v2_,v3_],.bool r5]) ∧ Kd.S k78 78 w' w.heap.size (fun _ => True) v2_ r3 ∧ Kd.R k84 84 w' w.heap.size (fun _ => True) v3_ r4 ∧ Below w.heap.size w w' := by
 have hu26 := Try.underlying26
 have hu73 := Try.underlying73
 have hu78 := Try.underlying78
 have hu80 := Try.underlying80
 have hu84 := Try.underlying84
 have HB := am_ (Below.refl w.heap.size w)
 have H : ((spec_l05Reader_number.f k a0 false 4).bind fun bt142 => ((spec_l05Reader_number.f k bt142.2.1 bt142.2.2 3).bind fun bt152 => ((spec_l05Reader_number.f k bt152.2.1 bt152.2.2 1).bind fun bt155 => (spec_l05Read.l0 k bt155.1 bt155.2.1 bt155.2.2 bt142.1 bt152.1 (([] : List (S78))) (([] : List (S84))))))) = some (r1,r2,r3,r4,r5) := h
 clear h
 replace H := Option.bind_eq_some_iff.mp H
 obtain ⟨⟨t142,t143,t144⟩,A20,H⟩ := H
 try dsimp only at H
 have A2 := am_ A20
 clear A20
 obtain ⟨y145,hy145⟩ : ∃ y_ : List (S78),y_ = (([] : List (S78))) := ⟨_,rfl⟩
 replace H : ((spec_l05Reader_number.f k t143 t144 3).bind fun bt152 => ((spec_l05Reader_number.f k bt152.2.1 bt152.2.2 1).bind fun bt155 => (spec_l05Read.l0 k bt155.1 bt155.2.1 bt155.2.2 t142 bt152.1 y145 (([] : List (S84)))))) = some (r1,r2,r3,r4,r5) := by first | (rw [hy145];with_reducible exact H) | (have H2_ := (Option.bind_some _ _).symm.trans H;rw [hy145];with_reducible exact H2_) | (have H2_ := (Option.bind_some _ _).symm.trans H;with_reducible exact H2_) | with_reducible exact H | (rw [hy145];exact H) | exact H
 have Ny145 := am_ hy145
 clear hy145
 obtain ⟨y148,hy148⟩ : ∃ y_ : List (S84),y_ = (([] : List (S84))) := ⟨_,rfl⟩
 replace H : ((spec_l05Reader_number.f k t143 t144 3).bind fun bt152 => ((spec_l05Reader_number.f k bt152.2.1 bt152.2.2 1).bind fun bt155 => (spec_l05Read.l0 k bt155.1 bt155.2.1 bt155.2.2 t142 bt152.1 y145 y148))) = some (r1,r2,r3,r4,r5) := by first | (rw [hy148];with_reducible exact H) | (have H2_ := (Option.bind_some _ _).symm.trans H;rw [hy148];with_reducible exact H2_) | (have H2_ := (Option.bind_some _ _).symm.trans H;with_reducible exact H2_) | with_reducible exact H | (rw [hy148];exact H) | exact H
 have Ny148 := am_ hy148
 clear hy148
 replace H := Option.bind_eq_some_iff.mp H
 obtain ⟨⟨t152,t153,t154⟩,A30,H⟩ := H
 try dsimp only at H
 have A3 := am_ A30
 clear A30
 replace H := Option.bind_eq_some_iff.mp H
 obtain ⟨⟨t155,t156,t157⟩,A40,H⟩ := H
 try dsimp only at H
 have A4 := am_ A40
 clear A40
 have H' := am_ H
 clear H
 go_enter Try.func21,Try.ntmps21
 go_wp2_with (first | ((with_reducible refine gate_dst (N := 2) rfl ?_);refine zbx (N := 2) (cs := #[.int .i64 0,.int .i64 0,.slice none 0 0,.slice none 0 0]) (t := 26) ?_;intro gb140 hg w5 hbox hb;have BK140 := am_ (hbox);have GW140 := zw_ HB hg;have GE140 := zw_ HB hg;replace HB := zs_ HB hb;clear hb hbox hg) | ((with_reducible refine gate_dst (N := 15) rfl ?_);refine zbx (N := 15) (cs := #[.string a0,.bool false]) (t := 73) ?_;intro g141 hg w6 hbox hb;have HI141 := am_ ((show IsS73 w _ g141 a0 false from ⟨hbox,(by rw [hg];exact (below_size (zl_ HB)) : w.heap.size ≤ g141)⟩));replace HB := zs_ HB hb;have NB141_140 := zg hg BK140;have NB140_141 := zl hg BK140;replace BK140 := zb BK140 hb;clear hb hbox hg) | ((with_reducible refine gate_callee (f := 46) rfl ?_);refine zgl (some 17) Try.func46 #[.pointer (some ⟨g141,0,none⟩),.int .i64 4] ?_;(with_reducible refine (spec_l05Reader_number.calls k g141 a0 false 4 t142 t143 t144 w _ ?side1 ?side2 A2.out).mono ?_);(case side1 => exact zi73 HI141);(case side2 => exact zl_ HB);rintro e w7 ⟨rfl,hi,hb,hk⟩;refine ⟨_,rfl,?_⟩;replace BK140 := zkb hk BK140 NB140_141;replace HB := am_ (hb);replace HI141 := am_ (hi);(try clear hb);(try clear hb2);(try clear hk);(try clear hi)) | ((with_reducible refine gate_dst (N := 18) rfl ?_);refine Kd.S_lit k78 _ 78 ?hg (N := 18) ?hd (xs := ([] : List (S78))) (inner := []) (ok := fun _ => True) (okp := fun _ => True) ?hr ?hp (fun _ hk => hk) trivial (Below.refl _ _) (Nat.le_refl _) (by simp) ?_;(case hd => rfl);(case hg => rfl);(case hr => first | (go_simp;done) | (go_simp;rfl));(case hp => exact (Reps.none _ _));intro v146 w8 ho9 hb hg_ hnew_;clear hg_ hnew_;(first | rw [← Ny145.out] at ho9 | (simp only [Int.reduceToNat] at ho9;rw [← Ny145.out] at ho9));have HO147 := am_ (Kd.S_lower ho9 (below_size (zl_ HB)));replace BK140 := zb BK140 hb;replace HI141 := am_ (IsS73.below (zi73 HI141) hb);replace HB := zs_ HB hb;clear hb ho9) | ((with_reducible refine gate_dst (N := 19) rfl ?_);refine Kd.R_lit k84 _ 84 ?hg (N := 19) ?hd (xs := ([] : List (S84))) (inner := []) (ok := fun _ => True) (okp := fun _ => True) ?hr ?hp (fun _ hk => hk) trivial (Below.refl _ _) (Nat.le_refl _) (by simp) ?_;(case hd => rfl);(case hg => rfl);(case hr => first | (go_simp;done) | (go_simp;rfl));(case hp => exact (Reps.none _ _));intro v149 w10 ho11 hb hg_ hnew_;clear hg_ hnew_;(first | rw [← Ny148.out] at ho11 | (simp only [Int.reduceToNat] at ho11;rw [← Ny148.out] at ho11));replace HO147 := am_ (Kd.S_below (by (with_reducible repeat (first | apply Kd.S_alloc | apply Kd.S_drewN | apply Kd.S_drew));exact HO147.out) hb);have HO150 := am_ (Kd.R_lower ho11 (below_size (zl_ HB)));replace BK140 := zb BK140 hb;replace HI141 := am_ (IsS73.below (zi73 HI141) hb);replace HB := zs_ HB hb;clear hb ho11;obtain ⟨Ao12,co12,eo12⟩ := Kd.R_slice HO150.out;subst eo12;obtain ⟨Ao13,co13,eo13⟩ := Kd.S_slice HO147.out;subst eo13) | ((with_reducible refine gate_dst (N := 5) rfl ?_);refine zbx (N := 5) (cs := #[.int .i64 0,.int .i64 0,.slice none 0 0,.slice none 0 0]) (t := 26) ?_;intro gb151 hg w14 hbox hb;replace HO147 := am_ (Kd.S_below (by (with_reducible repeat (first | apply Kd.S_alloc | apply Kd.S_drewN | apply Kd.S_drew));exact HO147.out) hb);replace HO150 := zrb HO150 hb;have BK151 := am_ (hbox);have GW151 := zw_ HB hg;have GE151 := zw_ HB hg;replace HB := zs_ HB hb;have NB140_151 := zl hg BK140;have NB151_140 := zg hg BK140;replace BK140 := zb BK140 hb;have NB141_151 := am_ ((by rw [hg];exact Nat.ne_of_lt (IsS73.lt (show IsS73 w _ g141 t143 t144 from (zi73 HI141))) : g141 ≠ gb151));have NB151_141 := am_ ((by rw [hg];exact Nat.ne_of_gt (IsS73.lt (show IsS73 w _ g141 t143 t144 from (zi73 HI141))) : gb151 ≠ g141));replace HI141 := am_ (IsS73.below (zi73 HI141) hb);clear hb hbox hg;have hnb15 := NB151_140.out;have hnc15 := NB140_151.out;have hnb16 := NB151_141.out;have hnc16 := NB141_151.out;obtain ⟨hcz17_0,hcz17_1,hcz17_2,hcz17_3,hfz17_0,hfz17_1,hfz17_2,hfz17_3⟩ := zc4 BK151) | ((with_reducible refine gate_callee (f := 46) rfl ?_);refine zgl (some 22) Try.func46 #[.pointer (some ⟨g141,0,none⟩),.int .i64 3] ?_;(with_reducible refine (spec_l05Reader_number.calls k g141 t143 t144 3 t152 t153 t154 w _ ?side1 ?side2 A3.out).mono ?_);(case side1 => exact zi73 HI141);(case side2 => exact zl_ HB);rintro e w18 ⟨rfl,hi,hb,hk⟩;refine ⟨_,rfl,?_⟩;replace BK140 := am_ (KeepBut.blk hk (g' := gb140) (o := .cells #[.int .i64 0,.int .i64 0,.slice none 0 0,.slice none 0 0] 26 (0,0)) (zq BK140) NB140_141.out (by simp));replace HO147 := am_ (Kd.S_mono (Kd.S_keep (IsS73.apartS (show IsS73 w _ g141 t143 t144 from (zi73 HI141)) (by (with_reducible repeat (first | apply Kd.S_alloc | apply Kd.S_drewN | apply Kd.S_drew));exact (Kd.S_mono (Kd.S_far (p := ⟨gb151,3,none⟩) (Kd.S_far (p := ⟨gb151,2,none⟩) (Kd.S_far (p := ⟨gb151,1,none⟩) (Kd.S_far (p := ⟨gb151,0,none⟩) (Kd.S_types HO147.out BK151.out (by decide)) (fun _ hk => hk.2) (.int .i64 t142)) (fun _ hk => hk.2) (.int .i64 0)) (fun _ hk => hk.2) (.slice Ao13 y145.length co13)) (fun _ hk => hk.2) (.slice Ao12 y148.length co12)) (fun _ h_ => h_.1))) (by decide)) hk (fun _ h => h.2)) (fun _ h => h.1));replace HO150 := am_ (Kd.R_mono (Kd.R_keep (IsS73.apart (show IsS73 w _ g141 t143 t144 from (zi73 HI141)) (by (with_reducible repeat (first | apply r1_ | apply r2_ | apply r3_));exact (Kd.R_mono (zrf (Kd.R_types HO150.out BK151.out (by decide))) (fun _ h_ => h_.1))) (by decide)) hk (fun _ h => h.2)) (fun _ h => h.1));replace BK151 := am_ (KeepBut.blk hk (g' := gb151) (o := .cells #[.int .i64 t142,.int .i64 0,.slice Ao13 y145.length co13,.slice Ao12 y148.length co12] 26 (0,0)) (zq BK151) NB151_141.out (by simp));replace HB := am_ (hb);replace HI141 := am_ (hi);(try clear hb);(try clear hb2);(try clear hk);(try clear hi);obtain ⟨hcz19_0,hcz19_1,hcz19_2,hcz19_3,hfz19_0,hfz19_1,hfz19_2,hfz19_3⟩ := zc4 BK151) | ((with_reducible refine gate_callee (f := 46) rfl ?_);refine zgl (some 25) Try.func46 #[.pointer (some ⟨g141,0,none⟩),.int .i64 1] ?_;(with_reducible refine (spec_l05Reader_number.calls k g141 t153 t154 1 t155 t156 t157 w _ ?side1 ?side2 A4.out).mono ?_);(case side1 => exact zi73 HI141);(case side2 => exact zl_ HB);rintro e w20 ⟨rfl,hi,hb,hk⟩;refine ⟨_,rfl,?_⟩;replace BK140 := am_ (KeepBut.blk hk (g' := gb140) (o := .cells #[.int .i64 0,.int .i64 0,.slice none 0 0,.slice none 0 0] 26 (0,0)) (zq BK140) NB140_141.out (by simp));replace HO147 := am_ (Kd.S_mono (Kd.S_keep (IsS73.apartS (show IsS73 w _ g141 t153 t154 from (zi73 HI141)) (by (with_reducible repeat (first | apply Kd.S_alloc | apply Kd.S_drewN | apply Kd.S_drew));exact (Kd.S_mono (Kd.S_far (p := ⟨gb151,1,none⟩) (Kd.S_types HO147.out BK151.out (by decide)) (fun _ hk => hk.2) (.int .i64 t152)) (fun _ h_ => h_.1))) (by decide)) hk (fun _ h => h.2)) (fun _ h => h.1));replace HO150 := am_ (Kd.R_mono (Kd.R_keep (IsS73.apart (show IsS73 w _ g141 t153 t154 from (zi73 HI141)) (by (with_reducible repeat (first | apply r1_ | apply r2_ | apply r3_));exact (Kd.R_mono (zrf (Kd.R_types HO150.out BK151.out (by decide))) (fun _ h_ => h_.1))) (by decide)) hk (fun _ h => h.2)) (fun _ h => h.1));replace BK151 := am_ (KeepBut.blk hk (g' := gb151) (o := .cells #[.int .i64 t142,.int .i64 t152,.slice Ao13 y145.length co13,.slice Ao12 y148.length co12] 26 (0,0)) (zq BK151) NB151_141.out (by simp));replace HB := am_ (hb);replace HI141 := am_ (hi);(try clear hb);(try clear hb2);(try clear hk);(try clear hi)))
 go_loopg [6] k (fun kq v6 w' => ∃ (x6_1 : Int) (x142000_1 : ByteArray) (x142001_1 : Bool) (x152002_1 : List (S78)) (u152002 : Value),v6 = .int .i64 x6_1 ∧ Aside0 (spec_l05Read.l0 kq x6_1 x142000_1 x142001_1 t142 t152 x152002_1 y148 = some (r1,r2,r3,r4,r5)) ∧ Aside0 (kq ≤ k) ∧ Aside0 (Kd.S k78 78 w' w.heap.size (fun _ => True) u152002 x152002_1) ∧ Aside0 (Kd.R k84 84 w' w.heap.size (fun _ => True) (.slice Ao12 y148.length co12) y148) ∧ Aside0 (w'.heap[gb140]? = some (.cells #[.int .i64 0,.int .i64 0,(.slice none 0 0),(.slice none 0 0)] 26 (0,0))) ∧ Aside0 (w'.heap[gb151]? = some (.cells #[.int .i64 t142,.int .i64 t152,u152002,(.slice Ao12 y148.length co12)] 26 (0,0))) ∧ Aside0 (IsS73 w w' g141 x142000_1 x142001_1) ∧ Aside0 (Below w.heap.size w w'))
 case atStart => exact ⟨(t155),(t156),(t157),(y145),(.slice Ao13 y145.length co13),(by first | rfl | (simp;done) | (simp [*];done)),H',⟨Nat.le_refl _⟩,⟨by (with_reducible repeat (first | apply Kd.S_alloc | apply Kd.S_drewN | apply Kd.S_drew));exact HO147.out⟩,⟨zr HO150⟩,⟨by (with_reducible repeat (first | apply k1_ | apply k2_ | apply k3_));exact BK140.out⟩,⟨by (with_reducible repeat (first | apply k1_ | apply k2_ | apply k3_));exact BK151.out⟩,⟨(zi73 HI141)⟩,⟨zl_ HB⟩⟩
 case round =>
  clear H'
  try clear c1
  try clear c2
  try clear p2
  try clear c4
  try clear c15
  try clear c16
  try clear hcz17_0
  try clear hcz17_1
  try clear hcz17_2
  try clear hcz17_3
  try clear hcz19_0
  try clear hcz19_1
  try clear hcz19_2
  try clear hcz19_3
  try clear hfz17_0
  try clear hfz17_1
  try clear hfz17_2
  try clear hfz17_3
  try clear hfz19_0
  try clear hfz19_1
  try clear hfz19_2
  try clear hfz19_3
  obtain ⟨x6_1,x142000_1,x142001_1,x152002_1,u152002,rfl,HA,HK1,HO_152002,HO_152003,BK140,BK151,HI141,HB⟩ := hrel
  cases gk with
  | zero => exact absurd HA.out (by simp [spec_l05Read.l0])
  | succ k1 =>
   have H := HA.out
   clear HA
   simp only [spec_l05Read.l0] at H
   have HC21 := am_ H
   clear H
   go_upto_region 5 with (fail)
   go_cut [34] (fun v34 wc => ∃ (kq : Nat) (x34_20 : Bool),v34 = .bool x34_20 ∧ Aside0 (spec_l05Read.j1 kq x6_1 x34_20 x142000_1 x142001_1 t142 t152 x152002_1 y148 = some (r1,r2,r3,r4,r5)) ∧ Aside0 (kq ≤ k1) ∧ Aside0 (Kd.S k78 78 wc w.heap.size (fun _ => True) u152002 x152002_1) ∧ Aside0 (Kd.R k84 84 wc w.heap.size (fun _ => True) (.slice Ao12 y148.length co12) y148) ∧ Aside0 (wc.heap[gb140]? = some (.cells #[.int .i64 0,.int .i64 0,(.slice none 0 0),(.slice none 0 0)] 26 (0,0))) ∧ Aside0 (wc.heap[gb151]? = some (.cells #[.int .i64 t142,.int .i64 t152,u152002,(.slice Ao12 y148.length co12)] 26 (0,0))) ∧ Aside0 (IsS73 w wc g141 x142000_1 x142001_1) ∧ Aside0 (Below w.heap.size w wc))
   case first =>
    have H := HC21.out
    clear HC21
    by_cases c22 : x6_1 > 0
    ·rw [if_pos c22] at H
     have c22b0 : decide (0 < x6_1) = true := decide_eq_true c22
     clear c22
     (first | rw [c22b0] | (simp only [i64_w,i32_w];rw [c22b0]) | skip)
     have H' := am_ H
     clear H
     obtain ⟨HGz23,hgz23⟩ := HI141.out
     have hcz23_0 := cellS73_0 HGz23
     have hcz23_1 := cellS73_1 HGz23
     have hfz23_0 := blk_frozen HGz23 0
     have hfz23_1 := blk_frozen HGz23 1
     clear HGz23 hgz23
     go_wp2
     go_meet
     case rel => exact ⟨_,(!x142001_1),(by first | rfl | (simp;done) | (simp [*];done)),H',⟨by have := HK1.out;first | omega | exact Nat.le_refl _⟩,⟨by (with_reducible repeat (first | apply Kd.S_alloc | apply Kd.S_drewN | apply Kd.S_drew));exact HO_152002.out⟩,⟨zr HO_152003⟩,⟨by (with_reducible repeat (first | apply k1_ | apply k2_ | apply k3_));exact BK140.out⟩,⟨by (with_reducible repeat (first | apply k1_ | apply k2_ | apply k3_));exact BK151.out⟩,⟨(zi73 HI141)⟩,⟨zl_ HB⟩⟩
    ·rw [if_neg c22] at H
     have c22b0 : decide (0 < x6_1) = false := decide_eq_false c22
     clear c22
     (first | rw [c22b0] | (simp only [i64_w,i32_w];rw [c22b0]) | skip)
     have H' := am_ H
     clear H
     go_wp2
     go_meet
     case rel => exact ⟨_,(false),(by first | rfl | (simp;done) | (simp [*];done)),H',⟨by have := HK1.out;first | omega | exact Nat.le_refl _⟩,⟨by (with_reducible repeat (first | apply Kd.S_alloc | apply Kd.S_drewN | apply Kd.S_drew));exact HO_152002.out⟩,⟨zr HO_152003⟩,⟨by (with_reducible repeat (first | apply k1_ | apply k2_ | apply k3_));exact BK140.out⟩,⟨by (with_reducible repeat (first | apply k1_ | apply k2_ | apply k3_));exact BK151.out⟩,⟨(zi73 HI141)⟩,⟨zl_ HB⟩⟩
   case rest =>
    clear HC21
    try clear c1
    try clear c2
    try clear p2
    try clear c4
    try clear c15
    try clear c16
    try clear c21
    try clear c22
    try clear c22b0
    try clear hcz17_0
    try clear hcz17_1
    try clear hcz17_2
    try clear hcz17_3
    try clear hcz19_0
    try clear hcz19_1
    try clear hcz19_2
    try clear hcz19_3
    try clear hcz23_0
    try clear hcz23_1
    try clear hfz17_0
    try clear hfz17_1
    try clear hfz17_2
    try clear hfz17_3
    try clear hfz19_0
    try clear hfz19_1
    try clear hfz19_2
    try clear hfz19_3
    try clear hfz23_0
    try clear hfz23_1
    try clear p2
    obtain ⟨kq,x34_20,rfl,HA,HJ20,HO_152002,HO_152003,BK140,BK151,HI141,HB⟩ := hcut
    cases kq with
    | zero => exact absurd HA.out (by simp [spec_l05Read.j1])
    | succ kj20 =>
     have H := HA.out
     clear HA
     simp only [spec_l05Read.j1] at H
     by_cases c24 : x34_20 = true
     ·subst c24
      have H1 : ((spec_l05Reader_number.f kj20 x142000_1 x142001_1 1).bind fun bt158 => ((spec_l05Reader_text.f bt158.2.1 bt158.2.2 bt158.1).bind fun bt161 => ((spec_l05Reader_number.f kj20 bt161.2.1 bt161.2.2 3).bind fun bt168 => ((spec_l05Reader_number.f kj20 bt168.2.1 bt168.2.2 2).bind fun bt171 => ((spec_l05Reader_number.f kj20 bt171.2.1 bt171.2.2 4).bind fun bt174 => ((spec_l05Reader_number.f kj20 bt174.2.1 bt174.2.2 1).bind fun bt177 => (spec_l05Read.l1 kj20 x6_1 bt177.1 bt177.2.1 bt177.2.2 t142 t152 x152002_1 y148 bt161.1 bt168.1 (wrap64 (bt171.1 - 1)) bt174.1 (([] : List (S80)))))))))) = some (r1,r2,r3,r4,r5) := by rw [if_pos rfl] at H;exact H
      clear H
      have H := H1
      clear H1
      replace H := Option.bind_eq_some_iff.mp H
      obtain ⟨⟨t158,t159,t160⟩,A250,H⟩ := H
      try dsimp only at H
      have A25 := am_ A250
      clear A250
      replace H := Option.bind_eq_some_iff.mp H
      obtain ⟨⟨t161,t162,t163⟩,A260,H⟩ := H
      try dsimp only at H
      have A26 := am_ A260
      clear A260
      obtain ⟨y164,hy164⟩ : ∃ y_ : List (S80),y_ = (([] : List (S80))) := ⟨_,rfl⟩
      replace H : ((spec_l05Reader_number.f kj20 t162 t163 3).bind fun bt168 => ((spec_l05Reader_number.f kj20 bt168.2.1 bt168.2.2 2).bind fun bt171 => ((spec_l05Reader_number.f kj20 bt171.2.1 bt171.2.2 4).bind fun bt174 => ((spec_l05Reader_number.f kj20 bt174.2.1 bt174.2.2 1).bind fun bt177 => (spec_l05Read.l1 kj20 x6_1 bt177.1 bt177.2.1 bt177.2.2 t142 t152 x152002_1 y148 t161 bt168.1 (wrap64 (bt171.1 - 1)) bt174.1 y164))))) = some (r1,r2,r3,r4,r5) := by first | (rw [hy164];with_reducible exact H) | (have H2_ := (Option.bind_some _ _).symm.trans H;rw [hy164];with_reducible exact H2_) | (have H2_ := (Option.bind_some _ _).symm.trans H;with_reducible exact H2_) | with_reducible exact H | (rw [hy164];exact H) | exact H
      have Ny164 := am_ hy164
      clear hy164
      replace H := Option.bind_eq_some_iff.mp H
      obtain ⟨⟨t168,t169,t170⟩,A270,H⟩ := H
      try dsimp only at H
      have A27 := am_ A270
      clear A270
      replace H := Option.bind_eq_some_iff.mp H
      obtain ⟨⟨t171,t172,t173⟩,A280,H⟩ := H
      try dsimp only at H
      have A28 := am_ A280
      clear A280
      replace H := Option.bind_eq_some_iff.mp H
      obtain ⟨⟨t174,t175,t176⟩,A290,H⟩ := H
      try dsimp only at H
      have A29 := am_ A290
      clear A290
      replace H := Option.bind_eq_some_iff.mp H
      obtain ⟨⟨t177,t178,t179⟩,A300,H⟩ := H
      try dsimp only at H
      have A30 := am_ A300
      clear A300
      have H' := am_ H
      clear H
      go_wp2_with (first | ((with_reducible refine gate_callee (f := 46) rfl ?_);refine zgl (some 38) Try.func46 #[.pointer (some ⟨g141,0,none⟩),.int .i64 1] ?_;(with_reducible refine (spec_l05Reader_number.calls kj20 g141 x142000_1 x142001_1 1 t158 t159 t160 w _ ?side1 ?side2 A25.out).mono ?_);(case side1 => exact zi73 HI141);(case side2 => exact zl_ HB);rintro e w31 ⟨rfl,hi,hb,hk⟩;refine ⟨_,rfl,?_⟩;replace HO_152002 := am_ (Kd.S_mono (Kd.S_keep (IsS73.apartS (show IsS73 w _ g141 x142000_1 x142001_1 from (zi73 HI141)) (by (with_reducible repeat (first | apply Kd.S_alloc | apply Kd.S_drewN | apply Kd.S_drew));exact HO_152002.out) (by decide)) hk (fun _ h => h.2)) (fun _ h => h.1));replace HO_152003 := am_ (Kd.R_mono (Kd.R_keep (IsS73.apart (show IsS73 w _ g141 x142000_1 x142001_1 from (zi73 HI141)) (zr HO_152003) (by decide)) hk (fun _ h => h.2)) (fun _ h => h.1));replace BK140 := zkb hk BK140 NB140_141;replace BK151 := zkb hk BK151 NB151_141;replace HB := am_ (hb);replace HI141 := am_ (hi);(try clear hb);(try clear hb2);(try clear hk);(try clear hi)) | ((with_reducible refine gate_callee (f := 47) rfl ?_);refine zgl (some 41) Try.func47 #[.pointer (some ⟨g141,0,none⟩),.int .i64 t158] ?_;(with_reducible refine (spec_l05Reader_text.calls g141 t159 t160 t158 t161 t162 t163 w _ ?side1 ?side2 A26.out).mono ?_);(case side1 => exact zi73 HI141);(case side2 => exact zl_ HB);rintro e w32 ⟨rfl,hi,hb,hk⟩;refine ⟨_,rfl,?_⟩;replace HO_152002 := am_ (Kd.S_mono (Kd.S_keep (IsS73.apartS (show IsS73 w _ g141 t159 t160 from (zi73 HI141)) (by (with_reducible repeat (first | apply Kd.S_alloc | apply Kd.S_drewN | apply Kd.S_drew));exact HO_152002.out) (by decide)) hk (fun _ h => h.2)) (fun _ h => h.1));replace HO_152003 := am_ (Kd.R_mono (Kd.R_keep (IsS73.apart (show IsS73 w _ g141 t159 t160 from (zi73 HI141)) (zr HO_152003) (by decide)) hk (fun _ h => h.2)) (fun _ h => h.1));replace BK140 := zkb hk BK140 NB140_141;replace BK151 := zkb hk BK151 NB151_141;replace HB := am_ (hb);replace HI141 := am_ (hi);(try clear hb);(try clear hb2);(try clear hk);(try clear hi)) | ((with_reducible refine gate_dst (N := 42) rfl ?_);refine Kd.R_lit k80 _ 80 ?hg (N := 42) ?hd (xs := ([] : List (S80))) (inner := []) (ok := fun _ => True) (okp := fun _ => True) ?hr ?hp (fun _ hk => hk) trivial (Below.refl _ _) (Nat.le_refl _) (by simp) ?_;(case hd => rfl);(case hg => rfl);(case hr => first | (go_simp;done) | (go_simp;rfl));(case hp => exact (Reps.none _ _));intro v165 w33 ho34 hb hg_ hnew_;clear hg_ hnew_;(first | rw [← Ny164.out] at ho34 | (simp only [Int.reduceToNat] at ho34;rw [← Ny164.out] at ho34));replace HO_152002 := am_ (Kd.S_elder' (by (with_reducible repeat (first | apply Kd.S_alloc | apply Kd.S_drewN | apply Kd.S_drew));exact HO_152002.out) (Kd.R_base ho34) hb);replace HO_152003 := zrb HO_152003 hb;have HO166 := am_ (Kd.R_lower ho34 (below_size (zl_ HB)));replace BK140 := zb BK140 hb;replace BK151 := zb BK151 hb;replace HI141 := am_ (IsS73.below (zi73 HI141) hb);replace HB := zs_ HB hb;clear hb ho34;obtain ⟨Ao35,co35,eo35⟩ := Kd.R_slice HO166.out;subst eo35) | ((with_reducible refine gate_dst (N := 8) rfl ?_);refine zbx (N := 8) (cs := #[.string ⟨#[]⟩,.int .i64 0,.int .i64 0,.int .i64 0,.slice none 0 0]) (t := 78) ?_;intro gb167 hg w36 hbox hb;replace HO_152002 := am_ (Kd.S_below (Kd.S_elderB (by (with_reducible repeat (first | apply Kd.S_alloc | apply Kd.S_drewN | apply Kd.S_drew));exact HO_152002.out) gb167 (Nat.le_of_eq hg.symm)) hb);replace HO_152003 := zrb HO_152003 hb;replace HO166 := zrb HO166 hb;have BK167 := am_ (hbox);have GW167 := zw_ HB hg;have GE167 := zw_ HB hg;replace HB := zs_ HB hb;have NB140_167 := zl hg BK140;have NB167_140 := zg hg BK140;replace BK140 := zb BK140 hb;have NB151_167 := zl hg BK151;have NB167_151 := zg hg BK151;replace BK151 := zb BK151 hb;have NB141_167 := am_ ((by rw [hg];exact Nat.ne_of_lt (IsS73.lt (show IsS73 w _ g141 t162 t163 from (zi73 HI141))) : g141 ≠ gb167));have NB167_141 := am_ ((by rw [hg];exact Nat.ne_of_gt (IsS73.lt (show IsS73 w _ g141 t162 t163 from (zi73 HI141))) : gb167 ≠ g141));replace HI141 := am_ (IsS73.below (zi73 HI141) hb);clear hb hbox hg;have hnb37 := NB167_140.out;have hnc37 := NB140_167.out;have hnb38 := NB167_151.out;have hnc38 := NB151_167.out;have hnb39 := NB167_141.out;have hnc39 := NB141_167.out;obtain ⟨hcz40_0,hcz40_1,hcz40_2,hcz40_3,hcz40_4,hfz40_0,hfz40_1,hfz40_2,hfz40_3,hfz40_4⟩ := zc5 BK167) | ((with_reducible refine gate_callee (f := 46) rfl ?_);refine zgl (some 45) Try.func46 #[.pointer (some ⟨g141,0,none⟩),.int .i64 3] ?_;(with_reducible refine (spec_l05Reader_number.calls kj20 g141 t162 t163 3 t168 t169 t170 w _ ?side1 ?side2 A27.out).mono ?_);(case side1 => exact zi73 HI141);(case side2 => exact zl_ HB);rintro e w41 ⟨rfl,hi,hb,hk⟩;refine ⟨_,rfl,?_⟩;replace HO_152002 := am_ (Kd.S_mono (Kd.S_keep (IsS73.apartS (show IsS73 w _ g141 t162 t163 from (zi73 HI141)) (by (with_reducible repeat (first | apply Kd.S_alloc | apply Kd.S_drewN | apply Kd.S_drew));exact (Kd.S_mono (Kd.S_far (p := ⟨gb167,4,none⟩) (Kd.S_far (p := ⟨gb167,3,none⟩) (Kd.S_far (p := ⟨gb167,2,none⟩) (Kd.S_far (p := ⟨gb167,1,none⟩) (Kd.S_far (p := ⟨gb167,0,none⟩) (Kd.S_mono HO_152002.out (fun k_ hk => (⟨hk,hk.2⟩ : _ ∧ k_ ≠ gb167))) (fun _ hk => hk.2) (.string t161)) (fun _ hk => hk.2) (.int .i64 0)) (fun _ hk => hk.2) (.int .i64 0)) (fun _ hk => hk.2) (.int .i64 0)) (fun _ hk => hk.2) (.slice Ao35 y164.length co35)) (fun _ h_ => h_.1))) (by decide)) hk (fun _ h => h.2)) (fun _ h => h.1));replace HO_152003 := am_ (Kd.R_mono (Kd.R_keep (IsS73.apart (show IsS73 w _ g141 t162 t163 from (zi73 HI141)) (by (with_reducible repeat (first | apply r1_ | apply r2_ | apply r3_));exact (Kd.R_mono (zrf (Kd.R_types HO_152003.out BK167.out (by decide))) (fun _ h_ => h_.1))) (by decide)) hk (fun _ h => h.2)) (fun _ h => h.1));replace BK140 := am_ (KeepBut.blk hk (g' := gb140) (o := .cells #[.int .i64 0,.int .i64 0,.slice none 0 0,.slice none 0 0] 26 (0,0)) (zq BK140) NB140_141.out (by simp));replace BK151 := am_ (KeepBut.blk hk (g' := gb151) (o := .cells #[.int .i64 t142,.int .i64 t152,u152002,.slice Ao12 y148.length co12] 26 (0,0)) (zq BK151) NB151_141.out (by simp));replace HO166 := am_ (Kd.R_mono (Kd.R_keep (IsS73.apart (show IsS73 w _ g141 t162 t163 from (zi73 HI141)) (by (with_reducible repeat (first | apply r1_ | apply r2_ | apply r3_));exact (Kd.R_mono (zrf (Kd.R_types HO166.out BK167.out (by decide))) (fun _ h_ => h_.1))) (by decide)) hk (fun _ h => h.2)) (fun _ h => h.1));replace BK167 := am_ (KeepBut.blk hk (g' := gb167) (o := .cells #[.string t161,.int .i64 0,.int .i64 0,.int .i64 0,.slice Ao35 y164.length co35] 78 (0,0)) (zq BK167) NB167_141.out (by simp));replace HB := am_ (hb);replace HI141 := am_ (hi);(try clear hb);(try clear hb2);(try clear hk);(try clear hi);obtain ⟨hcz42_0,hcz42_1,hcz42_2,hcz42_3,hcz42_4,hfz42_0,hfz42_1,hfz42_2,hfz42_3,hfz42_4⟩ := zc5 BK167) | ((with_reducible refine gate_callee (f := 46) rfl ?_);refine zgl (some 48) Try.func46 #[.pointer (some ⟨g141,0,none⟩),.int .i64 2] ?_;(with_reducible refine (spec_l05Reader_number.calls kj20 g141 t169 t170 2 t171 t172 t173 w _ ?side1 ?side2 A28.out).mono ?_);(case side1 => exact zi73 HI141);(case side2 => exact zl_ HB);rintro e w43 ⟨rfl,hi,hb,hk⟩;refine ⟨_,rfl,?_⟩;replace HO_152002 := am_ (Kd.S_mono (Kd.S_keep (IsS73.apartS (show IsS73 w _ g141 t169 t170 from (zi73 HI141)) (by (with_reducible repeat (first | apply Kd.S_alloc | apply Kd.S_drewN | apply Kd.S_drew));exact (Kd.S_mono (Kd.S_far (p := ⟨gb167,1,none⟩) (Kd.S_mono HO_152002.out (fun k_ hk => (⟨hk,hk.2⟩ : _ ∧ k_ ≠ gb167))) (fun _ hk => hk.2) (.int .i64 t168)) (fun _ h_ => h_.1))) (by decide)) hk (fun _ h => h.2)) (fun _ h => h.1));replace HO_152003 := am_ (Kd.R_mono (Kd.R_keep (IsS73.apart (show IsS73 w _ g141 t169 t170 from (zi73 HI141)) (by (with_reducible repeat (first | apply r1_ | apply r2_ | apply r3_));exact (Kd.R_mono (zrf (Kd.R_types HO_152003.out BK167.out (by decide))) (fun _ h_ => h_.1))) (by decide)) hk (fun _ h => h.2)) (fun _ h => h.1));replace BK140 := am_ (KeepBut.blk hk (g' := gb140) (o := .cells #[.int .i64 0,.int .i64 0,.slice none 0 0,.slice none 0 0] 26 (0,0)) (zq BK140) NB140_141.out (by simp));replace BK151 := am_ (KeepBut.blk hk (g' := gb151) (o := .cells #[.int .i64 t142,.int .i64 t152,u152002,.slice Ao12 y148.length co12] 26 (0,0)) (zq BK151) NB151_141.out (by simp));replace HO166 := am_ (Kd.R_mono (Kd.R_keep (IsS73.apart (show IsS73 w _ g141 t169 t170 from (zi73 HI141)) (by (with_reducible repeat (first | apply r1_ | apply r2_ | apply r3_));exact (Kd.R_mono (zrf (Kd.R_types HO166.out BK167.out (by decide))) (fun _ h_ => h_.1))) (by decide)) hk (fun _ h => h.2)) (fun _ h => h.1));replace BK167 := am_ (KeepBut.blk hk (g' := gb167) (o := .cells #[.string t161,.int .i64 t168,.int .i64 0,.int .i64 0,.slice Ao35 y164.length co35] 78 (0,0)) (zq BK167) NB167_141.out (by simp));replace HB := am_ (hb);replace HI141 := am_ (hi);(try clear hb);(try clear hb2);(try clear hk);(try clear hi);obtain ⟨hcz44_0,hcz44_1,hcz44_2,hcz44_3,hcz44_4,hfz44_0,hfz44_1,hfz44_2,hfz44_3,hfz44_4⟩ := zc5 BK167) | ((with_reducible refine gate_callee (f := 46) rfl ?_);refine zgl (some 52) Try.func46 #[.pointer (some ⟨g141,0,none⟩),.int .i64 4] ?_;(with_reducible refine (spec_l05Reader_number.calls kj20 g141 t172 t173 4 t174 t175 t176 w _ ?side1 ?side2 A29.out).mono ?_);(case side1 => exact zi73 HI141);(case side2 => exact zl_ HB);rintro e w45 ⟨rfl,hi,hb,hk⟩;refine ⟨_,rfl,?_⟩;replace HO_152002 := am_ (Kd.S_mono (Kd.S_keep (IsS73.apartS (show IsS73 w _ g141 t172 t173 from (zi73 HI141)) (by (with_reducible repeat (first | apply Kd.S_alloc | apply Kd.S_drewN | apply Kd.S_drew));exact (Kd.S_mono (Kd.S_far (p := ⟨gb167,2,none⟩) (Kd.S_mono HO_152002.out (fun k_ hk => (⟨hk,hk.2⟩ : _ ∧ k_ ≠ gb167))) (fun _ hk => hk.2) (.int .i64 (wrap64 (t171 - 1)))) (fun _ h_ => h_.1))) (by decide)) hk (fun _ h => h.2)) (fun _ h => h.1));replace HO_152003 := am_ (Kd.R_mono (Kd.R_keep (IsS73.apart (show IsS73 w _ g141 t172 t173 from (zi73 HI141)) (by (with_reducible repeat (first | apply r1_ | apply r2_ | apply r3_));exact (Kd.R_mono (zrf (Kd.R_types HO_152003.out BK167.out (by decide))) (fun _ h_ => h_.1))) (by decide)) hk (fun _ h => h.2)) (fun _ h => h.1));replace BK140 := am_ (KeepBut.blk hk (g' := gb140) (o := .cells #[.int .i64 0,.int .i64 0,.slice none 0 0,.slice none 0 0] 26 (0,0)) (zq BK140) NB140_141.out (by simp));replace BK151 := am_ (KeepBut.blk hk (g' := gb151) (o := .cells #[.int .i64 t142,.int .i64 t152,u152002,.slice Ao12 y148.length co12] 26 (0,0)) (zq BK151) NB151_141.out (by simp));replace HO166 := am_ (Kd.R_mono (Kd.R_keep (IsS73.apart (show IsS73 w _ g141 t172 t173 from (zi73 HI141)) (by (with_reducible repeat (first | apply r1_ | apply r2_ | apply r3_));exact (Kd.R_mono (zrf (Kd.R_types HO166.out BK167.out (by decide))) (fun _ h_ => h_.1))) (by decide)) hk (fun _ h => h.2)) (fun _ h => h.1));replace BK167 := am_ (KeepBut.blk hk (g' := gb167) (o := .cells #[.string t161,.int .i64 t168,.int .i64 (wrap64 (t171 - 1)),.int .i64 0,.slice Ao35 y164.length co35] 78 (0,0)) (zq BK167) NB167_141.out (by simp));replace HB := am_ (hb);replace HI141 := am_ (hi);(try clear hb);(try clear hb2);(try clear hk);(try clear hi);obtain ⟨hcz46_0,hcz46_1,hcz46_2,hcz46_3,hcz46_4,hfz46_0,hfz46_1,hfz46_2,hfz46_3,hfz46_4⟩ := zc5 BK167) | ((with_reducible refine gate_callee (f := 46) rfl ?_);refine zgl (some 55) Try.func46 #[.pointer (some ⟨g141,0,none⟩),.int .i64 1] ?_;(with_reducible refine (spec_l05Reader_number.calls kj20 g141 t175 t176 1 t177 t178 t179 w _ ?side1 ?side2 A30.out).mono ?_);(case side1 => exact zi73 HI141);(case side2 => exact zl_ HB);rintro e w47 ⟨rfl,hi,hb,hk⟩;refine ⟨_,rfl,?_⟩;replace HO_152002 := am_ (Kd.S_mono (Kd.S_keep (IsS73.apartS (show IsS73 w _ g141 t175 t176 from (zi73 HI141)) (by (with_reducible repeat (first | apply Kd.S_alloc | apply Kd.S_drewN | apply Kd.S_drew));exact (Kd.S_mono (Kd.S_far (p := ⟨gb167,3,none⟩) (Kd.S_mono HO_152002.out (fun k_ hk => (⟨hk,hk.2⟩ : _ ∧ k_ ≠ gb167))) (fun _ hk => hk.2) (.int .i64 t174)) (fun _ h_ => h_.1))) (by decide)) hk (fun _ h => h.2)) (fun _ h => h.1));replace HO_152003 := am_ (Kd.R_mono (Kd.R_keep (IsS73.apart (show IsS73 w _ g141 t175 t176 from (zi73 HI141)) (by (with_reducible repeat (first | apply r1_ | apply r2_ | apply r3_));exact (Kd.R_mono (zrf (Kd.R_types HO_152003.out BK167.out (by decide))) (fun _ h_ => h_.1))) (by decide)) hk (fun _ h => h.2)) (fun _ h => h.1));replace BK140 := am_ (KeepBut.blk hk (g' := gb140) (o := .cells #[.int .i64 0,.int .i64 0,.slice none 0 0,.slice none 0 0] 26 (0,0)) (zq BK140) NB140_141.out (by simp));replace BK151 := am_ (KeepBut.blk hk (g' := gb151) (o := .cells #[.int .i64 t142,.int .i64 t152,u152002,.slice Ao12 y148.length co12] 26 (0,0)) (zq BK151) NB151_141.out (by simp));replace HO166 := am_ (Kd.R_mono (Kd.R_keep (IsS73.apart (show IsS73 w _ g141 t175 t176 from (zi73 HI141)) (by (with_reducible repeat (first | apply r1_ | apply r2_ | apply r3_));exact (Kd.R_mono (zrf (Kd.R_types HO166.out BK167.out (by decide))) (fun _ h_ => h_.1))) (by decide)) hk (fun _ h => h.2)) (fun _ h => h.1));replace BK167 := am_ (KeepBut.blk hk (g' := gb167) (o := .cells #[.string t161,.int .i64 t168,.int .i64 (wrap64 (t171 - 1)),.int .i64 t174,.slice Ao35 y164.length co35] 78 (0,0)) (zq BK167) NB167_141.out (by simp));replace HB := am_ (hb);replace HI141 := am_ (hi);(try clear hb);(try clear hb2);(try clear hk);(try clear hi)))
      go_loopg [9] kj20 (fun kq v9 w' => ∃ (x9_3 : Int) (x142000_3 : ByteArray) (x142001_3 : Bool) (x168004_3 : List (S80)) (u168004 : Value),v9 = .int .i64 x9_3 ∧ Aside0 (spec_l05Read.l1 kq x6_1 x9_3 x142000_3 x142001_3 t142 t152 x152002_1 y148 t161 t168 (wrap64 (t171 - 1)) t174 x168004_3 = some (r1,r2,r3,r4,r5)) ∧ Aside0 (kq ≤ kj20) ∧ Aside0 (Kd.S k78 78 w' w.heap.size (fun k_ => some k_ ≠ (u168004 : Value).ownBlock ∧ k_ ≠ gb167) u152002 x152002_1) ∧ Aside0 (Kd.R k84 84 w' w.heap.size (fun _ => True) (.slice Ao12 y148.length co12) y148) ∧ Aside0 (Kd.R k80 80 w' w.heap.size (fun _ => True) u168004 x168004_3) ∧ Aside0 (w'.heap[gb140]? = some (.cells #[.int .i64 0,.int .i64 0,(.slice none 0 0),(.slice none 0 0)] 26 (0,0))) ∧ Aside0 (w'.heap[gb151]? = some (.cells #[.int .i64 t142,.int .i64 t152,u152002,(.slice Ao12 y148.length co12)] 26 (0,0))) ∧ Aside0 (w'.heap[gb167]? = some (.cells #[.string t161,.int .i64 t168,.int .i64 (wrap64 (t171 - 1)),.int .i64 t174,u168004] 78 (0,0))) ∧ Aside0 (IsS73 w w' g141 x142000_3 x142001_3) ∧ Aside0 (Below w.heap.size w w'))
      case atStart => exact ⟨(t177),(t178),(t179),(y164),(.slice Ao35 y164.length co35),(by first | rfl | (simp;done) | (simp [*];done)),H',⟨Nat.le_refl _⟩,⟨by (with_reducible repeat (first | apply Kd.S_alloc | apply Kd.S_drewN | apply Kd.S_drew));exact Kd.S_mono HO_152002.out (fun _ hk => ⟨hk.1.2,hk.2⟩)⟩,⟨zr HO_152003⟩,⟨zr HO166⟩,⟨by (with_reducible repeat (first | apply k1_ | apply k2_ | apply k3_));exact BK140.out⟩,⟨by (with_reducible repeat (first | apply k1_ | apply k2_ | apply k3_));exact BK151.out⟩,⟨by (with_reducible repeat (first | apply k1_ | apply k2_ | apply k3_));exact BK167.out⟩,⟨(zi73 HI141)⟩,⟨zl_ HB⟩⟩
      case round =>
       clear H'
       try clear c1
       try clear c2
       try clear p2
       try clear c3
       try clear c4
       try clear p6
       try clear c15
       try clear c16
       try clear c21
       try clear c22
       try clear c22b0
       try clear c24
       try clear c37
       try clear c38
       try clear c39
       try clear c46
       try clear c47
       try clear hcz17_0
       try clear hcz17_1
       try clear hcz17_2
       try clear hcz17_3
       try clear hcz19_0
       try clear hcz19_1
       try clear hcz19_2
       try clear hcz19_3
       try clear hcz23_0
       try clear hcz23_1
       try clear hcz40_0
       try clear hcz40_1
       try clear hcz40_2
       try clear hcz40_3
       try clear hcz40_4
       try clear hcz42_0
       try clear hcz42_1
       try clear hcz42_2
       try clear hcz42_3
       try clear hcz42_4
       try clear hcz44_0
       try clear hcz44_1
       try clear hcz44_2
       try clear hcz44_3
       try clear hcz44_4
       try clear hcz46_0
       try clear hcz46_1
       try clear hcz46_2
       try clear hcz46_3
       try clear hcz46_4
       try clear hfz17_0
       try clear hfz17_1
       try clear hfz17_2
       try clear hfz17_3
       try clear hfz19_0
       try clear hfz19_1
       try clear hfz19_2
       try clear hfz19_3
       try clear hfz23_0
       try clear hfz23_1
       try clear hfz40_0
       try clear hfz40_1
       try clear hfz40_2
       try clear hfz40_3
       try clear hfz40_4
       try clear hfz42_0
       try clear hfz42_1
       try clear hfz42_2
       try clear hfz42_3
       try clear hfz42_4
       try clear hfz44_0
       try clear hfz44_1
       try clear hfz44_2
       try clear hfz44_3
       try clear hfz44_4
       try clear hfz46_0
       try clear hfz46_1
       try clear hfz46_2
       try clear hfz46_3
       try clear hfz46_4
       try clear p2
       obtain ⟨x9_3,x142000_3,x142001_3,x168004_3,u168004,rfl,HA,HK3,HO_152002,HO_152003,HO_168004,BK140,BK151,BK167,HI141,HB⟩ := hrel
       cases gk with
       | zero => exact absurd HA.out (by simp [spec_l05Read.l1])
       | succ k3 =>
        have H := HA.out
        clear HA
        simp only [spec_l05Read.l1] at H
        have HC48 := am_ H
        clear H
        go_upto_region 13 with (fail)
        go_cut [64] (fun v64 wc => ∃ (kq : Nat) (x64_47 : Bool),v64 = .bool x64_47 ∧ Aside0 (spec_l05Read.j3 kq x6_1 x9_3 x64_47 x142000_3 x142001_3 t142 t152 x152002_1 y148 t161 t168 (wrap64 (t171 - 1)) t174 x168004_3 = some (r1,r2,r3,r4,r5)) ∧ Aside0 (kq ≤ k3) ∧ Aside0 (Kd.S k78 78 wc w.heap.size (fun k_ => some k_ ≠ (u168004 : Value).ownBlock ∧ k_ ≠ gb167) u152002 x152002_1) ∧ Aside0 (Kd.R k84 84 wc w.heap.size (fun _ => True) (.slice Ao12 y148.length co12) y148) ∧ Aside0 (Kd.R k80 80 wc w.heap.size (fun _ => True) u168004 x168004_3) ∧ Aside0 (wc.heap[gb140]? = some (.cells #[.int .i64 0,.int .i64 0,(.slice none 0 0),(.slice none 0 0)] 26 (0,0))) ∧ Aside0 (wc.heap[gb151]? = some (.cells #[.int .i64 t142,.int .i64 t152,u152002,(.slice Ao12 y148.length co12)] 26 (0,0))) ∧ Aside0 (wc.heap[gb167]? = some (.cells #[.string t161,.int .i64 t168,.int .i64 (wrap64 (t171 - 1)),.int .i64 t174,u168004] 78 (0,0))) ∧ Aside0 (IsS73 w wc g141 x142000_3 x142001_3) ∧ Aside0 (Below w.heap.size w wc))
        case first =>
         have H := HC48.out
         clear HC48
         by_cases c49 : x9_3 > 0
         ·rw [if_pos c49] at H
          have c49b0 : decide (0 < x9_3) = true := decide_eq_true c49
          clear c49
          (first | rw [c49b0] | (simp only [i64_w,i32_w];rw [c49b0]) | skip)
          have H' := am_ H
          clear H
          obtain ⟨HGz50,hgz50⟩ := HI141.out
          have hcz50_0 := cellS73_0 HGz50
          have hcz50_1 := cellS73_1 HGz50
          have hfz50_0 := blk_frozen HGz50 0
          have hfz50_1 := blk_frozen HGz50 1
          clear HGz50 hgz50
          go_wp2
          go_meet
          case rel => exact ⟨_,(!x142001_3),(by first | rfl | (simp;done) | (simp [*];done)),H',⟨by have := HK1.out;have := HJ20.out;have := HK3.out;first | omega | exact Nat.le_refl _⟩,⟨by (with_reducible repeat (first | apply Kd.S_alloc | apply Kd.S_drewN | apply Kd.S_drew));exact HO_152002.out⟩,⟨zr HO_152003⟩,⟨zr HO_168004⟩,⟨by (with_reducible repeat (first | apply k1_ | apply k2_ | apply k3_));exact BK140.out⟩,⟨by (with_reducible repeat (first | apply k1_ | apply k2_ | apply k3_));exact BK151.out⟩,⟨by (with_reducible repeat (first | apply k1_ | apply k2_ | apply k3_));exact BK167.out⟩,⟨(zi73 HI141)⟩,⟨zl_ HB⟩⟩
         ·rw [if_neg c49] at H
          have c49b0 : decide (0 < x9_3) = false := decide_eq_false c49
          clear c49
          (first | rw [c49b0] | (simp only [i64_w,i32_w];rw [c49b0]) | skip)
          have H' := am_ H
          clear H
          go_wp2
          go_meet
          case rel => exact ⟨_,(false),(by first | rfl | (simp;done) | (simp [*];done)),H',⟨by have := HK1.out;have := HJ20.out;have := HK3.out;first | omega | exact Nat.le_refl _⟩,⟨by (with_reducible repeat (first | apply Kd.S_alloc | apply Kd.S_drewN | apply Kd.S_drew));exact HO_152002.out⟩,⟨zr HO_152003⟩,⟨zr HO_168004⟩,⟨by (with_reducible repeat (first | apply k1_ | apply k2_ | apply k3_));exact BK140.out⟩,⟨by (with_reducible repeat (first | apply k1_ | apply k2_ | apply k3_));exact BK151.out⟩,⟨by (with_reducible repeat (first | apply k1_ | apply k2_ | apply k3_));exact BK167.out⟩,⟨(zi73 HI141)⟩,⟨zl_ HB⟩⟩
        case rest =>
         clear HC48
         try clear c1
         try clear c2
         try clear p2
         try clear c3
         try clear c4
         try clear p6
         try clear c15
         try clear c16
         try clear c21
         try clear c22
         try clear c22b0
         try clear c24
         try clear c37
         try clear c38
         try clear c39
         try clear c46
         try clear c47
         try clear c49
         try clear c49b0
         try clear hcz17_0
         try clear hcz17_1
         try clear hcz17_2
         try clear hcz17_3
         try clear hcz19_0
         try clear hcz19_1
         try clear hcz19_2
         try clear hcz19_3
         try clear hcz23_0
         try clear hcz23_1
         try clear hcz40_0
         try clear hcz40_1
         try clear hcz40_2
         try clear hcz40_3
         try clear hcz40_4
         try clear hcz42_0
         try clear hcz42_1
         try clear hcz42_2
         try clear hcz42_3
         try clear hcz42_4
         try clear hcz44_0
         try clear hcz44_1
         try clear hcz44_2
         try clear hcz44_3
         try clear hcz44_4
         try clear hcz46_0
         try clear hcz46_1
         try clear hcz46_2
         try clear hcz46_3
         try clear hcz46_4
         try clear hcz50_0
         try clear hcz50_1
         try clear hfz17_0
         try clear hfz17_1
         try clear hfz17_2
         try clear hfz17_3
         try clear hfz19_0
         try clear hfz19_1
         try clear hfz19_2
         try clear hfz19_3
         try clear hfz23_0
         try clear hfz23_1
         try clear hfz40_0
         try clear hfz40_1
         try clear hfz40_2
         try clear hfz40_3
         try clear hfz40_4
         try clear hfz42_0
         try clear hfz42_1
         try clear hfz42_2
         try clear hfz42_3
         try clear hfz42_4
         try clear hfz44_0
         try clear hfz44_1
         try clear hfz44_2
         try clear hfz44_3
         try clear hfz44_4
         try clear hfz46_0
         try clear hfz46_1
         try clear hfz46_2
         try clear hfz46_3
         try clear hfz46_4
         try clear hfz50_0
         try clear hfz50_1
         try clear p2
         try clear p6
         obtain ⟨kq,x64_47,rfl,HA,HJ47,HO_152002,HO_152003,HO_168004,BK140,BK151,BK167,HI141,HB⟩ := hcut
         cases kq with
         | zero => exact absurd HA.out (by simp [spec_l05Read.j3])
         | succ kj47 =>
          have H := HA.out
          clear HA
          simp only [spec_l05Read.j3] at H
          by_cases c51 : x64_47 = true
          ·subst c51
           have H1 : ((spec_l05Reader_number.f kj47 x142000_3 x142001_3 1).bind fun bt180 => ((spec_l05Reader_number.f kj47 bt180.2.1 bt180.2.2 2).bind fun bt183 => (if x168004_3.length < 8796093022208 then (spec_l05Read.l1 kj47 x6_1 (wrap64 (x9_3 - 1)) bt183.2.1 bt183.2.2 t142 t152 x152002_1 y148 t161 t168 (wrap64 (t171 - 1)) t174 (x168004_3 ++ [(⟨bt180.1,bt183.1⟩ : S80)])) else (none)))) = some (r1,r2,r3,r4,r5) := by rw [if_pos rfl] at H;exact H
           clear H
           have H := H1
           clear H1
           replace H := Option.bind_eq_some_iff.mp H
           obtain ⟨⟨t180,t181,t182⟩,A520,H⟩ := H
           try dsimp only at H
           have A52 := am_ A520
           clear A520
           replace H := Option.bind_eq_some_iff.mp H
           obtain ⟨⟨t183,t184,t185⟩,A530,H⟩ := H
           try dsimp only at H
           have A53 := am_ A530
           clear A530
           by_cases c54 : x168004_3.length < 8796093022208
           ·rw [if_pos c54] at H
            have LMc54 := am_ c54
            clear c54
            obtain ⟨y186,hy186⟩ : ∃ y_ : List (S80),y_ = (x168004_3 ++ [(⟨t180,t183⟩ : S80)]) := ⟨_,rfl⟩
            replace H : (spec_l05Read.l1 kj47 x6_1 (wrap64 (x9_3 - 1)) t184 t185 t142 t152 x152002_1 y148 t161 t168 (wrap64 (t171 - 1)) t174 y186) = some (r1,r2,r3,r4,r5) := by first | (rw [hy186];with_reducible exact H) | (have H2_ := (Option.bind_some _ _).symm.trans H;rw [hy186];with_reducible exact H2_) | (have H2_ := (Option.bind_some _ _).symm.trans H;with_reducible exact H2_) | with_reducible exact H | (rw [hy186];exact H) | exact H
            have Ny186 := am_ hy186
            clear hy186
            have H' := am_ H
            clear H
            try go_wp2_with (first | ((with_reducible refine gate_callee (f := 46) rfl ?_);refine zgl (some 68) Try.func46 #[.pointer (some ⟨g141,0,none⟩),.int .i64 1] ?_;(with_reducible refine (spec_l05Reader_number.calls kj47 g141 x142000_3 x142001_3 1 t180 t181 t182 w _ ?side1 ?side2 A52.out).mono ?_);(case side1 => exact zi73 HI141);(case side2 => exact zl_ HB);rintro e w55 ⟨rfl,hi,hb,hk⟩;refine ⟨_,rfl,?_⟩;replace HO_152002 := am_ (Kd.S_mono (Kd.S_keep (IsS73.apartS (show IsS73 w _ g141 x142000_3 x142001_3 from (zi73 HI141)) (by (with_reducible repeat (first | apply Kd.S_alloc | apply Kd.S_drewN | apply Kd.S_drew));exact HO_152002.out) (by decide)) hk (fun _ h => h.2)) (fun _ h => h.1));replace HO_152003 := am_ (Kd.R_mono (Kd.R_keep (IsS73.apart (show IsS73 w _ g141 x142000_3 x142001_3 from (zi73 HI141)) (zr HO_152003) (by decide)) hk (fun _ h => h.2)) (fun _ h => h.1));replace HO_168004 := am_ (Kd.R_mono (Kd.R_keep (IsS73.apart (show IsS73 w _ g141 x142000_3 x142001_3 from (zi73 HI141)) (zr HO_168004) (by decide)) hk (fun _ h => h.2)) (fun _ h => h.1));replace BK140 := zkb hk BK140 NB140_141;replace BK151 := zkb hk BK151 NB151_141;replace BK167 := zkb hk BK167 NB167_141;replace HB := am_ (hb);replace HI141 := am_ (hi);(try clear hb);(try clear hb2);(try clear hk);(try clear hi)))
            replace HO_152002 := am_ (Kd.S_drew HO_152002.out)
            replace HO_152003 := am_ (Kd.R_drew HO_152003.out)
            replace HO_168004 := am_ (Kd.R_drew HO_168004.out)
            replace BK140 := am_ (blk_drew BK140.out)
            replace BK151 := am_ (blk_drew BK151.out)
            replace BK167 := am_ (blk_drew BK167.out)
            replace HI141 := am_ (IsS73.drew HI141.out)
            replace HB := am_ (below_drew1 HB.out)
            refine start_ (n := 10) (S := fun w' => w'.cell? ⟨gb167,0,none⟩ = some (.string t161) ∧ w'.cell? ⟨gb167,1,none⟩ = some (.int .i64 t168) ∧ w'.cell? ⟨gb167,2,none⟩ = some (.int .i64 (wrap64 (t171 - 1))) ∧ w'.cell? ⟨gb167,3,none⟩ = some (.int .i64 t174) ∧ w'.cell? ⟨gb167,4,none⟩ = some (u168004)) (ds := [9]) #[false,false,false,false,false,false,false,false,false,false] (by kernel_rfl) rfl rfl ⟨(blk_cell BK167.out 0).trans rfl,(blk_cell BK167.out 1).trans rfl,(blk_cell BK167.out 2).trans rfl,(blk_cell BK167.out 3).trans rfl,(blk_cell BK167.out 4).trans rfl⟩ (fun hHeld => ?_);refine with_tabW spec_l05Read.tab16 spec_l05Read.bits16 (fun HT_ HW_ => ?_)
            generalize w55.drew = w56 at HO_152002 HO_152003 HO_168004 BK140 BK151 BK167 HI141 HB hHeld ⊢
            refine zpu 0 (N := some 69) HT_ ?_
            refine zpu 2 (N := some 71) HT_ ?_
            refine zpu 3 (N := some 72) HT_ ?_
            refine ztk 1 (N := some 70) HT_ HW_ hHeld ?_
            refine zon 4 (N := some 73) HT_ (fun K hK => ?_)
            refine zgo Try.func46 #[.pointer (some ⟨g141,0,none⟩),.int .i64 2] ?_
            with_reducible refine (spec_l05Reader_number.calls kj47 g141 t181 t182 2 t183 t184 t185 w _ ?side1 ?side2 A53.out).mono ?_
            (case side1 => exact zi73 HI141)
            (case side2 => exact zl_ HB)
            rintro e w57 ⟨rfl,hi,hb,hk⟩
            refine ⟨_,rfl,?_⟩
            replace HO_152002 := am_ (Kd.S_mono (Kd.S_keep (IsS73.apartS (show IsS73 w _ g141 t181 t182 from (zi73 HI141)) (by (with_reducible repeat (first | apply Kd.S_alloc | apply Kd.S_drewN | apply Kd.S_drew));exact HO_152002.out) (by decide)) hk (fun _ h => h.2)) (fun _ h => h.1))
            replace HO_152003 := am_ (Kd.R_mono (Kd.R_keep (IsS73.apart (show IsS73 w _ g141 t181 t182 from (zi73 HI141)) (zr HO_152003) (by decide)) hk (fun _ h => h.2)) (fun _ h => h.1))
            replace HO_168004 := am_ (Kd.R_mono (Kd.R_keep (IsS73.apart (show IsS73 w _ g141 t181 t182 from (zi73 HI141)) (zr HO_168004) (by decide)) hk (fun _ h => h.2)) (fun _ h => h.1))
            replace BK140 := zkb hk BK140 NB140_141
            replace BK151 := zkb hk BK151 NB151_141
            replace BK167 := zkb hk BK167 NB167_141
            replace HB := am_ (hb)
            replace HI141 := am_ (hi)
            (try clear hb)
            (try clear hb2)
            (try clear hk)
            (try clear hi)
            refine hK.out _ _ ⟨(blk_cell BK167.out 0).trans rfl,(blk_cell BK167.out 1).trans rfl,(blk_cell BK167.out 2).trans rfl,(blk_cell BK167.out 3).trans rfl,(blk_cell BK167.out 4).trans rfl⟩ (fun hHeld => ?_)
            clear hK K
            refine norm_ (a' := ?_) ?_ ?_
            rotate_left
            ·show Act.put _ (some 73) _ = _
             simp only [Act.put,p1_,p2_,p3_,i64_w,i32_w]
             rfl
            refine zpu 5 (N := some 74) HT_ ?_
            refine zon 6 (N := some 75) HT_ (fun K hK => ?_)
            refine value_ (w1 := ?_) (v := ?_) (by rfl) rfl ?_ ?_
            rotate_left 2
            ·go_simp
             constructor
             ·rfl
             ·rfl
            refine hK.out _ _ ⟨(blk_cell (blk_alloc BK167.out _) 0).trans rfl,(blk_cell (blk_alloc BK167.out _) 1).trans rfl,(blk_cell (blk_alloc BK167.out _) 2).trans rfl,(blk_cell (blk_alloc BK167.out _) 3).trans rfl,(blk_cell (blk_alloc BK167.out _) 4).trans rfl⟩ (fun hHeld => ?_)
            clear hK K
            refine norm_ (a' := ?_) ?_ ?_
            rotate_left
            ·show Act.put _ (some 75) _ = _
             simp only [Act.put,p1_,p2_,p3_,i64_w,i32_w]
             rfl
            refine zon 7 (N := some 76) HT_ (fun K hK => ?_)
            refine Kd.R_append_step k80 (w0 := w) w.heap.size (by rfl) (.tmp 70) (.tmp 75) 76 80 (.agg #[(.int .i64 0),(.int .i64 0)]) 16 rfl Try.underlying76 info80 rfl (by decide) (by omega) u168004 x168004_3 (⟨t180,t183⟩ : S80) [.int .i64 t180,.int .i64 t183] (fun _ => True) (fun _ => False) rfl rfl ?aP (fun _ hk => hk.elim) ?aF ?aO ?aB ?aS ?aL ?_
            (case aP => exact k80_mkM _ _ _ (⟨t180,t183⟩ : S80))
            (case aB => exact (zl_ HB))
            (case aF => exact (fun _ _ => trivial))
            (case aO => exact (zr HO_168004))
            (case aS => exact (below_size (zl_ HB)))
            (case aL => have := LMc54.out;omega)
            intro v187 w58 ho hb hg hat
            rw [← Ny186.out] at ho
            replace HO_152002 := am_ (Kd.S_after (ok := (fun k_ => k_ ≠ gb167)) (by (with_reducible repeat (first | apply Kd.S_alloc | apply Kd.S_drewN | apply Kd.S_drew));exact Kd.S_mono HO_152002.out (fun _ hk => ⟨hk.2,hk.1⟩)) hg hat)
            replace HO_152003 := am_ (Kd.R_over' (zr HO_152003) (Kd.R_typed (zr HO_168004)) (by decide) hg)
            replace BK140 := am_ (blk_grown (g := gb140) (o := .cells #[.int .i64 0,.int .i64 0,.slice none 0 0,.slice none 0 0] 26 (0,0)) (zk BK140) hg (Kd.R_ne HO_168004.out BK140.out (by decide)))
            replace BK151 := am_ (blk_grown (g := gb151) (o := .cells #[.int .i64 t142,.int .i64 t152,u152002,.slice Ao12 y148.length co12] 26 (0,0)) (zk BK151) hg (Kd.R_ne HO_168004.out BK151.out (by decide)))
            replace BK167 := am_ (blk_grown (g := gb167) (o := .cells #[.string t161,.int .i64 t168,.int .i64 (wrap64 (t171 - 1)),.int .i64 t174,u168004] 78 (0,0)) (zk BK167) hg (Kd.R_ne HO_168004.out BK167.out (by decide)))
            replace HI141 := am_ (IsS73.grown (zi73 HI141) hg (IsS73.own_ne HI141.out HO_168004.out (by decide)))
            replace HB := am_ (hb)
            have HO188 := am_ (ho)
            clear HO_168004
            clear ho hb hg hat
            obtain ⟨Ao59,co59,eo59⟩ := Kd.R_slice HO188.out
            (first | subst eo59 | (injection eo59 with f1_ f2_ f3_;have f4_ := f1_.symm;have f5_ := f3_.symm;clear f1_ f2_ f3_;subst f4_;subst f5_))
            refine hK.out _ _ ⟨(blk_cell BK167.out 0).trans rfl,(blk_cell BK167.out 1).trans rfl,(blk_cell BK167.out 2).trans rfl,(blk_cell BK167.out 3).trans rfl,(blk_cell BK167.out 4).trans rfl⟩ (fun hHeld => ?_)
            clear hK K
            refine norm_ (a' := ?_) ?_ ?_
            rotate_left
            ·show Act.put _ (some 76) _ = _
             simp only [Act.put,p1_,p2_,p3_,i64_w,i32_w]
             rfl
            refine zpu 8 (N := some 77) HT_ ?_
            refine last_ (i := 9) (N := none) #[true,true,true,true,true,true,true,true,true,true] rfl rfl (one_of HT_.out (by kernel_rfl)) (by decide) (fun K hK => ?_)
            have hs60 : w58.cell? ⟨gb167,4,none⟩ = some (u168004) := (blk_cell BK167.out 4).trans rfl
            have hfs60 := blk_frozen BK167.out 4
            have hns60_0 := NB140_167.out
            have hns60_1 := NB151_167.out
            have hms60_0 := NB167_140.out
            have hms60_1 := NB167_151.out
            refine skip_ (w1 := ?_) (by rfl) rfl ?_ ?_
            rotate_left
            ·go_simp
             rfl
            refine hK.out _ _ ?_
            clear hK K
            refine done_ (done_of HT_.out (by kernel_rfl)) ?_
            try go_wp2
            go_roundg kj47
            case measure => have := HK1.out;have := HJ20.out;have := HK3.out;have := HJ47.out;omega
            case rel => exact ⟨(wrap64 (x9_3 - 1)),(t184),(t185),(y186),(.slice Ao59 y186.length co59),(by first | rfl | (simp;done) | (simp [*];done)),H',⟨by have := HK1.out;have := HJ20.out;have := HK3.out;have := HJ47.out;omega⟩,⟨by (with_reducible repeat (first | apply Kd.S_alloc | apply Kd.S_drewN | apply Kd.S_drew));exact Kd.S_mono (Kd.S_far (p := ⟨gb167,4,none⟩) (Kd.S_mono HO_152002.out (fun k_ hk => (⟨hk,hk.1⟩ : _ ∧ k_ ≠ gb167))) (fun _ hk => hk.2) (.slice Ao59 y186.length co59)) (fun _ hk => ⟨hk.1.2,hk.1.1⟩)⟩,⟨by (with_reducible repeat (first | apply r1_ | apply r2_ | apply r3_));exact Kd.R_mono (zrf (Kd.R_types HO_152003.out BK167.out (by decide))) (fun _ hk => trivial)⟩,⟨by (with_reducible repeat (first | apply r1_ | apply r2_ | apply r3_));exact Kd.R_mono (zrf (Kd.R_types HO188.out BK167.out (by decide))) (fun _ hk => trivial)⟩,⟨zq BK140⟩,⟨zq BK151⟩,⟨zq BK167⟩,⟨(zi73 HI141)⟩,⟨zl_ HB⟩⟩
           ·rw [if_neg c54] at H
            exact absurd H (by simp)
          ·replace c51 := Bool.eq_false_iff.mpr c51
           subst c51
           have H1 : (if x152002_1.length < 2199023255552 then (spec_l05Read.l0 kj47 (wrap64 (x6_1 - 1)) x142000_3 x142001_3 t142 t152 (x152002_1 ++ [(⟨t161,t168,(wrap64 (t171 - 1)),t174,x168004_3⟩ : S78)]) y148) else (none)) = some (r1,r2,r3,r4,r5) := by rw [if_neg (show ¬ (false = true) by decide)] at H;exact H
           clear H
           have H := H1
           clear H1
           by_cases c61 : x152002_1.length < 2199023255552
           ·rw [if_pos c61] at H
            have LMc61 := am_ c61
            clear c61
            obtain ⟨y189,hy189⟩ : ∃ y_ : List (S78),y_ = (x152002_1 ++ [(⟨t161,t168,(wrap64 (t171 - 1)),t174,x168004_3⟩ : S78)]) := ⟨_,rfl⟩
            replace H : (spec_l05Read.l0 kj47 (wrap64 (x6_1 - 1)) x142000_3 x142001_3 t142 t152 y189 y148) = some (r1,r2,r3,r4,r5) := by first | (rw [hy189];with_reducible exact H) | (have H2_ := (Option.bind_some _ _).symm.trans H;rw [hy189];with_reducible exact H2_) | (have H2_ := (Option.bind_some _ _).symm.trans H;with_reducible exact H2_) | with_reducible exact H | (rw [hy189];exact H) | exact H
            have Ny189 := am_ hy189
            clear hy189
            have H' := am_ H
            clear H
            have hnb62 := NB151_140.out
            have hnc62 := NB140_151.out
            have hnb63 := NB151_167.out
            have hnc63 := NB167_151.out
            have hnb64 := NB151_141.out
            have hnc64 := NB141_151.out
            obtain ⟨hcz65_0,hcz65_1,hcz65_2,hcz65_3,hfz65_0,hfz65_1,hfz65_2,hfz65_3⟩ := zc4 BK151
            have hnb66 := NB167_140.out
            have hnc66 := NB140_167.out
            have hnb67 := NB167_141.out
            have hnc67 := NB141_167.out
            obtain ⟨hcz68_0,hcz68_1,hcz68_2,hcz68_3,hcz68_4,hfz68_0,hfz68_1,hfz68_2,hfz68_3,hfz68_4⟩ := zc5 BK167
            obtain ⟨Ao70,co70,eo70⟩ := Kd.R_slice HO_168004.out
            subst eo70
            go_wp2_with (first | ((with_reducible refine gate_builtin (b := .append) (xs := #[.tmp 79,.tmp 81]) rfl ?_);at_builtin;refine Kd.S_append k78 (w0 := w) w.heap.size rfl (.tmp 79) (.tmp 81) 23 78 (.agg #[(.string ⟨#[]⟩),(.int .i64 0),(.int .i64 0),(.int .i64 0),(.slice none 0 0)]) 64 rfl Try.underlying23 info78 rfl (by decide) (by omega) u152002 x152002_1 (⟨t161,t168,(wrap64 (t171 - 1)),t174,x168004_3⟩ : S78) [.string t161,.int .i64 t168,.int .i64 (wrap64 (t171 - 1)),.int .i64 t174,.slice Ao70 x168004_3.length co70] (fun k_ => k_ ≠ gb167) (fun k_ => some k_ = (.slice Ao70 x168004_3.length co70 : Value).ownBlock) rfl rfl ?aP (fun k_ hk_ => ((Kd.R_mono (ok' := fun k_ => ((fun k_ => k_ ≠ gb167)) k_ ∧ some k_ ≠ (u152002 : Value).ownBlock) (Kd.R_types (Kd.R_apart' (HO_168004.out) (Kd.S_typed HO_152002.out) (by decide)) BK167.out (by decide)) (fun k_ hk => ⟨hk.2,hk.1.2⟩))).1 k_ hk_.symm) ?aF ?aO ?aB ?aS ?aL ?_;(case aP => exact k78_mkM _ _ _ (⟨t161,t168,(wrap64 (t171 - 1)),t174,x168004_3⟩ : S78) (Kd.R_mono (Kd.R_tight rfl (Kd.R_mono (ok' := fun k_ => ((fun k_ => k_ ≠ gb167)) k_ ∧ some k_ ≠ (u152002 : Value).ownBlock) (Kd.R_types (Kd.R_apart' (HO_168004.out) (Kd.S_typed HO_152002.out) (by decide)) BK167.out (by decide)) (fun k_ hk => ⟨hk.2,hk.1.2⟩))) (fun _ h_ => h_)));(case aB => exact (zl_ HB));(case aF => exact (fun k_ hk => Kd.freshB (g := gb167) (o := .cells #[.string t161,.int .i64 t168,.int .i64 (wrap64 (t171 - 1)),.int .i64 t174,.slice Ao70 x168004_3.length co70] 78 (0,0)) (zk BK167) k_ hk));(case aO => exact (by (with_reducible repeat (first | apply Kd.S_alloc | apply Kd.S_drewN | apply Kd.S_drew));exact Kd.S_mono HO_152002.out (fun k_ hk => ⟨hk.2,fun e_ => hk.1 e_⟩)));(case aS => exact (below_size (zl_ HB)));(case aL => have := LMc61.out;omega);intro v190 w69 ho hb hg hat;rw [← Ny189.out] at ho;replace HO_152003 := am_ (Kd.R_over' (zr HO_152003) (Kd.S_typed (by (with_reducible repeat (first | apply Kd.S_alloc | apply Kd.S_drewN | apply Kd.S_drew));exact HO_152002.out)) (by decide) hg);replace BK140 := am_ (blk_grown (g := gb140) (o := .cells #[.int .i64 0,.int .i64 0,.slice none 0 0,.slice none 0 0] 26 (0,0)) (zk BK140) hg (Kd.S_ne HO_152002.out BK140.out (by decide)));replace BK151 := am_ (blk_grown (g := gb151) (o := .cells #[.int .i64 t142,.int .i64 t152,u152002,.slice Ao12 y148.length co12] 26 (0,0)) (zk BK151) hg (Kd.S_ne HO_152002.out BK151.out (by decide)));replace HI141 := am_ (IsS73.grown (zi73 HI141) hg (IsS73.own_neS HI141.out HO_152002.out (by decide)));replace HB := am_ (hb);have HO191 := am_ (ho);clear HO_152002;clear HO_168004;clear ho hb hg hat;obtain ⟨Ao71,co71,eo71⟩ := Kd.S_slice HO191.out;subst eo71;obtain ⟨hcz72_0,hcz72_1,hcz72_2,hcz72_3,hfz72_0,hfz72_1,hfz72_2,hfz72_3⟩ := zc4 BK151))
            go_roundg kj47
            case measure => have := HK1.out;have := HJ20.out;have := HK3.out;have := HJ47.out;omega
            case rel => exact ⟨(wrap64 (x6_1 - 1)),(x142000_3),(x142001_3),(y189),(.slice Ao71 y189.length co71),(by first | rfl | (simp;done) | (simp [*];done)),H',⟨by have := HK1.out;have := HJ20.out;have := HK3.out;have := HJ47.out;omega⟩,⟨by (with_reducible repeat (first | apply Kd.S_alloc | apply Kd.S_drewN | apply Kd.S_drew));exact Kd.S_mono (Kd.S_far (p := ⟨gb151,2,none⟩) (Kd.S_types HO191.out BK151.out (by decide)) (fun _ hk => hk.2) (.slice Ao71 y189.length co71)) (fun _ hk => trivial)⟩,⟨by (with_reducible repeat (first | apply r1_ | apply r2_ | apply r3_));exact Kd.R_mono (zrf (Kd.R_types HO_152003.out BK151.out (by decide))) (fun _ hk => trivial)⟩,⟨zq BK140⟩,⟨zq BK151⟩,⟨(zi73 HI141)⟩,⟨zl_ HB⟩⟩
           ·rw [if_neg c61] at H
            exact absurd H (by simp)
     ·replace c24 := Bool.eq_false_iff.mpr c24
      subst c24
      have H1 : ((spec_l05Reader_number.f kj20 x142000_1 x142001_1 1).bind fun bt192 => (spec_l05Read.l2 kj20 bt192.1 bt192.2.1 bt192.2.2 t142 t152 x152002_1 y148)) = some (r1,r2,r3,r4,r5) := by rw [if_neg (show ¬ (false = true) by decide)] at H;exact H
      clear H
      have H := H1
      clear H1
      replace H := Option.bind_eq_some_iff.mp H
      obtain ⟨⟨t192,t193,t194⟩,A730,H⟩ := H
      try dsimp only at H
      have A73 := am_ A730
      clear A730
      have H' := am_ H
      clear H
      go_wp2_with (first | ((with_reducible refine gate_callee (f := 46) rfl ?_);refine zgl (some 85) Try.func46 #[.pointer (some ⟨g141,0,none⟩),.int .i64 1] ?_;(with_reducible refine (spec_l05Reader_number.calls kj20 g141 x142000_1 x142001_1 1 t192 t193 t194 w _ ?side1 ?side2 A73.out).mono ?_);(case side1 => exact zi73 HI141);(case side2 => exact zl_ HB);rintro e w74 ⟨rfl,hi,hb,hk⟩;refine ⟨_,rfl,?_⟩;replace HO_152002 := am_ (Kd.S_mono (Kd.S_keep (IsS73.apartS (show IsS73 w _ g141 x142000_1 x142001_1 from (zi73 HI141)) (by (with_reducible repeat (first | apply Kd.S_alloc | apply Kd.S_drewN | apply Kd.S_drew));exact HO_152002.out) (by decide)) hk (fun _ h => h.2)) (fun _ h => h.1));replace HO_152003 := am_ (Kd.R_mono (Kd.R_keep (IsS73.apart (show IsS73 w _ g141 x142000_1 x142001_1 from (zi73 HI141)) (zr HO_152003) (by decide)) hk (fun _ h => h.2)) (fun _ h => h.1));replace BK140 := zkb hk BK140 NB140_141;replace BK151 := zkb hk BK151 NB151_141;replace HB := am_ (hb);replace HI141 := am_ (hi);(try clear hb);(try clear hb2);(try clear hk);(try clear hi)))
      go_loopg [11] kj20 (fun kq v11 w' => ∃ (x11_3 : Int) (x142000_3 : ByteArray) (x142001_3 : Bool) (x152003_3 : List (S84)) (u152003 : Value),v11 = .int .i64 x11_3 ∧ Aside0 (spec_l05Read.l2 kq x11_3 x142000_3 x142001_3 t142 t152 x152002_1 x152003_3 = some (r1,r2,r3,r4,r5)) ∧ Aside0 (kq ≤ kj20) ∧ Aside0 (Kd.S k78 78 w' w.heap.size (fun _ => True) u152002 x152002_1) ∧ Aside0 (Kd.R k84 84 w' w.heap.size (fun _ => True) u152003 x152003_3) ∧ Aside0 (w'.heap[gb140]? = some (.cells #[.int .i64 0,.int .i64 0,(.slice none 0 0),(.slice none 0 0)] 26 (0,0))) ∧ Aside0 (w'.heap[gb151]? = some (.cells #[.int .i64 t142,.int .i64 t152,u152002,u152003] 26 (0,0))) ∧ Aside0 (IsS73 w w' g141 x142000_3 x142001_3) ∧ Aside0 (Below w.heap.size w w'))
      case atStart => exact ⟨(t192),(t193),(t194),(y148),(.slice Ao12 y148.length co12),(by first | rfl | (simp;done) | (simp [*];done)),H',⟨Nat.le_refl _⟩,⟨by (with_reducible repeat (first | apply Kd.S_alloc | apply Kd.S_drewN | apply Kd.S_drew));exact HO_152002.out⟩,⟨zr HO_152003⟩,⟨by (with_reducible repeat (first | apply k1_ | apply k2_ | apply k3_));exact BK140.out⟩,⟨by (with_reducible repeat (first | apply k1_ | apply k2_ | apply k3_));exact BK151.out⟩,⟨(zi73 HI141)⟩,⟨zl_ HB⟩⟩
      case round =>
       clear H'
       try clear c1
       try clear c2
       try clear p2
       try clear c3
       try clear c4
       try clear c5
       try clear c6
       try clear p6
       try clear c15
       try clear c16
       try clear c21
       try clear c22
       try clear c22b0
       try clear c24
       try clear c37
       try clear c38
       try clear c39
       try clear c46
       try clear c47
       try clear c49
       try clear c49b0
       try clear c51
       try clear c54
       try clear c61
       try clear c62
       try clear c63
       try clear c64
       try clear p64
       try clear c66
       try clear c67
       try clear hcz17_0
       try clear hcz17_1
       try clear hcz17_2
       try clear hcz17_3
       try clear hcz19_0
       try clear hcz19_1
       try clear hcz19_2
       try clear hcz19_3
       try clear hcz23_0
       try clear hcz23_1
       try clear hcz40_0
       try clear hcz40_1
       try clear hcz40_2
       try clear hcz40_3
       try clear hcz40_4
       try clear hcz42_0
       try clear hcz42_1
       try clear hcz42_2
       try clear hcz42_3
       try clear hcz42_4
       try clear hcz44_0
       try clear hcz44_1
       try clear hcz44_2
       try clear hcz44_3
       try clear hcz44_4
       try clear hcz46_0
       try clear hcz46_1
       try clear hcz46_2
       try clear hcz46_3
       try clear hcz46_4
       try clear hcz50_0
       try clear hcz50_1
       try clear hcz65_0
       try clear hcz65_1
       try clear hcz65_2
       try clear hcz65_3
       try clear hcz68_0
       try clear hcz68_1
       try clear hcz68_2
       try clear hcz68_3
       try clear hcz68_4
       try clear hcz72_0
       try clear hcz72_1
       try clear hcz72_2
       try clear hcz72_3
       try clear hfz17_0
       try clear hfz17_1
       try clear hfz17_2
       try clear hfz17_3
       try clear hfz19_0
       try clear hfz19_1
       try clear hfz19_2
       try clear hfz19_3
       try clear hfz23_0
       try clear hfz23_1
       try clear hfz40_0
       try clear hfz40_1
       try clear hfz40_2
       try clear hfz40_3
       try clear hfz40_4
       try clear hfz42_0
       try clear hfz42_1
       try clear hfz42_2
       try clear hfz42_3
       try clear hfz42_4
       try clear hfz44_0
       try clear hfz44_1
       try clear hfz44_2
       try clear hfz44_3
       try clear hfz44_4
       try clear hfz46_0
       try clear hfz46_1
       try clear hfz46_2
       try clear hfz46_3
       try clear hfz46_4
       try clear hfz50_0
       try clear hfz50_1
       try clear hfz65_0
       try clear hfz65_1
       try clear hfz65_2
       try clear hfz65_3
       try clear hfz68_0
       try clear hfz68_1
       try clear hfz68_2
       try clear hfz68_3
       try clear hfz68_4
       try clear hfz72_0
       try clear hfz72_1
       try clear hfz72_2
       try clear hfz72_3
       try clear p2
       try clear p6
       obtain ⟨x11_3,x142000_3,x142001_3,x152003_3,u152003,rfl,HA,HK3,HO_152002,HO_152003,BK140,BK151,HI141,HB⟩ := hrel
       cases gk with
       | zero => exact absurd HA.out (by simp [spec_l05Read.l2])
       | succ k3 =>
        have H := HA.out
        clear HA
        simp only [spec_l05Read.l2] at H
        have HC75 := am_ H
        clear H
        go_upto_region 19 with (fail)
        go_cut [94] (fun v94 wc => ∃ (kq : Nat) (x94_74 : Bool),v94 = .bool x94_74 ∧ Aside0 (spec_l05Read.j5 kq x11_3 x94_74 x142000_3 x142001_3 t142 t152 x152002_1 x152003_3 = some (r1,r2,r3,r4,r5)) ∧ Aside0 (kq ≤ k3) ∧ Aside0 (Kd.S k78 78 wc w.heap.size (fun _ => True) u152002 x152002_1) ∧ Aside0 (Kd.R k84 84 wc w.heap.size (fun _ => True) u152003 x152003_3) ∧ Aside0 (wc.heap[gb140]? = some (.cells #[.int .i64 0,.int .i64 0,(.slice none 0 0),(.slice none 0 0)] 26 (0,0))) ∧ Aside0 (wc.heap[gb151]? = some (.cells #[.int .i64 t142,.int .i64 t152,u152002,u152003] 26 (0,0))) ∧ Aside0 (IsS73 w wc g141 x142000_3 x142001_3) ∧ Aside0 (Below w.heap.size w wc))
        case first =>
         have H := HC75.out
         clear HC75
         by_cases c76 : x11_3 > 0
         ·rw [if_pos c76] at H
          have c76b0 : decide (0 < x11_3) = true := decide_eq_true c76
          clear c76
          (first | rw [c76b0] | (simp only [i64_w,i32_w];rw [c76b0]) | skip)
          have H' := am_ H
          clear H
          obtain ⟨HGz77,hgz77⟩ := HI141.out
          have hcz77_0 := cellS73_0 HGz77
          have hcz77_1 := cellS73_1 HGz77
          have hfz77_0 := blk_frozen HGz77 0
          have hfz77_1 := blk_frozen HGz77 1
          clear HGz77 hgz77
          go_wp2
          go_meet
          case rel => exact ⟨_,(!x142001_3),(by first | rfl | (simp;done) | (simp [*];done)),H',⟨by have := HK1.out;have := HJ20.out;have := HK3.out;first | omega | exact Nat.le_refl _⟩,⟨by (with_reducible repeat (first | apply Kd.S_alloc | apply Kd.S_drewN | apply Kd.S_drew));exact HO_152002.out⟩,⟨zr HO_152003⟩,⟨by (with_reducible repeat (first | apply k1_ | apply k2_ | apply k3_));exact BK140.out⟩,⟨by (with_reducible repeat (first | apply k1_ | apply k2_ | apply k3_));exact BK151.out⟩,⟨(zi73 HI141)⟩,⟨zl_ HB⟩⟩
         ·rw [if_neg c76] at H
          have c76b0 : decide (0 < x11_3) = false := decide_eq_false c76
          clear c76
          (first | rw [c76b0] | (simp only [i64_w,i32_w];rw [c76b0]) | skip)
          have H' := am_ H
          clear H
          go_wp2
          go_meet
          case rel => exact ⟨_,(false),(by first | rfl | (simp;done) | (simp [*];done)),H',⟨by have := HK1.out;have := HJ20.out;have := HK3.out;first | omega | exact Nat.le_refl _⟩,⟨by (with_reducible repeat (first | apply Kd.S_alloc | apply Kd.S_drewN | apply Kd.S_drew));exact HO_152002.out⟩,⟨zr HO_152003⟩,⟨by (with_reducible repeat (first | apply k1_ | apply k2_ | apply k3_));exact BK140.out⟩,⟨by (with_reducible repeat (first | apply k1_ | apply k2_ | apply k3_));exact BK151.out⟩,⟨(zi73 HI141)⟩,⟨zl_ HB⟩⟩
        case rest =>
         clear HC75
         try clear c1
         try clear c2
         try clear p2
         try clear c3
         try clear c4
         try clear c5
         try clear c6
         try clear p6
         try clear c7
         try clear c15
         try clear c16
         try clear c21
         try clear c22
         try clear c22b0
         try clear c24
         try clear c37
         try clear c38
         try clear c39
         try clear c46
         try clear c47
         try clear c49
         try clear c49b0
         try clear c51
         try clear c54
         try clear c61
         try clear c62
         try clear c63
         try clear c64
         try clear p64
         try clear c66
         try clear c67
         try clear c76
         try clear c76b0
         try clear hcz17_0
         try clear hcz17_1
         try clear hcz17_2
         try clear hcz17_3
         try clear hcz19_0
         try clear hcz19_1
         try clear hcz19_2
         try clear hcz19_3
         try clear hcz23_0
         try clear hcz23_1
         try clear hcz40_0
         try clear hcz40_1
         try clear hcz40_2
         try clear hcz40_3
         try clear hcz40_4
         try clear hcz42_0
         try clear hcz42_1
         try clear hcz42_2
         try clear hcz42_3
         try clear hcz42_4
         try clear hcz44_0
         try clear hcz44_1
         try clear hcz44_2
         try clear hcz44_3
         try clear hcz44_4
         try clear hcz46_0
         try clear hcz46_1
         try clear hcz46_2
         try clear hcz46_3
         try clear hcz46_4
         try clear hcz50_0
         try clear hcz50_1
         try clear hcz65_0
         try clear hcz65_1
         try clear hcz65_2
         try clear hcz65_3
         try clear hcz68_0
         try clear hcz68_1
         try clear hcz68_2
         try clear hcz68_3
         try clear hcz68_4
         try clear hcz72_0
         try clear hcz72_1
         try clear hcz72_2
         try clear hcz72_3
         try clear hcz77_0
         try clear hcz77_1
         try clear hfz17_0
         try clear hfz17_1
         try clear hfz17_2
         try clear hfz17_3
         try clear hfz19_0
         try clear hfz19_1
         try clear hfz19_2
         try clear hfz19_3
         try clear hfz23_0
         try clear hfz23_1
         try clear hfz40_0
         try clear hfz40_1
         try clear hfz40_2
         try clear hfz40_3
         try clear hfz40_4
         try clear hfz42_0
         try clear hfz42_1
         try clear hfz42_2
         try clear hfz42_3
         try clear hfz42_4
         try clear hfz44_0
         try clear hfz44_1
         try clear hfz44_2
         try clear hfz44_3
         try clear hfz44_4
         try clear hfz46_0
         try clear hfz46_1
         try clear hfz46_2
         try clear hfz46_3
         try clear hfz46_4
         try clear hfz50_0
         try clear hfz50_1
         try clear hfz65_0
         try clear hfz65_1
         try clear hfz65_2
         try clear hfz65_3
         try clear hfz68_0
         try clear hfz68_1
         try clear hfz68_2
         try clear hfz68_3
         try clear hfz68_4
         try clear hfz72_0
         try clear hfz72_1
         try clear hfz72_2
         try clear hfz72_3
         try clear hfz77_0
         try clear hfz77_1
         try clear p2
         try clear p6
         try clear p64
         obtain ⟨kq,x94_74,rfl,HA,HJ74,HO_152002,HO_152003,BK140,BK151,HI141,HB⟩ := hcut
         cases kq with
         | zero => exact absurd HA.out (by simp [spec_l05Read.j5])
         | succ kj74 =>
          have H := HA.out
          clear HA
          simp only [spec_l05Read.j5] at H
          by_cases c78 : x94_74 = true
          ·subst c78
           have H1 : ((spec_l05Reader_number.f kj74 x142000_3 x142001_3 1).bind fun bt196 => ((spec_l05Reader_number.f kj74 bt196.2.1 bt196.2.2 2).bind fun bt200 => ((spec_l05Reader_number.f kj74 bt200.2.1 bt200.2.2 1).bind fun bt203 => ((spec_l05Reader_number.f kj74 bt203.2.1 bt203.2.2 3).bind fun bt206 => ((spec_l05Reader_number.f kj74 bt206.2.1 bt206.2.2 2).bind fun bt209 => ((spec_l05Reader_number.f kj74 bt209.2.1 bt209.2.2 4).bind fun bt212 => (if x152003_3.length < 2932031007402 then (spec_l05Read.l2 kj74 (wrap64 (x11_3 - 1)) bt212.2.1 bt212.2.2 t142 t152 x152002_1 (x152003_3 ++ [(⟨bt196.1,bt200.1,(⟨bt203.1,bt206.1,wrap64 (bt209.1 - 1),bt212.1⟩ : S82)⟩ : S84)])) else (none)))))))) = some (r1,r2,r3,r4,r5) := by rw [if_pos rfl] at H;exact H
           clear H
           have H := H1
           clear H1
           replace H := Option.bind_eq_some_iff.mp H
           obtain ⟨⟨t196,t197,t198⟩,A790,H⟩ := H
           try dsimp only at H
           have A79 := am_ A790
           clear A790
           replace H := Option.bind_eq_some_iff.mp H
           obtain ⟨⟨t200,t201,t202⟩,A800,H⟩ := H
           try dsimp only at H
           have A80 := am_ A800
           clear A800
           replace H := Option.bind_eq_some_iff.mp H
           obtain ⟨⟨t203,t204,t205⟩,A810,H⟩ := H
           try dsimp only at H
           have A81 := am_ A810
           clear A810
           replace H := Option.bind_eq_some_iff.mp H
           obtain ⟨⟨t206,t207,t208⟩,A820,H⟩ := H
           try dsimp only at H
           have A82 := am_ A820
           clear A820
           replace H := Option.bind_eq_some_iff.mp H
           obtain ⟨⟨t209,t210,t211⟩,A830,H⟩ := H
           try dsimp only at H
           have A83 := am_ A830
           clear A830
           replace H := Option.bind_eq_some_iff.mp H
           obtain ⟨⟨t212,t213,t214⟩,A840,H⟩ := H
           try dsimp only at H
           have A84 := am_ A840
           clear A840
           by_cases c85 : x152003_3.length < 2932031007402
           ·rw [if_pos c85] at H
            have LMc85 := am_ c85
            clear c85
            obtain ⟨y215,hy215⟩ : ∃ y_ : List (S84),y_ = (x152003_3 ++ [(⟨t196,t200,(⟨t203,t206,wrap64 (t209 - 1),t212⟩ : S82)⟩ : S84)]) := ⟨_,rfl⟩
            replace H : (spec_l05Read.l2 kj74 (wrap64 (x11_3 - 1)) t213 t214 t142 t152 x152002_1 y215) = some (r1,r2,r3,r4,r5) := by first | (rw [hy215];with_reducible exact H) | (have H2_ := (Option.bind_some _ _).symm.trans H;rw [hy215];with_reducible exact H2_) | (have H2_ := (Option.bind_some _ _).symm.trans H;with_reducible exact H2_) | with_reducible exact H | (rw [hy215];exact H) | exact H
            have Ny215 := am_ hy215
            clear hy215
            have H' := am_ H
            clear H
            go_wp2_with (first | ((with_reducible refine gate_callee (f := 46) rfl ?_);refine zgl (some 98) Try.func46 #[.pointer (some ⟨g141,0,none⟩),.int .i64 1] ?_;(with_reducible refine (spec_l05Reader_number.calls kj74 g141 x142000_3 x142001_3 1 t196 t197 t198 w _ ?side1 ?side2 A79.out).mono ?_);(case side1 => exact zi73 HI141);(case side2 => exact zl_ HB);rintro e w86 ⟨rfl,hi,hb,hk⟩;refine ⟨_,rfl,?_⟩;replace HO_152002 := am_ (Kd.S_mono (Kd.S_keep (IsS73.apartS (show IsS73 w _ g141 x142000_3 x142001_3 from (zi73 HI141)) (by (with_reducible repeat (first | apply Kd.S_alloc | apply Kd.S_drewN | apply Kd.S_drew));exact HO_152002.out) (by decide)) hk (fun _ h => h.2)) (fun _ h => h.1));replace HO_152003 := am_ (Kd.R_mono (Kd.R_keep (IsS73.apart (show IsS73 w _ g141 x142000_3 x142001_3 from (zi73 HI141)) (zr HO_152003) (by decide)) hk (fun _ h => h.2)) (fun _ h => h.1));replace BK140 := zkb hk BK140 NB140_141;replace BK151 := zkb hk BK151 NB151_141;replace HB := am_ (hb);replace HI141 := am_ (hi);(try clear hb);(try clear hb2);(try clear hk);(try clear hi)) | ((with_reducible refine gate_dst (N := 12) rfl ?_);refine zbx (N := 12) (cs := #[.int .i64 0,.int .i64 0,.int .i64 0,.int .i64 0,.int .i64 0,.int .i64 0]) (t := 84) ?_;intro gb199 hg w87 hbox hb;replace HO_152002 := am_ (Kd.S_below (by (with_reducible repeat (first | apply Kd.S_alloc | apply Kd.S_drewN | apply Kd.S_drew));exact HO_152002.out) hb);replace HO_152003 := am_ (Kd.R_below (Kd.R_elderB (zr HO_152003) gb199 (Nat.le_of_eq hg.symm)) hb);have BK199 := am_ (hbox);have GW199 := zw_ HB hg;have GE199 := zw_ HB hg;replace HB := zs_ HB hb;have NB140_199 := zl hg BK140;have NB199_140 := zg hg BK140;replace BK140 := zb BK140 hb;have NB151_199 := zl hg BK151;have NB199_151 := zg hg BK151;replace BK151 := zb BK151 hb;have NB141_199 := am_ ((by rw [hg];exact Nat.ne_of_lt (IsS73.lt (show IsS73 w _ g141 t197 t198 from (zi73 HI141))) : g141 ≠ gb199));have NB199_141 := am_ ((by rw [hg];exact Nat.ne_of_gt (IsS73.lt (show IsS73 w _ g141 t197 t198 from (zi73 HI141))) : gb199 ≠ g141));replace HI141 := am_ (IsS73.below (zi73 HI141) hb);clear hb hbox hg;have hnb88 := NB199_140.out;have hnc88 := NB140_199.out;have hnb89 := NB199_151.out;have hnc89 := NB151_199.out;have hnb90 := NB199_141.out;have hnc90 := NB141_199.out;obtain ⟨hcz91_0,hcz91_1,hcz91_2,hcz91_3,hcz91_4,hcz91_5,hfz91_0,hfz91_1,hfz91_2,hfz91_3,hfz91_4,hfz91_5⟩ := zc6 BK199) | ((with_reducible refine gate_callee (f := 46) rfl ?_);refine zgl (some 101) Try.func46 #[.pointer (some ⟨g141,0,none⟩),.int .i64 2] ?_;(with_reducible refine (spec_l05Reader_number.calls kj74 g141 t197 t198 2 t200 t201 t202 w _ ?side1 ?side2 A80.out).mono ?_);(case side1 => exact zi73 HI141);(case side2 => exact zl_ HB);rintro e w92 ⟨rfl,hi,hb,hk⟩;refine ⟨_,rfl,?_⟩;replace HO_152002 := am_ (Kd.S_mono (Kd.S_keep (IsS73.apartS (show IsS73 w _ g141 t197 t198 from (zi73 HI141)) (by (with_reducible repeat (first | apply Kd.S_alloc | apply Kd.S_drewN | apply Kd.S_drew));exact (Kd.S_mono (Kd.S_far (p := ⟨gb199,5,none⟩) (Kd.S_far (p := ⟨gb199,4,none⟩) (Kd.S_far (p := ⟨gb199,3,none⟩) (Kd.S_far (p := ⟨gb199,2,none⟩) (Kd.S_far (p := ⟨gb199,1,none⟩) (Kd.S_far (p := ⟨gb199,0,none⟩) (Kd.S_types HO_152002.out BK199.out (by decide)) (fun _ hk => hk.2) (.int .i64 t196)) (fun _ hk => hk.2) (.int .i64 0)) (fun _ hk => hk.2) (.int .i64 0)) (fun _ hk => hk.2) (.int .i64 0)) (fun _ hk => hk.2) (.int .i64 0)) (fun _ hk => hk.2) (.int .i64 0)) (fun _ h_ => h_.1))) (by decide)) hk (fun _ h => h.2)) (fun _ h => h.1));replace HO_152003 := am_ (Kd.R_mono (Kd.R_keep (IsS73.apart (show IsS73 w _ g141 t197 t198 from (zi73 HI141)) (by (with_reducible repeat (first | apply r1_ | apply r2_ | apply r3_));exact (Kd.R_mono (Kd.Rf (Kd.Rf (Kd.Rf (Kd.Rf (Kd.Rf (Kd.Rf (Kd.R_mono HO_152003.out (fun k_ hk => (⟨hk,hk.2⟩ : _ ∧ k_ ≠ gb199))))))))) (fun _ h_ => h_.1))) (by decide)) hk (fun _ h => h.2)) (fun _ h => h.1));replace BK140 := am_ (KeepBut.blk hk (g' := gb140) (o := .cells #[.int .i64 0,.int .i64 0,.slice none 0 0,.slice none 0 0] 26 (0,0)) (zq BK140) NB140_141.out (by simp));replace BK151 := am_ (KeepBut.blk hk (g' := gb151) (o := .cells #[.int .i64 t142,.int .i64 t152,u152002,u152003] 26 (0,0)) (zq BK151) NB151_141.out (by simp));replace BK199 := am_ (KeepBut.blk hk (g' := gb199) (o := .cells #[.int .i64 t196,.int .i64 0,.int .i64 0,.int .i64 0,.int .i64 0,.int .i64 0] 84 (0,0)) (zq BK199) NB199_141.out (by simp));replace HB := am_ (hb);replace HI141 := am_ (hi);(try clear hb);(try clear hb2);(try clear hk);(try clear hi);obtain ⟨hcz93_0,hcz93_1,hcz93_2,hcz93_3,hcz93_4,hcz93_5,hfz93_0,hfz93_1,hfz93_2,hfz93_3,hfz93_4,hfz93_5⟩ := zc6 BK199) | ((with_reducible refine gate_callee (f := 46) rfl ?_);refine zgl (some 104) Try.func46 #[.pointer (some ⟨g141,0,none⟩),.int .i64 1] ?_;(with_reducible refine (spec_l05Reader_number.calls kj74 g141 t201 t202 1 t203 t204 t205 w _ ?side1 ?side2 A81.out).mono ?_);(case side1 => exact zi73 HI141);(case side2 => exact zl_ HB);rintro e w94 ⟨rfl,hi,hb,hk⟩;refine ⟨_,rfl,?_⟩;replace HO_152002 := am_ (Kd.S_mono (Kd.S_keep (IsS73.apartS (show IsS73 w _ g141 t201 t202 from (zi73 HI141)) (by (with_reducible repeat (first | apply Kd.S_alloc | apply Kd.S_drewN | apply Kd.S_drew));exact (Kd.S_mono (Kd.S_far (p := ⟨gb199,1,none⟩) (Kd.S_types HO_152002.out BK199.out (by decide)) (fun _ hk => hk.2) (.int .i64 t200)) (fun _ h_ => h_.1))) (by decide)) hk (fun _ h => h.2)) (fun _ h => h.1));replace HO_152003 := am_ (Kd.R_mono (Kd.R_keep (IsS73.apart (show IsS73 w _ g141 t201 t202 from (zi73 HI141)) (by (with_reducible repeat (first | apply r1_ | apply r2_ | apply r3_));exact (Kd.R_mono (Kd.Rf (Kd.R_mono HO_152003.out (fun k_ hk => (⟨hk,hk.2⟩ : _ ∧ k_ ≠ gb199)))) (fun _ h_ => h_.1))) (by decide)) hk (fun _ h => h.2)) (fun _ h => h.1));replace BK140 := am_ (KeepBut.blk hk (g' := gb140) (o := .cells #[.int .i64 0,.int .i64 0,.slice none 0 0,.slice none 0 0] 26 (0,0)) (zq BK140) NB140_141.out (by simp));replace BK151 := am_ (KeepBut.blk hk (g' := gb151) (o := .cells #[.int .i64 t142,.int .i64 t152,u152002,u152003] 26 (0,0)) (zq BK151) NB151_141.out (by simp));replace BK199 := am_ (KeepBut.blk hk (g' := gb199) (o := .cells #[.int .i64 t196,.int .i64 t200,.int .i64 0,.int .i64 0,.int .i64 0,.int .i64 0] 84 (0,0)) (zq BK199) NB199_141.out (by simp));replace HB := am_ (hb);replace HI141 := am_ (hi);(try clear hb);(try clear hb2);(try clear hk);(try clear hi);obtain ⟨hcz95_0,hcz95_1,hcz95_2,hcz95_3,hcz95_4,hcz95_5,hfz95_0,hfz95_1,hfz95_2,hfz95_3,hfz95_4,hfz95_5⟩ := zc6 BK199) | ((with_reducible refine gate_callee (f := 46) rfl ?_);refine zgl (some 108) Try.func46 #[.pointer (some ⟨g141,0,none⟩),.int .i64 3] ?_;(with_reducible refine (spec_l05Reader_number.calls kj74 g141 t204 t205 3 t206 t207 t208 w _ ?side1 ?side2 A82.out).mono ?_);(case side1 => exact zi73 HI141);(case side2 => exact zl_ HB);rintro e w96 ⟨rfl,hi,hb,hk⟩;refine ⟨_,rfl,?_⟩;replace HO_152002 := am_ (Kd.S_mono (Kd.S_keep (IsS73.apartS (show IsS73 w _ g141 t204 t205 from (zi73 HI141)) (by (with_reducible repeat (first | apply Kd.S_alloc | apply Kd.S_drewN | apply Kd.S_drew));exact (Kd.S_mono (Kd.S_far (p := ⟨gb199,2,none⟩) (Kd.S_types HO_152002.out BK199.out (by decide)) (fun _ hk => hk.2) (.int .i64 t203)) (fun _ h_ => h_.1))) (by decide)) hk (fun _ h => h.2)) (fun _ h => h.1));replace HO_152003 := am_ (Kd.R_mono (Kd.R_keep (IsS73.apart (show IsS73 w _ g141 t204 t205 from (zi73 HI141)) (by (with_reducible repeat (first | apply r1_ | apply r2_ | apply r3_));exact (Kd.R_mono (Kd.Rf (Kd.R_mono HO_152003.out (fun k_ hk => (⟨hk,hk.2⟩ : _ ∧ k_ ≠ gb199)))) (fun _ h_ => h_.1))) (by decide)) hk (fun _ h => h.2)) (fun _ h => h.1));replace BK140 := am_ (KeepBut.blk hk (g' := gb140) (o := .cells #[.int .i64 0,.int .i64 0,.slice none 0 0,.slice none 0 0] 26 (0,0)) (zq BK140) NB140_141.out (by simp));replace BK151 := am_ (KeepBut.blk hk (g' := gb151) (o := .cells #[.int .i64 t142,.int .i64 t152,u152002,u152003] 26 (0,0)) (zq BK151) NB151_141.out (by simp));replace BK199 := am_ (KeepBut.blk hk (g' := gb199) (o := .cells #[.int .i64 t196,.int .i64 t200,.int .i64 t203,.int .i64 0,.int .i64 0,.int .i64 0] 84 (0,0)) (zq BK199) NB199_141.out (by simp));replace HB := am_ (hb);replace HI141 := am_ (hi);(try clear hb);(try clear hb2);(try clear hk);(try clear hi);obtain ⟨hcz97_0,hcz97_1,hcz97_2,hcz97_3,hcz97_4,hcz97_5,hfz97_0,hfz97_1,hfz97_2,hfz97_3,hfz97_4,hfz97_5⟩ := zc6 BK199) | ((with_reducible refine gate_callee (f := 46) rfl ?_);refine zgl (some 112) Try.func46 #[.pointer (some ⟨g141,0,none⟩),.int .i64 2] ?_;(with_reducible refine (spec_l05Reader_number.calls kj74 g141 t207 t208 2 t209 t210 t211 w _ ?side1 ?side2 A83.out).mono ?_);(case side1 => exact zi73 HI141);(case side2 => exact zl_ HB);rintro e w98 ⟨rfl,hi,hb,hk⟩;refine ⟨_,rfl,?_⟩;replace HO_152002 := am_ (Kd.S_mono (Kd.S_keep (IsS73.apartS (show IsS73 w _ g141 t207 t208 from (zi73 HI141)) (by (with_reducible repeat (first | apply Kd.S_alloc | apply Kd.S_drewN | apply Kd.S_drew));exact (Kd.S_mono (Kd.S_far (p := ⟨gb199,3,none⟩) (Kd.S_types HO_152002.out BK199.out (by decide)) (fun _ hk => hk.2) (.int .i64 t206)) (fun _ h_ => h_.1))) (by decide)) hk (fun _ h => h.2)) (fun _ h => h.1));replace HO_152003 := am_ (Kd.R_mono (Kd.R_keep (IsS73.apart (show IsS73 w _ g141 t207 t208 from (zi73 HI141)) (by (with_reducible repeat (first | apply r1_ | apply r2_ | apply r3_));exact (Kd.R_mono (Kd.Rf (Kd.R_mono HO_152003.out (fun k_ hk => (⟨hk,hk.2⟩ : _ ∧ k_ ≠ gb199)))) (fun _ h_ => h_.1))) (by decide)) hk (fun _ h => h.2)) (fun _ h => h.1));replace BK140 := am_ (KeepBut.blk hk (g' := gb140) (o := .cells #[.int .i64 0,.int .i64 0,.slice none 0 0,.slice none 0 0] 26 (0,0)) (zq BK140) NB140_141.out (by simp));replace BK151 := am_ (KeepBut.blk hk (g' := gb151) (o := .cells #[.int .i64 t142,.int .i64 t152,u152002,u152003] 26 (0,0)) (zq BK151) NB151_141.out (by simp));replace BK199 := am_ (KeepBut.blk hk (g' := gb199) (o := .cells #[.int .i64 t196,.int .i64 t200,.int .i64 t203,.int .i64 t206,.int .i64 0,.int .i64 0] 84 (0,0)) (zq BK199) NB199_141.out (by simp));replace HB := am_ (hb);replace HI141 := am_ (hi);(try clear hb);(try clear hb2);(try clear hk);(try clear hi);obtain ⟨hcz99_0,hcz99_1,hcz99_2,hcz99_3,hcz99_4,hcz99_5,hfz99_0,hfz99_1,hfz99_2,hfz99_3,hfz99_4,hfz99_5⟩ := zc6 BK199) | ((with_reducible refine gate_callee (f := 46) rfl ?_);refine zgl (some 117) Try.func46 #[.pointer (some ⟨g141,0,none⟩),.int .i64 4] ?_;(with_reducible refine (spec_l05Reader_number.calls kj74 g141 t210 t211 4 t212 t213 t214 w _ ?side1 ?side2 A84.out).mono ?_);(case side1 => exact zi73 HI141);(case side2 => exact zl_ HB);rintro e w100 ⟨rfl,hi,hb,hk⟩;refine ⟨_,rfl,?_⟩;replace HO_152002 := am_ (Kd.S_mono (Kd.S_keep (IsS73.apartS (show IsS73 w _ g141 t210 t211 from (zi73 HI141)) (by (with_reducible repeat (first | apply Kd.S_alloc | apply Kd.S_drewN | apply Kd.S_drew));exact (Kd.S_mono (Kd.S_far (p := ⟨gb199,4,none⟩) (Kd.S_types HO_152002.out BK199.out (by decide)) (fun _ hk => hk.2) (.int .i64 (wrap64 (t209 - 1)))) (fun _ h_ => h_.1))) (by decide)) hk (fun _ h => h.2)) (fun _ h => h.1));replace HO_152003 := am_ (Kd.R_mono (Kd.R_keep (IsS73.apart (show IsS73 w _ g141 t210 t211 from (zi73 HI141)) (by (with_reducible repeat (first | apply r1_ | apply r2_ | apply r3_));exact (Kd.R_mono (Kd.Rf (Kd.R_mono HO_152003.out (fun k_ hk => (⟨hk,hk.2⟩ : _ ∧ k_ ≠ gb199)))) (fun _ h_ => h_.1))) (by decide)) hk (fun _ h => h.2)) (fun _ h => h.1));replace BK140 := am_ (KeepBut.blk hk (g' := gb140) (o := .cells #[.int .i64 0,.int .i64 0,.slice none 0 0,.slice none 0 0] 26 (0,0)) (zq BK140) NB140_141.out (by simp));replace BK151 := am_ (KeepBut.blk hk (g' := gb151) (o := .cells #[.int .i64 t142,.int .i64 t152,u152002,u152003] 26 (0,0)) (zq BK151) NB151_141.out (by simp));replace BK199 := am_ (KeepBut.blk hk (g' := gb199) (o := .cells #[.int .i64 t196,.int .i64 t200,.int .i64 t203,.int .i64 t206,.int .i64 (wrap64 (t209 - 1)),.int .i64 0] 84 (0,0)) (zq BK199) NB199_141.out (by simp));replace HB := am_ (hb);replace HI141 := am_ (hi);(try clear hb);(try clear hb2);(try clear hk);(try clear hi);obtain ⟨hcz101_0,hcz101_1,hcz101_2,hcz101_3,hcz101_4,hcz101_5,hfz101_0,hfz101_1,hfz101_2,hfz101_3,hfz101_4,hfz101_5⟩ := zc6 BK199;have hnb102 := NB151_140.out;have hnc102 := NB140_151.out;have hnb103 := NB151_141.out;have hnc103 := NB141_151.out;obtain ⟨hcz104_0,hcz104_1,hcz104_2,hcz104_3,hfz104_0,hfz104_1,hfz104_2,hfz104_3⟩ := zc4 BK151) | ((with_reducible refine gate_builtin (b := .append) (xs := #[.tmp 121,.tmp 123]) rfl ?_);at_builtin;refine Kd.R_append k84 (w0 := w) w.heap.size rfl (.tmp 121) (.tmp 123) 24 84 (.agg #[(.int .i64 0),(.int .i64 0),(.int .i64 0),(.int .i64 0),(.int .i64 0),(.int .i64 0)]) 48 rfl Try.underlying24 info84 rfl (by decide) (by omega) u152003 x152003_3 (⟨t196,t200,(⟨t203,t206,wrap64 (t209 - 1),t212⟩ : S82)⟩ : S84) [.int .i64 t196,.int .i64 t200,.int .i64 t203,.int .i64 t206,.int .i64 (wrap64 (t209 - 1)),.int .i64 t212] (fun k_ => k_ ≠ gb199) (fun _ => False) rfl (by first | (go_simp;done) | (go_simp;rfl)) ?aP (fun _ hk => hk.elim) ?aF ?aO ?aB ?aS ?aL ?_;(case aP => exact k84_mkM _ _ _ (⟨t196,t200,(⟨t203,t206,wrap64 (t209 - 1),t212⟩ : S82)⟩ : S84));(case aB => exact (zl_ HB));(case aF => exact (fun k_ hk => Kd.freshB (g := gb199) (o := .cells #[.int .i64 t196,.int .i64 t200,.int .i64 t203,.int .i64 t206,.int .i64 (wrap64 (t209 - 1)),.int .i64 t212] 84 (0,0)) (zq BK199) k_ hk));(case aO => exact (by (with_reducible repeat (first | apply r1_ | apply r2_ | apply r3_));exact Kd.R_mono (Kd.Rf (Kd.R_mono HO_152003.out (fun k_ hk => (⟨hk,hk.2⟩ : _ ∧ k_ ≠ gb199)))) (fun _ hk => hk.1.2)));(case aS => exact (below_size (zl_ HB)));(case aL => have := LMc85.out;omega);intro v216 w105 ho hb hg hat;rw [← Ny215.out] at ho;replace HO_152002 := am_ (Kd.S_over' (by (with_reducible repeat (first | apply Kd.S_alloc | apply Kd.S_drewN | apply Kd.S_drew));exact (Kd.S_mono (Kd.S_far (p := ⟨gb199,5,none⟩) (Kd.S_types HO_152002.out BK199.out (by decide)) (fun _ hk => hk.2) (.int .i64 t212)) (fun _ h_ => h_.1))) (Kd.R_typed (by (with_reducible repeat (first | apply r1_ | apply r2_ | apply r3_));exact (Kd.R_mono (Kd.Rf (Kd.R_mono HO_152003.out (fun k_ hk => (⟨hk,hk.2⟩ : _ ∧ k_ ≠ gb199)))) (fun _ h_ => h_.1)))) (by decide) hg);replace BK140 := am_ (blk_grown (g := gb140) (o := .cells #[.int .i64 0,.int .i64 0,.slice none 0 0,.slice none 0 0] 26 (0,0)) (zq BK140) hg (Kd.R_ne HO_152003.out BK140.out (by decide)));replace BK151 := am_ (blk_grown (g := gb151) (o := .cells #[.int .i64 t142,.int .i64 t152,u152002,u152003] 26 (0,0)) (zq BK151) hg (Kd.R_ne HO_152003.out BK151.out (by decide)));replace HI141 := am_ (IsS73.grown (IsS73.far HI141.out (p := ⟨gb199,5,none⟩) (NB141_199.out) _) hg (IsS73.own_ne HI141.out HO_152003.out (by decide)));replace HB := am_ (hb);have HO217 := am_ (ho);clear HO_152003;clear ho hb hg hat;obtain ⟨Ao106,co106,eo106⟩ := Kd.R_slice HO217.out;subst eo106;obtain ⟨hcz107_0,hcz107_1,hcz107_2,hcz107_3,hfz107_0,hfz107_1,hfz107_2,hfz107_3⟩ := zc4 BK151))
            go_roundg kj74
            case measure => have := HK1.out;have := HJ20.out;have := HK3.out;have := HJ74.out;omega
            case rel => exact ⟨(wrap64 (x11_3 - 1)),(t213),(t214),(y215),(.slice Ao106 y215.length co106),(by first | rfl | (simp;done) | (simp [*];done)),H',⟨by have := HK1.out;have := HJ20.out;have := HK3.out;have := HJ74.out;omega⟩,⟨by (with_reducible repeat (first | apply Kd.S_alloc | apply Kd.S_drewN | apply Kd.S_drew));exact Kd.S_mono (Kd.S_far (p := ⟨gb151,3,none⟩) (Kd.S_types HO_152002.out BK151.out (by decide)) (fun _ hk => hk.2) (.slice Ao106 y215.length co106)) (fun _ hk => trivial)⟩,⟨by (with_reducible repeat (first | apply r1_ | apply r2_ | apply r3_));exact Kd.R_mono (zrf (Kd.R_types HO217.out BK151.out (by decide))) (fun _ hk => trivial)⟩,⟨zq BK140⟩,⟨zq BK151⟩,⟨(zi73 HI141)⟩,⟨zl_ HB⟩⟩
           ·rw [if_neg c85] at H
            exact absurd H (by simp)
          ·replace c78 := Bool.eq_false_iff.mpr c78
           subst c78
           have H1 : (if x142001_3 = true then (some (t142,t152,x152002_1,x152003_3,false)) else (if x142000_3.toList = ([] : List UInt8) then ((spec_TableOK.f kj74 t142 t152 x152002_1 x152003_3).bind fun t195 => (some (t142,t152,x152002_1,x152003_3,t195))) else (some (t142,t152,x152002_1,x152003_3,false)))) = some (r1,r2,r3,r4,r5) := by rw [if_neg (show ¬ (false = true) by decide)] at H;exact H
           clear H
           have H := H1
           clear H1
           by_cases c108 : x142001_3 = true
           ·subst c108
            have H1 : (some (t142,t152,x152002_1,x152003_3,false)) = some (r1,r2,r3,r4,r5) := by rw [if_pos rfl] at H;exact H
            clear H
            have H := H1
            clear H1
            simp only [Option.some.injEq,Prod.mk.injEq] at H
            obtain ⟨rfl,rfl,rfl,rfl,rfl⟩ := H
            try go_wp2
            replace HO_152002 := am_ (Kd.S_drew HO_152002.out)
            replace HO_152003 := am_ (Kd.R_drew HO_152003.out)
            replace BK140 := am_ (blk_drew BK140.out)
            replace BK151 := am_ (blk_drew BK151.out)
            replace HI141 := am_ (IsS73.drew HI141.out)
            replace HB := am_ (below_drew1 HB.out)
            obtain ⟨HGz110,hgz110⟩ := HI141.out
            have hcz110_0 := cellS73_0 HGz110
            have hcz110_1 := cellS73_1 HGz110
            have hfz110_0 := blk_frozen HGz110 0
            have hfz110_1 := blk_frozen HGz110 1
            clear HGz110 hgz110
            obtain ⟨Ao113,co113,eo113⟩ := Kd.S_slice HO_152002.out
            (first | subst eo113 | (injection eo113 with f1_ f2_ f3_;have f4_ := f1_.symm;have f5_ := f3_.symm;clear f1_ f2_ f3_;subst f4_;subst f5_))
            obtain ⟨Ao115,co115,eo115⟩ := Kd.R_slice HO_152003.out
            (first | subst eo115 | (injection eo115 with f1_ f2_ f3_;have f4_ := f1_.symm;have f5_ := f3_.symm;clear f1_ f2_ f3_;subst f4_;subst f5_))
            refine start_ (n := 19) (S := fun w' => w'.cell? ⟨gb151,0,none⟩ = some (.int .i64 t142) ∧ w'.cell? ⟨gb151,1,none⟩ = some (.int .i64 t152) ∧ w'.cell? ⟨gb151,2,none⟩ = some (.slice Ao113 x152002_1.length co113) ∧ w'.cell? ⟨gb151,3,none⟩ = some (.slice Ao115 x152003_3.length co115) ∧ w'.cell? ⟨g141,0,none⟩ = some (.string x142000_3) ∧ w'.cell? ⟨g141,1,none⟩ = some (.bool true)) (ds := []) #[false,false,false,false,false,false,false,false,false,false,false,false,false,false,false,false,false,false,false] (by kernel_rfl) rfl rfl ⟨(blk_cell BK151.out 0).trans rfl,(blk_cell BK151.out 1).trans rfl,(blk_cell BK151.out 2).trans rfl,(blk_cell BK151.out 3).trans rfl,hcz110_0,hcz110_1⟩ (fun hHeld => ?_);refine with_tabW spec_l05Read.tab28 spec_l05Read.bits28 (fun HT_ HW_ => ?_)
            generalize wc.drew = w109 at HO_152002 HO_152003 BK140 BK151 HI141 HB hHeld ⊢
            refine zpu 1 (N := some 127) HT_ ?_
            refine zpu 2 (N := some 128) HT_ ?_
            refine zpu 3 (N := some 129) HT_ ?_
            refine ztk 0 (N := some 126) HT_ HW_ hHeld ?_
            refine ztk 4 (N := some 130) HT_ HW_ hHeld ?_
            refine zpu 5 (N := some 131) HT_ ?_
            refine zpu 6 (N := some 132) HT_ ?_
            refine zpx 7 (N := some 133) HT_ ?_
            refine zpx 8 (N := some 134) HT_ ?_
            refine zpx 9 (N := some 135) HT_ ?_
            refine zpx 10 (N := some 136) HT_ ?_
            refine zpx 11 (N := some 137) HT_ ?_
            refine zpu 12 (N := some 138) HT_ ?_
            refine zpu 13 (N := some 139) HT_ ?_
            refine zpx 14 (N := some 140) HT_ ?_
            refine zpx 15 (N := some 141) HT_ ?_
            refine zpu 16 (N := some 142) HT_ ?_
            refine zon 17 (N := none) HT_ (fun K hK => ?_)
            have hs111 : w109.cell? ⟨gb140,0,none⟩ = some (.int .i64 0) := (blk_cell BK140.out 0).trans rfl
            have hfs111 := blk_frozen BK140.out 0
            have hns111_1 := NB151_140.out
            have hms111_1 := NB140_151.out
            have hs112 : w109.cell? ⟨gb140,1,none⟩ = some (.int .i64 0) := (blk_cell BK140.out 1).trans rfl
            have hfs112 := blk_frozen BK140.out 1
            have hns112_1 := NB151_140.out
            have hms112_1 := NB140_151.out
            have hs114 : w109.cell? ⟨gb140,2,none⟩ = some (.slice none 0 0) := (blk_cell BK140.out 2).trans rfl
            have hfs114 := blk_frozen BK140.out 2
            have hns114_1 := NB151_140.out
            have hms114_1 := NB140_151.out
            have hs116 : w109.cell? ⟨gb140,3,none⟩ = some (.slice none 0 0) := (blk_cell BK140.out 3).trans rfl
            have hfs116 := blk_frozen BK140.out 3
            have hns116_1 := NB151_140.out
            have hms116_1 := NB140_151.out
            refine skip_ (w1 := ?_) (by rfl) rfl ?_ ?_
            rotate_left
            ·go_simp
             rfl
            refine hK.out _ _ ⟨((cell_far (p := ⟨gb140,_,none⟩) NB151_140.out _).trans (((cell_far (p := ⟨gb140,_,none⟩) NB151_140.out _).trans (((cell_far (p := ⟨gb140,_,none⟩) NB151_140.out _).trans (((cell_far (p := ⟨gb140,_,none⟩) NB151_140.out _).trans (hHeld.1)))))))),((cell_far (p := ⟨gb140,_,none⟩) NB151_140.out _).trans (((cell_far (p := ⟨gb140,_,none⟩) NB151_140.out _).trans (((cell_far (p := ⟨gb140,_,none⟩) NB151_140.out _).trans (((cell_far (p := ⟨gb140,_,none⟩) NB151_140.out _).trans (hHeld.2.1)))))))),((cell_far (p := ⟨gb140,_,none⟩) NB151_140.out _).trans (((cell_far (p := ⟨gb140,_,none⟩) NB151_140.out _).trans (((cell_far (p := ⟨gb140,_,none⟩) NB151_140.out _).trans (((cell_far (p := ⟨gb140,_,none⟩) NB151_140.out _).trans (hHeld.2.2.1)))))))),((cell_far (p := ⟨gb140,_,none⟩) NB151_140.out _).trans (((cell_far (p := ⟨gb140,_,none⟩) NB151_140.out _).trans (((cell_far (p := ⟨gb140,_,none⟩) NB151_140.out _).trans (((cell_far (p := ⟨gb140,_,none⟩) NB151_140.out _).trans (hHeld.2.2.2.1)))))))),((cell_far (p := ⟨gb140,_,none⟩) NB141_140.out _).trans (((cell_far (p := ⟨gb140,_,none⟩) NB141_140.out _).trans (((cell_far (p := ⟨gb140,_,none⟩) NB141_140.out _).trans (((cell_far (p := ⟨gb140,_,none⟩) NB141_140.out _).trans (hHeld.2.2.2.2.1)))))))),((cell_far (p := ⟨gb140,_,none⟩) NB141_140.out _).trans (((cell_far (p := ⟨gb140,_,none⟩) NB141_140.out _).trans (((cell_far (p := ⟨gb140,_,none⟩) NB141_140.out _).trans (((cell_far (p := ⟨gb140,_,none⟩) NB141_140.out _).trans (hHeld.2.2.2.2.2))))))))⟩ (fun hHeld => ?_)
            clear hK K
            refine zpu 18 (N := some 3) HT_ ?_
            refine done_ (done_of HT_.out (by kernel_rfl)) ?_
            try go_wp2
            refine bodyPost_ret (results_ct rfl _ _ gb140 26 #[.int .i64 t142,.int .i64 t152,.slice Ao113 x152002_1.length co113,.slice Ao115 x152003_3.length co115] (0,0) _ rfl (zq BK140) Try.underlying26 rfl (by kernel_rfl)) rfl ?_
            exact ⟨_,_,zt_,by (with_reducible repeat (first | apply Kd.S_alloc | apply Kd.S_drewN | apply Kd.S_drew));exact Kd.S_mono (Kd.S_far (p := ⟨gb140,3,none⟩) (Kd.S_far (p := ⟨gb140,2,none⟩) (Kd.S_far (p := ⟨gb140,1,none⟩) (Kd.S_far (p := ⟨gb140,0,none⟩) (Kd.S_types HO_152002.out BK140.out (by decide)) (fun _ hk => hk.2) (.int .i64 t142)) (fun _ hk => hk.2) (.int .i64 t152)) (fun _ hk => hk.2) (.slice Ao113 x152002_1.length co113)) (fun _ hk => hk.2) (.slice Ao115 x152003_3.length co115)) (fun _ hk => trivial),by (with_reducible repeat (first | apply r1_ | apply r2_ | apply r3_));exact Kd.R_mono (zrf (Kd.R_types HO_152003.out BK140.out (by decide))) (fun _ hk => trivial),zl_ HB⟩
           ·replace c108 := Bool.eq_false_iff.mpr c108
            subst c108
            have H1 : (if x142000_3.toList = ([] : List UInt8) then ((spec_TableOK.f kj74 t142 t152 x152002_1 x152003_3).bind fun t195 => (some (t142,t152,x152002_1,x152003_3,t195))) else (some (t142,t152,x152002_1,x152003_3,false))) = some (r1,r2,r3,r4,r5) := by rw [if_neg (show ¬ (false = true) by decide)] at H;exact H
            clear H
            have H := H1
            clear H1
            by_cases c117 : x142000_3.toList = ([] : List UInt8)
            ·rw [if_pos c117] at H
             have c117b0 : (x142000_3.toList == ([] : List UInt8)) = true := beq_iff_eq.mpr c117
             have c117b1 : (x142000_3.toList != ([] : List UInt8)) = false := bne_eq_false_iff_eq.mpr c117
             (try have c117e0 := c117b0;simp only [e3_,e4_] at c117e0)
             (try have c117e1 := c117b1;simp only [e3_,e4_] at c117e1)
             clear c117
             replace H := Option.bind_eq_some_iff.mp H
             obtain ⟨t195,A1180,H⟩ := H
             try dsimp only at H
             have A118 := am_ A1180
             clear A1180
             simp only [Option.some.injEq,Prod.mk.injEq] at H
             obtain ⟨rfl,rfl,rfl,rfl,rfl⟩ := H
             try go_wp2
             replace HO_152002 := am_ (Kd.S_drew HO_152002.out)
             replace HO_152003 := am_ (Kd.R_drew HO_152003.out)
             replace BK140 := am_ (blk_drew BK140.out)
             replace BK151 := am_ (blk_drew BK151.out)
             replace HI141 := am_ (IsS73.drew HI141.out)
             replace HB := am_ (below_drew1 HB.out)
             obtain ⟨HGz120,hgz120⟩ := HI141.out
             have hcz120_0 := cellS73_0 HGz120
             have hcz120_1 := cellS73_1 HGz120
             have hfz120_0 := blk_frozen HGz120 0
             have hfz120_1 := blk_frozen HGz120 1
             clear HGz120 hgz120
             obtain ⟨Ao121,co121,eo121⟩ := Kd.S_slice HO_152002.out
             (first | subst eo121 | (injection eo121 with f1_ f2_ f3_;have f4_ := f1_.symm;have f5_ := f3_.symm;clear f1_ f2_ f3_;subst f4_;subst f5_))
             obtain ⟨Ao122,co122,eo122⟩ := Kd.R_slice HO_152003.out
             (first | subst eo122 | (injection eo122 with f1_ f2_ f3_;have f4_ := f1_.symm;have f5_ := f3_.symm;clear f1_ f2_ f3_;subst f4_;subst f5_))
             refine start_ (n := 19) (S := fun w' => w'.cell? ⟨gb151,0,none⟩ = some (.int .i64 t142) ∧ w'.cell? ⟨gb151,1,none⟩ = some (.int .i64 t152) ∧ w'.cell? ⟨gb151,2,none⟩ = some (.slice Ao121 x152002_1.length co121) ∧ w'.cell? ⟨gb151,3,none⟩ = some (.slice Ao122 x152003_3.length co122) ∧ w'.cell? ⟨g141,0,none⟩ = some (.string x142000_3) ∧ w'.cell? ⟨g141,1,none⟩ = some (.bool false)) (ds := []) #[false,false,false,false,false,false,false,false,false,false,false,false,false,false,false,false,false,false,false] (by kernel_rfl) rfl rfl ⟨(blk_cell BK151.out 0).trans rfl,(blk_cell BK151.out 1).trans rfl,(blk_cell BK151.out 2).trans rfl,(blk_cell BK151.out 3).trans rfl,hcz120_0,hcz120_1⟩ (fun hHeld => ?_);refine with_tabW spec_l05Read.tab28 spec_l05Read.bits28 (fun HT_ HW_ => ?_)
             generalize wc.drew = w119 at HO_152002 HO_152003 BK140 BK151 HI141 HB hHeld ⊢
             refine zpu 1 (N := some 127) HT_ ?_
             refine zpu 2 (N := some 128) HT_ ?_
             refine zpu 3 (N := some 129) HT_ ?_
             refine ztk 0 (N := some 126) HT_ HW_ hHeld ?_
             refine ztk 4 (N := some 130) HT_ HW_ hHeld ?_
             refine zpu 5 (N := some 131) HT_ ?_
             refine zpu 6 (N := some 132) HT_ ?_
             refine zpu 7 (N := some 133) HT_ ?_
             refine zpu 8 (N := some 134) HT_ ?_
             refine zpu 9 (N := some 135) HT_ ?_
             refine ztk 10 (N := some 136) HT_ HW_ hHeld ?_
             refine zpu 11 (N := some 137) HT_ ?_
             refine zpu 12 (N := some 138) HT_ ?_
             refine zpu 13 (N := some 139) HT_ ?_
             refine ztk 14 (N := some 140) HT_ HW_ hHeld ?_
             refine zon 15 (N := some 141) HT_ (fun K hK => ?_)
             refine zgo Try.func48 #[.agg #[.int .i64 t142,.int .i64 t152,.slice Ao121 x152002_1.length co121,.slice Ao122 x152003_3.length co122]] ?_
             with_reducible refine (spec_TableOK.calls kj74 t142 t152 _ _ x152002_1 _ _ x152003_3 t195 _ ?side1 ?side2 ?side3 ?side4 A118.out).mono ?_
             (case side1 => repeat (first | exact (Kd.S_reads' HO_152002.out).2.2 | (with_reducible refine Kd.C_alloc ?_ _) | (with_reducible refine Kd.C_drewN ?_ _) | (with_reducible refine Kd.C_drew ?_)))
             (case side2 => exact (Kd.S_reads' HO_152002.out).2.1)
             (case side3 => repeat (first | exact (Kd.R_reads' HO_152003.out).2.2 | (with_reducible refine Kd.C_alloc ?_ _) | (with_reducible refine Kd.C_drewN ?_ _) | (with_reducible refine Kd.C_drew ?_)))
             (case side4 => exact (Kd.R_reads' HO_152003.out).2.1)
             rintro e w123 ⟨rfl,hb⟩
             refine ⟨_,rfl,?_⟩
             replace HO_152002 := am_ (Kd.S_below (by (with_reducible repeat (first | apply Kd.S_alloc | apply Kd.S_drewN | apply Kd.S_drew));exact HO_152002.out) hb)
             replace HO_152003 := zrb HO_152003 hb
             replace BK140 := zb BK140 hb
             replace BK151 := zb BK151 hb
             replace HI141 := am_ (IsS73.below (zi73 HI141) hb)
             replace HB := zs_ HB hb
             (try clear hb)
             (try clear hb2)
             (try clear hk)
             (try clear hi)
             refine hK.out _ _ ⟨(blk_cell BK151.out 0).trans rfl,(blk_cell BK151.out 1).trans rfl,(blk_cell BK151.out 2).trans rfl,(blk_cell BK151.out 3).trans rfl,cellS73_0 HI141.out.1,cellS73_1 HI141.out.1⟩ (fun hHeld => ?_)
             clear hK K
             refine norm_ (a' := ?_) ?_ ?_
             rotate_left
             ·show Act.put _ (some 141) _ = _
              simp only [Act.put,p1_,p2_,p3_,i64_w,i32_w]
              rfl
             refine zpu 16 (N := some 142) HT_ ?_
             refine zon 17 (N := none) HT_ (fun K hK => ?_)
             have hs124 : w123.cell? ⟨gb140,0,none⟩ = some (.int .i64 0) := (blk_cell BK140.out 0).trans rfl
             have hfs124 := blk_frozen BK140.out 0
             have hns124_1 := NB151_140.out
             have hms124_1 := NB140_151.out
             have hs125 : w123.cell? ⟨gb140,1,none⟩ = some (.int .i64 0) := (blk_cell BK140.out 1).trans rfl
             have hfs125 := blk_frozen BK140.out 1
             have hns125_1 := NB151_140.out
             have hms125_1 := NB140_151.out
             have hs126 : w123.cell? ⟨gb140,2,none⟩ = some (.slice none 0 0) := (blk_cell BK140.out 2).trans rfl
             have hfs126 := blk_frozen BK140.out 2
             have hns126_1 := NB151_140.out
             have hms126_1 := NB140_151.out
             have hs127 : w123.cell? ⟨gb140,3,none⟩ = some (.slice none 0 0) := (blk_cell BK140.out 3).trans rfl
             have hfs127 := blk_frozen BK140.out 3
             have hns127_1 := NB151_140.out
             have hms127_1 := NB140_151.out
             refine skip_ (w1 := ?_) (by rfl) rfl ?_ ?_
             rotate_left
             ·go_simp
              rfl
             refine hK.out _ _ ⟨((cell_far (p := ⟨gb140,_,none⟩) NB151_140.out _).trans (((cell_far (p := ⟨gb140,_,none⟩) NB151_140.out _).trans (((cell_far (p := ⟨gb140,_,none⟩) NB151_140.out _).trans (((cell_far (p := ⟨gb140,_,none⟩) NB151_140.out _).trans (hHeld.1)))))))),((cell_far (p := ⟨gb140,_,none⟩) NB151_140.out _).trans (((cell_far (p := ⟨gb140,_,none⟩) NB151_140.out _).trans (((cell_far (p := ⟨gb140,_,none⟩) NB151_140.out _).trans (((cell_far (p := ⟨gb140,_,none⟩) NB151_140.out _).trans (hHeld.2.1)))))))),((cell_far (p := ⟨gb140,_,none⟩) NB151_140.out _).trans (((cell_far (p := ⟨gb140,_,none⟩) NB151_140.out _).trans (((cell_far (p := ⟨gb140,_,none⟩) NB151_140.out _).trans (((cell_far (p := ⟨gb140,_,none⟩) NB151_140.out _).trans (hHeld.2.2.1)))))))),((cell_far (p := ⟨gb140,_,none⟩) NB151_140.out _).trans (((cell_far (p := ⟨gb140,_,none⟩) NB151_140.out _).trans (((cell_far (p := ⟨gb140,_,none⟩) NB151_140.out _).trans (((cell_far (p := ⟨gb140,_,none⟩) NB151_140.out _).trans (hHeld.2.2.2.1)))))))),((cell_far (p := ⟨gb140,_,none⟩) NB141_140.out _).trans (((cell_far (p := ⟨gb140,_,none⟩) NB141_140.out _).trans (((cell_far (p := ⟨gb140,_,none⟩) NB141_140.out _).trans (((cell_far (p := ⟨gb140,_,none⟩) NB141_140.out _).trans (hHeld.2.2.2.2.1)))))))),((cell_far (p := ⟨gb140,_,none⟩) NB141_140.out _).trans (((cell_far (p := ⟨gb140,_,none⟩) NB141_140.out _).trans (((cell_far (p := ⟨gb140,_,none⟩) NB141_140.out _).trans (((cell_far (p := ⟨gb140,_,none⟩) NB141_140.out _).trans (hHeld.2.2.2.2.2))))))))⟩ (fun hHeld => ?_)
             clear hK K
             refine zpu 18 (N := some 3) HT_ ?_
             refine done_ (done_of HT_.out (by kernel_rfl)) ?_
             try go_wp2
             refine bodyPost_ret (results_ct rfl _ _ gb140 26 #[.int .i64 t142,.int .i64 t152,.slice Ao121 x152002_1.length co121,.slice Ao122 x152003_3.length co122] (0,0) _ rfl (zq BK140) Try.underlying26 rfl (by kernel_rfl)) rfl ?_
             exact ⟨_,_,zt_,by (with_reducible repeat (first | apply Kd.S_alloc | apply Kd.S_drewN | apply Kd.S_drew));exact Kd.S_mono (Kd.S_far (p := ⟨gb140,3,none⟩) (Kd.S_far (p := ⟨gb140,2,none⟩) (Kd.S_far (p := ⟨gb140,1,none⟩) (Kd.S_far (p := ⟨gb140,0,none⟩) (Kd.S_types HO_152002.out BK140.out (by decide)) (fun _ hk => hk.2) (.int .i64 t142)) (fun _ hk => hk.2) (.int .i64 t152)) (fun _ hk => hk.2) (.slice Ao121 x152002_1.length co121)) (fun _ hk => hk.2) (.slice Ao122 x152003_3.length co122)) (fun _ hk => trivial),by (with_reducible repeat (first | apply r1_ | apply r2_ | apply r3_));exact Kd.R_mono (zrf (Kd.R_types HO_152003.out BK140.out (by decide))) (fun _ hk => trivial),zl_ HB⟩
            ·rw [if_neg c117] at H
             have c117b0 : (x142000_3.toList == ([] : List UInt8)) = false := beq_eq_false_iff_ne.mpr c117
             have c117b1 : (x142000_3.toList != ([] : List UInt8)) = true := bne_iff_ne.mpr c117
             (try have c117e0 := c117b0;simp only [e3_,e4_] at c117e0)
             (try have c117e1 := c117b1;simp only [e3_,e4_] at c117e1)
             simp only [Option.some.injEq,Prod.mk.injEq] at H
             obtain ⟨rfl,rfl,rfl,rfl,rfl⟩ := H
             try go_wp2
             replace HO_152002 := am_ (Kd.S_drew HO_152002.out)
             replace HO_152003 := am_ (Kd.R_drew HO_152003.out)
             replace BK140 := am_ (blk_drew BK140.out)
             replace BK151 := am_ (blk_drew BK151.out)
             replace HI141 := am_ (IsS73.drew HI141.out)
             replace HB := am_ (below_drew1 HB.out)
             obtain ⟨HGz129,hgz129⟩ := HI141.out
             have hcz129_0 := cellS73_0 HGz129
             have hcz129_1 := cellS73_1 HGz129
             have hfz129_0 := blk_frozen HGz129 0
             have hfz129_1 := blk_frozen HGz129 1
             clear HGz129 hgz129
             obtain ⟨Ao132,co132,eo132⟩ := Kd.S_slice HO_152002.out
             (first | subst eo132 | (injection eo132 with f1_ f2_ f3_;have f4_ := f1_.symm;have f5_ := f3_.symm;clear f1_ f2_ f3_;subst f4_;subst f5_))
             obtain ⟨Ao134,co134,eo134⟩ := Kd.R_slice HO_152003.out
             (first | subst eo134 | (injection eo134 with f1_ f2_ f3_;have f4_ := f1_.symm;have f5_ := f3_.symm;clear f1_ f2_ f3_;subst f4_;subst f5_))
             refine start_ (n := 19) (S := fun w' => w'.cell? ⟨gb151,0,none⟩ = some (.int .i64 t142) ∧ w'.cell? ⟨gb151,1,none⟩ = some (.int .i64 t152) ∧ w'.cell? ⟨gb151,2,none⟩ = some (.slice Ao132 x152002_1.length co132) ∧ w'.cell? ⟨gb151,3,none⟩ = some (.slice Ao134 x152003_3.length co134) ∧ w'.cell? ⟨g141,0,none⟩ = some (.string x142000_3) ∧ w'.cell? ⟨g141,1,none⟩ = some (.bool false)) (ds := []) #[false,false,false,false,false,false,false,false,false,false,false,false,false,false,false,false,false,false,false] (by kernel_rfl) rfl rfl ⟨(blk_cell BK151.out 0).trans rfl,(blk_cell BK151.out 1).trans rfl,(blk_cell BK151.out 2).trans rfl,(blk_cell BK151.out 3).trans rfl,hcz129_0,hcz129_1⟩ (fun hHeld => ?_);refine with_tabW spec_l05Read.tab28 spec_l05Read.bits28 (fun HT_ HW_ => ?_)
             generalize wc.drew = w128 at HO_152002 HO_152003 BK140 BK151 HI141 HB hHeld ⊢
             refine zpu 1 (N := some 127) HT_ ?_
             refine zpu 2 (N := some 128) HT_ ?_
             refine zpu 3 (N := some 129) HT_ ?_
             refine ztk 0 (N := some 126) HT_ HW_ hHeld ?_
             refine ztk 4 (N := some 130) HT_ HW_ hHeld ?_
             refine zpu 5 (N := some 131) HT_ ?_
             refine zpu 6 (N := some 132) HT_ ?_
             refine zpu 7 (N := some 133) HT_ ?_
             refine zpu 8 (N := some 134) HT_ ?_
             refine zpu 9 (N := some 135) HT_ ?_
             refine ztk 10 (N := some 136) HT_ HW_ hHeld ?_
             refine zpu 11 (N := some 137) HT_ ?_
             refine zpu 12 (N := some 138) HT_ ?_
             refine zpu 13 (N := some 139) HT_ ?_
             refine zpx 14 (N := some 140) HT_ ?_
             refine zpx 15 (N := some 141) HT_ ?_
             refine zpu 16 (N := some 142) HT_ ?_
             refine zon 17 (N := none) HT_ (fun K hK => ?_)
             have hs130 : w128.cell? ⟨gb140,0,none⟩ = some (.int .i64 0) := (blk_cell BK140.out 0).trans rfl
             have hfs130 := blk_frozen BK140.out 0
             have hns130_1 := NB151_140.out
             have hms130_1 := NB140_151.out
             have hs131 : w128.cell? ⟨gb140,1,none⟩ = some (.int .i64 0) := (blk_cell BK140.out 1).trans rfl
             have hfs131 := blk_frozen BK140.out 1
             have hns131_1 := NB151_140.out
             have hms131_1 := NB140_151.out
             have hs133 : w128.cell? ⟨gb140,2,none⟩ = some (.slice none 0 0) := (blk_cell BK140.out 2).trans rfl
             have hfs133 := blk_frozen BK140.out 2
             have hns133_1 := NB151_140.out
             have hms133_1 := NB140_151.out
             have hs135 : w128.cell? ⟨gb140,3,none⟩ = some (.slice none 0 0) := (blk_cell BK140.out 3).trans rfl
             have hfs135 := blk_frozen BK140.out 3
             have hns135_1 := NB151_140.out
             have hms135_1 := NB140_151.out
             refine skip_ (w1 := ?_) (by rfl) rfl ?_ ?_
             rotate_left
             ·go_simp
              rfl
             refine hK.out _ _ ⟨((cell_far (p := ⟨gb140,_,none⟩) NB151_140.out _).trans (((cell_far (p := ⟨gb140,_,none⟩) NB151_140.out _).trans (((cell_far (p := ⟨gb140,_,none⟩) NB151_140.out _).trans (((cell_far (p := ⟨gb140,_,none⟩) NB151_140.out _).trans (hHeld.1)))))))),((cell_far (p := ⟨gb140,_,none⟩) NB151_140.out _).trans (((cell_far (p := ⟨gb140,_,none⟩) NB151_140.out _).trans (((cell_far (p := ⟨gb140,_,none⟩) NB151_140.out _).trans (((cell_far (p := ⟨gb140,_,none⟩) NB151_140.out _).trans (hHeld.2.1)))))))),((cell_far (p := ⟨gb140,_,none⟩) NB151_140.out _).trans (((cell_far (p := ⟨gb140,_,none⟩) NB151_140.out _).trans (((cell_far (p := ⟨gb140,_,none⟩) NB151_140.out _).trans (((cell_far (p := ⟨gb140,_,none⟩) NB151_140.out _).trans (hHeld.2.2.1)))))))),((cell_far (p := ⟨gb140,_,none⟩) NB151_140.out _).trans (((cell_far (p := ⟨gb140,_,none⟩) NB151_140.out _).trans (((cell_far (p := ⟨gb140,_,none⟩) NB151_140.out _).trans (((cell_far (p := ⟨gb140,_,none⟩) NB151_140.out _).trans (hHeld.2.2.2.1)))))))),((cell_far (p := ⟨gb140,_,none⟩) NB141_140.out _).trans (((cell_far (p := ⟨gb140,_,none⟩) NB141_140.out _).trans (((cell_far (p := ⟨gb140,_,none⟩) NB141_140.out _).trans (((cell_far (p := ⟨gb140,_,none⟩) NB141_140.out _).trans (hHeld.2.2.2.2.1)))))))),((cell_far (p := ⟨gb140,_,none⟩) NB141_140.out _).trans (((cell_far (p := ⟨gb140,_,none⟩) NB141_140.out _).trans (((cell_far (p := ⟨gb140,_,none⟩) NB141_140.out _).trans (((cell_far (p := ⟨gb140,_,none⟩) NB141_140.out _).trans (hHeld.2.2.2.2.2))))))))⟩ (fun hHeld => ?_)
             clear hK K
             refine zpu 18 (N := some 3) HT_ ?_
             refine done_ (done_of HT_.out (by kernel_rfl)) ?_
             try go_wp2
             refine bodyPost_ret (results_ct rfl _ _ gb140 26 #[.int .i64 t142,.int .i64 t152,.slice Ao132 x152002_1.length co132,.slice Ao134 x152003_3.length co134] (0,0) _ rfl (zq BK140) Try.underlying26 rfl (by kernel_rfl)) rfl ?_
             exact ⟨_,_,zt_,by (with_reducible repeat (first | apply Kd.S_alloc | apply Kd.S_drewN | apply Kd.S_drew));exact Kd.S_mono (Kd.S_far (p := ⟨gb140,3,none⟩) (Kd.S_far (p := ⟨gb140,2,none⟩) (Kd.S_far (p := ⟨gb140,1,none⟩) (Kd.S_far (p := ⟨gb140,0,none⟩) (Kd.S_types HO_152002.out BK140.out (by decide)) (fun _ hk => hk.2) (.int .i64 t142)) (fun _ hk => hk.2) (.int .i64 t152)) (fun _ hk => hk.2) (.slice Ao132 x152002_1.length co132)) (fun _ hk => hk.2) (.slice Ao134 x152003_3.length co134)) (fun _ hk => trivial),by (with_reducible repeat (first | apply r1_ | apply r2_ | apply r3_));exact Kd.R_mono (zrf (Kd.R_types HO_152003.out BK140.out (by decide))) (fun _ hk => trivial),zl_ HB⟩
set_option maxHeartbeats 8000000 in
set_option maxRecDepth 100000 in
theorem spec_ReadTable.calls (k : Nat) (A0 : Option Addr) (c0 : Nat) (l0 : List Int) (r1 : Int) (r2 : Int) (r3 : List (S78)) (r4 : List (S84)) (r5 : Int) (w : World) (hr0 : Kd.C (Kd.int .u8) w A0 l0.length l0) (hc0 : l0.length ≤ c0) (h : spec_ReadTable.f k l0 = some (r1,r2,r3,r4,r5)) :
  Calls Try.prog 5 #[.slice A0 l0.length c0] w fun e w' => ∃ v2_ v3_ : Value,e = .returned (.tuple #[.agg #[.int .i64 r1,.int .i64 r2,v2_,v3_],.int .i64 r5]) ∧ Kd.S k78 78 w' w.heap.size (fun _ => True) v2_ r3 ∧ Kd.R k84 84 w' w.heap.size (fun _ => True) v3_ r4 ∧ Below w.heap.size w w' := by
 have hu26 := Try.underlying26
 have HR0 := am_ hr0
 have HC0 := am_ hc0
 clear hr0 hc0
 have HB := am_ (Below.refl w.heap.size w)
 have H : (if (l0.length : Int) > 65536 then (some (0,0,([] : List (S78)),([] : List (S84)),2)) else ((spec_l05Read.f k (strOfNums l0)).bind fun bt219 => (if bt219.2.2.2.2 = true then (some (bt219.1,bt219.2.1,bt219.2.2.1,bt219.2.2.2.1,0)) else (some (0,0,([] : List (S78)),([] : List (S84)),3))))) = some (r1,r2,r3,r4,r5) := h
 clear h
 by_cases c2 : (l0.length : Int) > 65536
 ·rw [if_pos c2] at H
  have c2b0 : decide (65536 < (l0.length : Int)) = true := decide_eq_true c2
  have c2b1 : decide (65536 < l0.length) = true := decide_eq_true (by omega)
  clear c2
  simp only [Option.some.injEq,Prod.mk.injEq] at H
  obtain ⟨rfl,rfl,rfl,rfl,rfl⟩ := H
  go_enter Try.func5,Try.ntmps5
  go_wp2_with (first | ((with_reducible refine gate_dst (N := 2) rfl ?_);refine zbx (N := 2) (cs := #[.int .i64 0,.int .i64 0,.slice none 0 0,.slice none 0 0]) (t := 26) ?_;intro gb218 hg w3 hbox hb;have BK218 := am_ (hbox);have GW218 := zw_ HB hg;have GE218 := zw_ HB hg;replace HB := zs_ HB hb;clear hb hbox hg;obtain ⟨hcz4_0,hcz4_1,hcz4_2,hcz4_3,hfz4_0,hfz4_1,hfz4_2,hfz4_3⟩ := zc4 BK218))
  refine bodyPost_ret (results_ct rfl _ _ gb218 26 #[.int .i64 0,.int .i64 0,.slice none 0 0,.slice none 0 0] (0,0) _ rfl (zq BK218) Try.underlying26 rfl (by kernel_rfl)) rfl ?_
  exact ⟨_,_,zt_,by first | exact Kd.S_nil _ _ _ _ _ | exact Kd.N_nil _ _ _ _ _ | exact Kd.V_nil _ _ _ _ _ | exact Kd.Q_nil _ _ _ _ _ | exact Kd.R_nil _ _ _ _ _,by first | exact Kd.R_nil _ _ _ _ _ | exact Kd.N_nil _ _ _ _ _ | exact Kd.V_nil _ _ _ _ _ | exact Kd.Q_nil _ _ _ _ _ | exact Kd.S_nil _ _ _ _ _,zl_ HB⟩
 ·rw [if_neg c2] at H
  have c2b0 : decide (65536 < (l0.length : Int)) = false := decide_eq_false c2
  have c2b1 : decide (65536 < l0.length) = false := decide_eq_false (by omega)
  clear c2
  replace H := Option.bind_eq_some_iff.mp H
  obtain ⟨⟨t219,t220,t221,t224,t227⟩,A50,H⟩ := H
  try dsimp only at H
  have A5 := am_ A50
  clear A50
  by_cases c6 : t227 = true
  ·subst c6
   have H1 : (some (t219,t220,t221,t224,0)) = some (r1,r2,r3,r4,r5) := by rw [if_pos rfl] at H;exact H
   clear H
   have H := H1
   clear H1
   simp only [Option.some.injEq,Prod.mk.injEq] at H
   obtain ⟨rfl,rfl,rfl,rfl,rfl⟩ := H
   go_enter Try.func5,Try.ntmps5
   go_wp2_with (first | ((with_reducible refine gate_dst (N := 2) rfl ?_);refine zbx (N := 2) (cs := #[.int .i64 0,.int .i64 0,.slice none 0 0,.slice none 0 0]) (t := 26) ?_;intro gb218 hg w7 hbox hb;have BK218 := am_ (hbox);have GW218 := zw_ HB hg;have GE218 := zw_ HB hg;replace HB := zs_ HB hb;clear hb hbox hg;have hcv8 := Kd.C_string (P := Try.prog) (A := A0) (c := c0) Try.underlying22 Try.underlying5 Try.underlying9 (Kd.C_below HR0.out HB.out)) | ((with_reducible refine gate_callee (f := 21) rfl ?_);refine zgl (some 13) Try.func21 #[.string (strOfNums l0)] ?_;(with_reducible refine (spec_l05Read.calls k (strOfNums l0) t219 t220 t221 t224 true _ A5.out).mono ?_);rintro e w9 ⟨v222,v225,rfl,ho0,ho1,hb⟩;refine ⟨_,rfl,?_⟩;have HO223 := am_ (Kd.S_lower ho0 (below_size (zl_ HB)));have HO226 := am_ (Kd.R_lower ho1 (below_size (zl_ HB)));replace BK218 := zb BK218 hb;replace HB := zs_ HB hb;(try clear hb);(try clear hb2);(try clear hk);(try clear hi);(try clear ho0);(try clear ho1)) | ((with_reducible refine gate_dst (N := 4) rfl ?_);refine zbx (N := 4) (cs := #[.int .i64 0,.int .i64 0,.slice none 0 0,.slice none 0 0]) (t := 26) ?_;intro gb228 hg w10 hbox hb;replace HO223 := am_ (Kd.S_below (by (with_reducible repeat (first | apply Kd.S_alloc | apply Kd.S_drewN | apply Kd.S_drew));exact HO223.out) hb);replace HO226 := zrb HO226 hb;have BK228 := am_ (hbox);have GW228 := zw_ HB hg;have GE228 := zw_ HB hg;replace HB := zs_ HB hb;have NB218_228 := zl hg BK218;have NB228_218 := zg hg BK218;replace BK218 := zb BK218 hb;clear hb hbox hg;have hnb11 := NB228_218.out;have hnc11 := NB218_228.out;obtain ⟨hcz12_0,hcz12_1,hcz12_2,hcz12_3,hfz12_0,hfz12_1,hfz12_2,hfz12_3⟩ := zc4 BK228;obtain ⟨Ao13,co13,eo13⟩ := Kd.S_slice HO223.out;subst eo13;obtain ⟨Ao14,co14,eo14⟩ := Kd.R_slice HO226.out;subst eo14;obtain ⟨hcz15_0,hcz15_1,hcz15_2,hcz15_3,hfz15_0,hfz15_1,hfz15_2,hfz15_3⟩ := zc4 BK218))
   refine bodyPost_ret (results_ct rfl _ _ gb218 26 #[.int .i64 t219,.int .i64 t220,.slice Ao13 t221.length co13,.slice Ao14 t224.length co14] (0,0) _ rfl (zq BK218) Try.underlying26 rfl (by kernel_rfl)) rfl ?_
   exact ⟨_,_,zt_,by (with_reducible repeat (first | apply Kd.S_alloc | apply Kd.S_drewN | apply Kd.S_drew));exact Kd.S_mono (Kd.S_far (p := ⟨gb218,3,none⟩) (Kd.S_far (p := ⟨gb218,2,none⟩) (Kd.S_far (p := ⟨gb218,1,none⟩) (Kd.S_far (p := ⟨gb218,0,none⟩) (Kd.S_far (p := ⟨gb228,3,none⟩) (Kd.S_far (p := ⟨gb228,2,none⟩) (Kd.S_far (p := ⟨gb228,1,none⟩) (Kd.S_far (p := ⟨gb228,0,none⟩) (Kd.S_types (Kd.S_types HO223.out BK228.out (by decide)) BK218.out (by decide)) (fun _ hk => hk.1.2) (.int .i64 t219)) (fun _ hk => hk.1.2) (.int .i64 t220)) (fun _ hk => hk.1.2) (.slice Ao13 t221.length co13)) (fun _ hk => hk.1.2) (.slice Ao14 t224.length co14)) (fun _ hk => hk.2) (.int .i64 t219)) (fun _ hk => hk.2) (.int .i64 t220)) (fun _ hk => hk.2) (.slice Ao13 t221.length co13)) (fun _ hk => hk.2) (.slice Ao14 t224.length co14)) (fun _ hk => trivial),by (with_reducible repeat (first | apply r1_ | apply r2_ | apply r3_));exact Kd.R_mono (Kd.Rf (Kd.Rf (Kd.Rf (Kd.Rf (Kd.R_far (p := ⟨gb228,3,none⟩) (Kd.R_far (p := ⟨gb228,2,none⟩) (Kd.R_far (p := ⟨gb228,1,none⟩) (Kd.R_far (p := ⟨gb228,0,none⟩) (Kd.R_types (Kd.R_types HO226.out BK228.out (by decide)) BK218.out (by decide)) (fun _ hk => hk.1.2) (.int .i64 t219)) (fun _ hk => hk.1.2) (.int .i64 t220)) (fun _ hk => hk.1.2) (.slice Ao13 t221.length co13)) (fun _ hk => hk.1.2) (.slice Ao14 t224.length co14)))))) (fun _ hk => trivial),zl_ HB⟩
  ·replace c6 := Bool.eq_false_iff.mpr c6
   subst c6
   have H1 : (some (0,0,([] : List (S78)),([] : List (S84)),3)) = some (r1,r2,r3,r4,r5) := by rw [if_neg (show ¬ (false = true) by decide)] at H;exact H
   clear H
   have H := H1
   clear H1
   simp only [Option.some.injEq,Prod.mk.injEq] at H
   obtain ⟨rfl,rfl,rfl,rfl,rfl⟩ := H
   go_enter Try.func5,Try.ntmps5
   go_wp2_with (first | ((with_reducible refine gate_dst (N := 2) rfl ?_);refine zbx (N := 2) (cs := #[.int .i64 0,.int .i64 0,.slice none 0 0,.slice none 0 0]) (t := 26) ?_;intro gb218 hg w16 hbox hb;have BK218 := am_ (hbox);have GW218 := zw_ HB hg;have GE218 := zw_ HB hg;replace HB := zs_ HB hb;clear hb hbox hg;have hcv17 := Kd.C_string (P := Try.prog) (A := A0) (c := c0) Try.underlying22 Try.underlying5 Try.underlying9 (Kd.C_below HR0.out HB.out)) | ((with_reducible refine gate_callee (f := 21) rfl ?_);refine zgl (some 13) Try.func21 #[.string (strOfNums l0)] ?_;(with_reducible refine (spec_l05Read.calls k (strOfNums l0) t219 t220 t221 t224 false _ A5.out).mono ?_);rintro e w18 ⟨v222,v225,rfl,ho0,ho1,hb⟩;refine ⟨_,rfl,?_⟩;have HO223 := am_ (Kd.S_lower ho0 (below_size (zl_ HB)));have HO226 := am_ (Kd.R_lower ho1 (below_size (zl_ HB)));replace BK218 := zb BK218 hb;replace HB := zs_ HB hb;(try clear hb);(try clear hb2);(try clear hk);(try clear hi);(try clear ho0);(try clear ho1)) | ((with_reducible refine gate_dst (N := 4) rfl ?_);refine zbx (N := 4) (cs := #[.int .i64 0,.int .i64 0,.slice none 0 0,.slice none 0 0]) (t := 26) ?_;intro gb228 hg w19 hbox hb;replace HO223 := am_ (Kd.S_below (by (with_reducible repeat (first | apply Kd.S_alloc | apply Kd.S_drewN | apply Kd.S_drew));exact HO223.out) hb);replace HO226 := zrb HO226 hb;have BK228 := am_ (hbox);have GW228 := zw_ HB hg;have GE228 := zw_ HB hg;replace HB := zs_ HB hb;have NB218_228 := zl hg BK218;have NB228_218 := zg hg BK218;replace BK218 := zb BK218 hb;clear hb hbox hg;have hnb20 := NB228_218.out;have hnc20 := NB218_228.out;obtain ⟨hcz21_0,hcz21_1,hcz21_2,hcz21_3,hfz21_0,hfz21_1,hfz21_2,hfz21_3⟩ := zc4 BK228;obtain ⟨Ao22,co22,eo22⟩ := Kd.S_slice HO223.out;subst eo22;obtain ⟨Ao23,co23,eo23⟩ := Kd.R_slice HO226.out;subst eo23;obtain ⟨hcz24_0,hcz24_1,hcz24_2,hcz24_3,hfz24_0,hfz24_1,hfz24_2,hfz24_3⟩ := zc4 BK218))
   refine bodyPost_ret (results_ct rfl _ _ gb218 26 #[.int .i64 0,.int .i64 0,.slice none 0 0,.slice none 0 0] (0,0) _ rfl (zq BK218) Try.underlying26 rfl (by kernel_rfl)) rfl ?_
   exact ⟨_,_,zt_,by first | exact Kd.S_nil _ _ _ _ _ | exact Kd.N_nil _ _ _ _ _ | exact Kd.V_nil _ _ _ _ _ | exact Kd.Q_nil _ _ _ _ _ | exact Kd.R_nil _ _ _ _ _,by first | exact Kd.R_nil _ _ _ _ _ | exact Kd.N_nil _ _ _ _ _ | exact Kd.V_nil _ _ _ _ _ | exact Kd.Q_nil _ _ _ _ _ | exact Kd.S_nil _ _ _ _ _,zl_ HB⟩
set_option maxHeartbeats 8000000 in
set_option maxRecDepth 100000 in
theorem laws_FnExactReadTable.calls (k : Nat) (A0 : Option Addr) (c0 : Nat) (l0 : List Int) (r : Bool) (w : World) (hr0 : Kd.C (Kd.int .u8) w A0 l0.length l0) (hc0 : l0.length ≤ c0) (h : laws_FnExactReadTable.f k l0 = some r) :
  Calls Try.prog 3 #[.slice A0 l0.length c0] w fun e w' => e = .returned (.bool r) ∧ Below w.heap.size w w' := by
 have hu26 := Try.underlying26
 have HR0 := am_ hr0
 have HC0 := am_ hc0
 clear hr0 hc0
 have HB := am_ (Below.refl w.heap.size w)
 have H : (if (l0.length : Int) > 1048576 then (some true) else ((laws_toByteS.f k l0).bind fun t418 => ((spec_ReadTable.f k t418).bind fun bt421 => ((laws_toByteS.f k l0).bind fun t431 => ((impl_ReadTable.f k t431).bind fun bt434 => ((laws_eqTable.f k bt434.1 bt434.2.1 bt434.2.2.1 bt434.2.2.2.1 bt421.1 bt421.2.1 bt421.2.2.1 bt421.2.2.2.1).bind fun t444 => (if t444 = true then (laws_FnExactReadTable.j0 k l0 bt421.2.2.2.2 t431 bt434.2.2.2.2 (bt434.2.2.2.2 != bt421.2.2.2.2) bt421.1 bt421.2.1 bt421.2.2.1 bt421.2.2.2.1 bt434.1 bt434.2.1 bt434.2.2.1 bt434.2.2.2.1) else (laws_FnExactReadTable.j0 k l0 bt421.2.2.2.2 t431 bt434.2.2.2.2 true bt421.1 bt421.2.1 bt421.2.2.1 bt421.2.2.2.1 bt434.1 bt434.2.1 bt434.2.2.1 bt434.2.2.2.1)))))))) = some r := h
 clear h
 by_cases c2 : (l0.length : Int) > 1048576
 ·rw [if_pos c2] at H
  have c2b0 : decide (1048576 < (l0.length : Int)) = true := decide_eq_true c2
  have c2b1 : decide (1048576 < l0.length) = true := decide_eq_true (by omega)
  clear c2
  obtain rfl := Option.some.inj H
  go_enter Try.func3,Try.ntmps3
  go_wp2
  go_ret
  exact ⟨zt_,zl_ HB⟩
 ·rw [if_neg c2] at H
  have c2b0 : decide (1048576 < (l0.length : Int)) = false := decide_eq_false c2
  have c2b1 : decide (1048576 < l0.length) = false := decide_eq_false (by omega)
  clear c2
  replace H := Option.bind_eq_some_iff.mp H
  obtain ⟨t418,A30,H⟩ := H
  try dsimp only at H
  have A3 := am_ A30
  clear A30
  replace H := Option.bind_eq_some_iff.mp H
  obtain ⟨⟨t421,t422,t423,t426,t429⟩,A40,H⟩ := H
  try dsimp only at H
  have A4 := am_ A40
  clear A40
  replace H := Option.bind_eq_some_iff.mp H
  obtain ⟨t431,A50,H⟩ := H
  try dsimp only at H
  have A5 := am_ A50
  clear A50
  replace H := Option.bind_eq_some_iff.mp H
  obtain ⟨⟨t434,t435,t436,t439,t442⟩,A60,H⟩ := H
  try dsimp only at H
  have A6 := am_ A60
  clear A60
  have HC7 := am_ H
  clear H
  go_enter Try.func3,Try.ntmps3
  go_upto_region 6 with (first | ((with_reducible refine gate_callee (f := 6) rfl ?_);refine zgl (some 18) Try.func6 #[.slice A0 l0.length c0] ?_;(with_reducible refine (laws_toByteS.calls k _ _ l0 t418 _ ?side1 ?side2 A3.out).mono ?_);(case side1 => repeat (first | exact HR0.out | (with_reducible refine Kd.C_alloc ?_ _) | (with_reducible refine Kd.C_drewN ?_ _) | (with_reducible refine Kd.C_drew ?_)));(case side2 => exact HC0.out);rintro e w8 ⟨v419,rfl,ho0,hb⟩;refine ⟨_,rfl,?_⟩;have HO420 := am_ (Kd.R_lower ho0 (below_size (zl_ HB)));replace HB := zs_ HB hb;(try clear hb);(try clear hb2);(try clear hk);(try clear hi);(try clear ho0);obtain ⟨Ao9,co9,eo9⟩ := Kd.R_slice HO420.out;subst eo9) | ((with_reducible refine gate_callee (f := 5) rfl ?_);refine zgl (some 19) Try.func5 #[.slice Ao9 t418.length co9] ?_;(with_reducible refine (spec_ReadTable.calls k _ _ t418 t421 t422 t423 t426 t429 _ ?side1 ?side2 A4.out).mono ?_);(case side1 => repeat (first | exact (Kd.R_reads' HO420.out).2.2 | (with_reducible refine Kd.C_alloc ?_ _) | (with_reducible refine Kd.C_drewN ?_ _) | (with_reducible refine Kd.C_drew ?_)));(case side2 => exact (Kd.R_reads' HO420.out).2.1);rintro e w10 ⟨v424,v427,rfl,ho0,ho1,hb⟩;refine ⟨_,rfl,?_⟩;replace HO420 := zrb HO420 hb;have HO425 := am_ (Kd.S_lower ho0 (below_size (zl_ HB)));have HO428 := am_ (Kd.R_lower ho1 (below_size (zl_ HB)));replace HB := zs_ HB hb;(try clear hb);(try clear hb2);(try clear hk);(try clear hi);(try clear ho0);(try clear ho1)) | ((with_reducible refine gate_dst (N := 3) rfl ?_);refine zbx (N := 3) (cs := #[.int .i64 0,.int .i64 0,.slice none 0 0,.slice none 0 0]) (t := 26) ?_;intro gb430 hg w11 hbox hb;replace HO420 := zrb HO420 hb;replace HO425 := am_ (S_elderN (by (with_reducible repeat (first | apply Kd.S_alloc | apply Kd.S_drewN | apply Kd.S_drew));exact HO425.out) (Nat.le_of_eq hg.symm) hb);replace HO428 := zrb HO428 hb;have BK430 := am_ (hbox);have GW430 := zw_ HB hg;have GE430 := zw_ HB hg;replace HB := zs_ HB hb;clear hb hbox hg;obtain ⟨hcz12_0,hcz12_1,hcz12_2,hcz12_3,hfz12_0,hfz12_1,hfz12_2,hfz12_3⟩ := zc4 BK430;obtain ⟨Ao13,co13,eo13⟩ := Kd.S_slice HO425.out;subst eo13;obtain ⟨Ao14,co14,eo14⟩ := Kd.R_slice HO428.out;subst eo14) | ((with_reducible refine gate_callee (f := 6) rfl ?_);refine zgl (some 23) Try.func6 #[.slice A0 l0.length c0] ?_;(with_reducible refine (laws_toByteS.calls k _ _ l0 t431 _ ?side1 ?side2 A5.out).mono ?_);(case side1 => exact Kd.C_below HR0.out (zl_ HB));(case side2 => exact HC0.out);rintro e w15 ⟨v432,rfl,ho0,hb⟩;refine ⟨_,rfl,?_⟩;replace HO425 := am_ (Kd.S_below (by (with_reducible repeat (first | apply Kd.S_alloc | apply Kd.S_drewN | apply Kd.S_drew));exact (Kd.S_mono (Kd.S_far (p := ⟨gb430,3,none⟩) (Kd.S_far (p := ⟨gb430,2,none⟩) (Kd.S_far (p := ⟨gb430,1,none⟩) (Kd.S_far (p := ⟨gb430,0,none⟩) (Kd.S_types HO425.out BK430.out (by decide)) (fun _ hk => hk.2) (.int .i64 t421)) (fun _ hk => hk.2) (.int .i64 t422)) (fun _ hk => hk.2) (.slice Ao13 t423.length co13)) (fun _ hk => hk.2) (.slice Ao14 t426.length co14)) (fun _ h_ => h_.1))) hb);replace HO428 := am_ (Kd.R_below (by (with_reducible repeat (first | apply r1_ | apply r2_ | apply r3_));exact (Kd.R_mono (zrf (Kd.R_types HO428.out BK430.out (by decide))) (fun _ h_ => h_.1))) hb);have HO433 := am_ (Kd.R_lower (Kd.R_new' ho0 (Kd.R_lt (by (with_reducible repeat (first | apply r1_ | apply r2_ | apply r3_));exact (Kd.R_mono (zrf (Kd.R_types HO420.out BK430.out (by decide))) (fun _ h_ => h_.1))))) (below_size (zl_ HB)));replace BK430 := am_ (blk_below (g := gb430) (o := .cells #[.int .i64 t421,.int .i64 t422,.slice Ao13 t423.length co13,.slice Ao14 t426.length co14] 26 (0,0)) (zq BK430) hb);replace HB := zs_ HB hb;(try clear hb);(try clear hb2);(try clear hk);(try clear hi);(try clear ho0);obtain ⟨Ao16,co16,eo16⟩ := Kd.R_slice HO433.out;subst eo16) | ((with_reducible refine gate_callee (f := 7) rfl ?_);refine zgl (some 26) Try.func7 #[.slice Ao16 t431.length co16] ?_;(with_reducible refine (impl_ReadTable.calls k _ _ t431 t434 t435 t436 t439 t442 _ ?side1 ?side2 A6.out).mono ?_);(case side1 => repeat (first | exact (Kd.R_reads' HO433.out).2.2 | (with_reducible refine Kd.C_alloc ?_ _) | (with_reducible refine Kd.C_drewN ?_ _) | (with_reducible refine Kd.C_drew ?_)));(case side2 => exact (Kd.R_reads' HO433.out).2.1);rintro e w17 ⟨v437,v440,rfl,ho0,ho1,hb⟩;refine ⟨_,rfl,?_⟩;replace HO433 := zrb HO433 hb;have HO438 := am_ (Kd.S_lower (S_newer ho0 (blk_lt BK430.out)) (below_size (zl_ HB)));replace HO425 := am_ (Kd.S_below (by (with_reducible repeat (first | apply Kd.S_alloc | apply Kd.S_drewN | apply Kd.S_drew));exact HO425.out) hb);have HO441 := am_ (Kd.R_lower (Kd.R_new' ho1 (Kd.R_lt (zr HO428))) (below_size (zl_ HB)));replace HO428 := am_ (Kd.R_elder' (zr HO428) (Kd.R_base ho1) hb);replace BK430 := zb BK430 hb;replace HB := zs_ HB hb;(try clear hb);(try clear hb2);(try clear hk);(try clear hi);(try clear ho0);(try clear ho1)) | ((with_reducible refine gate_dst (N := 6) rfl ?_);refine zbx (N := 6) (cs := #[.int .i64 0,.int .i64 0,.slice none 0 0,.slice none 0 0]) (t := 26) ?_;intro gb443 hg w18 hbox hb;replace HO425 := am_ (Kd.S_below (by (with_reducible repeat (first | apply Kd.S_alloc | apply Kd.S_drewN | apply Kd.S_drew));exact HO425.out) hb);replace HO428 := zrb HO428 hb;replace HO433 := zrb HO433 hb;replace HO438 := am_ (Kd.S_below (by (with_reducible repeat (first | apply Kd.S_alloc | apply Kd.S_drewN | apply Kd.S_drew));exact HO438.out) hb);replace HO441 := zrb HO441 hb;have BK443 := am_ (hbox);have GW443 := zw_ HB hg;have GE443 := zw_ HB hg;replace HB := zs_ HB hb;have NB430_443 := zl hg BK430;have NB443_430 := zg hg BK430;replace BK430 := zb BK430 hb;clear hb hbox hg;have hnb19 := NB443_430.out;have hnc19 := NB430_443.out;obtain ⟨hcz20_0,hcz20_1,hcz20_2,hcz20_3,hfz20_0,hfz20_1,hfz20_2,hfz20_3⟩ := zc4 BK443;obtain ⟨Ao21,co21,eo21⟩ := Kd.S_slice HO438.out;subst eo21;obtain ⟨Ao22,co22,eo22⟩ := Kd.R_slice HO441.out;subst eo22))
  (try simp only [Act.put,p1_,p2_,p3_])
  go_cut [37] (fun v37 wc => ∃ (kq : Nat) (x37_6 : Bool),v37 = .bool x37_6 ∧ Aside0 (laws_FnExactReadTable.j0 kq l0 t429 t431 t442 x37_6 t421 t422 t423 t426 t434 t435 t436 t439 = some r) ∧ Aside0 (kq ≤ k) ∧ Aside0 (Kd.R (Kd.int .u8) 5 wc w.heap.size (fun _ => True) (.slice Ao16 t431.length co16) t431) ∧ Aside0 (Kd.S k78 78 wc w.heap.size (fun k_ => k_ < gb430) (.slice Ao13 t423.length co13) t423) ∧ Aside0 (Kd.R k84 84 wc w.heap.size (fun k_ => some k_ ≠ ((.slice Ao22 t439.length co22) : Value).ownBlock) (.slice Ao14 t426.length co14) t426) ∧ Aside0 (Kd.S k78 78 wc w.heap.size (fun k_ => gb430 < k_) (.slice Ao21 t436.length co21) t436) ∧ Aside0 (Kd.R k84 84 wc w.heap.size (fun k_ => some k_ ≠ ((.slice Ao14 t426.length co14) : Value).ownBlock) (.slice Ao22 t439.length co22) t439) ∧ Aside0 (wc.heap[gb430]? = some (.cells #[.int .i64 t421,.int .i64 t422,(.slice Ao13 t423.length co13),(.slice Ao14 t426.length co14)] 26 (0,0))) ∧ Aside0 (wc.heap[gb443]? = some (.cells #[.int .i64 t434,.int .i64 t435,(.slice Ao21 t436.length co21),(.slice Ao22 t439.length co22)] 26 (0,0))) ∧ Aside0 (Below w.heap.size w wc))
  case first =>
   have H := HC7.out
   clear HC7
   replace H := Option.bind_eq_some_iff.mp H
   obtain ⟨t444,A230,H⟩ := H
   try dsimp only at H
   have A23 := am_ A230
   clear A230
   by_cases c24 : t444 = true
   ·subst c24
    have H1 : (laws_FnExactReadTable.j0 k l0 t429 t431 t442 (t442 != t429) t421 t422 t423 t426 t434 t435 t436 t439) = some r := by rw [if_pos rfl] at H;exact H
    clear H
    have H := H1
    clear H1
    have H' := am_ H
    clear H
    have hnb25 := NB443_430.out
    have hnc25 := NB430_443.out
    obtain ⟨hcz26_0,hcz26_1,hcz26_2,hcz26_3,hfz26_0,hfz26_1,hfz26_2,hfz26_3⟩ := zc4 BK443
    obtain ⟨hcz27_0,hcz27_1,hcz27_2,hcz27_3,hfz27_0,hfz27_1,hfz27_2,hfz27_3⟩ := zc4 BK430
    go_wp2_with (first | ((with_reducible refine gate_callee (f := 8) rfl ?_);refine zgl (some 31) Try.func8 #[.agg #[.int .i64 t434,.int .i64 t435,.slice Ao21 t436.length co21,.slice Ao22 t439.length co22],.agg #[.int .i64 t421,.int .i64 t422,.slice Ao13 t423.length co13,.slice Ao14 t426.length co14]] ?_;(with_reducible refine (laws_eqTable.calls k t434 t435 _ _ t436 _ _ t439 t421 t422 _ _ t423 _ _ t426 true _ ?side1 ?side2 ?side3 ?side4 ?side5 ?side6 ?side7 ?side8 A23.out).mono ?_);(case side1 => refine (Kd.S_reads' (e := 78) (base := w.heap.size) (ok := fun k_ => gb430 < k_) (n := t436.length) (c := co21) ?_).2.2;exact (by (with_reducible repeat (first | apply Kd.S_alloc | apply Kd.S_drewN | apply Kd.S_drew));exact (Kd.S_mono (Kd.S_far (p := ⟨gb443,3,none⟩) (Kd.S_far (p := ⟨gb443,2,none⟩) (Kd.S_far (p := ⟨gb443,1,none⟩) (Kd.S_far (p := ⟨gb443,0,none⟩) (Kd.S_types HO438.out BK443.out (by decide)) (fun _ hk => hk.2) (.int .i64 t434)) (fun _ hk => hk.2) (.int .i64 t435)) (fun _ hk => hk.2) (.slice Ao21 t436.length co21)) (fun _ hk => hk.2) (.slice Ao22 t439.length co22)) (fun _ h_ => h_.1))));(case side2 => exact (Kd.S_reads' HO438.out).2.1);(case side3 => refine (Kd.R_reads' (e := 84) (base := w.heap.size) (ok := fun k_ => (True ∧ some k_ ≠ (.slice Ao14 t426.length co14 : Value).ownBlock)) (n := t439.length) (c := co22) ?_).2.2;exact (by (with_reducible repeat (first | apply r1_ | apply r2_ | apply r3_));exact (Kd.R_mono (zrf (Kd.R_types HO441.out BK443.out (by decide))) (fun _ h_ => h_.1))));(case side4 => exact (Kd.R_reads' HO441.out).2.1);(case side5 => refine (Kd.S_reads' (e := 78) (base := w.heap.size) (ok := fun k_ => k_ < gb430) (n := t423.length) (c := co13) ?_).2.2;exact (by (with_reducible repeat (first | apply Kd.S_alloc | apply Kd.S_drewN | apply Kd.S_drew));exact (Kd.S_mono (Kd.S_far (p := ⟨gb443,3,none⟩) (Kd.S_far (p := ⟨gb443,2,none⟩) (Kd.S_far (p := ⟨gb443,1,none⟩) (Kd.S_far (p := ⟨gb443,0,none⟩) (Kd.S_types HO425.out BK443.out (by decide)) (fun _ hk => hk.2) (.int .i64 t434)) (fun _ hk => hk.2) (.int .i64 t435)) (fun _ hk => hk.2) (.slice Ao21 t436.length co21)) (fun _ hk => hk.2) (.slice Ao22 t439.length co22)) (fun _ h_ => h_.1))));(case side6 => exact (Kd.S_reads' HO425.out).2.1);(case side7 => refine (Kd.R_reads' (e := 84) (base := w.heap.size) (ok := fun k_ => (True ∧ some k_ ≠ (.slice Ao22 t439.length co22 : Value).ownBlock)) (n := t426.length) (c := co14) ?_).2.2;exact (by (with_reducible repeat (first | apply r1_ | apply r2_ | apply r3_));exact (Kd.R_mono (zrf (Kd.R_types HO428.out BK443.out (by decide))) (fun _ h_ => h_.1))));(case side8 => exact (Kd.R_reads' HO428.out).2.1);rintro e w28 ⟨rfl,hb⟩;refine ⟨_,rfl,?_⟩;replace HO425 := am_ (Kd.S_below (by (with_reducible repeat (first | apply Kd.S_alloc | apply Kd.S_drewN | apply Kd.S_drew));exact (Kd.S_mono (Kd.S_far (p := ⟨gb443,3,none⟩) (Kd.S_far (p := ⟨gb443,2,none⟩) (Kd.S_far (p := ⟨gb443,1,none⟩) (Kd.S_far (p := ⟨gb443,0,none⟩) (Kd.S_types HO425.out BK443.out (by decide)) (fun _ hk => hk.2) (.int .i64 t434)) (fun _ hk => hk.2) (.int .i64 t435)) (fun _ hk => hk.2) (.slice Ao21 t436.length co21)) (fun _ hk => hk.2) (.slice Ao22 t439.length co22)) (fun _ h_ => h_.1))) hb);replace HO428 := am_ (Kd.R_below (by (with_reducible repeat (first | apply r1_ | apply r2_ | apply r3_));exact (Kd.R_mono (zrf (Kd.R_types HO428.out BK443.out (by decide))) (fun _ h_ => h_.1))) hb);replace HO433 := am_ (Kd.R_below (by (with_reducible repeat (first | apply r1_ | apply r2_ | apply r3_));exact (Kd.R_mono (zrf (Kd.R_types HO433.out BK443.out (by decide))) (fun _ h_ => h_.1))) hb);replace HO438 := am_ (Kd.S_below (by (with_reducible repeat (first | apply Kd.S_alloc | apply Kd.S_drewN | apply Kd.S_drew));exact (Kd.S_mono (Kd.S_far (p := ⟨gb443,3,none⟩) (Kd.S_far (p := ⟨gb443,2,none⟩) (Kd.S_far (p := ⟨gb443,1,none⟩) (Kd.S_far (p := ⟨gb443,0,none⟩) (Kd.S_types HO438.out BK443.out (by decide)) (fun _ hk => hk.2) (.int .i64 t434)) (fun _ hk => hk.2) (.int .i64 t435)) (fun _ hk => hk.2) (.slice Ao21 t436.length co21)) (fun _ hk => hk.2) (.slice Ao22 t439.length co22)) (fun _ h_ => h_.1))) hb);replace HO441 := am_ (Kd.R_below (by (with_reducible repeat (first | apply r1_ | apply r2_ | apply r3_));exact (Kd.R_mono (zrf (Kd.R_types HO441.out BK443.out (by decide))) (fun _ h_ => h_.1))) hb);replace BK430 := am_ (blk_below (g := gb430) (o := .cells #[.int .i64 t421,.int .i64 t422,.slice Ao13 t423.length co13,.slice Ao14 t426.length co14] 26 (0,0)) (zq BK430) hb);replace BK443 := am_ (blk_below (g := gb443) (o := .cells #[.int .i64 t434,.int .i64 t435,.slice Ao21 t436.length co21,.slice Ao22 t439.length co22] 26 (0,0)) (zq BK443) hb);replace HB := zs_ HB hb;(try clear hb);(try clear hb2);(try clear hk);(try clear hi)))
    go_meet
    case rel => exact ⟨_,((t442 != t429)),(by first | rfl | (simp;done) | (simp [*];done)),H',⟨by first | omega | exact Nat.le_refl _⟩,⟨by (with_reducible repeat (first | apply r1_ | apply r2_ | apply r3_));exact Kd.R_mono HO433.out (fun _ hk => trivial)⟩,⟨by (with_reducible repeat (first | apply Kd.S_alloc | apply Kd.S_drewN | apply Kd.S_drew));exact Kd.S_mono HO425.out (fun _ hk => by first | exact hk | exact hk.2)⟩,⟨by (with_reducible repeat (first | apply r1_ | apply r2_ | apply r3_));exact Kd.R_mono HO428.out (fun _ hk => hk.2)⟩,⟨by (with_reducible repeat (first | apply Kd.S_alloc | apply Kd.S_drewN | apply Kd.S_drew));exact Kd.S_mono HO438.out (fun _ hk => by first | exact hk | exact hk.2)⟩,⟨by (with_reducible repeat (first | apply r1_ | apply r2_ | apply r3_));exact Kd.R_mono HO441.out (fun _ hk => hk.2)⟩,⟨by (with_reducible repeat (first | apply k1_ | apply k2_ | apply k3_));exact BK430.out⟩,⟨by (with_reducible repeat (first | apply k1_ | apply k2_ | apply k3_));exact BK443.out⟩,⟨zl_ HB⟩⟩
   ·replace c24 := Bool.eq_false_iff.mpr c24
    subst c24
    have H1 : (laws_FnExactReadTable.j0 k l0 t429 t431 t442 true t421 t422 t423 t426 t434 t435 t436 t439) = some r := by rw [if_neg (show ¬ (false = true) by decide)] at H;exact H
    clear H
    have H := H1
    clear H1
    have H' := am_ H
    clear H
    have hnb29 := NB443_430.out
    have hnc29 := NB430_443.out
    obtain ⟨hcz30_0,hcz30_1,hcz30_2,hcz30_3,hfz30_0,hfz30_1,hfz30_2,hfz30_3⟩ := zc4 BK443
    obtain ⟨hcz31_0,hcz31_1,hcz31_2,hcz31_3,hfz31_0,hfz31_1,hfz31_2,hfz31_3⟩ := zc4 BK430
    go_wp2_with (first | ((with_reducible refine gate_callee (f := 8) rfl ?_);refine zgl (some 31) Try.func8 #[.agg #[.int .i64 t434,.int .i64 t435,.slice Ao21 t436.length co21,.slice Ao22 t439.length co22],.agg #[.int .i64 t421,.int .i64 t422,.slice Ao13 t423.length co13,.slice Ao14 t426.length co14]] ?_;(with_reducible refine (laws_eqTable.calls k t434 t435 _ _ t436 _ _ t439 t421 t422 _ _ t423 _ _ t426 false _ ?side1 ?side2 ?side3 ?side4 ?side5 ?side6 ?side7 ?side8 A23.out).mono ?_);(case side1 => refine (Kd.S_reads' (e := 78) (base := w.heap.size) (ok := fun k_ => gb430 < k_) (n := t436.length) (c := co21) ?_).2.2;exact (by (with_reducible repeat (first | apply Kd.S_alloc | apply Kd.S_drewN | apply Kd.S_drew));exact (Kd.S_mono (Kd.S_far (p := ⟨gb443,3,none⟩) (Kd.S_far (p := ⟨gb443,2,none⟩) (Kd.S_far (p := ⟨gb443,1,none⟩) (Kd.S_far (p := ⟨gb443,0,none⟩) (Kd.S_types HO438.out BK443.out (by decide)) (fun _ hk => hk.2) (.int .i64 t434)) (fun _ hk => hk.2) (.int .i64 t435)) (fun _ hk => hk.2) (.slice Ao21 t436.length co21)) (fun _ hk => hk.2) (.slice Ao22 t439.length co22)) (fun _ h_ => h_.1))));(case side2 => exact (Kd.S_reads' HO438.out).2.1);(case side3 => refine (Kd.R_reads' (e := 84) (base := w.heap.size) (ok := fun k_ => (True ∧ some k_ ≠ (.slice Ao14 t426.length co14 : Value).ownBlock)) (n := t439.length) (c := co22) ?_).2.2;exact (by (with_reducible repeat (first | apply r1_ | apply r2_ | apply r3_));exact (Kd.R_mono (zrf (Kd.R_types HO441.out BK443.out (by decide))) (fun _ h_ => h_.1))));(case side4 => exact (Kd.R_reads' HO441.out).2.1);(case side5 => refine (Kd.S_reads' (e := 78) (base := w.heap.size) (ok := fun k_ => k_ < gb430) (n := t423.length) (c := co13) ?_).2.2;exact (by (with_reducible repeat (first | apply Kd.S_alloc | apply Kd.S_drewN | apply Kd.S_drew));exact (Kd.S_mono (Kd.S_far (p := ⟨gb443,3,none⟩) (Kd.S_far (p := ⟨gb443,2,none⟩) (Kd.S_far (p := ⟨gb443,1,none⟩) (Kd.S_far (p := ⟨gb443,0,none⟩) (Kd.S_types HO425.out BK443.out (by decide)) (fun _ hk => hk.2) (.int .i64 t434)) (fun _ hk => hk.2) (.int .i64 t435)) (fun _ hk => hk.2) (.slice Ao21 t436.length co21)) (fun _ hk => hk.2) (.slice Ao22 t439.length co22)) (fun _ h_ => h_.1))));(case side6 => exact (Kd.S_reads' HO425.out).2.1);(case side7 => refine (Kd.R_reads' (e := 84) (base := w.heap.size) (ok := fun k_ => (True ∧ some k_ ≠ (.slice Ao22 t439.length co22 : Value).ownBlock)) (n := t426.length) (c := co14) ?_).2.2;exact (by (with_reducible repeat (first | apply r1_ | apply r2_ | apply r3_));exact (Kd.R_mono (zrf (Kd.R_types HO428.out BK443.out (by decide))) (fun _ h_ => h_.1))));(case side8 => exact (Kd.R_reads' HO428.out).2.1);rintro e w32 ⟨rfl,hb⟩;refine ⟨_,rfl,?_⟩;replace HO425 := am_ (Kd.S_below (by (with_reducible repeat (first | apply Kd.S_alloc | apply Kd.S_drewN | apply Kd.S_drew));exact (Kd.S_mono (Kd.S_far (p := ⟨gb443,3,none⟩) (Kd.S_far (p := ⟨gb443,2,none⟩) (Kd.S_far (p := ⟨gb443,1,none⟩) (Kd.S_far (p := ⟨gb443,0,none⟩) (Kd.S_types HO425.out BK443.out (by decide)) (fun _ hk => hk.2) (.int .i64 t434)) (fun _ hk => hk.2) (.int .i64 t435)) (fun _ hk => hk.2) (.slice Ao21 t436.length co21)) (fun _ hk => hk.2) (.slice Ao22 t439.length co22)) (fun _ h_ => h_.1))) hb);replace HO428 := am_ (Kd.R_below (by (with_reducible repeat (first | apply r1_ | apply r2_ | apply r3_));exact (Kd.R_mono (zrf (Kd.R_types HO428.out BK443.out (by decide))) (fun _ h_ => h_.1))) hb);replace HO433 := am_ (Kd.R_below (by (with_reducible repeat (first | apply r1_ | apply r2_ | apply r3_));exact (Kd.R_mono (zrf (Kd.R_types HO433.out BK443.out (by decide))) (fun _ h_ => h_.1))) hb);replace HO438 := am_ (Kd.S_below (by (with_reducible repeat (first | apply Kd.S_alloc | apply Kd.S_drewN | apply Kd.S_drew));exact (Kd.S_mono (Kd.S_far (p := ⟨gb443,3,none⟩) (Kd.S_far (p := ⟨gb443,2,none⟩) (Kd.S_far (p := ⟨gb443,1,none⟩) (Kd.S_far (p := ⟨gb443,0,none⟩) (Kd.S_types HO438.out BK443.out (by decide)) (fun _ hk => hk.2) (.int .i64 t434)) (fun _ hk => hk.2) (.int .i64 t435)) (fun _ hk => hk.2) (.slice Ao21 t436.length co21)) (fun _ hk => hk.2) (.slice Ao22 t439.length co22)) (fun _ h_ => h_.1))) hb);replace HO441 := am_ (Kd.R_below (by (with_reducible repeat (first | apply r1_ | apply r2_ | apply r3_));exact (Kd.R_mono (zrf (Kd.R_types HO441.out BK443.out (by decide))) (fun _ h_ => h_.1))) hb);replace BK430 := am_ (blk_below (g := gb430) (o := .cells #[.int .i64 t421,.int .i64 t422,.slice Ao13 t423.length co13,.slice Ao14 t426.length co14] 26 (0,0)) (zq BK430) hb);replace BK443 := am_ (blk_below (g := gb443) (o := .cells #[.int .i64 t434,.int .i64 t435,.slice Ao21 t436.length co21,.slice Ao22 t439.length co22] 26 (0,0)) (zq BK443) hb);replace HB := zs_ HB hb;(try clear hb);(try clear hb2);(try clear hk);(try clear hi)))
    go_meet
    case rel => exact ⟨_,(true),(by first | rfl | (simp;done) | (simp [*];done)),H',⟨by first | omega | exact Nat.le_refl _⟩,⟨by (with_reducible repeat (first | apply r1_ | apply r2_ | apply r3_));exact Kd.R_mono HO433.out (fun _ hk => trivial)⟩,⟨by (with_reducible repeat (first | apply Kd.S_alloc | apply Kd.S_drewN | apply Kd.S_drew));exact Kd.S_mono HO425.out (fun _ hk => by first | exact hk | exact hk.2)⟩,⟨by (with_reducible repeat (first | apply r1_ | apply r2_ | apply r3_));exact Kd.R_mono HO428.out (fun _ hk => hk.2)⟩,⟨by (with_reducible repeat (first | apply Kd.S_alloc | apply Kd.S_drewN | apply Kd.S_drew));exact Kd.S_mono HO438.out (fun _ hk => by first | exact hk | exact hk.2)⟩,⟨by (with_reducible repeat (first | apply r1_ | apply r2_ | apply r3_));exact Kd.R_mono HO441.out (fun _ hk => hk.2)⟩,⟨by (with_reducible repeat (first | apply k1_ | apply k2_ | apply k3_));exact BK430.out⟩,⟨by (with_reducible repeat (first | apply k1_ | apply k2_ | apply k3_));exact BK443.out⟩,⟨zl_ HB⟩⟩
  case rest =>
   clear HC7
   try clear c1
   try clear c2
   try clear c2b0
   try clear c2b1
   try clear p2
   try clear c3
   try clear c5
   try clear c6
   try clear c7
   try clear c8
   try clear c19
   try clear c24
   try clear c25
   try clear c29
   try clear hcz12_0
   try clear hcz12_1
   try clear hcz12_2
   try clear hcz12_3
   try clear hcz20_0
   try clear hcz20_1
   try clear hcz20_2
   try clear hcz20_3
   try clear hcz26_0
   try clear hcz26_1
   try clear hcz26_2
   try clear hcz26_3
   try clear hcz27_0
   try clear hcz27_1
   try clear hcz27_2
   try clear hcz27_3
   try clear hcz30_0
   try clear hcz30_1
   try clear hcz30_2
   try clear hcz30_3
   try clear hcz31_0
   try clear hcz31_1
   try clear hcz31_2
   try clear hcz31_3
   try clear hfz12_0
   try clear hfz12_1
   try clear hfz12_2
   try clear hfz12_3
   try clear hfz20_0
   try clear hfz20_1
   try clear hfz20_2
   try clear hfz20_3
   try clear hfz26_0
   try clear hfz26_1
   try clear hfz26_2
   try clear hfz26_3
   try clear hfz27_0
   try clear hfz27_1
   try clear hfz27_2
   try clear hfz27_3
   try clear hfz30_0
   try clear hfz30_1
   try clear hfz30_2
   try clear hfz30_3
   try clear hfz31_0
   try clear hfz31_1
   try clear hfz31_2
   try clear hfz31_3
   obtain ⟨kq,x37_6,rfl,HA,HJ6,HO_5,HO_431002,HO_431003,HO_444002,HO_444003,BK430,BK443,HB⟩ := hcut
   cases kq with
   | zero => exact absurd HA.out (by simp [laws_FnExactReadTable.j0])
   | succ kj6 =>
    have H := HA.out
    clear HA
    simp only [laws_FnExactReadTable.j0] at H
    by_cases c33 : x37_6 = true
    ·subst c33
     have H1 : (some false) = some r := by rw [if_pos rfl] at H;exact H
     clear H
     have H := H1
     clear H1
     obtain rfl := Option.some.inj H
     go_wp2
     go_ret
     exact ⟨zt_,zl_ HB⟩
    ·replace c33 := Bool.eq_false_iff.mpr c33
     subst c33
     have H1 : ((laws_toByteS.f kj6 l0).bind fun t445 => ((laws_eqByteS.f kj6 t431 t445).bind fun t448 => (if t448 = true then ((laws_markByteS.f kj6 t431 1).bind fun bt449 => (if bt449.1 < 0 then (laws_FnExactReadTable.j1 kj6 l0 t429 true t421 t422 t423 t426 t434 t435 t436 t439) else ((laws_eqTable.f kj6 t434 t435 t436 t439 t421 t422 t423 t426).bind fun t451 => (if t451 = true then (laws_FnExactReadTable.j1 kj6 l0 t429 (t442 != t429) t421 t422 t423 t426 t434 t435 t436 t439) else (laws_FnExactReadTable.j1 kj6 l0 t429 true t421 t422 t423 t426 t434 t435 t436 t439))))) else (some false)))) = some r := by rw [if_neg (show ¬ (false = true) by decide)] at H;exact H
     clear H
     have H := H1
     clear H1
     replace H := Option.bind_eq_some_iff.mp H
     obtain ⟨t445,A340,H⟩ := H
     try dsimp only at H
     have A34 := am_ A340
     clear A340
     replace H := Option.bind_eq_some_iff.mp H
     obtain ⟨t448,A350,H⟩ := H
     try dsimp only at H
     have A35 := am_ A350
     clear A350
     by_cases c36 : t448 = true
     ·subst c36
      have H1 : ((laws_markByteS.f kj6 t431 1).bind fun bt449 => (if bt449.1 < 0 then (laws_FnExactReadTable.j1 kj6 l0 t429 true t421 t422 t423 t426 t434 t435 t436 t439) else ((laws_eqTable.f kj6 t434 t435 t436 t439 t421 t422 t423 t426).bind fun t451 => (if t451 = true then (laws_FnExactReadTable.j1 kj6 l0 t429 (t442 != t429) t421 t422 t423 t426 t434 t435 t436 t439) else (laws_FnExactReadTable.j1 kj6 l0 t429 true t421 t422 t423 t426 t434 t435 t436 t439))))) = some r := by rw [if_pos rfl] at H;exact H
      clear H
      have H := H1
      clear H1
      replace H := Option.bind_eq_some_iff.mp H
      obtain ⟨⟨t449,t450⟩,A370,H⟩ := H
      try dsimp only at H
      have A37 := am_ A370
      clear A370
      have HC38 := am_ H
      clear H
      go_upto_region 12 with (first | ((with_reducible refine gate_callee (f := 6) rfl ?_);refine zgl (some 40) Try.func6 #[.slice A0 l0.length c0] ?_;(with_reducible refine (laws_toByteS.calls kj6 _ _ l0 t445 _ ?side1 ?side2 A34.out).mono ?_);(case side1 => exact zc_ HR0 HB);(case side2 => exact HC0.out);rintro e w39 ⟨v446,rfl,ho0,hb⟩;refine ⟨_,rfl,?_⟩;replace HO_431002 := am_ (Kd.S_below (by (with_reducible repeat (first | apply Kd.S_alloc | apply Kd.S_drewN | apply Kd.S_drew));exact HO_431002.out) hb);replace HO_431003 := zrb HO_431003 hb;replace HO_444002 := am_ (Kd.S_below (by (with_reducible repeat (first | apply Kd.S_alloc | apply Kd.S_drewN | apply Kd.S_drew));exact HO_444002.out) hb);replace HO_444003 := zrb HO_444003 hb;have HO447 := am_ (Kd.R_lower (Kd.R_new' ho0 (Kd.R_lt (zr HO_5))) (below_size (zl_ HB)));replace HO_5 := am_ (Kd.R_elder' (zr HO_5) (Kd.R_base ho0) hb);replace BK430 := zb BK430 hb;replace BK443 := zb BK443 hb;replace HB := zs_ HB hb;(try clear hb);(try clear hb2);(try clear hk);(try clear hi);(try clear ho0);obtain ⟨Ao40,co40,eo40⟩ := Kd.R_slice HO447.out;subst eo40) | ((with_reducible refine gate_callee (f := 9) rfl ?_);refine zgl (some 41) Try.func9 #[.slice Ao16 t431.length co16,.slice Ao40 t445.length co40] ?_;(with_reducible refine (laws_eqByteS.calls kj6 _ _ t431 _ _ t445 true _ ?side1 ?side2 ?side3 ?side4 A35.out).mono ?_);(case side1 => repeat (first | exact (Kd.R_reads' HO_5.out).2.2 | (with_reducible refine Kd.C_alloc ?_ _) | (with_reducible refine Kd.C_drewN ?_ _) | (with_reducible refine Kd.C_drew ?_)));(case side2 => exact (Kd.R_reads' HO_5.out).2.1);(case side3 => repeat (first | exact (Kd.R_reads' HO447.out).2.2 | (with_reducible refine Kd.C_alloc ?_ _) | (with_reducible refine Kd.C_drewN ?_ _) | (with_reducible refine Kd.C_drew ?_)));(case side4 => exact (Kd.R_reads' HO447.out).2.1);rintro e w' ⟨rfl,⟨nd,rfl⟩⟩;refine ⟨_,rfl,?_⟩) | ((with_reducible refine gate_callee (f := 10) rfl ?_);refine zgl (some 45) Try.func10 #[.slice Ao16 t431.length co16,.int .i64 1] ?_;(with_reducible refine (laws_markByteS.calls kj6 (fun k_ => some k_ = (.slice Ao16 t431.length co16 : Value).ownBlock) (.slice Ao16 t431.length co16) t431 1 t449 t450 w _ ?side1 ?side2 A37.out).mono ?_);(case side1 => exact zl_ HB);(case side2 => exact Kd.R_tight rfl HO_5.out);rintro e w41 ⟨rfl,hy0,hb,hkp⟩;refine ⟨_,rfl,?_⟩;replace HO_431002 := am_ (Kd.S_mono (ok' := fun k_ => k_ < gb430) (Kd.S_keptB ((Kd.S_apart' HO_431002.out (Kd.R_typed HO_5.out) (by decide))) hkp (fun k_ hk_ hs_ => (hk_.2) hs_)) (fun k_ hk_ => hk_.1.1));replace HO_431003 := am_ (Kd.R_mono (ok' := fun k_ => some k_ ≠ (.slice Ao22 t439.length co22 : Value).ownBlock) (Kd.R_keptB ((Kd.R_apart' HO_431003.out (Kd.R_typed HO_5.out) (by decide))) hkp (fun k_ hk_ hs_ => (hk_.2) hs_)) (fun k_ hk_ => hk_.1.1));replace HO_444002 := am_ (Kd.S_mono (ok' := fun k_ => gb430 < k_) (Kd.S_keptB ((Kd.S_apart' HO_444002.out (Kd.R_typed HO_5.out) (by decide))) hkp (fun k_ hk_ hs_ => (hk_.2) hs_)) (fun k_ hk_ => hk_.1.1));replace HO_444003 := am_ (Kd.R_mono (ok' := fun k_ => some k_ ≠ (.slice Ao14 t426.length co14 : Value).ownBlock) (Kd.R_keptB ((Kd.R_apart' HO_444003.out (Kd.R_typed HO_5.out) (by decide))) hkp (fun k_ hk_ hs_ => (hk_.2) hs_)) (fun k_ hk_ => hk_.1.1));replace BK430 := am_ (blk_kept (zk BK430) hkp (fun hs_ => (fun e_ => (Kd.R_ne HO_5.out BK430.out (by decide)) e_) hs_));replace BK443 := am_ (blk_kept (zk BK443) hkp (fun hs_ => (fun e_ => (Kd.R_ne HO_5.out BK443.out (by decide)) e_) hs_));replace HO_5 := am_ (Kd.R_reok rfl hy0 (fun k_ e_ => HO_5.out.1 k_ e_));replace HO447 := am_ (Kd.R_mono (ok' := fun k_ => some k_ ≠ (.slice Ao16 t431.length co16 : Value).ownBlock) (Kd.R_keptB (HO447.out) hkp (fun k_ hk_ hs_ => (hk_.2) hs_)) (fun k_ hk_ => hk_.1.2));replace HB := am_ (hb);(try clear hb);(try clear hkp);(try clear hy0)))
      (try simp only [Act.put,p1_,p2_,p3_])
      go_cut [58] (fun v58 wc => ∃ (kq : Nat) (x58_37 : Bool),v58 = .bool x58_37 ∧ Aside0 (laws_FnExactReadTable.j1 kq l0 t429 x58_37 t421 t422 t423 t426 t434 t435 t436 t439 = some r) ∧ Aside0 (kq ≤ kj6) ∧ Aside0 (Kd.S k78 78 wc w.heap.size (fun k_ => k_ < gb430) (.slice Ao13 t423.length co13) t423) ∧ Aside0 (Kd.R k84 84 wc w.heap.size (fun k_ => some k_ ≠ ((.slice Ao22 t439.length co22) : Value).ownBlock) (.slice Ao14 t426.length co14) t426) ∧ Aside0 (Kd.S k78 78 wc w.heap.size (fun k_ => gb430 < k_) (.slice Ao21 t436.length co21) t436) ∧ Aside0 (Kd.R k84 84 wc w.heap.size (fun k_ => some k_ ≠ ((.slice Ao14 t426.length co14) : Value).ownBlock) (.slice Ao22 t439.length co22) t439) ∧ Aside0 (wc.heap[gb430]? = some (.cells #[.int .i64 t421,.int .i64 t422,(.slice Ao13 t423.length co13),(.slice Ao14 t426.length co14)] 26 (0,0))) ∧ Aside0 (wc.heap[gb443]? = some (.cells #[.int .i64 t434,.int .i64 t435,(.slice Ao21 t436.length co21),(.slice Ao22 t439.length co22)] 26 (0,0))) ∧ Aside0 (Below w.heap.size w wc))
      case first =>
       have H := HC38.out
       clear HC38
       by_cases c42 : t449 < 0
       ·rw [if_pos c42] at H
        have c42b0 : decide (t449 < 0) = true := decide_eq_true c42
        clear c42
        (first | rw [c42b0] | (simp only [i64_w,i32_w];rw [c42b0]) | skip)
        have H' := am_ H
        clear H
        go_wp2
        go_meet
        case rel => exact ⟨_,(true),(by first | rfl | (simp;done) | (simp [*];done)),H',⟨by have := HJ6.out;first | omega | exact Nat.le_refl _⟩,⟨by (with_reducible repeat (first | apply Kd.S_alloc | apply Kd.S_drewN | apply Kd.S_drew));exact HO_431002.out⟩,⟨zr HO_431003⟩,⟨by (with_reducible repeat (first | apply Kd.S_alloc | apply Kd.S_drewN | apply Kd.S_drew));exact HO_444002.out⟩,⟨zr HO_444003⟩,⟨by (with_reducible repeat (first | apply k1_ | apply k2_ | apply k3_));exact BK430.out⟩,⟨by (with_reducible repeat (first | apply k1_ | apply k2_ | apply k3_));exact BK443.out⟩,⟨zl_ HB⟩⟩
       ·rw [if_neg c42] at H
        have c42b0 : decide (t449 < 0) = false := decide_eq_false c42
        clear c42
        (first | rw [c42b0] | (simp only [i64_w,i32_w];rw [c42b0]) | skip)
        replace H := Option.bind_eq_some_iff.mp H
        obtain ⟨t451,A430,H⟩ := H
        try dsimp only at H
        have A43 := am_ A430
        clear A430
        by_cases c44 : t451 = true
        ·subst c44
         have H1 : (laws_FnExactReadTable.j1 kj6 l0 t429 (t442 != t429) t421 t422 t423 t426 t434 t435 t436 t439) = some r := by rw [if_pos rfl] at H;exact H
         clear H
         have H := H1
         clear H1
         have H' := am_ H
         clear H
         have hnb45 := NB443_430.out
         have hnc45 := NB430_443.out
         obtain ⟨hcz46_0,hcz46_1,hcz46_2,hcz46_3,hfz46_0,hfz46_1,hfz46_2,hfz46_3⟩ := zc4 BK443
         obtain ⟨hcz47_0,hcz47_1,hcz47_2,hcz47_3,hfz47_0,hfz47_1,hfz47_2,hfz47_3⟩ := zc4 BK430
         go_wp2_with (first | (go_at_call 8;(with_reducible refine (laws_eqTable.calls kj6 t434 t435 _ _ t436 _ _ t439 t421 t422 _ _ t423 _ _ t426 true _ ?side1 ?side2 ?side3 ?side4 ?side5 ?side6 ?side7 ?side8 A43.out).mono ?_);(case side1 => repeat (first | exact (Kd.S_reads' HO_444002.out).2.2 | (with_reducible refine Kd.C_alloc ?_ _) | (with_reducible refine Kd.C_drewN ?_ _) | (with_reducible refine Kd.C_drew ?_)));(case side2 => exact (Kd.S_reads' HO_444002.out).2.1);(case side3 => repeat (first | exact (Kd.R_reads' HO_444003.out).2.2 | (with_reducible refine Kd.C_alloc ?_ _) | (with_reducible refine Kd.C_drewN ?_ _) | (with_reducible refine Kd.C_drew ?_)));(case side4 => exact (Kd.R_reads' HO_444003.out).2.1);(case side5 => repeat (first | exact (Kd.S_reads' HO_431002.out).2.2 | (with_reducible refine Kd.C_alloc ?_ _) | (with_reducible refine Kd.C_drewN ?_ _) | (with_reducible refine Kd.C_drew ?_)));(case side6 => exact (Kd.S_reads' HO_431002.out).2.1);(case side7 => repeat (first | exact (Kd.R_reads' HO_431003.out).2.2 | (with_reducible refine Kd.C_alloc ?_ _) | (with_reducible refine Kd.C_drewN ?_ _) | (with_reducible refine Kd.C_drew ?_)));(case side8 => exact (Kd.R_reads' HO_431003.out).2.1);rintro e w48 ⟨rfl,hb⟩;replace HO_431002 := am_ (Kd.S_below (by (with_reducible repeat (first | apply Kd.S_alloc | apply Kd.S_drewN | apply Kd.S_drew));exact HO_431002.out) hb);replace HO_431003 := zrb HO_431003 hb;replace HO_444002 := am_ (Kd.S_below (by (with_reducible repeat (first | apply Kd.S_alloc | apply Kd.S_drewN | apply Kd.S_drew));exact HO_444002.out) hb);replace HO_444003 := zrb HO_444003 hb;replace BK430 := zb BK430 hb;replace BK443 := zb BK443 hb;replace HB := zs_ HB hb;(try clear hb);(try clear hb2);(try clear hk);(try clear hi)))
         go_meet
         case rel => exact ⟨_,((t442 != t429)),(by first | rfl | (simp;done) | (simp [*];done)),H',⟨by have := HJ6.out;first | omega | exact Nat.le_refl _⟩,⟨by (with_reducible repeat (first | apply Kd.S_alloc | apply Kd.S_drewN | apply Kd.S_drew));exact HO_431002.out⟩,⟨zr HO_431003⟩,⟨by (with_reducible repeat (first | apply Kd.S_alloc | apply Kd.S_drewN | apply Kd.S_drew));exact HO_444002.out⟩,⟨zr HO_444003⟩,⟨by (with_reducible repeat (first | apply k1_ | apply k2_ | apply k3_));exact BK430.out⟩,⟨by (with_reducible repeat (first | apply k1_ | apply k2_ | apply k3_));exact BK443.out⟩,⟨zl_ HB⟩⟩
        ·replace c44 := Bool.eq_false_iff.mpr c44
         subst c44
         have H1 : (laws_FnExactReadTable.j1 kj6 l0 t429 true t421 t422 t423 t426 t434 t435 t436 t439) = some r := by rw [if_neg (show ¬ (false = true) by decide)] at H;exact H
         clear H
         have H := H1
         clear H1
         have H' := am_ H
         clear H
         have hnb49 := NB443_430.out
         have hnc49 := NB430_443.out
         obtain ⟨hcz50_0,hcz50_1,hcz50_2,hcz50_3,hfz50_0,hfz50_1,hfz50_2,hfz50_3⟩ := zc4 BK443
         obtain ⟨hcz51_0,hcz51_1,hcz51_2,hcz51_3,hfz51_0,hfz51_1,hfz51_2,hfz51_3⟩ := zc4 BK430
         go_wp2_with (first | (go_at_call 8;(with_reducible refine (laws_eqTable.calls kj6 t434 t435 _ _ t436 _ _ t439 t421 t422 _ _ t423 _ _ t426 false _ ?side1 ?side2 ?side3 ?side4 ?side5 ?side6 ?side7 ?side8 A43.out).mono ?_);(case side1 => repeat (first | exact (Kd.S_reads' HO_444002.out).2.2 | (with_reducible refine Kd.C_alloc ?_ _) | (with_reducible refine Kd.C_drewN ?_ _) | (with_reducible refine Kd.C_drew ?_)));(case side2 => exact (Kd.S_reads' HO_444002.out).2.1);(case side3 => repeat (first | exact (Kd.R_reads' HO_444003.out).2.2 | (with_reducible refine Kd.C_alloc ?_ _) | (with_reducible refine Kd.C_drewN ?_ _) | (with_reducible refine Kd.C_drew ?_)));(case side4 => exact (Kd.R_reads' HO_444003.out).2.1);(case side5 => repeat (first | exact (Kd.S_reads' HO_431002.out).2.2 | (with_reducible refine Kd.C_alloc ?_ _) | (with_reducible refine Kd.C_drewN ?_ _) | (with_reducible refine Kd.C_drew ?_)));(case side6 => exact (Kd.S_reads' HO_431002.out).2.1);(case side7 => repeat (first | exact (Kd.R_reads' HO_431003.out).2.2 | (with_reducible refine Kd.C_alloc ?_ _) | (with_reducible refine Kd.C_drewN ?_ _) | (with_reducible refine Kd.C_drew ?_)));(case side8 => exact (Kd.R_reads' HO_431003.out).2.1);rintro e w52 ⟨rfl,hb⟩;replace HO_431002 := am_ (Kd.S_below (by (with_reducible repeat (first | apply Kd.S_alloc | apply Kd.S_drewN | apply Kd.S_drew));exact HO_431002.out) hb);replace HO_431003 := zrb HO_431003 hb;replace HO_444002 := am_ (Kd.S_below (by (with_reducible repeat (first | apply Kd.S_alloc | apply Kd.S_drewN | apply Kd.S_drew));exact HO_444002.out) hb);replace HO_444003 := zrb HO_444003 hb;replace BK430 := zb BK430 hb;replace BK443 := zb BK443 hb;replace HB := zs_ HB hb;(try clear hb);(try clear hb2);(try clear hk);(try clear hi)))
         go_meet
         case rel => exact ⟨_,(true),(by first | rfl | (simp;done) | (simp [*];done)),H',⟨by have := HJ6.out;first | omega | exact Nat.le_refl _⟩,⟨by (with_reducible repeat (first | apply Kd.S_alloc | apply Kd.S_drewN | apply Kd.S_drew));exact HO_431002.out⟩,⟨zr HO_431003⟩,⟨by (with_reducible repeat (first | apply Kd.S_alloc | apply Kd.S_drewN | apply Kd.S_drew));exact HO_444002.out⟩,⟨zr HO_444003⟩,⟨by (with_reducible repeat (first | apply k1_ | apply k2_ | apply k3_));exact BK430.out⟩,⟨by (with_reducible repeat (first | apply k1_ | apply k2_ | apply k3_));exact BK443.out⟩,⟨zl_ HB⟩⟩
      case rest =>
       clear HC38
       try clear c1
       try clear c2
       try clear c2b0
       try clear c2b1
       try clear p2
       try clear c3
       try clear c4
       try clear c5
       try clear c6
       try clear c7
       try clear c8
       try clear c9
       try clear c10
       try clear c19
       try clear c24
       try clear c25
       try clear c29
       try clear c33
       try clear c36
       try clear c42
       try clear c42b0
       try clear c44
       try clear c45
       try clear c49
       try clear hcz12_0
       try clear hcz12_1
       try clear hcz12_2
       try clear hcz12_3
       try clear hcz20_0
       try clear hcz20_1
       try clear hcz20_2
       try clear hcz20_3
       try clear hcz26_0
       try clear hcz26_1
       try clear hcz26_2
       try clear hcz26_3
       try clear hcz27_0
       try clear hcz27_1
       try clear hcz27_2
       try clear hcz27_3
       try clear hcz30_0
       try clear hcz30_1
       try clear hcz30_2
       try clear hcz30_3
       try clear hcz31_0
       try clear hcz31_1
       try clear hcz31_2
       try clear hcz31_3
       try clear hcz46_0
       try clear hcz46_1
       try clear hcz46_2
       try clear hcz46_3
       try clear hcz47_0
       try clear hcz47_1
       try clear hcz47_2
       try clear hcz47_3
       try clear hcz50_0
       try clear hcz50_1
       try clear hcz50_2
       try clear hcz50_3
       try clear hcz51_0
       try clear hcz51_1
       try clear hcz51_2
       try clear hcz51_3
       try clear hfz12_0
       try clear hfz12_1
       try clear hfz12_2
       try clear hfz12_3
       try clear hfz20_0
       try clear hfz20_1
       try clear hfz20_2
       try clear hfz20_3
       try clear hfz26_0
       try clear hfz26_1
       try clear hfz26_2
       try clear hfz26_3
       try clear hfz27_0
       try clear hfz27_1
       try clear hfz27_2
       try clear hfz27_3
       try clear hfz30_0
       try clear hfz30_1
       try clear hfz30_2
       try clear hfz30_3
       try clear hfz31_0
       try clear hfz31_1
       try clear hfz31_2
       try clear hfz31_3
       try clear hfz46_0
       try clear hfz46_1
       try clear hfz46_2
       try clear hfz46_3
       try clear hfz47_0
       try clear hfz47_1
       try clear hfz47_2
       try clear hfz47_3
       try clear hfz50_0
       try clear hfz50_1
       try clear hfz50_2
       try clear hfz50_3
       try clear hfz51_0
       try clear hfz51_1
       try clear hfz51_2
       try clear hfz51_3
       try clear p2
       obtain ⟨kq,x58_37,rfl,HA,HJ37,HO_431002,HO_431003,HO_444002,HO_444003,BK430,BK443,HB⟩ := hcut
       cases kq with
       | zero => exact absurd HA.out (by simp [laws_FnExactReadTable.j1])
       | succ kj37 =>
        have H := HA.out
        clear HA
        simp only [laws_FnExactReadTable.j1] at H
        by_cases c53 : x58_37 = true
        ·subst c53
         have H1 : (some false) = some r := by rw [if_pos rfl] at H;exact H
         clear H
         have H := H1
         clear H1
         obtain rfl := Option.some.inj H
         go_wp2
         go_ret
         exact ⟨zt_,zl_ HB⟩
        ·replace c53 := Bool.eq_false_iff.mpr c53
         subst c53
         have H1 : ((laws_markTable.f kj37 t434 t435 t436 t439 1).bind fun bm_ => ((laws_heldTable.f kj37 t434 t435 bm_.2.1 bm_.2.2 1).bind fun t453 => (if t453 < 0 then (some false) else (if t453 = bm_.1 then ((laws_toByteS.f kj37 l0).bind fun t454 => ((impl_ReadTable.f kj37 t454).bind fun bt457 => ((laws_eqTable.f kj37 bt457.1 bt457.2.1 bt457.2.2.1 bt457.2.2.2.1 t421 t422 t423 t426).bind fun t467 => (if t467 = true then (laws_FnExactReadTable.j2 kj37 bm_.1 (bt457.2.2.2.2 != t429) t434 t435 bm_.2.1 bm_.2.2) else (laws_FnExactReadTable.j2 kj37 bm_.1 true t434 t435 bm_.2.1 bm_.2.2))))) else (some false))))) = some r := by rw [if_neg (show ¬ (false = true) by decide)] at H;exact H
         clear H
         have H := H1
         clear H1
         replace H := Option.bind_eq_some_iff.mp H
         obtain ⟨⟨t452,m436,m439⟩,A540,H⟩ := H
         try dsimp only at H
         have A54 := am_ A540
         clear A540
         replace H := Option.bind_eq_some_iff.mp H
         obtain ⟨t453,A550,H⟩ := H
         try dsimp only at H
         have A55 := am_ A550
         clear A550
         by_cases c56 : t453 < 0
         ·rw [if_pos c56] at H
          have c56b0 : decide (t453 < 0) = true := decide_eq_true c56
          clear c56
          obtain rfl := Option.some.inj H
          have hnb57 := NB443_430.out
          have hnc57 := NB430_443.out
          obtain ⟨hcz58_0,hcz58_1,hcz58_2,hcz58_3,hfz58_0,hfz58_1,hfz58_2,hfz58_3⟩ := zc4 BK443
          go_wp2_with (first | ((with_reducible refine gate_callee (f := 11) rfl ?_);refine zgl (some 61) Try.func11 #[.agg #[.int .i64 t434,.int .i64 t435,.slice Ao21 t436.length co21,.slice Ao22 t439.length co22],.int .i64 1] ?_;(with_reducible refine (laws_markTable.calls kj37 t434 t435 _ _ _ t436 _ _ _ t439 1 t452 m436 m439 ?ok2q ?ok3q w _ ?hBq ?h2q ?h3q A54.out).mono ?_);(case hBq => exact zl_ HB);(case h2q => exact (by (with_reducible repeat (first | apply Kd.S_alloc | apply Kd.S_drewN | apply Kd.S_drew));exact HO_444002.out));(case h3q => exact (by (with_reducible repeat (first | apply r1_ | apply r2_ | apply r3_));exact HO_444003.out));rintro e w59 ⟨rfl,h2_,h3_,hM,hb⟩;refine ⟨_,rfl,?_⟩;have q2_ := Kd.S_mono h2_ (fun j hj => hj.elim id (fun hle => Nat.lt_of_lt_of_le (blk_lt BK430.out) hle));have q3_ := Kd.R_mono h3_ (fun j hj => hj.elim id (fun hle => old_neT HO_431003.out hle));clear h2_ h3_;replace HO_431002 := am_ (hM.S HO_431002.out (fun k hk hp => Nat.lt_asymm hk hp) (by decide));replace HO_431003 := am_ (hM.R HO_431003.out (by decide) (fun k hk e => hk e.symm));replace HO_444002 := am_ q2_;replace HO_444003 := am_ q3_;replace BK430 := am_ (hM.blk BK430.out (by decide) (by decide));replace BK443 := am_ (hM.blk BK443.out (by decide) (by decide));replace HB := am_ hb;clear hM q2_ q3_;(try clear hb);(try clear hb2);(try clear hk);(try clear hi);obtain ⟨hcz60_0,hcz60_1,hcz60_2,hcz60_3,hfz60_0,hfz60_1,hfz60_2,hfz60_3⟩ := zc4 BK443) | ((with_reducible refine gate_callee (f := 12) rfl ?_);refine zgl (some 64) Try.func12 #[.agg #[.int .i64 t434,.int .i64 t435,.slice Ao21 t436.length co21,.slice Ao22 t439.length co22],.int .i64 1] ?_;(with_reducible refine (heldT_n kj37 t434 t435 _ _ _ m436 _ _ _ m439 1 t453 _ ?e2q ?e3q ?side1 ?side2 ?side3 ?side4 A55.out).mono ?_);(case e2q => exact (Kd.S_reads' HO_444002.out).1);(case e3q => exact (Kd.R_reads' HO_444003.out).1);(case side1 => repeat (first | exact (Kd.S_reads' HO_444002.out).2.2 | (with_reducible refine Kd.C_alloc ?_ _) | (with_reducible refine Kd.C_drewN ?_ _) | (with_reducible refine Kd.C_drew ?_)));(case side2 => exact (Kd.S_reads' HO_444002.out).2.1);(case side3 => repeat (first | exact (Kd.R_reads' HO_444003.out).2.2 | (with_reducible refine Kd.C_alloc ?_ _) | (with_reducible refine Kd.C_drewN ?_ _) | (with_reducible refine Kd.C_drew ?_)));(case side4 => exact (Kd.R_reads' HO_444003.out).2.1);rintro e w61 ⟨rfl,hb⟩;refine ⟨_,rfl,?_⟩;replace HO_431002 := am_ (Kd.S_below (by (with_reducible repeat (first | apply Kd.S_alloc | apply Kd.S_drewN | apply Kd.S_drew));exact HO_431002.out) hb);replace HO_431003 := zrb HO_431003 hb;replace HO_444002 := am_ (Kd.S_below (by (with_reducible repeat (first | apply Kd.S_alloc | apply Kd.S_drewN | apply Kd.S_drew));exact HO_444002.out) hb);replace HO_444003 := zrb HO_444003 hb;replace BK430 := zb BK430 hb;replace BK443 := zb BK443 hb;replace HB := zs_ HB hb;(try clear hb);(try clear hb2);(try clear hk);(try clear hi)))
          go_ret
          exact ⟨zt_,zl_ HB⟩
         ·rw [if_neg c56] at H
          have c56b0 : decide (t453 < 0) = false := decide_eq_false c56
          clear c56
          by_cases c62 : t453 = t452
          ·rw [if_pos c62] at H
           have c62b0 : (t453 == t452) = true := beq_iff_eq.mpr c62
           have c62b1 : (t453 != t452) = false := bne_eq_false_iff_eq.mpr c62
           clear c62
           replace H := Option.bind_eq_some_iff.mp H
           obtain ⟨t454,A630,H⟩ := H
           try dsimp only at H
           have A63 := am_ A630
           clear A630
           replace H := Option.bind_eq_some_iff.mp H
           obtain ⟨⟨t457,t458,t459,t462,t465⟩,A640,H⟩ := H
           try dsimp only at H
           have A64 := am_ A640
           clear A640
           have HC65 := am_ H
           clear H
           have hnb66 := NB443_430.out
           have hnc66 := NB430_443.out
           obtain ⟨hcz67_0,hcz67_1,hcz67_2,hcz67_3,hfz67_0,hfz67_1,hfz67_2,hfz67_3⟩ := zc4 BK443
           go_upto_region 23 with (first | ((with_reducible refine gate_callee (f := 11) rfl ?_);refine zgl (some 61) Try.func11 #[.agg #[.int .i64 t434,.int .i64 t435,.slice Ao21 t436.length co21,.slice Ao22 t439.length co22],.int .i64 1] ?_;(with_reducible refine (laws_markTable.calls kj37 t434 t435 _ _ _ t436 _ _ _ t439 1 t452 m436 m439 ?ok2q ?ok3q w _ ?hBq ?h2q ?h3q A54.out).mono ?_);(case hBq => exact zl_ HB);(case h2q => exact (by (with_reducible repeat (first | apply Kd.S_alloc | apply Kd.S_drewN | apply Kd.S_drew));exact HO_444002.out));(case h3q => exact (by (with_reducible repeat (first | apply r1_ | apply r2_ | apply r3_));exact HO_444003.out));rintro e w68 ⟨rfl,h2_,h3_,hM,hb⟩;refine ⟨_,rfl,?_⟩;have q2_ := Kd.S_mono h2_ (fun j hj => hj.elim id (fun hle => Nat.lt_of_lt_of_le (blk_lt BK430.out) hle));have q3_ := Kd.R_mono h3_ (fun j hj => hj.elim id (fun hle => old_neT HO_431003.out hle));clear h2_ h3_;replace HO_431002 := am_ (hM.S HO_431002.out (fun k hk hp => Nat.lt_asymm hk hp) (by decide));replace HO_431003 := am_ (hM.R HO_431003.out (by decide) (fun k hk e => hk e.symm));replace HO_444002 := am_ q2_;replace HO_444003 := am_ q3_;replace BK430 := am_ (hM.blk BK430.out (by decide) (by decide));replace BK443 := am_ (hM.blk BK443.out (by decide) (by decide));replace HB := am_ hb;clear hM q2_ q3_;(try clear hb);(try clear hb2);(try clear hk);(try clear hi);obtain ⟨hcz69_0,hcz69_1,hcz69_2,hcz69_3,hfz69_0,hfz69_1,hfz69_2,hfz69_3⟩ := zc4 BK443) | ((with_reducible refine gate_callee (f := 12) rfl ?_);refine zgl (some 64) Try.func12 #[.agg #[.int .i64 t434,.int .i64 t435,.slice Ao21 t436.length co21,.slice Ao22 t439.length co22],.int .i64 1] ?_;(with_reducible refine (heldT_n kj37 t434 t435 _ _ _ m436 _ _ _ m439 1 t453 _ ?e2q ?e3q ?side1 ?side2 ?side3 ?side4 A55.out).mono ?_);(case e2q => exact (Kd.S_reads' HO_444002.out).1);(case e3q => exact (Kd.R_reads' HO_444003.out).1);(case side1 => repeat (first | exact (Kd.S_reads' HO_444002.out).2.2 | (with_reducible refine Kd.C_alloc ?_ _) | (with_reducible refine Kd.C_drewN ?_ _) | (with_reducible refine Kd.C_drew ?_)));(case side2 => exact (Kd.S_reads' HO_444002.out).2.1);(case side3 => repeat (first | exact (Kd.R_reads' HO_444003.out).2.2 | (with_reducible refine Kd.C_alloc ?_ _) | (with_reducible refine Kd.C_drewN ?_ _) | (with_reducible refine Kd.C_drew ?_)));(case side4 => exact (Kd.R_reads' HO_444003.out).2.1);rintro e w70 ⟨rfl,hb⟩;refine ⟨_,rfl,?_⟩;replace HO_431002 := am_ (Kd.S_below (by (with_reducible repeat (first | apply Kd.S_alloc | apply Kd.S_drewN | apply Kd.S_drew));exact HO_431002.out) hb);replace HO_431003 := zrb HO_431003 hb;replace HO_444002 := am_ (Kd.S_below (by (with_reducible repeat (first | apply Kd.S_alloc | apply Kd.S_drewN | apply Kd.S_drew));exact HO_444002.out) hb);replace HO_444003 := zrb HO_444003 hb;replace BK430 := zb BK430 hb;replace BK443 := zb BK443 hb;replace HB := zs_ HB hb;(try clear hb);(try clear hb2);(try clear hk);(try clear hi)) | ((with_reducible refine gate_callee (f := 6) rfl ?_);refine zgl (some 72) Try.func6 #[.slice A0 l0.length c0] ?_;(with_reducible refine (laws_toByteS.calls kj37 _ _ l0 t454 _ ?side1 ?side2 A63.out).mono ?_);(case side1 => exact zc_ HR0 HB);(case side2 => exact HC0.out);rintro e w71 ⟨v455,rfl,ho0,hb⟩;refine ⟨_,rfl,?_⟩;replace HO_431002 := am_ (Kd.S_below (by (with_reducible repeat (first | apply Kd.S_alloc | apply Kd.S_drewN | apply Kd.S_drew));exact HO_431002.out) hb);replace HO_431003 := zrb HO_431003 hb;replace HO_444002 := am_ (Kd.S_below (by (with_reducible repeat (first | apply Kd.S_alloc | apply Kd.S_drewN | apply Kd.S_drew));exact HO_444002.out) hb);replace HO_444003 := zrb HO_444003 hb;have HO456 := am_ (Kd.R_lower ho0 (below_size (zl_ HB)));replace BK430 := zb BK430 hb;replace BK443 := zb BK443 hb;replace HB := zs_ HB hb;(try clear hb);(try clear hb2);(try clear hk);(try clear hi);(try clear ho0);obtain ⟨Ao72,co72,eo72⟩ := Kd.R_slice HO456.out;subst eo72) | ((with_reducible refine gate_callee (f := 7) rfl ?_);refine zgl (some 73) Try.func7 #[.slice Ao72 t454.length co72] ?_;(with_reducible refine (impl_ReadTable.calls kj37 _ _ t454 t457 t458 t459 t462 t465 _ ?side1 ?side2 A64.out).mono ?_);(case side1 => repeat (first | exact (Kd.R_reads' HO456.out).2.2 | (with_reducible refine Kd.C_alloc ?_ _) | (with_reducible refine Kd.C_drewN ?_ _) | (with_reducible refine Kd.C_drew ?_)));(case side2 => exact (Kd.R_reads' HO456.out).2.1);rintro e w73 ⟨v460,v463,rfl,ho0,ho1,hb⟩;refine ⟨_,rfl,?_⟩;have HO461 := am_ (Kd.S_lower (Kd.S_new' (Kd.S_new' ho0 (Kd.S_lt (by (with_reducible repeat (first | apply Kd.S_alloc | apply Kd.S_drewN | apply Kd.S_drew));exact HO_431002.out))) (Kd.S_lt (by (with_reducible repeat (first | apply Kd.S_alloc | apply Kd.S_drewN | apply Kd.S_drew));exact HO_444002.out))) (below_size (zl_ HB)));replace HO_431002 := am_ (Kd.S_elder' (by (with_reducible repeat (first | apply Kd.S_alloc | apply Kd.S_drewN | apply Kd.S_drew));exact HO_431002.out) (Kd.S_base ho0) hb);replace HO_444002 := am_ (Kd.S_elder' (by (with_reducible repeat (first | apply Kd.S_alloc | apply Kd.S_drewN | apply Kd.S_drew));exact HO_444002.out) (Kd.S_base ho0) hb);have HO464 := am_ (Kd.R_lower (Kd.R_new' (Kd.R_new' ho1 (Kd.R_lt (zr HO_431003))) (Kd.R_lt (zr HO_444003))) (below_size (zl_ HB)));replace HO_431003 := am_ (Kd.R_elder' (zr HO_431003) (Kd.R_base ho1) hb);replace HO_444003 := am_ (Kd.R_elder' (zr HO_444003) (Kd.R_base ho1) hb);replace BK430 := zb BK430 hb;replace BK443 := zb BK443 hb;replace HB := zs_ HB hb;(try clear hb);(try clear hb2);(try clear hk);(try clear hi);(try clear ho0);(try clear ho1)) | ((with_reducible refine gate_dst (N := 11) rfl ?_);refine zbx (N := 11) (cs := #[.int .i64 0,.int .i64 0,.slice none 0 0,.slice none 0 0]) (t := 26) ?_;intro gb466 hg w74 hbox hb;replace HO_431002 := am_ (Kd.S_below (by (with_reducible repeat (first | apply Kd.S_alloc | apply Kd.S_drewN | apply Kd.S_drew));exact HO_431002.out) hb);replace HO_431003 := zrb HO_431003 hb;replace HO_444002 := am_ (Kd.S_below (by (with_reducible repeat (first | apply Kd.S_alloc | apply Kd.S_drewN | apply Kd.S_drew));exact HO_444002.out) hb);replace HO_444003 := zrb HO_444003 hb;replace HO461 := am_ (Kd.S_below (by (with_reducible repeat (first | apply Kd.S_alloc | apply Kd.S_drewN | apply Kd.S_drew));exact HO461.out) hb);replace HO464 := zrb HO464 hb;have BK466 := am_ (hbox);have GW466 := zw_ HB hg;have GE466 := zw_ HB hg;replace HB := zs_ HB hb;have NB430_466 := zl hg BK430;have NB466_430 := zg hg BK430;replace BK430 := zb BK430 hb;have NB443_466 := zl hg BK443;have NB466_443 := zg hg BK443;replace BK443 := zb BK443 hb;clear hb hbox hg;have hnb75 := NB466_430.out;have hnc75 := NB430_466.out;have hnb76 := NB466_443.out;have hnc76 := NB443_466.out;obtain ⟨hcz77_0,hcz77_1,hcz77_2,hcz77_3,hfz77_0,hfz77_1,hfz77_2,hfz77_3⟩ := zc4 BK466;obtain ⟨Ao78,co78,eo78⟩ := Kd.S_slice HO461.out;subst eo78;obtain ⟨Ao79,co79,eo79⟩ := Kd.R_slice HO464.out;subst eo79))
           (try simp only [Act.put,p1_,p2_,p3_])
           go_cut [84] (fun v84 wc => ∃ (kq : Nat) (x84_64 : Bool),v84 = .bool x84_64 ∧ Aside0 (laws_FnExactReadTable.j2 kq t452 x84_64 t434 t435 m436 m439 = some r) ∧ Aside0 (kq ≤ kj37) ∧ Aside0 (Kd.S k78 78 wc w.heap.size (fun k_ => k_ < gb430 ∧ some k_ ≠ ((.slice Ao78 t459.length co78) : Value).ownBlock) (.slice Ao13 t423.length co13) t423) ∧ Aside0 (Kd.R k84 84 wc w.heap.size (fun k_ => some k_ ≠ ((.slice Ao22 t439.length co22) : Value).ownBlock ∧ some k_ ≠ ((.slice Ao79 t462.length co79) : Value).ownBlock) (.slice Ao14 t426.length co14) t426) ∧ Aside0 (Kd.S k78 78 wc w.heap.size (fun k_ => gb430 < k_ ∧ some k_ ≠ ((.slice Ao78 t459.length co78) : Value).ownBlock) (.slice Ao21 t436.length co21) m436) ∧ Aside0 (Kd.R k84 84 wc w.heap.size (fun k_ => some k_ ≠ ((.slice Ao14 t426.length co14) : Value).ownBlock ∧ some k_ ≠ ((.slice Ao79 t462.length co79) : Value).ownBlock) (.slice Ao22 t439.length co22) m439) ∧ Aside0 (Kd.S k78 78 wc w.heap.size (fun k_ => some k_ ≠ ((.slice Ao13 t423.length co13) : Value).ownBlock ∧ some k_ ≠ ((.slice Ao21 t436.length co21) : Value).ownBlock) (.slice Ao78 t459.length co78) t459) ∧ Aside0 (Kd.R k84 84 wc w.heap.size (fun k_ => some k_ ≠ ((.slice Ao14 t426.length co14) : Value).ownBlock ∧ some k_ ≠ ((.slice Ao22 t439.length co22) : Value).ownBlock) (.slice Ao79 t462.length co79) t462) ∧ Aside0 (wc.heap[gb430]? = some (.cells #[.int .i64 t421,.int .i64 t422,(.slice Ao13 t423.length co13),(.slice Ao14 t426.length co14)] 26 (0,0))) ∧ Aside0 (wc.heap[gb443]? = some (.cells #[.int .i64 t434,.int .i64 t435,(.slice Ao21 t436.length co21),(.slice Ao22 t439.length co22)] 26 (0,0))) ∧ Aside0 (wc.heap[gb466]? = some (.cells #[.int .i64 t457,.int .i64 t458,(.slice Ao78 t459.length co78),(.slice Ao79 t462.length co79)] 26 (0,0))) ∧ Aside0 (Below w.heap.size w wc))
           case first =>
            have H := HC65.out
            clear HC65
            replace H := Option.bind_eq_some_iff.mp H
            obtain ⟨t467,A800,H⟩ := H
            try dsimp only at H
            have A80 := am_ A800
            clear A800
            by_cases c81 : t467 = true
            ·subst c81
             have H1 : (laws_FnExactReadTable.j2 kj37 t452 (t465 != t429) t434 t435 m436 m439) = some r := by rw [if_pos rfl] at H;exact H
             clear H
             have H := H1
             clear H1
             have H' := am_ H
             clear H
             have hnb82 := NB466_430.out
             have hnc82 := NB430_466.out
             have hnb83 := NB466_443.out
             have hnc83 := NB443_466.out
             obtain ⟨hcz84_0,hcz84_1,hcz84_2,hcz84_3,hfz84_0,hfz84_1,hfz84_2,hfz84_3⟩ := zc4 BK466
             have hnb85 := NB430_443.out
             have hnc85 := NB443_430.out
             obtain ⟨hcz86_0,hcz86_1,hcz86_2,hcz86_3,hfz86_0,hfz86_1,hfz86_2,hfz86_3⟩ := zc4 BK430
             go_wp2_with (first | ((with_reducible refine gate_callee (f := 8) rfl ?_);refine zgl (some 78) Try.func8 #[.agg #[.int .i64 t457,.int .i64 t458,.slice Ao78 t459.length co78,.slice Ao79 t462.length co79],.agg #[.int .i64 t421,.int .i64 t422,.slice Ao13 t423.length co13,.slice Ao14 t426.length co14]] ?_;(with_reducible refine (laws_eqTable.calls kj37 t457 t458 _ _ t459 _ _ t462 t421 t422 _ _ t423 _ _ t426 true _ ?side1 ?side2 ?side3 ?side4 ?side5 ?side6 ?side7 ?side8 A80.out).mono ?_);(case side1 => refine (Kd.S_reads' (e := 78) (base := w.heap.size) (ok := fun k_ => ((True ∧ some k_ ≠ (.slice Ao13 t423.length co13 : Value).ownBlock) ∧ some k_ ≠ (.slice Ao21 t436.length co21 : Value).ownBlock)) (n := t459.length) (c := co78) ?_).2.2;exact (by (with_reducible repeat (first | apply Kd.S_alloc | apply Kd.S_drewN | apply Kd.S_drew));exact (Kd.S_mono (Kd.S_far (p := ⟨gb466,3,none⟩) (Kd.S_far (p := ⟨gb466,2,none⟩) (Kd.S_far (p := ⟨gb466,1,none⟩) (Kd.S_far (p := ⟨gb466,0,none⟩) (Kd.S_types HO461.out BK466.out (by decide)) (fun _ hk => hk.2) (.int .i64 t457)) (fun _ hk => hk.2) (.int .i64 t458)) (fun _ hk => hk.2) (.slice Ao78 t459.length co78)) (fun _ hk => hk.2) (.slice Ao79 t462.length co79)) (fun _ h_ => h_.1))));(case side2 => exact (Kd.S_reads' HO461.out).2.1);(case side3 => refine (Kd.R_reads' (e := 84) (base := w.heap.size) (ok := fun k_ => ((True ∧ some k_ ≠ (.slice Ao14 t426.length co14 : Value).ownBlock) ∧ some k_ ≠ (.slice Ao22 t439.length co22 : Value).ownBlock)) (n := t462.length) (c := co79) ?_).2.2;exact (by (with_reducible repeat (first | apply r1_ | apply r2_ | apply r3_));exact (Kd.R_mono (zrf (Kd.R_types HO464.out BK466.out (by decide))) (fun _ h_ => h_.1))));(case side4 => exact (Kd.R_reads' HO464.out).2.1);(case side5 => refine (Kd.S_reads' (e := 78) (base := w.heap.size) (ok := fun k_ => (k_ < gb430 ∧ some k_ ≠ (.slice Ao78 t459.length co78 : Value).ownBlock)) (n := t423.length) (c := co13) ?_).2.2;exact (by (with_reducible repeat (first | apply Kd.S_alloc | apply Kd.S_drewN | apply Kd.S_drew));exact (Kd.S_mono (Kd.S_far (p := ⟨gb466,3,none⟩) (Kd.S_far (p := ⟨gb466,2,none⟩) (Kd.S_far (p := ⟨gb466,1,none⟩) (Kd.S_far (p := ⟨gb466,0,none⟩) (Kd.S_types HO_431002.out BK466.out (by decide)) (fun _ hk => hk.2) (.int .i64 t457)) (fun _ hk => hk.2) (.int .i64 t458)) (fun _ hk => hk.2) (.slice Ao78 t459.length co78)) (fun _ hk => hk.2) (.slice Ao79 t462.length co79)) (fun _ h_ => h_.1))));(case side6 => exact (Kd.S_reads' HO_431002.out).2.1);(case side7 => refine (Kd.R_reads' (e := 84) (base := w.heap.size) (ok := fun k_ => (some k_ ≠ (.slice Ao22 t439.length co22 : Value).ownBlock ∧ some k_ ≠ (.slice Ao79 t462.length co79 : Value).ownBlock)) (n := t426.length) (c := co14) ?_).2.2;exact (by (with_reducible repeat (first | apply r1_ | apply r2_ | apply r3_));exact (Kd.R_mono (zrf (Kd.R_types HO_431003.out BK466.out (by decide))) (fun _ h_ => h_.1))));(case side8 => exact (Kd.R_reads' HO_431003.out).2.1);rintro e w87 ⟨rfl,hb⟩;refine ⟨_,rfl,?_⟩;replace HO_431002 := am_ (Kd.S_below (by (with_reducible repeat (first | apply Kd.S_alloc | apply Kd.S_drewN | apply Kd.S_drew));exact (Kd.S_mono (Kd.S_far (p := ⟨gb466,3,none⟩) (Kd.S_far (p := ⟨gb466,2,none⟩) (Kd.S_far (p := ⟨gb466,1,none⟩) (Kd.S_far (p := ⟨gb466,0,none⟩) (Kd.S_types HO_431002.out BK466.out (by decide)) (fun _ hk => hk.2) (.int .i64 t457)) (fun _ hk => hk.2) (.int .i64 t458)) (fun _ hk => hk.2) (.slice Ao78 t459.length co78)) (fun _ hk => hk.2) (.slice Ao79 t462.length co79)) (fun _ h_ => h_.1))) hb);replace HO_431003 := am_ (Kd.R_below (by (with_reducible repeat (first | apply r1_ | apply r2_ | apply r3_));exact (Kd.R_mono (zrf (Kd.R_types HO_431003.out BK466.out (by decide))) (fun _ h_ => h_.1))) hb);replace HO_444002 := am_ (Kd.S_below (by (with_reducible repeat (first | apply Kd.S_alloc | apply Kd.S_drewN | apply Kd.S_drew));exact (Kd.S_mono (Kd.S_far (p := ⟨gb466,3,none⟩) (Kd.S_far (p := ⟨gb466,2,none⟩) (Kd.S_far (p := ⟨gb466,1,none⟩) (Kd.S_far (p := ⟨gb466,0,none⟩) (Kd.S_types HO_444002.out BK466.out (by decide)) (fun _ hk => hk.2) (.int .i64 t457)) (fun _ hk => hk.2) (.int .i64 t458)) (fun _ hk => hk.2) (.slice Ao78 t459.length co78)) (fun _ hk => hk.2) (.slice Ao79 t462.length co79)) (fun _ h_ => h_.1))) hb);replace HO_444003 := am_ (Kd.R_below (by (with_reducible repeat (first | apply r1_ | apply r2_ | apply r3_));exact (Kd.R_mono (zrf (Kd.R_types HO_444003.out BK466.out (by decide))) (fun _ h_ => h_.1))) hb);replace HO461 := am_ (Kd.S_below (by (with_reducible repeat (first | apply Kd.S_alloc | apply Kd.S_drewN | apply Kd.S_drew));exact (Kd.S_mono (Kd.S_far (p := ⟨gb466,3,none⟩) (Kd.S_far (p := ⟨gb466,2,none⟩) (Kd.S_far (p := ⟨gb466,1,none⟩) (Kd.S_far (p := ⟨gb466,0,none⟩) (Kd.S_types HO461.out BK466.out (by decide)) (fun _ hk => hk.2) (.int .i64 t457)) (fun _ hk => hk.2) (.int .i64 t458)) (fun _ hk => hk.2) (.slice Ao78 t459.length co78)) (fun _ hk => hk.2) (.slice Ao79 t462.length co79)) (fun _ h_ => h_.1))) hb);replace HO464 := am_ (Kd.R_below (by (with_reducible repeat (first | apply r1_ | apply r2_ | apply r3_));exact (Kd.R_mono (zrf (Kd.R_types HO464.out BK466.out (by decide))) (fun _ h_ => h_.1))) hb);replace BK430 := am_ (blk_below (g := gb430) (o := .cells #[.int .i64 t421,.int .i64 t422,.slice Ao13 t423.length co13,.slice Ao14 t426.length co14] 26 (0,0)) (zq BK430) hb);replace BK443 := am_ (blk_below (g := gb443) (o := .cells #[.int .i64 t434,.int .i64 t435,.slice Ao21 t436.length co21,.slice Ao22 t439.length co22] 26 (0,0)) (zq BK443) hb);replace BK466 := am_ (blk_below (g := gb466) (o := .cells #[.int .i64 t457,.int .i64 t458,.slice Ao78 t459.length co78,.slice Ao79 t462.length co79] 26 (0,0)) (zq BK466) hb);replace HB := zs_ HB hb;(try clear hb);(try clear hb2);(try clear hk);(try clear hi)))
             go_meet
             case rel => exact ⟨_,((t465 != t429)),(by first | rfl | (simp;done) | (simp [*];done)),H',⟨by have := HJ6.out;have := HJ37.out;first | omega | exact Nat.le_refl _⟩,⟨by (with_reducible repeat (first | apply Kd.S_alloc | apply Kd.S_drewN | apply Kd.S_drew));exact HO_431002.out⟩,⟨zr HO_431003⟩,⟨by (with_reducible repeat (first | apply Kd.S_alloc | apply Kd.S_drewN | apply Kd.S_drew));exact HO_444002.out⟩,⟨zr HO_444003⟩,⟨by (with_reducible repeat (first | apply Kd.S_alloc | apply Kd.S_drewN | apply Kd.S_drew));exact Kd.S_mono HO461.out (fun _ hk => ⟨hk.1.2,hk.2⟩)⟩,⟨by (with_reducible repeat (first | apply r1_ | apply r2_ | apply r3_));exact Kd.R_mono HO464.out (fun _ hk => ⟨hk.1.2,hk.2⟩)⟩,⟨by (with_reducible repeat (first | apply k1_ | apply k2_ | apply k3_));exact BK430.out⟩,⟨by (with_reducible repeat (first | apply k1_ | apply k2_ | apply k3_));exact BK443.out⟩,⟨by (with_reducible repeat (first | apply k1_ | apply k2_ | apply k3_));exact BK466.out⟩,⟨zl_ HB⟩⟩
            ·replace c81 := Bool.eq_false_iff.mpr c81
             subst c81
             have H1 : (laws_FnExactReadTable.j2 kj37 t452 true t434 t435 m436 m439) = some r := by rw [if_neg (show ¬ (false = true) by decide)] at H;exact H
             clear H
             have H := H1
             clear H1
             have H' := am_ H
             clear H
             have hnb88 := NB466_430.out
             have hnc88 := NB430_466.out
             have hnb89 := NB466_443.out
             have hnc89 := NB443_466.out
             obtain ⟨hcz90_0,hcz90_1,hcz90_2,hcz90_3,hfz90_0,hfz90_1,hfz90_2,hfz90_3⟩ := zc4 BK466
             have hnb91 := NB430_443.out
             have hnc91 := NB443_430.out
             obtain ⟨hcz92_0,hcz92_1,hcz92_2,hcz92_3,hfz92_0,hfz92_1,hfz92_2,hfz92_3⟩ := zc4 BK430
             go_wp2_with (first | ((with_reducible refine gate_callee (f := 8) rfl ?_);refine zgl (some 78) Try.func8 #[.agg #[.int .i64 t457,.int .i64 t458,.slice Ao78 t459.length co78,.slice Ao79 t462.length co79],.agg #[.int .i64 t421,.int .i64 t422,.slice Ao13 t423.length co13,.slice Ao14 t426.length co14]] ?_;(with_reducible refine (laws_eqTable.calls kj37 t457 t458 _ _ t459 _ _ t462 t421 t422 _ _ t423 _ _ t426 false _ ?side1 ?side2 ?side3 ?side4 ?side5 ?side6 ?side7 ?side8 A80.out).mono ?_);(case side1 => refine (Kd.S_reads' (e := 78) (base := w.heap.size) (ok := fun k_ => ((True ∧ some k_ ≠ (.slice Ao13 t423.length co13 : Value).ownBlock) ∧ some k_ ≠ (.slice Ao21 t436.length co21 : Value).ownBlock)) (n := t459.length) (c := co78) ?_).2.2;exact (by (with_reducible repeat (first | apply Kd.S_alloc | apply Kd.S_drewN | apply Kd.S_drew));exact (Kd.S_mono (Kd.S_far (p := ⟨gb466,3,none⟩) (Kd.S_far (p := ⟨gb466,2,none⟩) (Kd.S_far (p := ⟨gb466,1,none⟩) (Kd.S_far (p := ⟨gb466,0,none⟩) (Kd.S_types HO461.out BK466.out (by decide)) (fun _ hk => hk.2) (.int .i64 t457)) (fun _ hk => hk.2) (.int .i64 t458)) (fun _ hk => hk.2) (.slice Ao78 t459.length co78)) (fun _ hk => hk.2) (.slice Ao79 t462.length co79)) (fun _ h_ => h_.1))));(case side2 => exact (Kd.S_reads' HO461.out).2.1);(case side3 => refine (Kd.R_reads' (e := 84) (base := w.heap.size) (ok := fun k_ => ((True ∧ some k_ ≠ (.slice Ao14 t426.length co14 : Value).ownBlock) ∧ some k_ ≠ (.slice Ao22 t439.length co22 : Value).ownBlock)) (n := t462.length) (c := co79) ?_).2.2;exact (by (with_reducible repeat (first | apply r1_ | apply r2_ | apply r3_));exact (Kd.R_mono (zrf (Kd.R_types HO464.out BK466.out (by decide))) (fun _ h_ => h_.1))));(case side4 => exact (Kd.R_reads' HO464.out).2.1);(case side5 => refine (Kd.S_reads' (e := 78) (base := w.heap.size) (ok := fun k_ => (k_ < gb430 ∧ some k_ ≠ (.slice Ao78 t459.length co78 : Value).ownBlock)) (n := t423.length) (c := co13) ?_).2.2;exact (by (with_reducible repeat (first | apply Kd.S_alloc | apply Kd.S_drewN | apply Kd.S_drew));exact (Kd.S_mono (Kd.S_far (p := ⟨gb466,3,none⟩) (Kd.S_far (p := ⟨gb466,2,none⟩) (Kd.S_far (p := ⟨gb466,1,none⟩) (Kd.S_far (p := ⟨gb466,0,none⟩) (Kd.S_types HO_431002.out BK466.out (by decide)) (fun _ hk => hk.2) (.int .i64 t457)) (fun _ hk => hk.2) (.int .i64 t458)) (fun _ hk => hk.2) (.slice Ao78 t459.length co78)) (fun _ hk => hk.2) (.slice Ao79 t462.length co79)) (fun _ h_ => h_.1))));(case side6 => exact (Kd.S_reads' HO_431002.out).2.1);(case side7 => refine (Kd.R_reads' (e := 84) (base := w.heap.size) (ok := fun k_ => (some k_ ≠ (.slice Ao22 t439.length co22 : Value).ownBlock ∧ some k_ ≠ (.slice Ao79 t462.length co79 : Value).ownBlock)) (n := t426.length) (c := co14) ?_).2.2;exact (by (with_reducible repeat (first | apply r1_ | apply r2_ | apply r3_));exact (Kd.R_mono (zrf (Kd.R_types HO_431003.out BK466.out (by decide))) (fun _ h_ => h_.1))));(case side8 => exact (Kd.R_reads' HO_431003.out).2.1);rintro e w93 ⟨rfl,hb⟩;refine ⟨_,rfl,?_⟩;replace HO_431002 := am_ (Kd.S_below (by (with_reducible repeat (first | apply Kd.S_alloc | apply Kd.S_drewN | apply Kd.S_drew));exact (Kd.S_mono (Kd.S_far (p := ⟨gb466,3,none⟩) (Kd.S_far (p := ⟨gb466,2,none⟩) (Kd.S_far (p := ⟨gb466,1,none⟩) (Kd.S_far (p := ⟨gb466,0,none⟩) (Kd.S_types HO_431002.out BK466.out (by decide)) (fun _ hk => hk.2) (.int .i64 t457)) (fun _ hk => hk.2) (.int .i64 t458)) (fun _ hk => hk.2) (.slice Ao78 t459.length co78)) (fun _ hk => hk.2) (.slice Ao79 t462.length co79)) (fun _ h_ => h_.1))) hb);replace HO_431003 := am_ (Kd.R_below (by (with_reducible repeat (first | apply r1_ | apply r2_ | apply r3_));exact (Kd.R_mono (zrf (Kd.R_types HO_431003.out BK466.out (by decide))) (fun _ h_ => h_.1))) hb);replace HO_444002 := am_ (Kd.S_below (by (with_reducible repeat (first | apply Kd.S_alloc | apply Kd.S_drewN | apply Kd.S_drew));exact (Kd.S_mono (Kd.S_far (p := ⟨gb466,3,none⟩) (Kd.S_far (p := ⟨gb466,2,none⟩) (Kd.S_far (p := ⟨gb466,1,none⟩) (Kd.S_far (p := ⟨gb466,0,none⟩) (Kd.S_types HO_444002.out BK466.out (by decide)) (fun _ hk => hk.2) (.int .i64 t457)) (fun _ hk => hk.2) (.int .i64 t458)) (fun _ hk => hk.2) (.slice Ao78 t459.length co78)) (fun _ hk => hk.2) (.slice Ao79 t462.length co79)) (fun _ h_ => h_.1))) hb);replace HO_444003 := am_ (Kd.R_below (by (with_reducible repeat (first | apply r1_ | apply r2_ | apply r3_));exact (Kd.R_mono (zrf (Kd.R_types HO_444003.out BK466.out (by decide))) (fun _ h_ => h_.1))) hb);replace HO461 := am_ (Kd.S_below (by (with_reducible repeat (first | apply Kd.S_alloc | apply Kd.S_drewN | apply Kd.S_drew));exact (Kd.S_mono (Kd.S_far (p := ⟨gb466,3,none⟩) (Kd.S_far (p := ⟨gb466,2,none⟩) (Kd.S_far (p := ⟨gb466,1,none⟩) (Kd.S_far (p := ⟨gb466,0,none⟩) (Kd.S_types HO461.out BK466.out (by decide)) (fun _ hk => hk.2) (.int .i64 t457)) (fun _ hk => hk.2) (.int .i64 t458)) (fun _ hk => hk.2) (.slice Ao78 t459.length co78)) (fun _ hk => hk.2) (.slice Ao79 t462.length co79)) (fun _ h_ => h_.1))) hb);replace HO464 := am_ (Kd.R_below (by (with_reducible repeat (first | apply r1_ | apply r2_ | apply r3_));exact (Kd.R_mono (zrf (Kd.R_types HO464.out BK466.out (by decide))) (fun _ h_ => h_.1))) hb);replace BK430 := am_ (blk_below (g := gb430) (o := .cells #[.int .i64 t421,.int .i64 t422,.slice Ao13 t423.length co13,.slice Ao14 t426.length co14] 26 (0,0)) (zq BK430) hb);replace BK443 := am_ (blk_below (g := gb443) (o := .cells #[.int .i64 t434,.int .i64 t435,.slice Ao21 t436.length co21,.slice Ao22 t439.length co22] 26 (0,0)) (zq BK443) hb);replace BK466 := am_ (blk_below (g := gb466) (o := .cells #[.int .i64 t457,.int .i64 t458,.slice Ao78 t459.length co78,.slice Ao79 t462.length co79] 26 (0,0)) (zq BK466) hb);replace HB := zs_ HB hb;(try clear hb);(try clear hb2);(try clear hk);(try clear hi)))
             go_meet
             case rel => exact ⟨_,(true),(by first | rfl | (simp;done) | (simp [*];done)),H',⟨by have := HJ6.out;have := HJ37.out;first | omega | exact Nat.le_refl _⟩,⟨by (with_reducible repeat (first | apply Kd.S_alloc | apply Kd.S_drewN | apply Kd.S_drew));exact HO_431002.out⟩,⟨zr HO_431003⟩,⟨by (with_reducible repeat (first | apply Kd.S_alloc | apply Kd.S_drewN | apply Kd.S_drew));exact HO_444002.out⟩,⟨zr HO_444003⟩,⟨by (with_reducible repeat (first | apply Kd.S_alloc | apply Kd.S_drewN | apply Kd.S_drew));exact Kd.S_mono HO461.out (fun _ hk => ⟨hk.1.2,hk.2⟩)⟩,⟨by (with_reducible repeat (first | apply r1_ | apply r2_ | apply r3_));exact Kd.R_mono HO464.out (fun _ hk => ⟨hk.1.2,hk.2⟩)⟩,⟨by (with_reducible repeat (first | apply k1_ | apply k2_ | apply k3_));exact BK430.out⟩,⟨by (with_reducible repeat (first | apply k1_ | apply k2_ | apply k3_));exact BK443.out⟩,⟨by (with_reducible repeat (first | apply k1_ | apply k2_ | apply k3_));exact BK466.out⟩,⟨zl_ HB⟩⟩
           case rest =>
            clear HC65
            try clear c1
            try clear c2
            try clear c2b0
            try clear c2b1
            try clear p2
            try clear c3
            try clear c4
            try clear c5
            try clear c6
            try clear c7
            try clear c8
            try clear c9
            try clear c10
            try clear c11
            try clear c12
            try clear c19
            try clear c24
            try clear c25
            try clear c29
            try clear c33
            try clear c36
            try clear c42
            try clear c42b0
            try clear c44
            try clear c45
            try clear c49
            try clear c53
            try clear c56
            try clear c56b0
            try clear c57
            try clear c62
            try clear c62b0
            try clear c62b1
            try clear c66
            try clear c75
            try clear c76
            try clear c81
            try clear c82
            try clear c83
            try clear c85
            try clear c88
            try clear c89
            try clear c91
            try clear hcz12_0
            try clear hcz12_1
            try clear hcz12_2
            try clear hcz12_3
            try clear hcz20_0
            try clear hcz20_1
            try clear hcz20_2
            try clear hcz20_3
            try clear hcz26_0
            try clear hcz26_1
            try clear hcz26_2
            try clear hcz26_3
            try clear hcz27_0
            try clear hcz27_1
            try clear hcz27_2
            try clear hcz27_3
            try clear hcz30_0
            try clear hcz30_1
            try clear hcz30_2
            try clear hcz30_3
            try clear hcz31_0
            try clear hcz31_1
            try clear hcz31_2
            try clear hcz31_3
            try clear hcz46_0
            try clear hcz46_1
            try clear hcz46_2
            try clear hcz46_3
            try clear hcz47_0
            try clear hcz47_1
            try clear hcz47_2
            try clear hcz47_3
            try clear hcz50_0
            try clear hcz50_1
            try clear hcz50_2
            try clear hcz50_3
            try clear hcz51_0
            try clear hcz51_1
            try clear hcz51_2
            try clear hcz51_3
            try clear hcz58_0
            try clear hcz58_1
            try clear hcz58_2
            try clear hcz58_3
            try clear hcz60_0
            try clear hcz60_1
            try clear hcz60_2
            try clear hcz60_3
            try clear hcz67_0
            try clear hcz67_1
            try clear hcz67_2
            try clear hcz67_3
            try clear hcz69_0
            try clear hcz69_1
            try clear hcz69_2
            try clear hcz69_3
            try clear hcz77_0
            try clear hcz77_1
            try clear hcz77_2
            try clear hcz77_3
            try clear hcz84_0
            try clear hcz84_1
            try clear hcz84_2
            try clear hcz84_3
            try clear hcz86_0
            try clear hcz86_1
            try clear hcz86_2
            try clear hcz86_3
            try clear hcz90_0
            try clear hcz90_1
            try clear hcz90_2
            try clear hcz90_3
            try clear hcz92_0
            try clear hcz92_1
            try clear hcz92_2
            try clear hcz92_3
            try clear hfz12_0
            try clear hfz12_1
            try clear hfz12_2
            try clear hfz12_3
            try clear hfz20_0
            try clear hfz20_1
            try clear hfz20_2
            try clear hfz20_3
            try clear hfz26_0
            try clear hfz26_1
            try clear hfz26_2
            try clear hfz26_3
            try clear hfz27_0
            try clear hfz27_1
            try clear hfz27_2
            try clear hfz27_3
            try clear hfz30_0
            try clear hfz30_1
            try clear hfz30_2
            try clear hfz30_3
            try clear hfz31_0
            try clear hfz31_1
            try clear hfz31_2
            try clear hfz31_3
            try clear hfz46_0
            try clear hfz46_1
            try clear hfz46_2
            try clear hfz46_3
            try clear hfz47_0
            try clear hfz47_1
            try clear hfz47_2
            try clear hfz47_3
            try clear hfz50_0
            try clear hfz50_1
            try clear hfz50_2
            try clear hfz50_3
            try clear hfz51_0
            try clear hfz51_1
            try clear hfz51_2
            try clear hfz51_3
            try clear hfz58_0
            try clear hfz58_1
            try clear hfz58_2
            try clear hfz58_3
            try clear hfz60_0
            try clear hfz60_1
            try clear hfz60_2
            try clear hfz60_3
            try clear hfz67_0
            try clear hfz67_1
            try clear hfz67_2
            try clear hfz67_3
            try clear hfz69_0
            try clear hfz69_1
            try clear hfz69_2
            try clear hfz69_3
            try clear hfz77_0
            try clear hfz77_1
            try clear hfz77_2
            try clear hfz77_3
            try clear hfz84_0
            try clear hfz84_1
            try clear hfz84_2
            try clear hfz84_3
            try clear hfz86_0
            try clear hfz86_1
            try clear hfz86_2
            try clear hfz86_3
            try clear hfz90_0
            try clear hfz90_1
            try clear hfz90_2
            try clear hfz90_3
            try clear hfz92_0
            try clear hfz92_1
            try clear hfz92_2
            try clear hfz92_3
            try clear p2
            obtain ⟨kq,x84_64,rfl,HA,HJ64,HO_431002,HO_431003,HO_444002,HO_444003,HO_467002,HO_467003,BK430,BK443,BK466,HB⟩ := hcut
            cases kq with
            | zero => exact absurd HA.out (by simp [laws_FnExactReadTable.j2])
            | succ kj64 =>
             have H := HA.out
             clear HA
             simp only [laws_FnExactReadTable.j2] at H
             by_cases c94 : x84_64 = true
             ·subst c94
              have H1 : (some false) = some r := by rw [if_pos rfl] at H;exact H
              clear H
              have H := H1
              clear H1
              obtain rfl := Option.some.inj H
              go_wp2
              go_ret
              exact ⟨zt_,zl_ HB⟩
             ·replace c94 := Bool.eq_false_iff.mpr c94
              subst c94
              have H1 : ((laws_heldTable.f kj64 t434 t435 m436 m439 1).bind fun t468 => (if t468 < 0 then (some false) else (if t468 = t452 then (some true) else (some false)))) = some r := by rw [if_neg (show ¬ (false = true) by decide)] at H;exact H
              clear H
              have H := H1
              clear H1
              replace H := Option.bind_eq_some_iff.mp H
              obtain ⟨t468,A950,H⟩ := H
              try dsimp only at H
              have A95 := am_ A950
              clear A950
              by_cases c96 : t468 < 0
              ·rw [if_pos c96] at H
               have c96b0 : decide (t468 < 0) = true := decide_eq_true c96
               clear c96
               obtain rfl := Option.some.inj H
               have hnb97 := NB443_430.out
               have hnc97 := NB430_443.out
               have hnb98 := NB443_466.out
               have hnc98 := NB466_443.out
               obtain ⟨hcz99_0,hcz99_1,hcz99_2,hcz99_3,hfz99_0,hfz99_1,hfz99_2,hfz99_3⟩ := zc4 BK443
               go_wp2_with (first | ((with_reducible refine gate_callee (f := 12) rfl ?_);refine zgl (some 87) Try.func12 #[.agg #[.int .i64 t434,.int .i64 t435,.slice Ao21 t436.length co21,.slice Ao22 t439.length co22],.int .i64 1] ?_;(with_reducible refine (heldT_n kj64 t434 t435 _ _ _ m436 _ _ _ m439 1 t468 _ ?e2q ?e3q ?side1 ?side2 ?side3 ?side4 A95.out).mono ?_);(case e2q => exact (Kd.S_reads' HO_444002.out).1);(case e3q => exact (Kd.R_reads' HO_444003.out).1);(case side1 => repeat (first | exact (Kd.S_reads' HO_444002.out).2.2 | (with_reducible refine Kd.C_alloc ?_ _) | (with_reducible refine Kd.C_drewN ?_ _) | (with_reducible refine Kd.C_drew ?_)));(case side2 => exact (Kd.S_reads' HO_444002.out).2.1);(case side3 => repeat (first | exact (Kd.R_reads' HO_444003.out).2.2 | (with_reducible refine Kd.C_alloc ?_ _) | (with_reducible refine Kd.C_drewN ?_ _) | (with_reducible refine Kd.C_drew ?_)));(case side4 => exact (Kd.R_reads' HO_444003.out).2.1);rintro e w100 ⟨rfl,hb⟩;refine ⟨_,rfl,?_⟩;replace HO_444002 := am_ (Kd.S_below (by (with_reducible repeat (first | apply Kd.S_alloc | apply Kd.S_drewN | apply Kd.S_drew));exact HO_444002.out) hb);replace HO_444003 := zrb HO_444003 hb;replace BK443 := zb BK443 hb;replace HB := zs_ HB hb;(try clear hb);(try clear hb2);(try clear hk);(try clear hi)))
               go_ret
               exact ⟨zt_,zl_ HB⟩
              ·rw [if_neg c96] at H
               have c96b0 : decide (t468 < 0) = false := decide_eq_false c96
               clear c96
               by_cases c101 : t468 = t452
               ·rw [if_pos c101] at H
                have c101b0 : (t468 == t452) = true := beq_iff_eq.mpr c101
                have c101b1 : (t468 != t452) = false := bne_eq_false_iff_eq.mpr c101
                clear c101
                obtain rfl := Option.some.inj H
                have hnb102 := NB443_430.out
                have hnc102 := NB430_443.out
                have hnb103 := NB443_466.out
                have hnc103 := NB466_443.out
                obtain ⟨hcz104_0,hcz104_1,hcz104_2,hcz104_3,hfz104_0,hfz104_1,hfz104_2,hfz104_3⟩ := zc4 BK443
                go_wp2_with (first | ((with_reducible refine gate_callee (f := 12) rfl ?_);refine zgl (some 87) Try.func12 #[.agg #[.int .i64 t434,.int .i64 t435,.slice Ao21 t436.length co21,.slice Ao22 t439.length co22],.int .i64 1] ?_;(with_reducible refine (heldT_n kj64 t434 t435 _ _ _ m436 _ _ _ m439 1 t468 _ ?e2q ?e3q ?side1 ?side2 ?side3 ?side4 A95.out).mono ?_);(case e2q => exact (Kd.S_reads' HO_444002.out).1);(case e3q => exact (Kd.R_reads' HO_444003.out).1);(case side1 => repeat (first | exact (Kd.S_reads' HO_444002.out).2.2 | (with_reducible refine Kd.C_alloc ?_ _) | (with_reducible refine Kd.C_drewN ?_ _) | (with_reducible refine Kd.C_drew ?_)));(case side2 => exact (Kd.S_reads' HO_444002.out).2.1);(case side3 => repeat (first | exact (Kd.R_reads' HO_444003.out).2.2 | (with_reducible refine Kd.C_alloc ?_ _) | (with_reducible refine Kd.C_drewN ?_ _) | (with_reducible refine Kd.C_drew ?_)));(case side4 => exact (Kd.R_reads' HO_444003.out).2.1);rintro e w105 ⟨rfl,hb⟩;refine ⟨_,rfl,?_⟩;replace HO_444002 := am_ (Kd.S_below (by (with_reducible repeat (first | apply Kd.S_alloc | apply Kd.S_drewN | apply Kd.S_drew));exact HO_444002.out) hb);replace HO_444003 := zrb HO_444003 hb;replace BK443 := zb BK443 hb;replace HB := zs_ HB hb;(try clear hb);(try clear hb2);(try clear hk);(try clear hi)))
                go_ret
                exact ⟨zt_,zl_ HB⟩
               ·rw [if_neg c101] at H
                have c101b0 : (t468 == t452) = false := beq_eq_false_iff_ne.mpr c101
                have c101b1 : (t468 != t452) = true := bne_iff_ne.mpr c101
                obtain rfl := Option.some.inj H
                have hnb106 := NB443_430.out
                have hnc106 := NB430_443.out
                have hnb107 := NB443_466.out
                have hnc107 := NB466_443.out
                obtain ⟨hcz108_0,hcz108_1,hcz108_2,hcz108_3,hfz108_0,hfz108_1,hfz108_2,hfz108_3⟩ := zc4 BK443
                go_wp2_with (first | ((with_reducible refine gate_callee (f := 12) rfl ?_);refine zgl (some 87) Try.func12 #[.agg #[.int .i64 t434,.int .i64 t435,.slice Ao21 t436.length co21,.slice Ao22 t439.length co22],.int .i64 1] ?_;(with_reducible refine (heldT_n kj64 t434 t435 _ _ _ m436 _ _ _ m439 1 t468 _ ?e2q ?e3q ?side1 ?side2 ?side3 ?side4 A95.out).mono ?_);(case e2q => exact (Kd.S_reads' HO_444002.out).1);(case e3q => exact (Kd.R_reads' HO_444003.out).1);(case side1 => repeat (first | exact (Kd.S_reads' HO_444002.out).2.2 | (with_reducible refine Kd.C_alloc ?_ _) | (with_reducible refine Kd.C_drewN ?_ _) | (with_reducible refine Kd.C_drew ?_)));(case side2 => exact (Kd.S_reads' HO_444002.out).2.1);(case side3 => repeat (first | exact (Kd.R_reads' HO_444003.out).2.2 | (with_reducible refine Kd.C_alloc ?_ _) | (with_reducible refine Kd.C_drewN ?_ _) | (with_reducible refine Kd.C_drew ?_)));(case side4 => exact (Kd.R_reads' HO_444003.out).2.1);rintro e w109 ⟨rfl,hb⟩;refine ⟨_,rfl,?_⟩;replace HB := zs_ HB hb;(try clear hb);(try clear hb2);(try clear hk);(try clear hi)))
                go_ret
                exact ⟨zt_,zl_ HB⟩
          ·rw [if_neg c62] at H
           have c62b0 : (t453 == t452) = false := beq_eq_false_iff_ne.mpr c62
           have c62b1 : (t453 != t452) = true := bne_iff_ne.mpr c62
           obtain rfl := Option.some.inj H
           have hnb110 := NB443_430.out
           have hnc110 := NB430_443.out
           obtain ⟨hcz111_0,hcz111_1,hcz111_2,hcz111_3,hfz111_0,hfz111_1,hfz111_2,hfz111_3⟩ := zc4 BK443
           go_wp2_with (first | ((with_reducible refine gate_callee (f := 11) rfl ?_);refine zgl (some 61) Try.func11 #[.agg #[.int .i64 t434,.int .i64 t435,.slice Ao21 t436.length co21,.slice Ao22 t439.length co22],.int .i64 1] ?_;(with_reducible refine (laws_markTable.calls kj37 t434 t435 _ _ _ t436 _ _ _ t439 1 t452 m436 m439 ?ok2q ?ok3q w _ ?hBq ?h2q ?h3q A54.out).mono ?_);(case hBq => exact zl_ HB);(case h2q => exact (by (with_reducible repeat (first | apply Kd.S_alloc | apply Kd.S_drewN | apply Kd.S_drew));exact HO_444002.out));(case h3q => exact (by (with_reducible repeat (first | apply r1_ | apply r2_ | apply r3_));exact HO_444003.out));rintro e w112 ⟨rfl,h2_,h3_,hM,hb⟩;refine ⟨_,rfl,?_⟩;have q2_ := h2_;have q3_ := h3_;clear h2_ h3_;replace HO_444002 := am_ q2_;replace HO_444003 := am_ q3_;replace BK443 := am_ (hM.blk BK443.out (by decide) (by decide));replace HB := am_ hb;clear hM q2_ q3_;(try clear hb);(try clear hb2);(try clear hk);(try clear hi);obtain ⟨hcz113_0,hcz113_1,hcz113_2,hcz113_3,hfz113_0,hfz113_1,hfz113_2,hfz113_3⟩ := zc4 BK443) | ((with_reducible refine gate_callee (f := 12) rfl ?_);refine zgl (some 64) Try.func12 #[.agg #[.int .i64 t434,.int .i64 t435,.slice Ao21 t436.length co21,.slice Ao22 t439.length co22],.int .i64 1] ?_;(with_reducible refine (heldT_n kj37 t434 t435 _ _ _ m436 _ _ _ m439 1 t453 _ ?e2q ?e3q ?side1 ?side2 ?side3 ?side4 A55.out).mono ?_);(case e2q => exact (Kd.S_reads' HO_444002.out).1);(case e3q => exact (Kd.R_reads' HO_444003.out).1);(case side1 => repeat (first | exact (Kd.S_reads' HO_444002.out).2.2 | (with_reducible refine Kd.C_alloc ?_ _) | (with_reducible refine Kd.C_drewN ?_ _) | (with_reducible refine Kd.C_drew ?_)));(case side2 => exact (Kd.S_reads' HO_444002.out).2.1);(case side3 => repeat (first | exact (Kd.R_reads' HO_444003.out).2.2 | (with_reducible refine Kd.C_alloc ?_ _) | (with_reducible refine Kd.C_drewN ?_ _) | (with_reducible refine Kd.C_drew ?_)));(case side4 => exact (Kd.R_reads' HO_444003.out).2.1);rintro e w114 ⟨rfl,hb⟩;refine ⟨_,rfl,?_⟩;replace HB := zs_ HB hb;(try clear hb);(try clear hb2);(try clear hk);(try clear hi)))
           go_ret
           exact ⟨zt_,zl_ HB⟩
     ·replace c36 := Bool.eq_false_iff.mpr c36
      subst c36
      have H1 : (some false) = some r := by rw [if_neg (show ¬ (false = true) by decide)] at H;exact H
      clear H
      have H := H1
      clear H1
      obtain rfl := Option.some.inj H
      go_wp2_with (first | ((with_reducible refine gate_callee (f := 6) rfl ?_);refine zgl (some 40) Try.func6 #[.slice A0 l0.length c0] ?_;(with_reducible refine (laws_toByteS.calls kj6 _ _ l0 t445 _ ?side1 ?side2 A34.out).mono ?_);(case side1 => exact zc_ HR0 HB);(case side2 => exact HC0.out);rintro e w115 ⟨v446,rfl,ho0,hb⟩;refine ⟨_,rfl,?_⟩;have HO447 := am_ (Kd.R_lower (Kd.R_new' ho0 (Kd.R_lt (zr HO_5))) (below_size (zl_ HB)));replace HO_5 := am_ (Kd.R_elder' (zr HO_5) (Kd.R_base ho0) hb);replace HB := zs_ HB hb;(try clear hb);(try clear hb2);(try clear hk);(try clear hi);(try clear ho0);obtain ⟨Ao116,co116,eo116⟩ := Kd.R_slice HO447.out;subst eo116) | ((with_reducible refine gate_callee (f := 9) rfl ?_);refine zgl (some 41) Try.func9 #[.slice Ao16 t431.length co16,.slice Ao116 t445.length co116] ?_;(with_reducible refine (laws_eqByteS.calls kj6 _ _ t431 _ _ t445 false _ ?side1 ?side2 ?side3 ?side4 A35.out).mono ?_);(case side1 => repeat (first | exact (Kd.R_reads' HO_5.out).2.2 | (with_reducible refine Kd.C_alloc ?_ _) | (with_reducible refine Kd.C_drewN ?_ _) | (with_reducible refine Kd.C_drew ?_)));(case side2 => exact (Kd.R_reads' HO_5.out).2.1);(case side3 => repeat (first | exact (Kd.R_reads' HO447.out).2.2 | (with_reducible refine Kd.C_alloc ?_ _) | (with_reducible refine Kd.C_drewN ?_ _) | (with_reducible refine Kd.C_drew ?_)));(case side4 => exact (Kd.R_reads' HO447.out).2.1);rintro e w' ⟨rfl,⟨nd,rfl⟩⟩;refine ⟨_,rfl,?_⟩))
      go_ret
      exact ⟨zt_,zl_ HB⟩
end Go.Proofs.Ytioocldcdonlpaa.B
end
