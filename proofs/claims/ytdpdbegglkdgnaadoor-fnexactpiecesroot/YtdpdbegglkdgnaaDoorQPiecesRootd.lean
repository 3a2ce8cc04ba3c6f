/- A part of the proof that FnExactPiecesRoot returns true at every input: plain functions, contracts and lemmas. No conditions. -/
import Derived.Test.YtdpdbegglkdgnaaDoorQPiecesRootc
set_option linter.unusedVariables false
set_option linter.unusedSimpArgs false
set_option linter.unusedSectionVars false
section
namespace Go.Proofs.YtdpdbegglkdgnaaDoor.A
open Go.RowKit Go.Proofs.YtdpdbegglkdgnaaDoorW.PrintWords Go.Proofs.YtdpdbegglkdgnaaDoorW.PrintLast Go.Proofs.YtdpdbegglkdgnaaDoorW.PrintMore
attribute [local go_sem] max2_int min2_int max_two min_two max_three min_three max_four min_four
def spec_l09Root.T7 : Bool × List (List Nat × List Nat) := (true,[([],[]),([],[]),([0,1],[0,1]),([2],[2]),([],[]),([],[]),([4,5],[4,5]),([6,3],[6]),([3,7,7],[3,7]),([8,8,0,1,2,3,4,5,6,7,8],[8])])
def spec_l09Root.B7 : List Nat := [0,0,3,7,0,0,48,127,255,511]
theorem spec_l09Root.tab7 : rtab .any (opsOf Tryd.f80 7) = spec_l09Root.T7 := by kernel_rfl
theorem spec_l09Root.bits7 : waitsOk spec_l09Root.T7.2 spec_l09Root.B7 = true := by kernel_rfl
set_option maxHeartbeats 8000000 in
set_option maxRecDepth 100000 in
theorem spec_l09Root.calls (k : Nat) : ∀ (A0 : Option Addr) (c0 : Nat) (l0 : List ByteArray) (r : ByteArray) (w : World) (hr0 : Kd.C Kd.string w A0 l0.length l0) (hc0 : l0.length ≤ c0) (h : spec_l09Root.f k l0 = some r),
  Calls Tryd.prog 80 #[.slice A0 l0.length c0] w fun e w' => e = .returned (.string r) ∧ Below w.heap.size w w' := by
 induction k using Nat.strongRecOn with
 | _ k ih =>
 intro A0 c0 l0 r w hr0 hc0 h
 cases k with
 | zero => exact absurd h (by simp [spec_l09Root.f])
 | succ k =>
 simp only [spec_l09Root.f] at h
 have HR0 := am_ hr0
 have HC0 := am_ hc0
 clear hr0 hc0
 have HB := am_ (Below.refl w.heap.size w)
 have H : (if (l0.length : Int) = 0 then ((spec_l01Hash.f k (([110,111,116,104,105,110,103] : List Int))).bind fun t760 => (some t760)) else (if (l0.length : Int) = 1 then (if 0 < (l0.length : Int) then ((spec_l09Leaf.f k (rdOf ByteArray.empty l0 0)).bind fun t762 => (some t762)) else (none)) else ((spec_l09Half.f k (l0.length : Int)).bind fun t763 => (if 0 ≤ t763 then (if t763 ≤ (l0.length : Int) then ((spec_l09Root.f k (l0.take (t763 : Int).toNat)).bind fun t765 => ((spec_l09Root.f k (l0.drop (t763 : Int).toNat)).bind fun t767 => ((spec_l03Node.f k t765 t767).bind fun t768 => (some t768)))) else (none)) else (none))))) = some r := h
 clear h
 by_cases c2 : (l0.length : Int) = 0
 ·rw [if_pos c2] at H
  have c2b0 : ((l0.length : Int) == 0) = true := beq_iff_eq.mpr c2
  have c2b1 : ((l0.length : Int) != 0) = false := bne_eq_false_iff_eq.mpr c2
  clear c2
  obtain ⟨y757,hy757⟩ : ∃ y_ : List Int,y_ = (([110,111,116,104,105,110,103] : List Int)) := ⟨_,rfl⟩
  replace H : ((spec_l01Hash.f k y757).bind fun t760 => (some t760)) = some r := by first | (rw [hy757];with_reducible exact H) | (have H2_ := (Option.bind_some _ _).symm.trans H;rw [hy757];with_reducible exact H2_) | (have H2_ := (Option.bind_some _ _).symm.trans H;with_reducible exact H2_) | with_reducible exact H | (rw [hy757];exact H) | exact H
  have Ny757 := am_ hy757
  clear hy757
  replace H := Option.bind_eq_some_iff.mp H
  obtain ⟨t760,A30,H⟩ := H
  try dsimp only at H
  have A3 := am_ A30
  clear A30
  obtain rfl := Option.some.inj H
  have e_ := Ny757.out
  subst e_
  go_enter Tryd.func80,Tryd.ntmps80
  go_wp2_with (first | ((with_reducible refine gate_dst (N := 9) rfl ?_);refine convlit_hs 94 5 [110,111,116,104,105,110,103] rfl (.tmp 8) rfl Tryd.underlying94 Tryd.underlying5 rfl rfl (by decide) rfl ?_;intro g_ cap_ w1_ F0;have F := am_ F0;clear F0) | (go_at_call 83;refine (spec_l01Hash.calls k (some ⟨g_,0,none⟩) cap_ [110,111,116,104,105,110,103] t760 _ (bmC F.out.row (by decide)) F.out.row.room A3.out).mono ?_;rintro e w6_ ⟨rfl,hb6⟩;have B := am_ (Below.trans F.out.below (hb6.mono (by have := F.out.below.size;exact this)));clear hb6 F))
  go_ret
  exact ⟨rfl,B.out⟩
 ·rw [if_neg c2] at H
  have c2b0 : ((l0.length : Int) == 0) = false := beq_eq_false_iff_ne.mpr c2
  have c2b1 : ((l0.length : Int) != 0) = true := bne_iff_ne.mpr c2
  have c2b2 : ¬ (l0 = []) := fun h_ => c2 (by rw [h_];rfl)
  by_cases c8 : (l0.length : Int) = 1
  ·rw [if_pos c8] at H
   have c8b0 : ((l0.length : Int) == 1) = true := beq_iff_eq.mpr c8
   have c8b1 : ((l0.length : Int) != 1) = false := bne_eq_false_iff_eq.mpr c8
   clear c8
   by_cases c9 : 0 < (l0.length : Int)
   ·rw [if_pos c9] at H
    have c9b0 : decide (0 < (l0.length : Int)) = true := decide_eq_true c9
    have c9b1 : decide (0 < l0.length) = true := decide_eq_true (by omega)
    clear c9
    replace H := Option.bind_eq_some_iff.mp H
    obtain ⟨t762,A100,H⟩ := H
    try dsimp only at H
    have A10 := am_ A100
    clear A100
    obtain rfl := Option.some.inj H
    have p761 : 0 ≤ (0 : Int) := (by omega)
    have q761 : 0 < (l0.length : Int) := o1_ (by first | (with_reducible assumption) | assumption)
    obtain ⟨ad761,e761,hx761_0⟩ := Kd.at_string HR0.out 0 p761 q761
    cases e761
    have qi761 : (0 < l0.length) = True := eq_true (by omega)
    (try rw [show ((0 : Int)).toNat = 0 from rfl] at hx761_0)
    (try rw [Addr.add_zero'] at hx761_0)
    replace p761 := eq_true p761
    replace q761 := eq_true q761
    go_enter Tryd.func80,Tryd.ntmps80
    go_wp2_with (first | ((with_reducible refine gate_callee (f := 72) rfl ?_);refine zgl (some 16) Tryd.func72 #[.string (rdOf ByteArray.empty l0 0)] ?_;(with_reducible refine (spec_l09Leaf.calls k (rdOf ByteArray.empty l0 0) t762 _ A10.out).mono ?_);rintro e w11 ⟨rfl,hb⟩;refine ⟨_,rfl,?_⟩;replace HB := zs_ HB hb;(try clear hb);(try clear hb2);(try clear hk);(try clear hi)))
    go_ret
    exact ⟨zt_,zl_ HB⟩
   ·rw [if_neg c9] at H
    exact absurd H (by simp)
  ·rw [if_neg c8] at H
   have c8b0 : ((l0.length : Int) == 1) = false := beq_eq_false_iff_ne.mpr c8
   have c8b1 : ((l0.length : Int) != 1) = true := bne_iff_ne.mpr c8
   replace H := Option.bind_eq_some_iff.mp H
   obtain ⟨t763,A120,H⟩ := H
   try dsimp only at H
   have A12 := am_ A120
   clear A120
   by_cases c13 : 0 ≤ t763
   ·rw [if_pos c13] at H
    have c13b0 := eq_true c13
    have c13b1 : decide (0 ≤ t763) = true := decide_eq_true c13
    clear c13
    by_cases c14 : t763 ≤ (l0.length : Int)
    ·rw [if_pos c14] at H
     have c14b0 := eq_true c14
     have c14b1 : decide (t763 ≤ (l0.length : Int)) = true := decide_eq_true c14
     clear c14
     replace H := Option.bind_eq_some_iff.mp H
     obtain ⟨t765,A150,H⟩ := H
     try dsimp only at H
     have A15 := am_ A150
     clear A150
     have c16b0 := eq_true (o1_ (by first | (with_reducible assumption) | assumption) : 0 ≤ t763)
     have c17b0 := eq_true (o1_ (by first | (with_reducible assumption) | assumption) : t763 ≤ (l0.length : Int))
     replace H := Option.bind_eq_some_iff.mp H
     obtain ⟨t767,A180,H⟩ := H
     try dsimp only at H
     have A18 := am_ A180
     clear A180
     replace H := Option.bind_eq_some_iff.mp H
     obtain ⟨t768,A190,H⟩ := H
     try dsimp only at H
     have A19 := am_ A190
     clear A190
     obtain rfl := Option.some.inj H
     go_enter Tryd.func80,Tryd.ntmps80
     try go_wp2_with (first | ((with_reducible refine gate_callee (f := 105) rfl ?_);refine zgl (some 19) Tryd.func105 #[.int .i64 (l0.length : Int)] ?_;(with_reducible refine (spec_l09Half.calls k (l0.length : Int) t763 _ A12.out).mono ?_);rintro e wq_ ⟨rfl,⟨nd,hq_⟩⟩;refine ⟨_,rfl,?_⟩;replace HB := am_ (show Below w.heap.size w wq_ from by rw [hq_];exact pw_below_drewN HB.out _);clear hq_))
     replace HB := am_ (below_drew1 HB.out)
     obtain ⟨i021,hi021,_,hsz21,_⟩ := info_parts info9
     obtain ⟨hcut21,hA21,hC21⟩ := print_take_of (P := Tryd.prog) Value.string ⟨#[]⟩ 56 9 .i64 Tryd.underlying56 hi021 hsz21 A0 c0 l0 t763 (o1_ (by first | (with_reducible assumption) | assumption)) (o1_ (by first | (with_reducible assumption) | assumption)) HC0.out
     have HR764 := am_ (Kd.C_of_reads (h1 := fun _ => rfl) (hA21 _ (Kd.reads_of_C HR0.out)))
     have HC764 := am_ hC21
     clear hA21 hC21 hi021 hsz21
     obtain ⟨i022,hi022,_,hsz22,_⟩ := info_parts info9
     obtain ⟨A22,hcut22,hA22,hC22⟩ := print_drop_of (P := Tryd.prog) Value.string ⟨#[]⟩ 56 9 .i64 Tryd.underlying56 hi022 hsz22 A0 c0 l0 t763 (o1_ (by first | (with_reducible assumption) | assumption)) (o1_ (by first | (with_reducible assumption) | assumption)) HC0.out
     have HR766 := am_ (Kd.C_of_reads (h1 := fun _ => rfl) (hA22 _ (Kd.reads_of_C HR0.out)))
     have HC766 := am_ hC22
     clear hA22 hC22 hi022 hsz22
     refine start_ (n := 10) (S := fun w' => True) (ds := []) #[false,false,false,false,false,false,false,false,false,false] (by kernel_rfl) rfl rfl trivial (fun hHeld => ?_);refine with_tabW spec_l09Root.tab7 spec_l09Root.bits7 (fun HT_ HW_ => ?_)
     generalize wq_.drew = w20 at HB HR764 HR766 hHeld ⊢
     refine zpu 0 (N := some 20) #[true,false,false,false,false,false,false,false,false,false] HT_ ?_
     refine zpu 1 (N := some 21) #[true,true,false,false,false,false,false,false,false,false] HT_ ?_
     refine zpu 2 (N := some 22) #[true,true,true,false,false,false,false,false,false,false] HT_ ?_
     refine zpu 4 (N := some 24) #[true,true,true,false,true,false,false,false,false,false] HT_ ?_
     refine zpu 5 (N := some 25) #[true,true,true,false,true,true,false,false,false,false] HT_ ?_
     refine zpu 6 (N := some 26) #[true,true,true,false,true,true,true,false,false,false] HT_ ?_
     refine one_ (i := 3) (N := some 23) #[true,true,true,true,true,true,true,false,false,false] rfl rfl (one_of HT_.out (by kernel_rfl)) (by decide) (fun K hK => ?_)
     refine goes_ Tryd.func80 (by kernel_rfl) rfl #[.slice A0 (l0.take (t763 : Int).toNat).length c0] (by rfl) rfl rfl (by (try simp only [m1_,m2_,m3_]);first | done | (rw [show (l0.take (t763 : Int).toNat).length = t763.toNat from (by rw [List.length_take];have h_ : (t763 : Int) ≤ (l0.length : Int) := o1_ (by first | (with_reducible assumption) | assumption);omega)] <;> rfl) | rfl | (simp only [d1_,d2_];rfl)) ?_
     with_reducible refine (ih k (by omega) _ _ (l0.take (t763 : Int).toNat) t765 _ ?side1 ?side2 A15.out).mono ?_
     (case side1 => repeat (first | exact (Kd.C_below HR764.out HB.out) | (with_reducible refine Kd.C_alloc ?_ _) | (with_reducible refine Kd.C_drewN ?_ _) | (with_reducible refine Kd.C_drew ?_)))
     (case side2 => exact HC764.out)
     rintro e w23 ⟨rfl,hb⟩
     refine ⟨_,rfl,?_⟩
     replace HB := zs_ HB hb
     (try clear hb)
     (try clear hb2)
     (try clear hk)
     (try clear hi)
     refine hK.out _ _ trivial (fun hHeld => ?_)
     clear hK K
     refine norm_ (a' := ?_) ?_ ?_
     rotate_left
     ·show Act.put _ (some 23) _ = _
      simp only [Act.put,p1_,p2_,p3_,i64_w,i32_w]
      rfl
     refine one_ (i := 7) (N := some 27) #[true,true,true,true,true,true,true,true,false,false] rfl rfl (one_of HT_.out (by kernel_rfl)) (by decide) (fun K hK => ?_)
     refine goes_ Tryd.func80 (by kernel_rfl) rfl #[.slice A22 (l0.drop (t763 : Int).toNat).length (c0 - t763.toNat)] (by rfl) rfl rfl (by (try simp only [m1_,m2_,m3_]);first | done | (rw [show (l0.drop (t763 : Int).toNat).length = (l0.length - t763.toNat) from List.length_drop] <;> rfl) | rfl | (simp only [d1_,d2_];rfl)) ?_
     with_reducible refine (ih k (by omega) _ _ (l0.drop (t763 : Int).toNat) t767 _ ?side1 ?side2 A18.out).mono ?_
     (case side1 => repeat (first | exact (Kd.C_below HR766.out HB.out) | (with_reducible refine Kd.C_alloc ?_ _) | (with_reducible refine Kd.C_drewN ?_ _) | (with_reducible refine Kd.C_drew ?_)))
     (case side2 => exact HC766.out)
     rintro e w24 ⟨rfl,hb⟩
     refine ⟨_,rfl,?_⟩
     replace HB := zs_ HB hb
     (try clear hb)
     (try clear hb2)
     (try clear hk)
     (try clear hi)
     refine hK.out _ _ trivial (fun hHeld => ?_)
     clear hK K
     refine norm_ (a' := ?_) ?_ ?_
     rotate_left
     ·show Act.put _ (some 27) _ = _
      simp only [Act.put,p1_,p2_,p3_,i64_w,i32_w]
      rfl
     refine one_ (i := 8) (N := some 28) #[true,true,true,true,true,true,true,true,true,false] rfl rfl (one_of HT_.out (by kernel_rfl)) (by decide) (fun K hK => ?_)
     refine goes_ Tryd.func106 (by kernel_rfl) rfl #[.string t765,.string t767] (by rfl) rfl rfl (by (try simp only [m1_,m2_,m3_]);first | done | rfl | (simp only [d1_,d2_];rfl)) ?_
     with_reducible refine (spec_l03Node.calls k t765 t767 t768 _ A19.out).mono ?_
     rintro e w25 ⟨rfl,hb⟩
     refine ⟨_,rfl,?_⟩
     replace HB := zs_ HB hb
     (try clear hb)
     (try clear hb2)
     (try clear hk)
     (try clear hi)
     refine hK.out _ _ trivial (fun hHeld => ?_)
     clear hK K
     refine norm_ (a' := ?_) ?_ ?_
     rotate_left
     ·show Act.put _ (some 28) _ = _
      simp only [Act.put,p1_,p2_,p3_,i64_w,i32_w]
      rfl
     refine zpu 9 (N := some 2) #[true,true,true,true,true,true,true,true,true,true] HT_ ?_
     refine done_ (done_of HT_.out (by kernel_rfl)) ?_
     try go_wp2
     go_ret
     exact ⟨zt_,zl_ HB⟩
    ·rw [if_neg c14] at H
     exact absurd H (by simp)
   ·rw [if_neg c13] at H
    exact absurd H (by simp)
set_option maxHeartbeats 8000000 in
set_option maxRecDepth 100000 in
theorem spec_PiecesRoot.calls (k : Nat) (A0 : Option Addr) (c0 : Nat) (l0 : List ByteArray) (r1 : ByteArray) (r2 : Int) (w : World) (hr0 : Kd.C Kd.string w A0 l0.length l0) (hc0 : l0.length ≤ c0) (h : spec_PiecesRoot.f k l0 = some (r1,r2)) :
  Calls Tryd.prog 43 #[.slice A0 l0.length c0] w fun e w' => e = .returned (.tuple #[.string r1,.int .i64 r2]) ∧ Below w.heap.size w w' := by
 have HR0 := am_ hr0
 have HC0 := am_ hc0
 clear hr0 hc0
 have HB := am_ (Below.refl w.heap.size w)
 have H : (if (l0.length : Int) > 4096 then (some ((⟨#[]⟩ : ByteArray),2)) else ((spec_l09OK.f k l0).bind fun t769 => (if t769 = true then ((spec_l09Root.f k l0).bind fun t770 => (some (t770,0))) else (some ((⟨#[]⟩ : ByteArray),1))))) = some (r1,r2) := h
 clear h
 by_cases c2 : (l0.length : Int) > 4096
 ·rw [if_pos c2] at H
  have c2b0 : decide (4096 < (l0.length : Int)) = true := decide_eq_true c2
  have c2b1 : decide (4096 < l0.length) = true := decide_eq_true (by omega)
  clear c2
  simp only [Option.some.injEq,Prod.mk.injEq] at H
  obtain ⟨rfl,rfl⟩ := H
  go_enter Tryd.func43,Tryd.ntmps43
  go_wp2
  go_ret2
  exact ⟨zt_,zl_ HB⟩
 ·rw [if_neg c2] at H
  have c2b0 : decide (4096 < (l0.length : Int)) = false := decide_eq_false c2
  have c2b1 : decide (4096 < l0.length) = false := decide_eq_false (by omega)
  clear c2
  replace H := Option.bind_eq_some_iff.mp H
  obtain ⟨t769,A30,H⟩ := H
  try dsimp only at H
  have A3 := am_ A30
  clear A30
  by_cases c4 : t769 = true
  ·subst c4
   have H1 : ((spec_l09Root.f k l0).bind fun t770 => (some (t770,0))) = some (r1,r2) := by rw [if_pos rfl] at H;exact H
   clear H
   have H := H1
   clear H1
   replace H := Option.bind_eq_some_iff.mp H
   obtain ⟨t770,A50,H⟩ := H
   try dsimp only at H
   have A5 := am_ A50
   clear A50
   simp only [Option.some.injEq,Prod.mk.injEq] at H
   obtain ⟨rfl,rfl⟩ := H
   go_enter Tryd.func43,Tryd.ntmps43
   go_wp2_with (first | ((with_reducible refine gate_callee (f := 79) rfl ?_);refine zgl (some 8) Tryd.func79 #[.slice A0 l0.length c0] ?_;(with_reducible refine (spec_l09OK.calls k _ _ l0 true _ ?side1 ?side2 A3.out).mono ?_);(case side1 => repeat (first | exact HR0.out | (with_reducible refine Kd.C_alloc ?_ _) | (with_reducible refine Kd.C_drewN ?_ _) | (with_reducible refine Kd.C_drew ?_)));(case side2 => exact HC0.out);rintro e w' ⟨rfl,⟨nd,rfl⟩⟩;refine ⟨_,rfl,?_⟩) | ((with_reducible refine gate_callee (f := 80) rfl ?_);refine zgl (some 11) Tryd.func80 #[.slice A0 l0.length c0] ?_;(with_reducible refine (spec_l09Root.calls k _ _ l0 t770 _ ?side1 ?side2 A5.out).mono ?_);(case side1 => repeat (first | exact HR0.out | (with_reducible refine Kd.C_alloc ?_ _) | (with_reducible refine Kd.C_drewN ?_ _) | (with_reducible refine Kd.C_drew ?_)));(case side2 => exact HC0.out);rintro e w6 ⟨rfl,hb⟩;refine ⟨_,rfl,?_⟩;replace HB := zs_ HB hb;(try clear hb);(try clear hb2);(try clear hk);(try clear hi)))
   go_ret2
   exact ⟨zt_,zl_ HB⟩
  ·replace c4 := Bool.eq_false_iff.mpr c4
   subst c4
   have H1 : (some ((⟨#[]⟩ : ByteArray),1)) = some (r1,r2) := by rw [if_neg (show ¬ (false = true) by decide)] at H;exact H
   clear H
   have H := H1
   clear H1
   simp only [Option.some.injEq,Prod.mk.injEq] at H
   obtain ⟨rfl,rfl⟩ := H
   go_enter Tryd.func43,Tryd.ntmps43
   go_wp2_with (first | ((with_reducible refine gate_callee (f := 79) rfl ?_);refine zgl (some 8) Tryd.func79 #[.slice A0 l0.length c0] ?_;(with_reducible refine (spec_l09OK.calls k _ _ l0 false _ ?side1 ?side2 A3.out).mono ?_);(case side1 => repeat (first | exact HR0.out | (with_reducible refine Kd.C_alloc ?_ _) | (with_reducible refine Kd.C_drewN ?_ _) | (with_reducible refine Kd.C_drew ?_)));(case side2 => exact HC0.out);rintro e w' ⟨rfl,⟨nd,rfl⟩⟩;refine ⟨_,rfl,?_⟩))
   go_ret2
   exact ⟨zt_,zl_ HB⟩
set_option maxHeartbeats 8000000 in
set_option maxRecDepth 100000 in
theorem laws_FnExactPiecesRoot.calls (k : Nat) (A0 : Option Addr) (c0 : Nat) (l0 : List ByteArray) (r : Bool) (w : World) (hr0 : Kd.C Kd.string w A0 l0.length l0) (hc0 : l0.length ≤ c0) (hL : Laid w) (h : laws_FnExactPiecesRoot.f k l0 = some r) :
  Calls Tryd.prog 12 #[.slice A0 l0.length c0] w fun e w' => e = .returned (.bool r) ∧ Below w.heap.size w w' := by
 have HR0 := am_ hr0
 have HC0 := am_ hc0
 clear hr0 hc0
 have HLD := am_ hL
 clear hL
 have HB := am_ (Below.refl w.heap.size w)
 have H : ((laws_szStringS.f k l0 1048576).bind fun t793 => (if t793 < 0 then (some true) else ((laws_toStringS.f k l0).bind fun t794 => ((spec_PiecesRoot.f k t794).bind fun bt797 => ((laws_toStringS.f k l0).bind fun t799 => ((impl_PiecesRoot.f k t799).bind fun bt802 => (if bt802.1.toList = bt797.1.toList then (laws_FnExactPiecesRoot.j0 k l0 t799 (bt802.2 != bt797.2)) else (laws_FnExactPiecesRoot.j0 k l0 t799 true)))))))) = some r := h
 clear h
 replace H := Option.bind_eq_some_iff.mp H
 obtain ⟨t793,A20,H⟩ := H
 try dsimp only at H
 have A2 := am_ A20
 clear A20
 by_cases c3 : t793 < 0
 ·rw [if_pos c3] at H
  have c3b0 : decide (t793 < 0) = true := decide_eq_true c3
  clear c3
  obtain rfl := Option.some.inj H
  go_enter Tryd.func12,Tryd.ntmps12
  go_wp2_with (first | ((with_reducible refine gate_callee (f := 34) rfl ?_);refine zgl (some 11) Tryd.func34 #[.slice A0 l0.length c0,.int .i64 1048576] ?_;(with_reducible refine (laws_szStringS.calls k _ _ l0 1048576 t793 _ ?side1 ?side2 A2.out).mono ?_);(case side1 => repeat (first | exact HR0.out | (with_reducible refine Kd.C_alloc ?_ _) | (with_reducible refine Kd.C_drewN ?_ _) | (with_reducible refine Kd.C_drew ?_)));(case side2 => exact HC0.out);rintro e w' ⟨rfl,⟨nd,rfl⟩⟩;refine ⟨_,rfl,?_⟩))
  go_ret
  exact ⟨zt_,zl_ HB⟩
 ·rw [if_neg c3] at H
  have c3b0 : decide (t793 < 0) = false := decide_eq_false c3
  clear c3
  replace H := Option.bind_eq_some_iff.mp H
  obtain ⟨t794,A40,H⟩ := H
  try dsimp only at H
  have A4 := am_ A40
  clear A40
  replace H := Option.bind_eq_some_iff.mp H
  obtain ⟨⟨t797,t798⟩,A50,H⟩ := H
  try dsimp only at H
  have A5 := am_ A50
  clear A50
  replace H := Option.bind_eq_some_iff.mp H
  obtain ⟨t799,A60,H⟩ := H
  try dsimp only at H
  have A6 := am_ A60
  clear A60
  replace H := Option.bind_eq_some_iff.mp H
  obtain ⟨⟨t802,t803⟩,A70,H⟩ := H
  try dsimp only at H
  have A7 := am_ A70
  clear A70
  have HC8 := am_ H
  clear H
  go_enter Tryd.func12,Tryd.ntmps12
  go_upto_region 8 with (first | ((with_reducible refine gate_callee (f := 34) rfl ?_);refine zgl (some 11) Tryd.func34 #[.slice A0 l0.length c0,.int .i64 1048576] ?_;(with_reducible refine (laws_szStringS.calls k _ _ l0 1048576 t793 _ ?side1 ?side2 A2.out).mono ?_);(case side1 => repeat (first | exact HR0.out | (with_reducible refine Kd.C_alloc ?_ _) | (with_reducible refine Kd.C_drewN ?_ _) | (with_reducible refine Kd.C_drew ?_)));(case side2 => exact HC0.out);rintro e w' ⟨rfl,⟨nd,rfl⟩⟩;refine ⟨_,rfl,?_⟩) | ((with_reducible refine gate_callee (f := 36) rfl ?_);refine zgl (some 16) Tryd.func36 #[.slice A0 l0.length c0] ?_;(with_reducible refine (laws_toStringS.calls k _ _ l0 t794 _ ?side1 ?side2 A4.out).mono ?_);(case side1 => repeat (first | exact HR0.out | (with_reducible refine Kd.C_alloc ?_ _) | (with_reducible refine Kd.C_drewN ?_ _) | (with_reducible refine Kd.C_drew ?_)));(case side2 => exact HC0.out);rintro e w9 ⟨v795,rfl,ho0,hb⟩;refine ⟨_,rfl,?_⟩;have HO796 := am_ (Kd.R_lower ho0 (below_size (zl_ HB)));replace HB := zs_ HB hb;(try clear hb);(try clear hb2);(try clear hk);(try clear hi);(try clear ho0);obtain ⟨Ao10,co10,eo10⟩ := Kd.R_slice HO796.out;subst eo10) | ((with_reducible refine gate_callee (f := 43) rfl ?_);refine zgl (some 17) Tryd.func43 #[.slice Ao10 t794.length co10] ?_;(with_reducible refine (spec_PiecesRoot.calls k _ _ t794 t797 t798 _ ?side1 ?side2 A5.out).mono ?_);(case side1 => repeat (first | exact (Kd.R_reads' HO796.out).2.2 | (with_reducible refine Kd.C_alloc ?_ _) | (with_reducible refine Kd.C_drewN ?_ _) | (with_reducible refine Kd.C_drew ?_)));(case side2 => exact (Kd.R_reads' HO796.out).2.1);rintro e w11 ⟨rfl,hb⟩;refine ⟨_,rfl,?_⟩;replace HO796 := zrb HO796 hb;replace HB := zs_ HB hb;(try clear hb);(try clear hb2);(try clear hk);(try clear hi)) | ((with_reducible refine gate_callee (f := 36) rfl ?_);refine zgl (some 21) Tryd.func36 #[.slice A0 l0.length c0] ?_;(with_reducible refine (laws_toStringS.calls k _ _ l0 t799 _ ?side1 ?side2 A6.out).mono ?_);(case side1 => repeat (first | exact (Kd.C_below HR0.out HB.out) | (with_reducible refine Kd.C_alloc ?_ _) | (with_reducible refine Kd.C_drewN ?_ _) | (with_reducible refine Kd.C_drew ?_)));(case side2 => exact HC0.out);rintro e w12 ⟨v800,rfl,ho0,hb⟩;refine ⟨_,rfl,?_⟩;have HO801 := am_ (Kd.R_lower (Kd.R_new' ho0 (Kd.R_lt (zr HO796))) (below_size (zl_ HB)));replace HB := zs_ HB hb;(try clear hb);(try clear hb2);(try clear hk);(try clear hi);(try clear ho0);obtain ⟨Ao13,co13,eo13⟩ := Kd.R_slice HO801.out;subst eo13) | ((with_reducible refine gate_callee (f := 44) rfl ?_);refine zgl (some 24) Tryd.func44 #[.slice Ao13 t799.length co13] ?_;(with_reducible refine (impl_PiecesRoot.calls k _ _ t799 t802 t803 _ ?side1 ?side2 ?side3 A7.out).mono ?_);(case side1 => repeat (first | exact (Kd.R_reads' HO801.out).2.2 | (with_reducible refine Kd.C_alloc ?_ _) | (with_reducible refine Kd.C_drewN ?_ _) | (with_reducible refine Kd.C_drew ?_)));(case side2 => exact (Kd.R_reads' HO801.out).2.1);(case side3 => exact HLD.out.on (zl_ HB));rintro e w14 ⟨rfl,hb⟩;refine ⟨_,rfl,?_⟩;replace HO801 := zrb HO801 hb;replace HB := zs_ HB hb;(try clear hb);(try clear hb2);(try clear hk);(try clear hi)))
  (try simp only [Act.put,p1_,p2_,p3_])
  go_cut [34] (fun v34 wc => ∃ (kq : Nat) (x34_7 : Bool),v34 = .bool x34_7 ∧ Aside0 (laws_FnExactPiecesRoot.j0 kq l0 t799 x34_7 = some r) ∧ Aside0 (kq ≤ k) ∧ Aside0 (Kd.R Kd.string 9 wc w.heap.size (fun _ => True) (.slice Ao13 t799.length co13) t799) ∧ Aside0 (Below w.heap.size w wc))
  case first =>
   have H := HC8.out
   clear HC8
   by_cases c15 : t802.toList = t797.toList
   ·rw [if_pos c15] at H
    have c15b0 : (t802.toList == t797.toList) = true := beq_iff_eq.mpr c15
    have c15b1 : (t802.toList != t797.toList) = false := bne_eq_false_iff_eq.mpr c15
    clear c15
    (first | rw [c15b0] | (simp only [i64_w,i32_w];rw [c15b0]) | skip)
    have H' := am_ H
    clear H
    go_wp2
    go_meet
    case rel => exact ⟨_,((t803 != t798)),(by first | rfl | (simp;done) | (simp [*];done)),H',⟨by first | omega | exact Nat.le_refl _⟩,⟨by (with_reducible repeat (first | apply r1_ | apply r2_ | apply r3_));exact Kd.R_mono HO801.out (fun _ hk => trivial)⟩,⟨zl_ HB⟩⟩
   ·rw [if_neg c15] at H
    have c15b0 : (t802.toList == t797.toList) = false := beq_eq_false_iff_ne.mpr c15
    have c15b1 : (t802.toList != t797.toList) = true := bne_iff_ne.mpr c15
    (first | rw [c15b0] | (simp only [i64_w,i32_w];rw [c15b0]) | skip)
    have H' := am_ H
    clear H
    go_wp2
    go_meet
    case rel => exact ⟨_,(true),(by first | rfl | (simp;done) | (simp [*];done)),H',⟨by first | omega | exact Nat.le_refl _⟩,⟨by (with_reducible repeat (first | apply r1_ | apply r2_ | apply r3_));exact Kd.R_mono HO801.out (fun _ hk => trivial)⟩,⟨zl_ HB⟩⟩
  case rest =>
   clear HC8
   try clear c1
   try clear p2
   try clear c3
   try clear c3b0
   try clear c4
   try clear c12
   try clear c15
   try clear c15b0
   try clear c15b1
   obtain ⟨kq,x34_7,rfl,HA,HJ7,HO_6,HB⟩ := hcut
   cases kq with
   | zero => exact absurd HA.out (by simp [laws_FnExactPiecesRoot.j0])
   | succ kj7 =>
    have H := HA.out
    clear HA
    simp only [laws_FnExactPiecesRoot.j0] at H
    by_cases c16 : x34_7 = true
    ·subst c16
     have H1 : (some false) = some r := by rw [if_pos rfl] at H;exact H
     clear H
     have H := H1
     clear H1
     obtain rfl := Option.some.inj H
     go_wp2
     go_ret
     exact ⟨zt_,zl_ HB⟩
    ·replace c16 := Bool.eq_false_iff.mpr c16
     subst c16
     have H1 : ((laws_toStringS.f kj7 l0).bind fun t804 => ((laws_eqStringS.f kj7 t799 t804).bind fun t807 => (if t807 = true then (some true) else (some false)))) = some r := by rw [if_neg (show ¬ (false = true) by decide)] at H;exact H
     clear H
     have H := H1
     clear H1
     replace H := Option.bind_eq_some_iff.mp H
     obtain ⟨t804,A170,H⟩ := H
     try dsimp only at H
     have A17 := am_ A170
     clear A170
     replace H := Option.bind_eq_some_iff.mp H
     obtain ⟨t807,A180,H⟩ := H
     try dsimp only at H
     have A18 := am_ A180
     clear A180
     by_cases c19 : t807 = true
     ·subst c19
      have H1 : (some true) = some r := by rw [if_pos rfl] at H;exact H
      clear H
      have H := H1
      clear H1
      obtain rfl := Option.some.inj H
      go_wp2_with (first | ((with_reducible refine gate_callee (f := 36) rfl ?_);refine zgl (some 37) Tryd.func36 #[.slice A0 l0.length c0] ?_;(with_reducible refine (laws_toStringS.calls kj7 _ _ l0 t804 _ ?side1 ?side2 A17.out).mono ?_);(case side1 => repeat (first | exact (Kd.C_below HR0.out HB.out) | (with_reducible refine Kd.C_alloc ?_ _) | (with_reducible refine Kd.C_drewN ?_ _) | (with_reducible refine Kd.C_drew ?_)));(case side2 => exact HC0.out);rintro e w20 ⟨v805,rfl,ho0,hb⟩;refine ⟨_,rfl,?_⟩;have HO806 := am_ (Kd.R_lower (Kd.R_new' ho0 (Kd.R_lt (zr HO_6))) (below_size (zl_ HB)));replace HO_6 := am_ (Kd.R_elder' (zr HO_6) (Kd.R_base ho0) hb);replace HB := zs_ HB hb;(try clear hb);(try clear hb2);(try clear hk);(try clear hi);(try clear ho0);obtain ⟨Ao21,co21,eo21⟩ := Kd.R_slice HO806.out;subst eo21) | ((with_reducible refine gate_callee (f := 38) rfl ?_);refine zgl (some 38) Tryd.func38 #[.slice Ao13 t799.length co13,.slice Ao21 t804.length co21] ?_;(with_reducible refine (laws_eqStringS.calls kj7 _ _ t799 _ _ t804 true _ ?side1 ?side2 ?side3 ?side4 A18.out).mono ?_);(case side1 => repeat (first | exact (Kd.R_reads' HO_6.out).2.2 | (with_reducible refine Kd.C_alloc ?_ _) | (with_reducible refine Kd.C_drewN ?_ _) | (with_reducible refine Kd.C_drew ?_)));(case side2 => exact (Kd.R_reads' HO_6.out).2.1);(case side3 => repeat (first | exact (Kd.R_reads' HO806.out).2.2 | (with_reducible refine Kd.C_alloc ?_ _) | (with_reducible refine Kd.C_drewN ?_ _) | (with_reducible refine Kd.C_drew ?_)));(case side4 => exact (Kd.R_reads' HO806.out).2.1);rintro e w' ⟨rfl,⟨nd,rfl⟩⟩;refine ⟨_,rfl,?_⟩))
      go_ret
      exact ⟨zt_,zl_ HB⟩
     ·replace c19 := Bool.eq_false_iff.mpr c19
      subst c19
      have H1 : (some false) = some r := by rw [if_neg (show ¬ (false = true) by decide)] at H;exact H
      clear H
      have H := H1
      clear H1
      obtain rfl := Option.some.inj H
      go_wp2_with (first | ((with_reducible refine gate_callee (f := 36) rfl ?_);refine zgl (some 37) Tryd.func36 #[.slice A0 l0.length c0] ?_;(with_reducible refine (laws_toStringS.calls kj7 _ _ l0 t804 _ ?side1 ?side2 A17.out).mono ?_);(case side1 => repeat (first | exact (Kd.C_below HR0.out HB.out) | (with_reducible refine Kd.C_alloc ?_ _) | (with_reducible refine Kd.C_drewN ?_ _) | (with_reducible refine Kd.C_drew ?_)));(case side2 => exact HC0.out);rintro e w22 ⟨v805,rfl,ho0,hb⟩;refine ⟨_,rfl,?_⟩;have HO806 := am_ (Kd.R_lower (Kd.R_new' ho0 (Kd.R_lt (zr HO_6))) (below_size (zl_ HB)));replace HO_6 := am_ (Kd.R_elder' (zr HO_6) (Kd.R_base ho0) hb);replace HB := zs_ HB hb;(try clear hb);(try clear hb2);(try clear hk);(try clear hi);(try clear ho0);obtain ⟨Ao23,co23,eo23⟩ := Kd.R_slice HO806.out;subst eo23) | ((with_reducible refine gate_callee (f := 38) rfl ?_);refine zgl (some 38) Tryd.func38 #[.slice Ao13 t799.length co13,.slice Ao23 t804.length co23] ?_;(with_reducible refine (laws_eqStringS.calls kj7 _ _ t799 _ _ t804 false _ ?side1 ?side2 ?side3 ?side4 A18.out).mono ?_);(case side1 => repeat (first | exact (Kd.R_reads' HO_6.out).2.2 | (with_reducible refine Kd.C_alloc ?_ _) | (with_reducible refine Kd.C_drewN ?_ _) | (with_reducible refine Kd.C_drew ?_)));(case side2 => exact (Kd.R_reads' HO_6.out).2.1);(case side3 => repeat (first | exact (Kd.R_reads' HO806.out).2.2 | (with_reducible refine Kd.C_alloc ?_ _) | (with_reducible refine Kd.C_drewN ?_ _) | (with_reducible refine Kd.C_drew ?_)));(case side4 => exact (Kd.R_reads' HO806.out).2.1);rintro e w' ⟨rfl,⟨nd,rfl⟩⟩;refine ⟨_,rfl,?_⟩))
      go_ret
      exact ⟨zt_,zl_ HB⟩
end Go.Proofs.YtdpdbegglkdgnaaDoor.A
end
