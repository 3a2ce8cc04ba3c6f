/- A part of the proof that FnCertificates returns true at every input: plain functions, contracts and lemmas. No conditions. -/
import Derived.Test.YtkfhejklnmkfmaaDoorQCertificatese
set_option linter.unusedVariables false
set_option linter.unusedSimpArgs false
set_option linter.unusedSectionVars false
set_option maxHeartbeats 8000000
set_option maxRecDepth 100000
section
namespace Go.Proofs.YtkfhejklnmkfmaaDoor.A
open Go.RowKit Go.Proofs.YtkfhejklnmkfmaaDoorW.PrintWords Go.Proofs.YtkfhejklnmkfmaaDoorW.PrintLast Go.Proofs.YtkfhejklnmkfmaaDoorW.PrintMore
attribute [local go_sem] max2_int min2_int max_two min_two max_three min_three max_four min_four
def Zc.T9 : Bool × List (List Nat × List Nat) := (true,[([],[]),([0],[0]),([1],[1]),([],[]),([],[]),([2,3,4],[2,3,4]),([5],[5]),([6],[6]),([6],[6]),([],[]),([9,7,5,0,1,2,3,4,5,6,7,9],[7,9]),([8,10,0,1,2,3,4,5,6,7,8,9,10],[8])])
def Zc.B9 : List Nat := [0,1,3,0,0,31,63,127,127,0,767,2047]
theorem Zc.tab9 : rtab .any (opsOf Tryd.f3 9) = Zc.T9 := by kernel_rfl
theorem Zc.bits9 : waitsOk Zc.T9.2 Zc.B9 = true := by kernel_rfl
def Zc.T13 : Bool × List (List Nat × List Nat) := (true,[([],[]),([0],[0]),([1],[1]),([2],[2]),([3,2],[2,3]),([2,4],[2,4]),([5,2],[5]),([6],[6]),([7,6],[6,7]),([6,8],[6,8]),([9,6],[9]),([10],[10]),([10],[10]),([11,12,10],[10,11,12]),([10,13],[10,13]),([14,10],[14]),([15],[15]),([15],[15]),([17,15],[15,17]),([18,15],[15,18]),([19,15],[15,19]),([16,20,15,15],[15,16,20]),([21,15],[15,21]),([15,22],[15,22])])
def Zc.B13 : List Nat := [0,1,3,7,15,31,63,127,255,511,1023,2047,2047,8191,16383,32767,65535,65535,196607,458751,983039,2097151,4194303,8388607]
theorem Zc.tab13 : rtab .any (opsOf Tryd.f3 13) = Zc.T13 := by kernel_rfl
theorem Zc.bits13 : waitsOk Zc.T13.2 Zc.B13 = true := by kernel_rfl
def Zc.T20 : Bool × List (List Nat × List Nat) := (true,[([],[]),([0],[0]),([],[]),([2,1],[2]),([1,3],[1,3]),([4,3],[4]),([5],[5]),([6,5,5],[5,6]),([7,5],[5,7]),([5,8],[5,8]),([9,7,0,1,2,3,4,5,6,7,8,9],[9])])
def Zc.B20 : List Nat := [0,1,0,7,15,31,63,127,255,511,1023]
theorem Zc.tab20 : rtab .any (opsOf Tryd.f3 20) = Zc.T20 := by kernel_rfl
theorem Zc.bits20 : waitsOk Zc.T20.2 Zc.B20 = true := by kernel_rfl
def codeAt_ : List Bool → Code → Code
 | [],c => c
 | false :: p,.seq a _ => codeAt_ p a
 | true :: p,.seq _ b => codeAt_ p b
 | _,c => c
set_option maxHeartbeats 64000000 in
set_option maxRecDepth 100000 in
theorem Zc.part2 (A0 : Option Addr) (c0 : Nat) (l0 : List Int) (A1 : Option Addr) (c1 : Nat) (l1 : List Int) (r : Bool) (w : World) (hu24 : Tryd.prog.underlying 24 = some (TypeDesc.struct #[{ name := "Name",type := 9,offset := 0,embedded := false,tag := "",pkgPath := "",byteOffset := 0 },{ name := "Holder",type := 3,offset := 1,embedded := false,tag := "",pkgPath := "",byteOffset := 16 },{ name := "Token",type := 3,offset := 2,embedded := false,tag := "",pkgPath := "",byteOffset := 24 },{ name := "Expiry",type := 3,offset := 3,embedded := false,tag := "",pkgPath := "",byteOffset := 32 }])) (hu31 : Tryd.prog.underlying 31 = some (TypeDesc.struct #[{ name := "Grant",type := 24,offset := 0,embedded := false,tag := "",pkgPath := "",byteOffset := 0 },{ name := "Nodes",type := 26,offset := 4,embedded := false,tag := "",pkgPath := "",byteOffset := 40 },{ name := "Signatures",type := 29,offset := 5,embedded := false,tag := "",pkgPath := "",byteOffset := 64 }])) (hu37 : Tryd.prog.underlying 37 = some (TypeDesc.struct #[{ name := "Index",type := 3,offset := 0,embedded := false,tag := "",pkgPath := "",byteOffset := 0 },{ name := "Ones",type := 35,offset := 1,embedded := false,tag := "",pkgPath := "",byteOffset := 8 },{ name := "Rest",type := 35,offset := 2,embedded := false,tag := "",pkgPath := "",byteOffset := 32 },{ name := "Path",type := 35,offset := 3,embedded := false,tag := "",pkgPath := "",byteOffset := 56 }])) (HLD : Aside0 (Laid w)) (HTD : Aside0 (LaidT w)) (t571 : ByteArray) (t572 t573 t574 : Int) (t576 : List Int) (t579 : Int) (t580 : ByteArray) (t581 t582 t583 : Int) (t584 : List Int) (t587 : List S37) (t590 : Int) (gb575 : Nat) (co16 : Nat) (gb591 : Nat) (NB575_591 : Aside0 (gb575 ≠ gb591)) (NB591_575 : Aside0 (gb591 ≠ gb575)) (hnb19 : gb591 ≠ gb575) (hnc19 : gb575 ≠ gb591) (Ao21 : Option Addr) (co21 : Nat) (Ao22 : Option Addr) (co22 : Nat) (c35b0 : decide (1 < (↑t576.length : Int)) = true) (c35b1 : decide (1 < t576.length) = true) (t594 : Int) (t595 t598 t601 : List ByteArray) (t604 : Int) (t607 : ByteArray) (t608 : Int) (t610 : ByteArray) (t611 : Int) (t612 : ByteArray) (t613 : Int) (ad593 : Addr) (qi593 : (1 < t576.length) = True) (p593 : ((0 : Int) ≤ 1) = True) (q593 : (1 < (↑t576.length : Int)) = True) (HT_ : Aside0 (rtab Region.Mode.any #[{ dst := some 68,op := Op.move (Operand.tmp 6),type := 26,pos := "laws.go:926",after := #[],guard := none },{ dst := some 69,op := Op.indexAddr 26 (Operand.tmp 68) (Operand.const (Value.int IntKind.i64 1)),type := 0,pos := "laws.go:926",after := #[{ on := 0,ground := Ground.data }],guard := none },{ dst := some 70,op := Op.load 3 (Operand.tmp 69),type := 3,pos := "laws.go:926",after := #[{ on := 1,ground := Ground.data }],guard := none },{ dst := some 71,op := Op.move (Operand.tmp 7),type := 3,pos := "laws.go:926",after := #[],guard := none },{ dst := some 72,op := Op.load 24 (Operand.tmp 5),type := 24,pos := "laws.go:926",after := #[],guard := none },{ dst := some 73,op := Op.call { callee := Callee.value (Operand.func 8),args := #[Operand.tmp 70,Operand.tmp 71,Operand.tmp 72],argTypes := #[3,3,24] },type := 38,pos := "laws.go:926",after := #[{ on := 2,ground := Ground.data },{ on := 3,ground := Ground.data },{ on := 4,ground := Ground.data }],guard := none },{ dst := some 67,op := Op.move (Operand.tmp 73),type := 38,pos := "laws.go:926",after := #[{ on := 5,ground := Ground.data }],guard := none },{ dst := some 74,op := Op.extract (Operand.tmp 67) 0,type := 37,pos := "laws.go:926",after := #[{ on := 6,ground := Ground.data }],guard := none },{ dst := some 75,op := Op.extract (Operand.tmp 67) 1,type := 3,pos := "laws.go:926",after := #[{ on := 6,ground := Ground.data },{ on := 10,ground := Ground.gcOnly Departure.lateStores }],guard := none },{ dst := some 10,op := Op.alloc 37,type := 0,pos := "laws.go:926",after := #[],guard := none },{ dst := none,op := Op.store 37 (Operand.tmp 10) (Operand.tmp 74),type := 0,pos := "laws.go:926",after := #[{ on := 9,ground := Ground.data },{ on := 7,ground := Ground.data },{ on := 5,ground := Ground.chain },{ on := 0,ground := Ground.phase },{ on := 1,ground := Ground.phase },{ on := 2,ground := Ground.phase },{ on := 3,ground := Ground.phase },{ on := 4,ground := Ground.phase },{ on := 5,ground := Ground.phase },{ on := 6,ground := Ground.phase },{ on := 7,ground := Ground.phase },{ on := 8,ground := Ground.textOnly Departure.lateStores },{ on := 9,ground := Ground.phase }],guard := none },{ dst := some 11,op := Op.assign (Operand.tmp 75),type := 3,pos := "laws.go:926",after := #[{ on := 8,ground := Ground.data },{ on := 10,ground := Ground.chain },{ on := 0,ground := Ground.phase },{ on := 1,ground := Ground.phase },{ on := 2,ground := Ground.phase },{ on := 3,ground := Ground.phase },{ on := 4,ground := Ground.phase },{ on := 5,ground := Ground.phase },{ on := 6,ground := Ground.phase },{ on := 7,ground := Ground.phase },{ on := 8,ground := Ground.phase },{ on := 9,ground := Ground.phase },{ on := 10,ground := Ground.phase }],guard := none }] = T9)) (HW_ : Aside0 (waitsOk T9.snd B9 = true)) (gb605 : Nat) (w44 : World) (NB591_605 : Aside0 (gb591 ≠ gb605)) (NB605_591 : Aside0 (gb605 ≠ gb591)) (Ao46 : Option Addr) (co46 : Nat) (Ao48 : Option Addr) (co48 : Nat) (Ao50 : Option Addr) (co50 : Nat) (hns45_0 : gb575 ≠ gb605) (hns45_1 : gb591 ≠ gb605) (hms45_0 : gb605 ≠ gb575) (hms45_1 : gb605 ≠ gb591) (hns47_0 : gb575 ≠ gb605) (hns47_1 : gb591 ≠ gb605) (hms47_0 : gb605 ≠ gb575) (hms47_1 : gb605 ≠ gb591) (hns49_0 : gb575 ≠ gb605) (hns49_1 : gb591 ≠ gb605) (hms49_0 : gb605 ≠ gb575) (hms49_1 : gb605 ≠ gb591) (hns51_0 : gb575 ≠ gb605) (hns51_1 : gb591 ≠ gb605) (hms51_0 : gb605 ≠ gb575) (hms51_1 : gb605 ≠ gb591) (hHeld : ((((w44.setCell { block := gb605,off := 0 } (Value.int IntKind.i64 t594)).setCell { block := gb605,off := 1 } (Value.slice Ao46 t595.length co46)).setCell { block := gb605,off := 2 } (Value.slice Ao48 t598.length co48)).setCell { block := gb605,off := 3 } (Value.slice Ao50 t601.length co50)).cell? { block := gb575,off := 0 } = some (Value.string t571) ∧ ((((w44.setCell { block := gb605,off := 0 } (Value.int IntKind.i64 t594)).setCell { block := gb605,off := 1 } (Value.slice Ao46 t595.length co46)).setCell { block := gb605,off := 2 } (Value.slice Ao48 t598.length co48)).setCell { block := gb605,off := 3 } (Value.slice Ao50 t601.length co50)).cell? { block := gb575,off := 1 } = some (Value.int IntKind.i64 t572) ∧ ((((w44.setCell { block := gb605,off := 0 } (Value.int IntKind.i64 t594)).setCell { block := gb605,off := 1 } (Value.slice Ao46 t595.length co46)).setCell { block := gb605,off := 2 } (Value.slice Ao48 t598.length co48)).setCell { block := gb605,off := 3 } (Value.slice Ao50 t601.length co50)).cell? { block := gb575,off := 2 } = some (Value.int IntKind.i64 t573) ∧ ((((w44.setCell { block := gb605,off := 0 } (Value.int IntKind.i64 t594)).setCell { block := gb605,off := 1 } (Value.slice Ao46 t595.length co46)).setCell { block := gb605,off := 2 } (Value.slice Ao48 t598.length co48)).setCell { block := gb605,off := 3 } (Value.slice Ao50 t601.length co50)).cell? { block := gb575,off := 3 } = some (Value.int IntKind.i64 t574) ∧ ((((w44.setCell { block := gb605,off := 0 } (Value.int IntKind.i64 t594)).setCell { block := gb605,off := 1 } (Value.slice Ao46 t595.length co46)).setCell { block := gb605,off := 2 } (Value.slice Ao48 t598.length co48)).setCell { block := gb605,off := 3 } (Value.slice Ao50 t601.length co50)).cell? { block := ad593.block,off := ad593.off + 1 } = some (Value.int IntKind.i64 (rd t576 1))) (e606 : some ad593 = some ad593) (qi606 : (1 < t576.length) = True) (p606 : ((0 : Int) ≤ 1) = True) (q606 : (1 < (↑t576.length : Int)) = True) (e609 : some ad593 = some ad593) (qi609 : (1 < t576.length) = True) (p609 : ((0 : Int) ≤ 1) = True) (q609 : (1 < (↑t576.length : Int)) = True) (wc : World) (u20 u21 u22 u23 u24 u25 u26 u27 u28 u29 u30 u31 u32 u33 u34 u35 u36 u37 u38 u39 u40 u41 u42 u43 u44 u45 u46 u47 u48 u49 u50 u51 u52 u53 u54 u55 u56 u57 u58 u59 u60 u61 u62 u63 u64 u65 u66 u67 u68 u69 u70 u71 u72 u73 u74 u75 u76 u77 u78 u79 u80 u81 u82 u83 u84 u85 u86 u87 u88 u89 u90 u91 u92 u93 u94 u95 u96 u97 u98 u99 u100 u101 u102 u103 u104 u105 u106 u107 u108 u109 u110 u111 u112 u113 u114 u115 u116 u117 u119 u120 u121 u122 u123 u124 u125 u126 u127 u128 u129 u130 u131 u132 u133 u134 u135 u136 u137 u138 u139 u140 u141 u142 u143 u144 : Value) (kq : Nat) (x118_39 : Bool) (HA : Aside0 (j2 kq x118_39 t580 t581 t582 t583 t584 t587 = some r)) (HO_592004 : Aside0 ((Kd.int IntKind.i64).R 3 wc w.heap.size (fun (x : Nat) => True) (Value.slice Ao21 t584.length co21) t584)) (HO_592005 : Aside0 (k37.S 37 wc w.heap.size (fun (k_ : Nat) => some k_ ≠ (Value.slice Ao46 t595.length co46).ownBlock ∧ some k_ ≠ (Value.slice Ao48 t598.length co48).ownBlock ∧ some k_ ≠ (Value.slice Ao50 t601.length co50).ownBlock ∧ k_ ≠ gb605) (Value.slice Ao22 t587.length co22) t587)) (HO_606001 : Aside0 (Kd.string.R 9 wc w.heap.size (fun (k_ : Nat) => some k_ ≠ (Value.slice Ao48 t598.length co48).ownBlock ∧ some k_ ≠ (Value.slice Ao50 t601.length co50).ownBlock) (Value.slice Ao46 t595.length co46) t595)) (HO_606002 : Aside0 (Kd.string.R 9 wc w.heap.size (fun (k_ : Nat) => some k_ ≠ (Value.slice Ao46 t595.length co46).ownBlock ∧ some k_ ≠ (Value.slice Ao50 t601.length co50).ownBlock) (Value.slice Ao48 t598.length co48) t598)) (HO_606003 : Aside0 (Kd.string.R 9 wc w.heap.size (fun (k_ : Nat) => some k_ ≠ (Value.slice Ao46 t595.length co46).ownBlock ∧ some k_ ≠ (Value.slice Ao48 t598.length co48).ownBlock) (Value.slice Ao50 t601.length co50) t601)) (BK575 : Aside0 (wc.heap[gb575]? = some (Obj.cells #[Value.string t571,Value.int IntKind.i64 t572,Value.int IntKind.i64 t573,Value.int IntKind.i64 t574] 24))) (BK591 : Aside0 (wc.heap[gb591]? = some (Obj.cells #[Value.string t580,Value.int IntKind.i64 t581,Value.int IntKind.i64 t582,Value.int IntKind.i64 t583,Value.slice Ao21 t584.length co21,Value.slice Ao22 t587.length co22] 31))) (BK605 : Aside0 (wc.heap[gb605]? = some (Obj.cells #[Value.int IntKind.i64 t594,Value.slice Ao46 t595.length co46,Value.slice Ao48 t598.length co48,Value.slice Ao50 t601.length co50] 37))) (HB : Aside0 (Below w.heap.size w wc)) :
  let Q_ : Exit → Act → World → Prop := bodyPost Tryd.prog Tryd.f3 fun (e : Ending) (w' : World) => e = Ending.returned (Value.bool r) ∧ Below w.heap.size w w'
  ∀ (K1_ : Act → World → Prop) (a1_ : ∀ (a : Act) (w : World),Code.wp Tryd.prog (codeAt_ [true,true,true,true,true,true,true,true,true,true,true,true] (Tryd.f3.body.getD .skip)) Q_ a w → K1_ a w) (K0_ : Act → World → Prop) (a0_ : ∀ (a : Act) (w : World),Code.wp Tryd.prog (codeAt_ [true,true,true,true,true,true,true,true,true,true,true,false,true] (Tryd.f3.body.getD .skip)) (Exit.then K1_ Q_) a w → K0_ a w),K0_ { tmps := #[Value.slice A0 l0.length c0,Value.slice A1 l1.length c1,undef,undef,Value.bool false,Value.pointer (some { block := gb575,off := 0 }),Value.slice (some ad593) t576.length co16,Value.int IntKind.i64 t579,Value.pointer (some { block := gb591,off := 0 }),Value.int IntKind.i64 t590,Value.pointer (some { block := gb605,off := 0 }),Value.int IntKind.i64 t604,Value.string t607,Value.int IntKind.i64 t608,Value.string t610,Value.int IntKind.i64 t611,Value.string t612,Value.int IntKind.i64 t613,undef,undef,u20,u21,u22,u23,u24,u25,u26,u27,u28,u29,u30,u31,u32,u33,u34,u35,u36,u37,u38,u39,u40,u41,u42,u43,u44,u45,u46,u47,u48,u49,u50,u51,u52,u53,u54,u55,u56,u57,u58,u59,u60,u61,u62,u63,u64,u65,u66,u67,u68,u69,u70,u71,u72,u73,u74,u75,u76,u77,u78,u79,u80,u81,u82,u83,u84,u85,u86,u87,u88,u89,u90,u91,u92,u93,u94,u95,u96,u97,u98,u99,u100,u101,u102,u103,u104,u105,u106,u107,u108,u109,u110,u111,u112,u113,u114,u115,u116,u117,Value.bool x118_39,u119,u120,u121,u122,u123,u124,u125,u126,u127,u128,u129,u130,u131,u132,u133,u134,u135,u136,u137,u138,u139,u140,u141,u142,u143,u144],defers := [] } wc := by
 intro Q_ K1_ a1_ K0_ a0_
 dsimp only [codeAt_,Option.getD,Tryd.f3] at a0_ a1_
 cases kq with
 | zero => exact absurd HA.out (by simp [Zc.j2])
 | succ kj39 =>
  have H := HA.out
  clear HA
  simp only [Zc.j2] at H
  by_cases c67 : x118_39 = true
  ·subst c67
   rw [if_pos rfl] at H
   obtain rfl := Option.some.inj H
   go_wp2
   go_ret
   exact ⟨zt_,zl_ HB⟩
  replace c67 := Bool.eq_false_iff.mpr c67
  subst c67
  rw [if_neg (show ¬ (false = true) by decide)] at H
  by_cases c68 : 1 ≤ (t584.length : Int)
  case neg =>
   rw [if_neg c68] at H
   exact absurd H (by simp)
  rw [if_pos c68] at H
  have c68b0 := eq_true c68
  have c68b1 := decide_eq_true c68
  clear c68
  obtain ⟨y618,hy618⟩ : ∃ y_ : List Int,y_ = (t584.take (1 : Int).toNat) := ⟨_,rfl⟩
  replace H : (if 1 ≤ (t587.length : Int) then ((Zh.f kj39 4 t580 t581 (wrap64 (t582 + 1)) t583 t584 t587).bind fun t624 => ((Zf.f kj39 4 t580 t581 (wrap64 (t582 + 1)) t583 t584 t587).bind fun t625 => (if t624 = t625 then ((Zh.f kj39 4 t580 t581 t582 t583 y618 (t587.take (1 : Int).toNat)).bind fun t626 => (some (t626 == 19))) else (some false)))) else (none)) = some r := by first | (rw [hy618];with_reducible exact H) | (have H2_ := (Option.bind_some _ _).symm.trans H;rw [hy618];with_reducible exact H2_) | (have H2_ := (Option.bind_some _ _).symm.trans H;with_reducible exact H2_) | with_reducible exact H | (rw [hy618];exact H) | exact H
  have Ny618 := am_ hy618
  clear hy618
  by_cases c69 : 1 ≤ (t587.length : Int)
  case neg =>
   rw [if_neg c69] at H
   exact absurd H (by simp)
  rw [if_pos c69] at H
  have c69b0 := eq_true c69
  have c69b1 := decide_eq_true c69
  clear c69
  obtain ⟨y621,hy621⟩ : ∃ y_ : List (S37),y_ = (t587.take (1 : Int).toNat) := ⟨_,rfl⟩
  replace H : ((Zh.f kj39 4 t580 t581 (wrap64 (t582 + 1)) t583 t584 t587).bind fun t624 => ((Zf.f kj39 4 t580 t581 (wrap64 (t582 + 1)) t583 t584 t587).bind fun t625 => (if t624 = t625 then ((Zh.f kj39 4 t580 t581 t582 t583 y618 y621).bind fun t626 => (some (t626 == 19))) else (some false)))) = some r := by first | (rw [hy621];with_reducible exact H) | (have H2_ := (Option.bind_some _ _).symm.trans H;rw [hy621];with_reducible exact H2_) | (have H2_ := (Option.bind_some _ _).symm.trans H;with_reducible exact H2_) | with_reducible exact H | (rw [hy621];exact H) | exact H
  have Ny621 := am_ hy621
  clear hy621
  replace H := Option.bind_eq_some_iff.mp H
  obtain ⟨t624,A700,H⟩ := H
  try dsimp only at H
  have A70 := am_ A700
  clear A700
  replace H := Option.bind_eq_some_iff.mp H
  obtain ⟨t625,A710,H⟩ := H
  try dsimp only at H
  have A71 := am_ A710
  clear A710
  by_cases c72 : t624 = t625
  case neg =>
   rw [if_neg c72] at H
   have c72b0 := beq_eq_false_iff_ne.mpr c72
   have c72b1 := bne_iff_ne.mpr c72
   obtain rfl := Option.some.inj H
   have hnb102 := NB591_575.out
   have hnc102 := NB575_591.out
   have hnb103 := NB591_605.out
   have hnc103 := NB605_591.out
   obtain ⟨hcz104_0,hcz104_1,hcz104_2,hcz104_3,hcz104_4,hcz104_5,hfz104_0,hfz104_1,hfz104_2,hfz104_3,hfz104_4,hfz104_5⟩ := zc6 BK591
   try go_wp2_with (first | ((with_reducible refine gate_dst (N := 18) rfl ?_);(try (refine gate_guard (by rfl) ?_;dsimp only));refine zbx (N := 18) (cs := #[.string ⟨#[]⟩,.int .i64 0,.int .i64 0,.int .i64 0,.slice none 0 0,.slice none 0 0]) (t := 31) ?_;intro gb616 hg w105 hbox hb;replace HO_592004 := zrb HO_592004 hb;replace HO_592005 := am_ (Kd.S_below (by (with_reducible repeat (first | apply Kd.S_alloc | apply Kd.S_drewN | apply Kd.S_drew));exact HO_592005.out) hb);replace HO_606001 := zrb HO_606001 hb;replace HO_606002 := zrb HO_606002 hb;replace HO_606003 := zrb HO_606003 hb;have BK616 := am_ (hbox);have GW616 := zw_ HB hg;have GE616 := zw_ HB hg;replace HB := zs_ HB hb;have NB575_616 := zl hg BK575;have NB616_575 := zg hg BK575;replace BK575 := zb BK575 hb;have NB591_616 := zl hg BK591;have NB616_591 := zg hg BK591;replace BK591 := zb BK591 hb;have NB605_616 := zl hg BK605;have NB616_605 := zg hg BK605;replace BK605 := zb BK605 hb;clear hb hbox hg;have hnb106 := NB616_575.out;have hnc106 := NB575_616.out;have hnb107 := NB616_591.out;have hnc107 := NB591_616.out;have hnb108 := NB616_605.out;have hnc108 := NB605_616.out;obtain ⟨hcz109_0,hcz109_1,hcz109_2,hcz109_3,hcz109_4,hcz109_5,hfz109_0,hfz109_1,hfz109_2,hfz109_3,hfz109_4,hfz109_5⟩ := zc6 BK616;obtain ⟨hcz110_0,hcz110_1,hcz110_2,hcz110_3,hcz110_4,hcz110_5,hfz110_0,hfz110_1,hfz110_2,hfz110_3,hfz110_4,hfz110_5⟩ := zc6 BK591) | ((with_reducible refine gate_dst (N := 19) rfl ?_);(try (refine gate_guard (by rfl) ?_;dsimp only));refine zbx (N := 19) (cs := #[.string ⟨#[]⟩,.int .i64 0,.int .i64 0,.int .i64 0,.slice none 0 0,.slice none 0 0]) (t := 31) ?_;intro gb617 hg w111 hbox hb;replace HO_592004 := am_ (Kd.R_below (by (with_reducible repeat (first | apply r1_ | apply r2_ | apply r3_));exact (Kd.R_mono (zrf (Kd.R_types HO_592004.out BK616.out (by decide))) (fun _ h_ => h_.1))) hb);replace HO_592005 := am_ (Kd.S_below (by (with_reducible repeat (first | apply Kd.S_alloc | apply Kd.S_drewN | apply Kd.S_drew));exact (Kd.S_mono (Kd.S_far (p := ⟨gb616,2,none⟩) (Kd.S_far (p := ⟨gb616,5,none⟩) (Kd.S_far (p := ⟨gb616,4,none⟩) (Kd.S_far (p := ⟨gb616,3,none⟩) (Kd.S_far (p := ⟨gb616,2,none⟩) (Kd.S_far (p := ⟨gb616,1,none⟩) (Kd.S_far (p := ⟨gb616,0,none⟩) (Kd.S_types HO_592005.out BK616.out (by decide)) (fun _ hk => hk.2) (.string t580)) (fun _ hk => hk.2) (.int .i64 t581)) (fun _ hk => hk.2) (.int .i64 t582)) (fun _ hk => hk.2) (.int .i64 t583)) (fun _ hk => hk.2) (.slice Ao21 t584.length co21)) (fun _ hk => hk.2) (.slice Ao22 t587.length co22)) (fun _ hk => hk.2) (.int .i64 (wrap64 (t582 + 1)))) (fun _ h_ => h_.1))) hb);replace HO_606001 := am_ (Kd.R_below (by (with_reducible repeat (first | apply r1_ | apply r2_ | apply r3_));exact (Kd.R_mono (zrf (Kd.R_types HO_606001.out BK616.out (by decide))) (fun _ h_ => h_.1))) hb);replace HO_606002 := am_ (Kd.R_below (by (with_reducible repeat (first | apply r1_ | apply r2_ | apply r3_));exact (Kd.R_mono (zrf (Kd.R_types HO_606002.out BK616.out (by decide))) (fun _ h_ => h_.1))) hb);replace HO_606003 := am_ (Kd.R_below (by (with_reducible repeat (first | apply r1_ | apply r2_ | apply r3_));exact (Kd.R_mono (zrf (Kd.R_types HO_606003.out BK616.out (by decide))) (fun _ h_ => h_.1))) hb);have BK617 := am_ (hbox);have GW617 := zw_ HB hg;have GE617 := zw_ HB hg;replace HB := zs_ HB hb;have NB575_617 := am_ ((by rw [hg];exact Nat.ne_of_lt (blk_lt (g := gb575) (o := .cells #[.string t571,.int .i64 t572,.int .i64 t573,.int .i64 t574] 24 (0,0)) (zq BK575)) : gb575 ≠ gb617));have NB617_575 := am_ ((by rw [hg];exact Nat.ne_of_gt (blk_lt (g := gb575) (o := .cells #[.string t571,.int .i64 t572,.int .i64 t573,.int .i64 t574] 24 (0,0)) (zq BK575)) : gb617 ≠ gb575));replace BK575 := am_ (blk_below (g := gb575) (o := .cells #[.string t571,.int .i64 t572,.int .i64 t573,.int .i64 t574] 24 (0,0)) (zq BK575) hb);have NB591_617 := am_ ((by rw [hg];exact Nat.ne_of_lt (blk_lt (g := gb591) (o := .cells #[.string t580,.int .i64 t581,.int .i64 t582,.int .i64 t583,.slice Ao21 t584.length co21,.slice Ao22 t587.length co22] 31 (0,0)) (zq BK591)) : gb591 ≠ gb617));have NB617_591 := am_ ((by rw [hg];exact Nat.ne_of_gt (blk_lt (g := gb591) (o := .cells #[.string t580,.int .i64 t581,.int .i64 t582,.int .i64 t583,.slice Ao21 t584.length co21,.slice Ao22 t587.length co22] 31 (0,0)) (zq BK591)) : gb617 ≠ gb591));replace BK591 := am_ (blk_below (g := gb591) (o := .cells #[.string t580,.int .i64 t581,.int .i64 t582,.int .i64 t583,.slice Ao21 t584.length co21,.slice Ao22 t587.length co22] 31 (0,0)) (zq BK591) hb);have NB605_617 := am_ ((by rw [hg];exact Nat.ne_of_lt (blk_lt (g := gb605) (o := .cells #[.int .i64 t594,.slice Ao46 t595.length co46,.slice Ao48 t598.length co48,.slice Ao50 t601.length co50] 37 (0,0)) (zq BK605)) : gb605 ≠ gb617));have NB617_605 := am_ ((by rw [hg];exact Nat.ne_of_gt (blk_lt (g := gb605) (o := .cells #[.int .i64 t594,.slice Ao46 t595.length co46,.slice Ao48 t598.length co48,.slice Ao50 t601.length co50] 37 (0,0)) (zq BK605)) : gb617 ≠ gb605));replace BK605 := am_ (blk_below (g := gb605) (o := .cells #[.int .i64 t594,.slice Ao46 t595.length co46,.slice Ao48 t598.length co48,.slice Ao50 t601.length co50] 37 (0,0)) (zq BK605) hb);have NB616_617 := am_ ((by rw [hg];exact Nat.ne_of_lt (blk_lt (g := gb616) (o := .cells #[.string t580,.int .i64 t581,.int .i64 (wrap64 (t582 + 1)),.int .i64 t583,.slice Ao21 t584.length co21,.slice Ao22 t587.length co22] 31 (0,0)) (zq BK616)) : gb616 ≠ gb617));have NB617_616 := am_ ((by rw [hg];exact Nat.ne_of_gt (blk_lt (g := gb616) (o := .cells #[.string t580,.int .i64 t581,.int .i64 (wrap64 (t582 + 1)),.int .i64 t583,.slice Ao21 t584.length co21,.slice Ao22 t587.length co22] 31 (0,0)) (zq BK616)) : gb617 ≠ gb616));replace BK616 := am_ (blk_below (g := gb616) (o := .cells #[.string t580,.int .i64 t581,.int .i64 (wrap64 (t582 + 1)),.int .i64 t583,.slice Ao21 t584.length co21,.slice Ao22 t587.length co22] 31 (0,0)) (zq BK616) hb);clear hb hbox hg;have hnb112 := NB617_575.out;have hnc112 := NB575_617.out;have hnb113 := NB617_591.out;have hnc113 := NB591_617.out;have hnb114 := NB617_605.out;have hnc114 := NB605_617.out;have hnb115 := NB617_616.out;have hnc115 := NB616_617.out;obtain ⟨hcz116_0,hcz116_1,hcz116_2,hcz116_3,hcz116_4,hcz116_5,hfz116_0,hfz116_1,hfz116_2,hfz116_3,hfz116_4,hfz116_5⟩ := zc6 BK617) | ((with_reducible refine gate_store (t := 31) (p := 19) rfl ?_);refine store_event (t := 31) (p := 19) (v := ?vo_w117) (w1 := ((((((w111.setCell ⟨gb617,0,none⟩ (.string t580)).setCell ⟨gb617,1,none⟩ (.int .i64 t581)).setCell ⟨gb617,2,none⟩ (.int .i64 t582)).setCell ⟨gb617,3,none⟩ (.int .i64 t583)).setCell ⟨gb617,4,none⟩ (.slice Ao21 t584.length co21)).setCell ⟨gb617,5,none⟩ (.slice Ao22 t587.length co22))) ?hg ?ho ?hn ?hr ?_;(case ho => rfl);(case hg => rfl);(case hn => rfl);(case hr => first | (go_simp;done) | (go_simp;rfl));intro w117 hw;have n0_ : Aside0 (Kd.R (Kd.int .i64) 3 w117 w.heap.size (fun _ => True) (.slice Ao21 t584.length co21) t584) := ⟨(by rw [hw];exact (by (with_reducible repeat (first | apply r1_ | apply r2_ | apply r3_));exact Kd.R_mono (zrf (Kd.R_types HO_592004.out BK617.out (by decide))) (fun _ hk => trivial)))⟩;have n1_ : Aside0 (Kd.S k37 37 w117 w.heap.size (fun k_ => some k_ ≠ (.slice Ao46 t595.length co46 : Value).ownBlock ∧ some k_ ≠ (.slice Ao48 t598.length co48 : Value).ownBlock ∧ some k_ ≠ (.slice Ao50 t601.length co50 : Value).ownBlock ∧ k_ ≠ gb605) (.slice Ao22 t587.length co22) t587) := ⟨(by rw [hw];exact (by (with_reducible repeat (first | apply Kd.S_alloc | apply Kd.S_drewN | apply Kd.S_drew));exact Kd.S_mono (Kd.S_far (p := ⟨gb617,5,none⟩) (Kd.S_far (p := ⟨gb617,4,none⟩) (Kd.S_far (p := ⟨gb617,3,none⟩) (Kd.S_far (p := ⟨gb617,2,none⟩) (Kd.S_far (p := ⟨gb617,1,none⟩) (Kd.S_far (p := ⟨gb617,0,none⟩) (Kd.S_types HO_592005.out BK617.out (by decide)) (fun _ hk => hk.2) (.string t580)) (fun _ hk => hk.2) (.int .i64 t581)) (fun _ hk => hk.2) (.int .i64 t582)) (fun _ hk => hk.2) (.int .i64 t583)) (fun _ hk => hk.2) (.slice Ao21 t584.length co21)) (fun _ hk => hk.2) (.slice Ao22 t587.length co22)) (fun _ hk => ⟨hk.1.1,⟨hk.1.2.1,⟨hk.1.2.2.1,hk.1.2.2.2⟩⟩⟩)))⟩;have n2_ : Aside0 (Kd.R Kd.string 9 w117 w.heap.size (fun k_ => some k_ ≠ (.slice Ao48 t598.length co48 : Value).ownBlock ∧ some k_ ≠ (.slice Ao50 t601.length co50 : Value).ownBlock) (.slice Ao46 t595.length co46) t595) := ⟨(by rw [hw];exact (by (with_reducible repeat (first | apply r1_ | apply r2_ | apply r3_));exact Kd.R_mono (zrf (Kd.R_types HO_606001.out BK617.out (by decide))) (fun _ hk => ⟨hk.1.1,hk.1.2⟩)))⟩;have n3_ : Aside0 (Kd.R Kd.string 9 w117 w.heap.size (fun k_ => some k_ ≠ (.slice Ao46 t595.length co46 : Value).ownBlock ∧ some k_ ≠ (.slice Ao50 t601.length co50 : Value).ownBlock) (.slice Ao48 t598.length co48) t598) := ⟨(by rw [hw];exact (by (with_reducible repeat (first | apply r1_ | apply r2_ | apply r3_));exact Kd.R_mono (zrf (Kd.R_types HO_606002.out BK617.out (by decide))) (fun _ hk => ⟨hk.1.1,hk.1.2⟩)))⟩;have n4_ : Aside0 (Kd.R Kd.string 9 w117 w.heap.size (fun k_ => some k_ ≠ (.slice Ao46 t595.length co46 : Value).ownBlock ∧ some k_ ≠ (.slice Ao48 t598.length co48 : Value).ownBlock) (.slice Ao50 t601.length co50) t601) := ⟨(by rw [hw];exact (by (with_reducible repeat (first | apply r1_ | apply r2_ | apply r3_));exact Kd.R_mono (zrf (Kd.R_types HO_606003.out BK617.out (by decide))) (fun _ hk => ⟨hk.1.1,hk.1.2⟩)))⟩;have n5_ : Aside0 (w117.heap[gb575]? = some (.cells #[.string t571,.int .i64 t572,.int .i64 t573,.int .i64 t574] 24 (0,0))) := ⟨(by rw [hw];exact (zq BK575))⟩;have n6_ : Aside0 (w117.heap[gb591]? = some (.cells #[.string t580,.int .i64 t581,.int .i64 t582,.int .i64 t583,.slice Ao21 t584.length co21,.slice Ao22 t587.length co22] 31 (0,0))) := ⟨(by rw [hw];exact (zq BK591))⟩;have n7_ : Aside0 (w117.heap[gb605]? = some (.cells #[.int .i64 t594,.slice Ao46 t595.length co46,.slice Ao48 t598.length co48,.slice Ao50 t601.length co50] 37 (0,0))) := ⟨(by rw [hw];exact (zq BK605))⟩;have n8_ : Aside0 (w117.heap[gb616]? = some (.cells #[.string t580,.int .i64 t581,.int .i64 (wrap64 (t582 + 1)),.int .i64 t583,.slice Ao21 t584.length co21,.slice Ao22 t587.length co22] 31 (0,0))) := ⟨(by rw [hw];exact (zq BK616))⟩;have n9_ : Aside0 (w117.heap[gb617]? = some (.cells #[.string t580,.int .i64 t581,.int .i64 t582,.int .i64 t583,.slice Ao21 t584.length co21,.slice Ao22 t587.length co22] 31 (0,0))) := ⟨(by rw [hw];exact (zq BK617))⟩;have n10_ : Aside0 (Below w.heap.size w w117) := ⟨(by rw [hw];exact (zl_ HB))⟩;clear hw;clear HO_592004;clear HO_592005;clear HO_606001;clear HO_606002;clear HO_606003;clear BK575;clear BK591;clear BK605;clear BK616;clear BK617;clear HB;have HO_592004 := n0_;have HO_592005 := n1_;have HO_606001 := n2_;have HO_606002 := n3_;have HO_606003 := n4_;have BK575 := n5_;have BK591 := n6_;have BK605 := n7_;have BK616 := n8_;have BK617 := n9_;have HB := n10_;clear n0_ n1_ n2_ n3_ n4_ n5_ n6_ n7_ n8_ n9_ n10_;obtain ⟨hcz118_0,hcz118_1,hcz118_2,hcz118_3,hcz118_4,hcz118_5,hfz118_0,hfz118_1,hfz118_2,hfz118_3,hfz118_4,hfz118_5⟩ := zc6 BK591;have q119 : (1 : Int) ≤ ((t584.length : Int) : Int) := zo_;obtain ⟨i0119,hi0119,_,hsz119,_⟩ := info_parts info3;have hcut119 := cut_to (P := Tryd.prog) 26 3 .i64 Tryd.underlying26 hi0119 Ao21 t584.length co21 1 (by omega) q119 (Kd.R_reads' HO_592004.out).2.1;have hr119 := Kd.R_take (m := (1 : Int).toNat) HO_592004.out (by omega);have hy119 : y618.length = (1 : Int).toNat := (by rw [Ny618.out,List.length_take];omega);rw [← Ny618.out] at hr119;rw [← hy119] at hr119 hcut119;clear hy119 hi0119 hsz119;have HO620 := am_ hr119;clear hr119;replace q119 := eq_true q119;obtain ⟨hcz120_0,hcz120_1,hcz120_2,hcz120_3,hcz120_4,hcz120_5,hfz120_0,hfz120_1,hfz120_2,hfz120_3,hfz120_4,hfz120_5⟩ := zc6 BK617) | ((with_reducible refine gate_store (t := 26) (p := 130) rfl ?_);refine store_event (t := 26) (p := 130) (v := ?vo_w121) (w1 := (w117.setCell ⟨gb617,4,none⟩ (.slice Ao21 y618.length co21))) ?hg ?ho ?hn ?hr ?_;(case ho => rfl);(case hg => rfl);(case hn => rfl);(case hr => first | (go_simp;done) | (go_simp;rfl));intro w121 hw;have n0_ : Aside0 (Kd.R (Kd.int .i64) 3 w121 w.heap.size (fun _ => True) (.slice Ao21 y618.length co21) y618) := ⟨(by rw [hw];exact (by (with_reducible repeat (first | apply r1_ | apply r2_ | apply r3_));exact Kd.R_mono (zrf (Kd.R_types HO620.out BK617.out (by decide))) (fun _ hk => trivial)))⟩;have mq_n0_ : Aside0 (Kd.R (Kd.int .i64) 3 w121 w.heap.size (fun _ => True) (.slice Ao21 t584.length co21) t584) := ⟨(by rw [hw];exact (by (with_reducible repeat (first | apply r1_ | apply r2_ | apply r3_));exact Kd.R_mono (zrf (Kd.R_types HO_592004.out BK617.out (by decide))) (fun _ hk => trivial)))⟩;have n1_ : Aside0 (Kd.S k37 37 w121 w.heap.size (fun k_ => some k_ ≠ (.slice Ao46 t595.length co46 : Value).ownBlock ∧ some k_ ≠ (.slice Ao48 t598.length co48 : Value).ownBlock ∧ some k_ ≠ (.slice Ao50 t601.length co50 : Value).ownBlock ∧ k_ ≠ gb605) (.slice Ao22 t587.length co22) t587) := ⟨(by rw [hw];exact (by (with_reducible repeat (first | apply Kd.S_alloc | apply Kd.S_drewN | apply Kd.S_drew));exact Kd.S_mono (Kd.S_far (p := ⟨gb617,4,none⟩) (Kd.S_types HO_592005.out BK617.out (by decide)) (fun _ hk => hk.2) (.slice Ao21 y618.length co21)) (fun _ hk => ⟨hk.1.1,⟨hk.1.2.1,⟨hk.1.2.2.1,hk.1.2.2.2⟩⟩⟩)))⟩;have n2_ : Aside0 (Kd.R Kd.string 9 w121 w.heap.size (fun k_ => some k_ ≠ (.slice Ao48 t598.length co48 : Value).ownBlock ∧ some k_ ≠ (.slice Ao50 t601.length co50 : Value).ownBlock) (.slice Ao46 t595.length co46) t595) := ⟨(by rw [hw];exact (by (with_reducible repeat (first | apply r1_ | apply r2_ | apply r3_));exact Kd.R_mono (zrf (Kd.R_types HO_606001.out BK617.out (by decide))) (fun _ hk => ⟨hk.1.1,hk.1.2⟩)))⟩;have n3_ : Aside0 (Kd.R Kd.string 9 w121 w.heap.size (fun k_ => some k_ ≠ (.slice Ao46 t595.length co46 : Value).ownBlock ∧ some k_ ≠ (.slice Ao50 t601.length co50 : Value).ownBlock) (.slice Ao48 t598.length co48) t598) := ⟨(by rw [hw];exact (by (with_reducible repeat (first | apply r1_ | apply r2_ | apply r3_));exact Kd.R_mono (zrf (Kd.R_types HO_606002.out BK617.out (by decide))) (fun _ hk => ⟨hk.1.1,hk.1.2⟩)))⟩;have n4_ : Aside0 (Kd.R Kd.string 9 w121 w.heap.size (fun k_ => some k_ ≠ (.slice Ao46 t595.length co46 : Value).ownBlock ∧ some k_ ≠ (.slice Ao48 t598.length co48 : Value).ownBlock) (.slice Ao50 t601.length co50) t601) := ⟨(by rw [hw];exact (by (with_reducible repeat (first | apply r1_ | apply r2_ | apply r3_));exact Kd.R_mono (zrf (Kd.R_types HO_606003.out BK617.out (by decide))) (fun _ hk => ⟨hk.1.1,hk.1.2⟩)))⟩;have n5_ : Aside0 (w121.heap[gb575]? = some (.cells #[.string t571,.int .i64 t572,.int .i64 t573,.int .i64 t574] 24 (0,0))) := ⟨(by rw [hw];exact (zq BK575))⟩;have n6_ : Aside0 (w121.heap[gb591]? = some (.cells #[.string t580,.int .i64 t581,.int .i64 t582,.int .i64 t583,.slice Ao21 t584.length co21,.slice Ao22 t587.length co22] 31 (0,0))) := ⟨(by rw [hw];exact (zq BK591))⟩;have n7_ : Aside0 (w121.heap[gb605]? = some (.cells #[.int .i64 t594,.slice Ao46 t595.length co46,.slice Ao48 t598.length co48,.slice Ao50 t601.length co50] 37 (0,0))) := ⟨(by rw [hw];exact (zq BK605))⟩;have n8_ : Aside0 (w121.heap[gb616]? = some (.cells #[.string t580,.int .i64 t581,.int .i64 (wrap64 (t582 + 1)),.int .i64 t583,.slice Ao21 t584.length co21,.slice Ao22 t587.length co22] 31 (0,0))) := ⟨(by rw [hw];exact (zq BK616))⟩;have n9_ : Aside0 (w121.heap[gb617]? = some (.cells #[.string t580,.int .i64 t581,.int .i64 t582,.int .i64 t583,.slice Ao21 y618.length co21,.slice Ao22 t587.length co22] 31 (0,0))) := ⟨(by rw [hw];exact (zq BK617))⟩;have n10_ : Aside0 (Below w.heap.size w w121) := ⟨(by rw [hw];exact (zl_ HB))⟩;clear hw;clear HO620 HO_592004;clear HO_592005;clear HO_606001;clear HO_606002;clear HO_606003;clear BK575;clear BK591;clear BK605;clear BK616;clear BK617;clear HB;have HO620 := n0_;have HO_592004 := mq_n0_;clear mq_n0_;have HO_592005 := n1_;have HO_606001 := n2_;have HO_606002 := n3_;have HO_606003 := n4_;have BK575 := n5_;have BK591 := n6_;have BK605 := n7_;have BK616 := n8_;have BK617 := n9_;have HB := n10_;clear n0_ n1_ n2_ n3_ n4_ n5_ n6_ n7_ n8_ n9_ n10_;obtain ⟨hcz122_0,hcz122_1,hcz122_2,hcz122_3,hcz122_4,hcz122_5,hfz122_0,hfz122_1,hfz122_2,hfz122_3,hfz122_4,hfz122_5⟩ := zc6 BK591;have q123 : (1 : Int) ≤ ((t587.length : Int) : Int) := zo_;obtain ⟨i0123,hi0123,_,hsz123,_⟩ := info_parts info37;have hcut123 := cut_to (P := Tryd.prog) 29 37 .i64 Tryd.underlying29 hi0123 Ao22 t587.length co22 1 (by omega) q123 (Kd.S_reads' HO_592005.out).2.1;have hr123 := Kd.S_take (m := (1 : Int).toNat) HO_592005.out (by omega);have hy123 : y621.length = (1 : Int).toNat := (by rw [Ny621.out,List.length_take];omega);rw [← Ny621.out] at hr123;rw [← hy123] at hr123 hcut123;clear hy123 hi0123 hsz123;have HO623 := am_ hr123;clear hr123;replace q123 := eq_true q123;obtain ⟨hcz124_0,hcz124_1,hcz124_2,hcz124_3,hcz124_4,hcz124_5,hfz124_0,hfz124_1,hfz124_2,hfz124_3,hfz124_4,hfz124_5⟩ := zc6 BK617))
   have n0_ : Aside0 (Kd.R (Kd.int .i64) 3 (w121.setCell ⟨gb617,5,none⟩ (.slice Ao22 y621.length co22)) w.heap.size (fun _ => True) (.slice Ao21 y618.length co21) y618) := ⟨by (with_reducible repeat (first | apply r1_ | apply r2_ | apply r3_));exact Kd.R_mono (zrf (Kd.R_types HO620.out BK617.out (by decide))) (fun _ hk => trivial)⟩
   have mq_n0_ : Aside0 (Kd.R (Kd.int .i64) 3 (w121.setCell ⟨gb617,5,none⟩ (.slice Ao22 y621.length co22)) w.heap.size (fun _ => True) (.slice Ao21 t584.length co21) t584) := ⟨by (with_reducible repeat (first | apply r1_ | apply r2_ | apply r3_));exact Kd.R_mono (zrf (Kd.R_types HO_592004.out BK617.out (by decide))) (fun _ hk => trivial)⟩
   have n1_ : Aside0 (Kd.S k37 37 (w121.setCell ⟨gb617,5,none⟩ (.slice Ao22 y621.length co22)) w.heap.size (fun k_ => some k_ ≠ (.slice Ao46 t595.length co46 : Value).ownBlock ∧ some k_ ≠ (.slice Ao48 t598.length co48 : Value).ownBlock ∧ some k_ ≠ (.slice Ao50 t601.length co50 : Value).ownBlock ∧ k_ ≠ gb605) (.slice Ao22 y621.length co22) y621) := ⟨by (with_reducible repeat (first | apply Kd.S_alloc | apply Kd.S_drewN | apply Kd.S_drew));exact Kd.S_mono (Kd.S_far (p := ⟨gb617,5,none⟩) (Kd.S_types HO623.out BK617.out (by decide)) (fun _ hk => hk.2) (.slice Ao22 y621.length co22)) (fun _ hk => ⟨hk.1.1,⟨hk.1.2.1,⟨hk.1.2.2.1,hk.1.2.2.2⟩⟩⟩)⟩
   have mq_n1_ : Aside0 (Kd.S k37 37 (w121.setCell ⟨gb617,5,none⟩ (.slice Ao22 y621.length co22)) w.heap.size (fun k_ => some k_ ≠ (.slice Ao46 t595.length co46 : Value).ownBlock ∧ some k_ ≠ (.slice Ao48 t598.length co48 : Value).ownBlock ∧ some k_ ≠ (.slice Ao50 t601.length co50 : Value).ownBlock ∧ k_ ≠ gb605) (.slice Ao22 t587.length co22) t587) := ⟨by (with_reducible repeat (first | apply Kd.S_alloc | apply Kd.S_drewN | apply Kd.S_drew));exact Kd.S_mono (Kd.S_far (p := ⟨gb617,5,none⟩) (Kd.S_types HO_592005.out BK617.out (by decide)) (fun _ hk => hk.2) (.slice Ao22 y621.length co22)) (fun _ hk => ⟨hk.1.1,⟨hk.1.2.1,⟨hk.1.2.2.1,hk.1.2.2.2⟩⟩⟩)⟩
   have n2_ : Aside0 (Kd.R Kd.string 9 (w121.setCell ⟨gb617,5,none⟩ (.slice Ao22 y621.length co22)) w.heap.size (fun k_ => some k_ ≠ (.slice Ao48 t598.length co48 : Value).ownBlock ∧ some k_ ≠ (.slice Ao50 t601.length co50 : Value).ownBlock) (.slice Ao46 t595.length co46) t595) := ⟨by (with_reducible repeat (first | apply r1_ | apply r2_ | apply r3_));exact Kd.R_mono (zrf (Kd.R_types HO_606001.out BK617.out (by decide))) (fun _ hk => ⟨hk.1.1,hk.1.2⟩)⟩
   have n3_ : Aside0 (Kd.R Kd.string 9 (w121.setCell ⟨gb617,5,none⟩ (.slice Ao22 y621.length co22)) w.heap.size (fun k_ => some k_ ≠ (.slice Ao46 t595.length co46 : Value).ownBlock ∧ some k_ ≠ (.slice Ao50 t601.length co50 : Value).ownBlock) (.slice Ao48 t598.length co48) t598) := ⟨by (with_reducible repeat (first | apply r1_ | apply r2_ | apply r3_));exact Kd.R_mono (zrf (Kd.R_types HO_606002.out BK617.out (by decide))) (fun _ hk => ⟨hk.1.1,hk.1.2⟩)⟩
   have n4_ : Aside0 (Kd.R Kd.string 9 (w121.setCell ⟨gb617,5,none⟩ (.slice Ao22 y621.length co22)) w.heap.size (fun k_ => some k_ ≠ (.slice Ao46 t595.length co46 : Value).ownBlock ∧ some k_ ≠ (.slice Ao48 t598.length co48 : Value).ownBlock) (.slice Ao50 t601.length co50) t601) := ⟨by (with_reducible repeat (first | apply r1_ | apply r2_ | apply r3_));exact Kd.R_mono (zrf (Kd.R_types HO_606003.out BK617.out (by decide))) (fun _ hk => ⟨hk.1.1,hk.1.2⟩)⟩
   have n5_ : Aside0 ((w121.setCell ⟨gb617,5,none⟩ (.slice Ao22 y621.length co22)).heap[gb575]? = some (.cells #[.string t571,.int .i64 t572,.int .i64 t573,.int .i64 t574] 24 (0,0))) := ⟨zq BK575⟩
   have n6_ : Aside0 ((w121.setCell ⟨gb617,5,none⟩ (.slice Ao22 y621.length co22)).heap[gb591]? = some (.cells #[.string t580,.int .i64 t581,.int .i64 t582,.int .i64 t583,.slice Ao21 t584.length co21,.slice Ao22 t587.length co22] 31 (0,0))) := ⟨zq BK591⟩
   have n7_ : Aside0 ((w121.setCell ⟨gb617,5,none⟩ (.slice Ao22 y621.length co22)).heap[gb605]? = some (.cells #[.int .i64 t594,.slice Ao46 t595.length co46,.slice Ao48 t598.length co48,.slice Ao50 t601.length co50] 37 (0,0))) := ⟨zq BK605⟩
   have n8_ : Aside0 ((w121.setCell ⟨gb617,5,none⟩ (.slice Ao22 y621.length co22)).heap[gb616]? = some (.cells #[.string t580,.int .i64 t581,.int .i64 (wrap64 (t582 + 1)),.int .i64 t583,.slice Ao21 t584.length co21,.slice Ao22 t587.length co22] 31 (0,0))) := ⟨zq BK616⟩
   have n9_ : Aside0 ((w121.setCell ⟨gb617,5,none⟩ (.slice Ao22 y621.length co22)).heap[gb617]? = some (.cells #[.string t580,.int .i64 t581,.int .i64 t582,.int .i64 t583,.slice Ao21 y618.length co21,.slice Ao22 y621.length co22] 31 (0,0))) := ⟨zq BK617⟩
   have n10_ : Aside0 (Below w.heap.size w (w121.setCell ⟨gb617,5,none⟩ (.slice Ao22 y621.length co22))) := ⟨zl_ HB⟩
   (try clear HO620 HO_592004)
   (try clear HO623 HO_592005)
   (try clear HO_606001)
   (try clear HO_606002)
   (try clear HO_606003)
   (try clear BK575)
   (try clear BK591)
   (try clear BK605)
   (try clear BK616)
   (try clear BK617)
   (try clear HB)
   generalize (w121.setCell ⟨gb617,5,none⟩ (.slice Ao22 y621.length co22)) = w125 at mq_n0_ mq_n1_ n0_ n1_ n2_ n3_ n4_ n5_ n6_ n7_ n8_ n9_ n10_ ⊢
   have HO620 := n0_
   have HO_592004 := mq_n0_
   clear mq_n0_
   have HO623 := n1_
   have HO_592005 := mq_n1_
   clear mq_n1_
   have HO_606001 := n2_
   have HO_606002 := n3_
   have HO_606003 := n4_
   have BK575 := n5_
   have BK591 := n6_
   have BK605 := n7_
   have BK616 := n8_
   have BK617 := n9_
   have HB := n10_
   clear n0_ n1_ n2_ n3_ n4_ n5_ n6_ n7_ n8_ n9_ n10_
   replace HO620 := am_ (Kd.R_drew HO620.out)
   replace HO_592004 := am_ (Kd.R_drew HO_592004.out)
   replace HO623 := am_ (Kd.S_drew HO623.out)
   replace HO_592005 := am_ (Kd.S_drew HO_592005.out)
   replace HO_606001 := am_ (Kd.R_drew HO_606001.out)
   replace HO_606002 := am_ (Kd.R_drew HO_606002.out)
   replace HO_606003 := am_ (Kd.R_drew HO_606003.out)
   replace BK575 := am_ (blk_drew BK575.out)
   replace BK591 := am_ (blk_drew BK591.out)
   replace BK605 := am_ (blk_drew BK605.out)
   replace BK616 := am_ (blk_drew BK616.out)
   replace BK617 := am_ (blk_drew BK617.out)
   replace HB := am_ (below_drew1 HB.out)
   refine start_ (n := 11) (S := fun w' => w'.cell? ⟨gb616,0,none⟩ = some (.string t580) ∧ w'.cell? ⟨gb616,1,none⟩ = some (.int .i64 t581) ∧ w'.cell? ⟨gb616,2,none⟩ = some (.int .i64 (wrap64 (t582 + 1))) ∧ w'.cell? ⟨gb616,3,none⟩ = some (.int .i64 t583) ∧ w'.cell? ⟨gb616,4,none⟩ = some (.slice Ao21 t584.length co21) ∧ w'.cell? ⟨gb616,5,none⟩ = some (.slice Ao22 t587.length co22)) (ds := []) #[false,false,false,false,false,false,false,false,false,false,false] (by kernel_rfl) rfl rfl ⟨(blk_cell BK616.out 0).trans rfl,(blk_cell BK616.out 1).trans rfl,(blk_cell BK616.out 2).trans rfl,(blk_cell BK616.out 3).trans rfl,(blk_cell BK616.out 4).trans rfl,(blk_cell BK616.out 5).trans rfl⟩ (fun hHeld => ?_);refine with_tabW Zc.tab20 Zc.bits20 (fun HT_ HW_ => ?_)
   generalize w125.drew = w126 at HO620 HO_592004 HO623 HO_592005 HO_606001 HO_606002 HO_606003 BK575 BK591 BK605 BK616 BK617 HB hHeld ⊢
   refine tk_ 0 135 HT_ HW_ hHeld ?_
   refine tk_ 2 137 HT_ HW_ hHeld ?_
   refine zon 1 (N := some 136) HT_ (fun K hK => ?_)
   refine zgo Tryd.func7 #[.int .i64 4,.agg #[.string t580,.int .i64 t581,.int .i64 (wrap64 (t582 + 1)),.int .i64 t583,.slice Ao21 t584.length co21,.slice Ao22 t587.length co22]] ?_
   with_reducible refine (Zh.calls kj39 4 t580 t581 (wrap64 (t582 + 1)) t583 _ _ t584 _ _ t587 t624 _ ?side1 ?side2 ?side3 ?side4 ?side5 ?side6 A70.out).mono ?_
   (case side1 => repeat (first | exact (Kd.R_reads' HO_592004.out).2.2 | (with_reducible refine Kd.C_alloc ?_ _) | (with_reducible refine Kd.C_drewN ?_ _) | (with_reducible refine Kd.C_drew ?_)))
   (case side2 => exact (Kd.R_reads' HO_592004.out).2.1)
   (case side3 => repeat (first | exact (Kd.S_reads' HO_592005.out).2.2 | (with_reducible refine Kd.C_alloc ?_ _) | (with_reducible refine Kd.C_drewN ?_ _) | (with_reducible refine Kd.C_drew ?_)))
   (case side4 => exact (Kd.S_reads' HO_592005.out).2.1)
   (case side5 => exact HLD.out.on (zl_ HB))
   (case side6 => exact HTD.out.on (zl_ HB))
   rintro e w127 ⟨rfl,hb⟩
   refine ⟨_,rfl,?_⟩
   replace BK616 := zb BK616 hb
   (try replace HO_592004 := zrb HO_592004 hb)
   (try replace HO_592005 := am_ (Kd.S_below (by (with_reducible repeat (first | apply Kd.S_alloc | apply Kd.S_drewN | apply Kd.S_drew));exact HO_592005.out) hb))
   replace HB := zs_ HB hb
   try clear hb
   refine hK.out _ _ ⟨(blk_cell BK616.out 0).trans rfl,(blk_cell BK616.out 1).trans rfl,(blk_cell BK616.out 2).trans rfl,(blk_cell BK616.out 3).trans rfl,(blk_cell BK616.out 4).trans rfl,(blk_cell BK616.out 5).trans rfl⟩ (fun hHeld => ?_)
   clear hK K
   refine nm_ ?_
   refine zon 3 (N := some 138) HT_ (fun K hK => ?_)
   refine zgo Tryd.func13 #[.int .i64 4,.agg #[.string t580,.int .i64 t581,.int .i64 (wrap64 (t582 + 1)),.int .i64 t583,.slice Ao21 t584.length co21,.slice Ao22 t587.length co22]] ?_
   with_reducible refine (Zf.calls kj39 4 t580 t581 (wrap64 (t582 + 1)) t583 _ _ t584 _ _ t587 t625 _ ?side1 ?side2 ?side3 ?side4 A71.out).mono ?_
   (case side1 => repeat (first | exact (Kd.R_reads' HO_592004.out).2.2 | (with_reducible refine Kd.C_alloc ?_ _) | (with_reducible refine Kd.C_drewN ?_ _) | (with_reducible refine Kd.C_drew ?_)))
   (case side2 => exact (Kd.R_reads' HO_592004.out).2.1)
   (case side3 => repeat (first | exact (Kd.S_reads' HO_592005.out).2.2 | (with_reducible refine Kd.C_alloc ?_ _) | (with_reducible refine Kd.C_drewN ?_ _) | (with_reducible refine Kd.C_drew ?_)))
   (case side4 => exact (Kd.S_reads' HO_592005.out).2.1)
   rintro e w128 ⟨rfl,hb⟩
   refine ⟨_,rfl,?_⟩
   replace BK616 := zb BK616 hb
   (try replace HO_592004 := zrb HO_592004 hb)
   (try replace HO_592005 := am_ (Kd.S_below (by (with_reducible repeat (first | apply Kd.S_alloc | apply Kd.S_drewN | apply Kd.S_drew));exact HO_592005.out) hb))
   replace HB := zs_ HB hb
   try clear hb
   refine hK.out _ _ ⟨(blk_cell BK616.out 0).trans rfl,(blk_cell BK616.out 1).trans rfl,(blk_cell BK616.out 2).trans rfl,(blk_cell BK616.out 3).trans rfl,(blk_cell BK616.out 4).trans rfl,(blk_cell BK616.out 5).trans rfl⟩ (fun hHeld => ?_)
   clear hK K
   refine nm_ ?_
   refine pu_ 4 139 HT_ ?_
   refine pu_ 5 140 HT_ ?_
   refine px_ 6 141 HT_ ?_
   refine px_ 7 142 HT_ ?_
   refine px_ 8 143 HT_ ?_
   refine pu_ 9 144 HT_ ?_
   refine pu_ 10 4 HT_ ?_
   refine done_ (done_of HT_.out (by kernel_rfl)) ?_
   try go_wp2
   go_ret
   exact ⟨zt_,zl_ HB⟩
  rw [if_pos c72] at H
  have c72b0 := beq_iff_eq.mpr c72
  have c72b1 := bne_eq_false_iff_eq.mpr c72
  clear c72
  replace H := Option.bind_eq_some_iff.mp H
  obtain ⟨t626,A730,H⟩ := H
  try dsimp only at H
  have A73 := am_ A730
  clear A730
  obtain rfl := Option.some.inj H
  have hnb74 := NB591_575.out
  have hnc74 := NB575_591.out
  have hnb75 := NB591_605.out
  have hnc75 := NB605_591.out
  obtain ⟨hcz76_0,hcz76_1,hcz76_2,hcz76_3,hcz76_4,hcz76_5,hfz76_0,hfz76_1,hfz76_2,hfz76_3,hfz76_4,hfz76_5⟩ := zc6 BK591
  try go_wp2_with (first | ((with_reducible refine gate_dst (N := 18) rfl ?_);(try (refine gate_guard (by rfl) ?_;dsimp only));refine zbx (N := 18) (cs := #[.string ⟨#[]⟩,.int .i64 0,.int .i64 0,.int .i64 0,.slice none 0 0,.slice none 0 0]) (t := 31) ?_;intro gb616 hg w77 hbox hb;replace HO_592004 := zrb HO_592004 hb;replace HO_592005 := am_ (Kd.S_below (by (with_reducible repeat (first | apply Kd.S_alloc | apply Kd.S_drewN | apply Kd.S_drew));exact HO_592005.out) hb);replace HO_606001 := zrb HO_606001 hb;replace HO_606002 := zrb HO_606002 hb;replace HO_606003 := zrb HO_606003 hb;have BK616 := am_ (hbox);have GW616 := zw_ HB hg;have GE616 := zw_ HB hg;replace HB := zs_ HB hb;have NB575_616 := zl hg BK575;have NB616_575 := zg hg BK575;replace BK575 := zb BK575 hb;have NB591_616 := zl hg BK591;have NB616_591 := zg hg BK591;replace BK591 := zb BK591 hb;have NB605_616 := zl hg BK605;have NB616_605 := zg hg BK605;replace BK605 := zb BK605 hb;clear hb hbox hg;have hnb78 := NB616_575.out;have hnc78 := NB575_616.out;have hnb79 := NB616_591.out;have hnc79 := NB591_616.out;have hnb80 := NB616_605.out;have hnc80 := NB605_616.out;obtain ⟨hcz81_0,hcz81_1,hcz81_2,hcz81_3,hcz81_4,hcz81_5,hfz81_0,hfz81_1,hfz81_2,hfz81_3,hfz81_4,hfz81_5⟩ := zc6 BK616;obtain ⟨hcz82_0,hcz82_1,hcz82_2,hcz82_3,hcz82_4,hcz82_5,hfz82_0,hfz82_1,hfz82_2,hfz82_3,hfz82_4,hfz82_5⟩ := zc6 BK591) | ((with_reducible refine gate_dst (N := 19) rfl ?_);(try (refine gate_guard (by rfl) ?_;dsimp only));refine zbx (N := 19) (cs := #[.string ⟨#[]⟩,.int .i64 0,.int .i64 0,.int .i64 0,.slice none 0 0,.slice none 0 0]) (t := 31) ?_;intro gb617 hg w83 hbox hb;replace HO_592004 := am_ (Kd.R_below (by (with_reducible repeat (first | apply r1_ | apply r2_ | apply r3_));exact (Kd.R_mono (zrf (Kd.R_types HO_592004.out BK616.out (by decide))) (fun _ h_ => h_.1))) hb);replace HO_592005 := am_ (Kd.S_below (by (with_reducible repeat (first | apply Kd.S_alloc | apply Kd.S_drewN | apply Kd.S_drew));exact (Kd.S_mono (Kd.S_far (p := ⟨gb616,2,none⟩) (Kd.S_far (p := ⟨gb616,5,none⟩) (Kd.S_far (p := ⟨gb616,4,none⟩) (Kd.S_far (p := ⟨gb616,3,none⟩) (Kd.S_far (p := ⟨gb616,2,none⟩) (Kd.S_far (p := ⟨gb616,1,none⟩) (Kd.S_far (p := ⟨gb616,0,none⟩) (Kd.S_types HO_592005.out BK616.out (by decide)) (fun _ hk => hk.2) (.string t580)) (fun _ hk => hk.2) (.int .i64 t581)) (fun _ hk => hk.2) (.int .i64 t582)) (fun _ hk => hk.2) (.int .i64 t583)) (fun _ hk => hk.2) (.slice Ao21 t584.length co21)) (fun _ hk => hk.2) (.slice Ao22 t587.length co22)) (fun _ hk => hk.2) (.int .i64 (wrap64 (t582 + 1)))) (fun _ h_ => h_.1))) hb);replace HO_606001 := am_ (Kd.R_below (by (with_reducible repeat (first | apply r1_ | apply r2_ | apply r3_));exact (Kd.R_mono (zrf (Kd.R_types HO_606001.out BK616.out (by decide))) (fun _ h_ => h_.1))) hb);replace HO_606002 := am_ (Kd.R_below (by (with_reducible repeat (first | apply r1_ | apply r2_ | apply r3_));exact (Kd.R_mono (zrf (Kd.R_types HO_606002.out BK616.out (by decide))) (fun _ h_ => h_.1))) hb);replace HO_606003 := am_ (Kd.R_below (by (with_reducible repeat (first | apply r1_ | apply r2_ | apply r3_));exact (Kd.R_mono (zrf (Kd.R_types HO_606003.out BK616.out (by decide))) (fun _ h_ => h_.1))) hb);have BK617 := am_ (hbox);have GW617 := zw_ HB hg;have GE617 := zw_ HB hg;replace HB := zs_ HB hb;have NB575_617 := am_ ((by rw [hg];exact Nat.ne_of_lt (blk_lt (g := gb575) (o := .cells #[.string t571,.int .i64 t572,.int .i64 t573,.int .i64 t574] 24 (0,0)) (zq BK575)) : gb575 ≠ gb617));have NB617_575 := am_ ((by rw [hg];exact Nat.ne_of_gt (blk_lt (g := gb575) (o := .cells #[.string t571,.int .i64 t572,.int .i64 t573,.int .i64 t574] 24 (0,0)) (zq BK575)) : gb617 ≠ gb575));replace BK575 := am_ (blk_below (g := gb575) (o := .cells #[.string t571,.int .i64 t572,.int .i64 t573,.int .i64 t574] 24 (0,0)) (zq BK575) hb);have NB591_617 := am_ ((by rw [hg];exact Nat.ne_of_lt (blk_lt (g := gb591) (o := .cells #[.string t580,.int .i64 t581,.int .i64 t582,.int .i64 t583,.slice Ao21 t584.length co21,.slice Ao22 t587.length co22] 31 (0,0)) (zq BK591)) : gb591 ≠ gb617));have NB617_591 := am_ ((by rw [hg];exact Nat.ne_of_gt (blk_lt (g := gb591) (o := .cells #[.string t580,.int .i64 t581,.int .i64 t582,.int .i64 t583,.slice Ao21 t584.length co21,.slice Ao22 t587.length co22] 31 (0,0)) (zq BK591)) : gb617 ≠ gb591));replace BK591 := am_ (blk_below (g := gb591) (o := .cells #[.string t580,.int .i64 t581,.int .i64 t582,.int .i64 t583,.slice Ao21 t584.length co21,.slice Ao22 t587.length co22] 31 (0,0)) (zq BK591) hb);have NB605_617 := am_ ((by rw [hg];exact Nat.ne_of_lt (blk_lt (g := gb605) (o := .cells #[.int .i64 t594,.slice Ao46 t595.length co46,.slice Ao48 t598.length co48,.slice Ao50 t601.length co50] 37 (0,0)) (zq BK605)) : gb605 ≠ gb617));have NB617_605 := am_ ((by rw [hg];exact Nat.ne_of_gt (blk_lt (g := gb605) (o := .cells #[.int .i64 t594,.slice Ao46 t595.length co46,.slice Ao48 t598.length co48,.slice Ao50 t601.length co50] 37 (0,0)) (zq BK605)) : gb617 ≠ gb605));replace BK605 := am_ (blk_below (g := gb605) (o := .cells #[.int .i64 t594,.slice Ao46 t595.length co46,.slice Ao48 t598.length co48,.slice Ao50 t601.length co50] 37 (0,0)) (zq BK605) hb);have NB616_617 := am_ ((by rw [hg];exact Nat.ne_of_lt (blk_lt (g := gb616) (o := .cells #[.string t580,.int .i64 t581,.int .i64 (wrap64 (t582 + 1)),.int .i64 t583,.slice Ao21 t584.length co21,.slice Ao22 t587.length co22] 31 (0,0)) (zq BK616)) : gb616 ≠ gb617));have NB617_616 := am_ ((by rw [hg];exact Nat.ne_of_gt (blk_lt (g := gb616) (o := .cells #[.string t580,.int .i64 t581,.int .i64 (wrap64 (t582 + 1)),.int .i64 t583,.slice Ao21 t584.length co21,.slice Ao22 t587.length co22] 31 (0,0)) (zq BK616)) : gb617 ≠ gb616));replace BK616 := am_ (blk_below (g := gb616) (o := .cells #[.string t580,.int .i64 t581,.int .i64 (wrap64 (t582 + 1)),.int .i64 t583,.slice Ao21 t584.length co21,.slice Ao22 t587.length co22] 31 (0,0)) (zq BK616) hb);clear hb hbox hg;have hnb84 := NB617_575.out;have hnc84 := NB575_617.out;have hnb85 := NB617_591.out;have hnc85 := NB591_617.out;have hnb86 := NB617_605.out;have hnc86 := NB605_617.out;have hnb87 := NB617_616.out;have hnc87 := NB616_617.out;obtain ⟨hcz88_0,hcz88_1,hcz88_2,hcz88_3,hcz88_4,hcz88_5,hfz88_0,hfz88_1,hfz88_2,hfz88_3,hfz88_4,hfz88_5⟩ := zc6 BK617) | ((with_reducible refine gate_store (t := 31) (p := 19) rfl ?_);refine store_event (t := 31) (p := 19) (v := ?vo_w89) (w1 := ((((((w83.setCell ⟨gb617,0,none⟩ (.string t580)).setCell ⟨gb617,1,none⟩ (.int .i64 t581)).setCell ⟨gb617,2,none⟩ (.int .i64 t582)).setCell ⟨gb617,3,none⟩ (.int .i64 t583)).setCell ⟨gb617,4,none⟩ (.slice Ao21 t584.length co21)).setCell ⟨gb617,5,none⟩ (.slice Ao22 t587.length co22))) ?hg ?ho ?hn ?hr ?_;(case ho => rfl);(case hg => rfl);(case hn => rfl);(case hr => first | (go_simp;done) | (go_simp;rfl));intro w89 hw;have n0_ : Aside0 (Kd.R (Kd.int .i64) 3 w89 w.heap.size (fun _ => True) (.slice Ao21 t584.length co21) t584) := ⟨(by rw [hw];exact (by (with_reducible repeat (first | apply r1_ | apply r2_ | apply r3_));exact Kd.R_mono (zrf (Kd.R_types HO_592004.out BK617.out (by decide))) (fun _ hk => trivial)))⟩;have n1_ : Aside0 (Kd.S k37 37 w89 w.heap.size (fun k_ => some k_ ≠ (.slice Ao46 t595.length co46 : Value).ownBlock ∧ some k_ ≠ (.slice Ao48 t598.length co48 : Value).ownBlock ∧ some k_ ≠ (.slice Ao50 t601.length co50 : Value).ownBlock ∧ k_ ≠ gb605) (.slice Ao22 t587.length co22) t587) := ⟨(by rw [hw];exact (by (with_reducible repeat (first | apply Kd.S_alloc | apply Kd.S_drewN | apply Kd.S_drew));exact Kd.S_mono (Kd.S_far (p := ⟨gb617,5,none⟩) (Kd.S_far (p := ⟨gb617,4,none⟩) (Kd.S_far (p := ⟨gb617,3,none⟩) (Kd.S_far (p := ⟨gb617,2,none⟩) (Kd.S_far (p := ⟨gb617,1,none⟩) (Kd.S_far (p := ⟨gb617,0,none⟩) (Kd.S_types HO_592005.out BK617.out (by decide)) (fun _ hk => hk.2) (.string t580)) (fun _ hk => hk.2) (.int .i64 t581)) (fun _ hk => hk.2) (.int .i64 t582)) (fun _ hk => hk.2) (.int .i64 t583)) (fun _ hk => hk.2) (.slice Ao21 t584.length co21)) (fun _ hk => hk.2) (.slice Ao22 t587.length co22)) (fun _ hk => ⟨hk.1.1,⟨hk.1.2.1,⟨hk.1.2.2.1,hk.1.2.2.2⟩⟩⟩)))⟩;have n2_ : Aside0 (Kd.R Kd.string 9 w89 w.heap.size (fun k_ => some k_ ≠ (.slice Ao48 t598.length co48 : Value).ownBlock ∧ some k_ ≠ (.slice Ao50 t601.length co50 : Value).ownBlock) (.slice Ao46 t595.length co46) t595) := ⟨(by rw [hw];exact (by (with_reducible repeat (first | apply r1_ | apply r2_ | apply r3_));exact Kd.R_mono (zrf (Kd.R_types HO_606001.out BK617.out (by decide))) (fun _ hk => ⟨hk.1.1,hk.1.2⟩)))⟩;have n3_ : Aside0 (Kd.R Kd.string 9 w89 w.heap.size (fun k_ => some k_ ≠ (.slice Ao46 t595.length co46 : Value).ownBlock ∧ some k_ ≠ (.slice Ao50 t601.length co50 : Value).ownBlock) (.slice Ao48 t598.length co48) t598) := ⟨(by rw [hw];exact (by (with_reducible repeat (first | apply r1_ | apply r2_ | apply r3_));exact Kd.R_mono (zrf (Kd.R_types HO_606002.out BK617.out (by decide))) (fun _ hk => ⟨hk.1.1,hk.1.2⟩)))⟩;have n4_ : Aside0 (Kd.R Kd.string 9 w89 w.heap.size (fun k_ => some k_ ≠ (.slice Ao46 t595.length co46 : Value).ownBlock ∧ some k_ ≠ (.slice Ao48 t598.length co48 : Value).ownBlock) (.slice Ao50 t601.length co50) t601) := ⟨(by rw [hw];exact (by (with_reducible repeat (first | apply r1_ | apply r2_ | apply r3_));exact Kd.R_mono (zrf (Kd.R_types HO_606003.out BK617.out (by decide))) (fun _ hk => ⟨hk.1.1,hk.1.2⟩)))⟩;have n5_ : Aside0 (w89.heap[gb575]? = some (.cells #[.string t571,.int .i64 t572,.int .i64 t573,.int .i64 t574] 24 (0,0))) := ⟨(by rw [hw];exact (zq BK575))⟩;have n6_ : Aside0 (w89.heap[gb591]? = some (.cells #[.string t580,.int .i64 t581,.int .i64 t582,.int .i64 t583,.slice Ao21 t584.length co21,.slice Ao22 t587.length co22] 31 (0,0))) := ⟨(by rw [hw];exact (zq BK591))⟩;have n7_ : Aside0 (w89.heap[gb605]? = some (.cells #[.int .i64 t594,.slice Ao46 t595.length co46,.slice Ao48 t598.length co48,.slice Ao50 t601.length co50] 37 (0,0))) := ⟨(by rw [hw];exact (zq BK605))⟩;have n8_ : Aside0 (w89.heap[gb616]? = some (.cells #[.string t580,.int .i64 t581,.int .i64 (wrap64 (t582 + 1)),.int .i64 t583,.slice Ao21 t584.length co21,.slice Ao22 t587.length co22] 31 (0,0))) := ⟨(by rw [hw];exact (zq BK616))⟩;have n9_ : Aside0 (w89.heap[gb617]? = some (.cells #[.string t580,.int .i64 t581,.int .i64 t582,.int .i64 t583,.slice Ao21 t584.length co21,.slice Ao22 t587.length co22] 31 (0,0))) := ⟨(by rw [hw];exact (zq BK617))⟩;have n10_ : Aside0 (Below w.heap.size w w89) := ⟨(by rw [hw];exact (zl_ HB))⟩;clear hw;clear HO_592004;clear HO_592005;clear HO_606001;clear HO_606002;clear HO_606003;clear BK575;clear BK591;clear BK605;clear BK616;clear BK617;clear HB;have HO_592004 := n0_;have HO_592005 := n1_;have HO_606001 := n2_;have HO_606002 := n3_;have HO_606003 := n4_;have BK575 := n5_;have BK591 := n6_;have BK605 := n7_;have BK616 := n8_;have BK617 := n9_;have HB := n10_;clear n0_ n1_ n2_ n3_ n4_ n5_ n6_ n7_ n8_ n9_ n10_;obtain ⟨hcz90_0,hcz90_1,hcz90_2,hcz90_3,hcz90_4,hcz90_5,hfz90_0,hfz90_1,hfz90_2,hfz90_3,hfz90_4,hfz90_5⟩ := zc6 BK591;have q91 : (1 : Int) ≤ ((t584.length : Int) : Int) := zo_;obtain ⟨i091,hi091,_,hsz91,_⟩ := info_parts info3;have hcut91 := cut_to (P := Tryd.prog) 26 3 .i64 Tryd.underlying26 hi091 Ao21 t584.length co21 1 (by omega) q91 (Kd.R_reads' HO_592004.out).2.1;have hr91 := Kd.R_take (m := (1 : Int).toNat) HO_592004.out (by omega);have hy91 : y618.length = (1 : Int).toNat := (by rw [Ny618.out,List.length_take];omega);rw [← Ny618.out] at hr91;rw [← hy91] at hr91 hcut91;clear hy91 hi091 hsz91;have HO620 := am_ hr91;clear hr91;replace q91 := eq_true q91;obtain ⟨hcz92_0,hcz92_1,hcz92_2,hcz92_3,hcz92_4,hcz92_5,hfz92_0,hfz92_1,hfz92_2,hfz92_3,hfz92_4,hfz92_5⟩ := zc6 BK617) | ((with_reducible refine gate_store (t := 26) (p := 130) rfl ?_);refine store_event (t := 26) (p := 130) (v := ?vo_w93) (w1 := (w89.setCell ⟨gb617,4,none⟩ (.slice Ao21 y618.length co21))) ?hg ?ho ?hn ?hr ?_;(case ho => rfl);(case hg => rfl);(case hn => rfl);(case hr => first | (go_simp;done) | (go_simp;rfl));intro w93 hw;have n0_ : Aside0 (Kd.R (Kd.int .i64) 3 w93 w.heap.size (fun _ => True) (.slice Ao21 y618.length co21) y618) := ⟨(by rw [hw];exact (by (with_reducible repeat (first | apply r1_ | apply r2_ | apply r3_));exact Kd.R_mono (zrf (Kd.R_types HO620.out BK617.out (by decide))) (fun _ hk => trivial)))⟩;have mq_n0_ : Aside0 (Kd.R (Kd.int .i64) 3 w93 w.heap.size (fun _ => True) (.slice Ao21 t584.length co21) t584) := ⟨(by rw [hw];exact (by (with_reducible repeat (first | apply r1_ | apply r2_ | apply r3_));exact Kd.R_mono (zrf (Kd.R_types HO_592004.out BK617.out (by decide))) (fun _ hk => trivial)))⟩;have n1_ : Aside0 (Kd.S k37 37 w93 w.heap.size (fun k_ => some k_ ≠ (.slice Ao46 t595.length co46 : Value).ownBlock ∧ some k_ ≠ (.slice Ao48 t598.length co48 : Value).ownBlock ∧ some k_ ≠ (.slice Ao50 t601.length co50 : Value).ownBlock ∧ k_ ≠ gb605) (.slice Ao22 t587.length co22) t587) := ⟨(by rw [hw];exact (by (with_reducible repeat (first | apply Kd.S_alloc | apply Kd.S_drewN | apply Kd.S_drew));exact Kd.S_mono (Kd.S_far (p := ⟨gb617,4,none⟩) (Kd.S_types HO_592005.out BK617.out (by decide)) (fun _ hk => hk.2) (.slice Ao21 y618.length co21)) (fun _ hk => ⟨hk.1.1,⟨hk.1.2.1,⟨hk.1.2.2.1,hk.1.2.2.2⟩⟩⟩)))⟩;have n2_ : Aside0 (Kd.R Kd.string 9 w93 w.heap.size (fun k_ => some k_ ≠ (.slice Ao48 t598.length co48 : Value).ownBlock ∧ some k_ ≠ (.slice Ao50 t601.length co50 : Value).ownBlock) (.slice Ao46 t595.length co46) t595) := ⟨(by rw [hw];exact (by (with_reducible repeat (first | apply r1_ | apply r2_ | apply r3_));exact Kd.R_mono (zrf (Kd.R_types HO_606001.out BK617.out (by decide))) (fun _ hk => ⟨hk.1.1,hk.1.2⟩)))⟩;have n3_ : Aside0 (Kd.R Kd.string 9 w93 w.heap.size (fun k_ => some k_ ≠ (.slice Ao46 t595.length co46 : Value).ownBlock ∧ some k_ ≠ (.slice Ao50 t601.length co50 : Value).ownBlock) (.slice Ao48 t598.length co48) t598) := ⟨(by rw [hw];exact (by (with_reducible repeat (first | apply r1_ | apply r2_ | apply r3_));exact Kd.R_mono (zrf (Kd.R_types HO_606002.out BK617.out (by decide))) (fun _ hk => ⟨hk.1.1,hk.1.2⟩)))⟩;have n4_ : Aside0 (Kd.R Kd.string 9 w93 w.heap.size (fun k_ => some k_ ≠ (.slice Ao46 t595.length co46 : Value).ownBlock ∧ some k_ ≠ (.slice Ao48 t598.length co48 : Value).ownBlock) (.slice Ao50 t601.length co50) t601) := ⟨(by rw [hw];exact (by (with_reducible repeat (first | apply r1_ | apply r2_ | apply r3_));exact Kd.R_mono (zrf (Kd.R_types HO_606003.out BK617.out (by decide))) (fun _ hk => ⟨hk.1.1,hk.1.2⟩)))⟩;have n5_ : Aside0 (w93.heap[gb575]? = some (.cells #[.string t571,.int .i64 t572,.int .i64 t573,.int .i64 t574] 24 (0,0))) := ⟨(by rw [hw];exact (zq BK575))⟩;have n6_ : Aside0 (w93.heap[gb591]? = some (.cells #[.string t580,.int .i64 t581,.int .i64 t582,.int .i64 t583,.slice Ao21 t584.length co21,.slice Ao22 t587.length co22] 31 (0,0))) := ⟨(by rw [hw];exact (zq BK591))⟩;have n7_ : Aside0 (w93.heap[gb605]? = some (.cells #[.int .i64 t594,.slice Ao46 t595.length co46,.slice Ao48 t598.length co48,.slice Ao50 t601.length co50] 37 (0,0))) := ⟨(by rw [hw];exact (zq BK605))⟩;have n8_ : Aside0 (w93.heap[gb616]? = some (.cells #[.string t580,.int .i64 t581,.int .i64 (wrap64 (t582 + 1)),.int .i64 t583,.slice Ao21 t584.length co21,.slice Ao22 t587.length co22] 31 (0,0))) := ⟨(by rw [hw];exact (zq BK616))⟩;have n9_ : Aside0 (w93.heap[gb617]? = some (.cells #[.string t580,.int .i64 t581,.int .i64 t582,.int .i64 t583,.slice Ao21 y618.length co21,.slice Ao22 t587.length co22] 31 (0,0))) := ⟨(by rw [hw];exact (zq BK617))⟩;have n10_ : Aside0 (Below w.heap.size w w93) := ⟨(by rw [hw];exact (zl_ HB))⟩;clear hw;clear HO620 HO_592004;clear HO_592005;clear HO_606001;clear HO_606002;clear HO_606003;clear BK575;clear BK591;clear BK605;clear BK616;clear BK617;clear HB;have HO620 := n0_;have HO_592004 := mq_n0_;clear mq_n0_;have HO_592005 := n1_;have HO_606001 := n2_;have HO_606002 := n3_;have HO_606003 := n4_;have BK575 := n5_;have BK591 := n6_;have BK605 := n7_;have BK616 := n8_;have BK617 := n9_;have HB := n10_;clear n0_ n1_ n2_ n3_ n4_ n5_ n6_ n7_ n8_ n9_ n10_;obtain ⟨hcz94_0,hcz94_1,hcz94_2,hcz94_3,hcz94_4,hcz94_5,hfz94_0,hfz94_1,hfz94_2,hfz94_3,hfz94_4,hfz94_5⟩ := zc6 BK591;have q95 : (1 : Int) ≤ ((t587.length : Int) : Int) := zo_;obtain ⟨i095,hi095,_,hsz95,_⟩ := info_parts info37;have hcut95 := cut_to (P := Tryd.prog) 29 37 .i64 Tryd.underlying29 hi095 Ao22 t587.length co22 1 (by omega) q95 (Kd.S_reads' HO_592005.out).2.1;have hr95 := Kd.S_take (m := (1 : Int).toNat) HO_592005.out (by omega);have hy95 : y621.length = (1 : Int).toNat := (by rw [Ny621.out,List.length_take];omega);rw [← Ny621.out] at hr95;rw [← hy95] at hr95 hcut95;clear hy95 hi095 hsz95;have HO623 := am_ hr95;clear hr95;replace q95 := eq_true q95;obtain ⟨hcz96_0,hcz96_1,hcz96_2,hcz96_3,hcz96_4,hcz96_5,hfz96_0,hfz96_1,hfz96_2,hfz96_3,hfz96_4,hfz96_5⟩ := zc6 BK617))
  have n0_ : Aside0 (Kd.R (Kd.int .i64) 3 (w93.setCell ⟨gb617,5,none⟩ (.slice Ao22 y621.length co22)) w.heap.size (fun _ => True) (.slice Ao21 y618.length co21) y618) := ⟨by (with_reducible repeat (first | apply r1_ | apply r2_ | apply r3_));exact Kd.R_mono (zrf (Kd.R_types HO620.out BK617.out (by decide))) (fun _ hk => trivial)⟩
  have mq_n0_ : Aside0 (Kd.R (Kd.int .i64) 3 (w93.setCell ⟨gb617,5,none⟩ (.slice Ao22 y621.length co22)) w.heap.size (fun _ => True) (.slice Ao21 t584.length co21) t584) := ⟨by (with_reducible repeat (first | apply r1_ | apply r2_ | apply r3_));exact Kd.R_mono (zrf (Kd.R_types HO_592004.out BK617.out (by decide))) (fun _ hk => trivial)⟩
  have n1_ : Aside0 (Kd.S k37 37 (w93.setCell ⟨gb617,5,none⟩ (.slice Ao22 y621.length co22)) w.heap.size (fun k_ => some k_ ≠ (.slice Ao46 t595.length co46 : Value).ownBlock ∧ some k_ ≠ (.slice Ao48 t598.length co48 : Value).ownBlock ∧ some k_ ≠ (.slice Ao50 t601.length co50 : Value).ownBlock ∧ k_ ≠ gb605) (.slice Ao22 y621.length co22) y621) := ⟨by (with_reducible repeat (first | apply Kd.S_alloc | apply Kd.S_drewN | apply Kd.S_drew));exact Kd.S_mono (Kd.S_far (p := ⟨gb617,5,none⟩) (Kd.S_types HO623.out BK617.out (by decide)) (fun _ hk => hk.2) (.slice Ao22 y621.length co22)) (fun _ hk => ⟨hk.1.1,⟨hk.1.2.1,⟨hk.1.2.2.1,hk.1.2.2.2⟩⟩⟩)⟩
  have mq_n1_ : Aside0 (Kd.S k37 37 (w93.setCell ⟨gb617,5,none⟩ (.slice Ao22 y621.length co22)) w.heap.size (fun k_ => some k_ ≠ (.slice Ao46 t595.length co46 : Value).ownBlock ∧ some k_ ≠ (.slice Ao48 t598.length co48 : Value).ownBlock ∧ some k_ ≠ (.slice Ao50 t601.length co50 : Value).ownBlock ∧ k_ ≠ gb605) (.slice Ao22 t587.length co22) t587) := ⟨by (with_reducible repeat (first | apply Kd.S_alloc | apply Kd.S_drewN | apply Kd.S_drew));exact Kd.S_mono (Kd.S_far (p := ⟨gb617,5,none⟩) (Kd.S_types HO_592005.out BK617.out (by decide)) (fun _ hk => hk.2) (.slice Ao22 y621.length co22)) (fun _ hk => ⟨hk.1.1,⟨hk.1.2.1,⟨hk.1.2.2.1,hk.1.2.2.2⟩⟩⟩)⟩
  have n2_ : Aside0 (Kd.R Kd.string 9 (w93.setCell ⟨gb617,5,none⟩ (.slice Ao22 y621.length co22)) w.heap.size (fun k_ => some k_ ≠ (.slice Ao48 t598.length co48 : Value).ownBlock ∧ some k_ ≠ (.slice Ao50 t601.length co50 : Value).ownBlock) (.slice Ao46 t595.length co46) t595) := ⟨by (with_reducible repeat (first | apply r1_ | apply r2_ | apply r3_));exact Kd.R_mono (zrf (Kd.R_types HO_606001.out BK617.out (by decide))) (fun _ hk => ⟨hk.1.1,hk.1.2⟩)⟩
  have n3_ : Aside0 (Kd.R Kd.string 9 (w93.setCell ⟨gb617,5,none⟩ (.slice Ao22 y621.length co22)) w.heap.size (fun k_ => some k_ ≠ (.slice Ao46 t595.length co46 : Value).ownBlock ∧ some k_ ≠ (.slice Ao50 t601.length co50 : Value).ownBlock) (.slice Ao48 t598.length co48) t598) := ⟨by (with_reducible repeat (first | apply r1_ | apply r2_ | apply r3_));exact Kd.R_mono (zrf (Kd.R_types HO_606002.out BK617.out (by decide))) (fun _ hk => ⟨hk.1.1,hk.1.2⟩)⟩
  have n4_ : Aside0 (Kd.R Kd.string 9 (w93.setCell ⟨gb617,5,none⟩ (.slice Ao22 y621.length co22)) w.heap.size (fun k_ => some k_ ≠ (.slice Ao46 t595.length co46 : Value).ownBlock ∧ some k_ ≠ (.slice Ao48 t598.length co48 : Value).ownBlock) (.slice Ao50 t601.length co50) t601) := ⟨by (with_reducible repeat (first | apply r1_ | apply r2_ | apply r3_));exact Kd.R_mono (zrf (Kd.R_types HO_606003.out BK617.out (by decide))) (fun _ hk => ⟨hk.1.1,hk.1.2⟩)⟩
  have n5_ : Aside0 ((w93.setCell ⟨gb617,5,none⟩ (.slice Ao22 y621.length co22)).heap[gb575]? = some (.cells #[.string t571,.int .i64 t572,.int .i64 t573,.int .i64 t574] 24 (0,0))) := ⟨zq BK575⟩
  have n6_ : Aside0 ((w93.setCell ⟨gb617,5,none⟩ (.slice Ao22 y621.length co22)).heap[gb591]? = some (.cells #[.string t580,.int .i64 t581,.int .i64 t582,.int .i64 t583,.slice Ao21 t584.length co21,.slice Ao22 t587.length co22] 31 (0,0))) := ⟨zq BK591⟩
  have n7_ : Aside0 ((w93.setCell ⟨gb617,5,none⟩ (.slice Ao22 y621.length co22)).heap[gb605]? = some (.cells #[.int .i64 t594,.slice Ao46 t595.length co46,.slice Ao48 t598.length co48,.slice Ao50 t601.length co50] 37 (0,0))) := ⟨zq BK605⟩
  have n8_ : Aside0 ((w93.setCell ⟨gb617,5,none⟩ (.slice Ao22 y621.length co22)).heap[gb616]? = some (.cells #[.string t580,.int .i64 t581,.int .i64 (wrap64 (t582 + 1)),.int .i64 t583,.slice Ao21 t584.length co21,.slice Ao22 t587.length co22] 31 (0,0))) := ⟨zq BK616⟩
  have n9_ : Aside0 ((w93.setCell ⟨gb617,5,none⟩ (.slice Ao22 y621.length co22)).heap[gb617]? = some (.cells #[.string t580,.int .i64 t581,.int .i64 t582,.int .i64 t583,.slice Ao21 y618.length co21,.slice Ao22 y621.length co22] 31 (0,0))) := ⟨zq BK617⟩
  have n10_ : Aside0 (Below w.heap.size w (w93.setCell ⟨gb617,5,none⟩ (.slice Ao22 y621.length co22))) := ⟨zl_ HB⟩
  (try clear HO620 HO_592004)
  (try clear HO623 HO_592005)
  (try clear HO_606001)
  (try clear HO_606002)
  (try clear HO_606003)
  (try clear BK575)
  (try clear BK591)
  (try clear BK605)
  (try clear BK616)
  (try clear BK617)
  (try clear HB)
  generalize (w93.setCell ⟨gb617,5,none⟩ (.slice Ao22 y621.length co22)) = w97 at mq_n0_ mq_n1_ n0_ n1_ n2_ n3_ n4_ n5_ n6_ n7_ n8_ n9_ n10_ ⊢
  have HO620 := n0_
  have HO_592004 := mq_n0_
  clear mq_n0_
  have HO623 := n1_
  have HO_592005 := mq_n1_
  clear mq_n1_
  have HO_606001 := n2_
  have HO_606002 := n3_
  have HO_606003 := n4_
  have BK575 := n5_
  have BK591 := n6_
  have BK605 := n7_
  have BK616 := n8_
  have BK617 := n9_
  have HB := n10_
  clear n0_ n1_ n2_ n3_ n4_ n5_ n6_ n7_ n8_ n9_ n10_
  replace HO620 := am_ (Kd.R_drew HO620.out)
  replace HO_592004 := am_ (Kd.R_drew HO_592004.out)
  replace HO623 := am_ (Kd.S_drew HO623.out)
  replace HO_592005 := am_ (Kd.S_drew HO_592005.out)
  replace HO_606001 := am_ (Kd.R_drew HO_606001.out)
  replace HO_606002 := am_ (Kd.R_drew HO_606002.out)
  replace HO_606003 := am_ (Kd.R_drew HO_606003.out)
  replace BK575 := am_ (blk_drew BK575.out)
  replace BK591 := am_ (blk_drew BK591.out)
  replace BK605 := am_ (blk_drew BK605.out)
  replace BK616 := am_ (blk_drew BK616.out)
  replace BK617 := am_ (blk_drew BK617.out)
  replace HB := am_ (below_drew1 HB.out)
  refine start_ (n := 11) (S := fun w' => w'.cell? ⟨gb616,0,none⟩ = some (.string t580) ∧ w'.cell? ⟨gb616,1,none⟩ = some (.int .i64 t581) ∧ w'.cell? ⟨gb616,2,none⟩ = some (.int .i64 (wrap64 (t582 + 1))) ∧ w'.cell? ⟨gb616,3,none⟩ = some (.int .i64 t583) ∧ w'.cell? ⟨gb616,4,none⟩ = some (.slice Ao21 t584.length co21) ∧ w'.cell? ⟨gb616,5,none⟩ = some (.slice Ao22 t587.length co22) ∧ w'.cell? ⟨gb617,0,none⟩ = some (.string t580) ∧ w'.cell? ⟨gb617,1,none⟩ = some (.int .i64 t581) ∧ w'.cell? ⟨gb617,2,none⟩ = some (.int .i64 t582) ∧ w'.cell? ⟨gb617,3,none⟩ = some (.int .i64 t583) ∧ w'.cell? ⟨gb617,4,none⟩ = some (.slice Ao21 y618.length co21) ∧ w'.cell? ⟨gb617,5,none⟩ = some (.slice Ao22 y621.length co22)) (ds := []) #[false,false,false,false,false,false,false,false,false,false,false] (by kernel_rfl) rfl rfl ⟨(blk_cell BK616.out 0).trans rfl,(blk_cell BK616.out 1).trans rfl,(blk_cell BK616.out 2).trans rfl,(blk_cell BK616.out 3).trans rfl,(blk_cell BK616.out 4).trans rfl,(blk_cell BK616.out 5).trans rfl,(blk_cell BK617.out 0).trans rfl,(blk_cell BK617.out 1).trans rfl,(blk_cell BK617.out 2).trans rfl,(blk_cell BK617.out 3).trans rfl,(blk_cell BK617.out 4).trans rfl,(blk_cell BK617.out 5).trans rfl⟩ (fun hHeld => ?_);refine with_tabW Zc.tab20 Zc.bits20 (fun HT_ HW_ => ?_)
  generalize w97.drew = w98 at HO620 HO_592004 HO623 HO_592005 HO_606001 HO_606002 HO_606003 BK575 BK591 BK605 BK616 BK617 HB hHeld ⊢
  refine tk_ 0 135 HT_ HW_ hHeld ?_
  refine tk_ 2 137 HT_ HW_ hHeld ?_
  refine zon 1 (N := some 136) HT_ (fun K hK => ?_)
  refine zgo Tryd.func7 #[.int .i64 4,.agg #[.string t580,.int .i64 t581,.int .i64 (wrap64 (t582 + 1)),.int .i64 t583,.slice Ao21 t584.length co21,.slice Ao22 t587.length co22]] ?_
  with_reducible refine (Zh.calls kj39 4 t580 t581 (wrap64 (t582 + 1)) t583 _ _ t584 _ _ t587 t624 _ ?side1 ?side2 ?side3 ?side4 ?side5 ?side6 A70.out).mono ?_
  (case side1 => repeat (first | exact (Kd.R_reads' HO_592004.out).2.2 | (with_reducible refine Kd.C_alloc ?_ _) | (with_reducible refine Kd.C_drewN ?_ _) | (with_reducible refine Kd.C_drew ?_)))
  (case side2 => exact (Kd.R_reads' HO_592004.out).2.1)
  (case side3 => repeat (first | exact (Kd.S_reads' HO_592005.out).2.2 | (with_reducible refine Kd.C_alloc ?_ _) | (with_reducible refine Kd.C_drewN ?_ _) | (with_reducible refine Kd.C_drew ?_)))
  (case side4 => exact (Kd.S_reads' HO_592005.out).2.1)
  (case side5 => exact HLD.out.on (zl_ HB))
  (case side6 => exact HTD.out.on (zl_ HB))
  rintro e w99 ⟨rfl,hb⟩
  refine ⟨_,rfl,?_⟩
  replace HO620 := zrb HO620 hb
  replace HO_592004 := zrb HO_592004 hb
  replace HO623 := am_ (Kd.S_below (by (with_reducible repeat (first | apply Kd.S_alloc | apply Kd.S_drewN | apply Kd.S_drew));exact HO623.out) hb)
  replace HO_592005 := am_ (Kd.S_below (by (with_reducible repeat (first | apply Kd.S_alloc | apply Kd.S_drewN | apply Kd.S_drew));exact HO_592005.out) hb)
  replace HO_606001 := zrb HO_606001 hb
  replace HO_606002 := zrb HO_606002 hb
  replace HO_606003 := zrb HO_606003 hb
  replace BK575 := zb BK575 hb
  replace BK591 := zb BK591 hb
  replace BK605 := zb BK605 hb
  replace BK616 := zb BK616 hb
  replace BK617 := zb BK617 hb
  replace HB := zs_ HB hb
  try clear hb
  refine hK.out _ _ ⟨(blk_cell BK616.out 0).trans rfl,(blk_cell BK616.out 1).trans rfl,(blk_cell BK616.out 2).trans rfl,(blk_cell BK616.out 3).trans rfl,(blk_cell BK616.out 4).trans rfl,(blk_cell BK616.out 5).trans rfl,(blk_cell BK617.out 0).trans rfl,(blk_cell BK617.out 1).trans rfl,(blk_cell BK617.out 2).trans rfl,(blk_cell BK617.out 3).trans rfl,(blk_cell BK617.out 4).trans rfl,(blk_cell BK617.out 5).trans rfl⟩ (fun hHeld => ?_)
  clear hK K
  refine nm_ ?_
  refine zon 3 (N := some 138) HT_ (fun K hK => ?_)
  refine zgo Tryd.func13 #[.int .i64 4,.agg #[.string t580,.int .i64 t581,.int .i64 (wrap64 (t582 + 1)),.int .i64 t583,.slice Ao21 t584.length co21,.slice Ao22 t587.length co22]] ?_
  with_reducible refine (Zf.calls kj39 4 t580 t581 (wrap64 (t582 + 1)) t583 _ _ t584 _ _ t587 t625 _ ?side1 ?side2 ?side3 ?side4 A71.out).mono ?_
  (case side1 => repeat (first | exact (Kd.R_reads' HO_592004.out).2.2 | (with_reducible refine Kd.C_alloc ?_ _) | (with_reducible refine Kd.C_drewN ?_ _) | (with_reducible refine Kd.C_drew ?_)))
  (case side2 => exact (Kd.R_reads' HO_592004.out).2.1)
  (case side3 => repeat (first | exact (Kd.S_reads' HO_592005.out).2.2 | (with_reducible refine Kd.C_alloc ?_ _) | (with_reducible refine Kd.C_drewN ?_ _) | (with_reducible refine Kd.C_drew ?_)))
  (case side4 => exact (Kd.S_reads' HO_592005.out).2.1)
  rintro e w100 ⟨rfl,hb⟩
  refine ⟨_,rfl,?_⟩
  replace HO620 := zrb HO620 hb
  replace HO_592004 := zrb HO_592004 hb
  replace HO623 := am_ (Kd.S_below (by (with_reducible repeat (first | apply Kd.S_alloc | apply Kd.S_drewN | apply Kd.S_drew));exact HO623.out) hb)
  replace HO_592005 := am_ (Kd.S_below (by (with_reducible repeat (first | apply Kd.S_alloc | apply Kd.S_drewN | apply Kd.S_drew));exact HO_592005.out) hb)
  replace HO_606001 := zrb HO_606001 hb
  replace HO_606002 := zrb HO_606002 hb
  replace HO_606003 := zrb HO_606003 hb
  replace BK575 := zb BK575 hb
  replace BK591 := zb BK591 hb
  replace BK605 := zb BK605 hb
  replace BK616 := zb BK616 hb
  replace BK617 := zb BK617 hb
  replace HB := zs_ HB hb
  try clear hb
  refine hK.out _ _ ⟨(blk_cell BK616.out 0).trans rfl,(blk_cell BK616.out 1).trans rfl,(blk_cell BK616.out 2).trans rfl,(blk_cell BK616.out 3).trans rfl,(blk_cell BK616.out 4).trans rfl,(blk_cell BK616.out 5).trans rfl,(blk_cell BK617.out 0).trans rfl,(blk_cell BK617.out 1).trans rfl,(blk_cell BK617.out 2).trans rfl,(blk_cell BK617.out 3).trans rfl,(blk_cell BK617.out 4).trans rfl,(blk_cell BK617.out 5).trans rfl⟩ (fun hHeld => ?_)
  clear hK K
  refine nm_ ?_
  refine pu_ 4 139 HT_ ?_
  refine pu_ 5 140 HT_ ?_
  refine tk_ 6 141 HT_ HW_ hHeld ?_
  refine zon 7 (N := some 142) HT_ (fun K hK => ?_)
  refine zgo Tryd.func7 #[.int .i64 4,.agg #[.string t580,.int .i64 t581,.int .i64 t582,.int .i64 t583,.slice Ao21 y618.length co21,.slice Ao22 y621.length co22]] ?_
  with_reducible refine (Zh.calls kj39 4 t580 t581 t582 t583 _ _ y618 _ _ y621 t626 _ ?side1 ?side2 ?side3 ?side4 ?side5 ?side6 A73.out).mono ?_
  (case side1 => repeat (first | exact (Kd.R_reads' HO620.out).2.2 | (with_reducible refine Kd.C_alloc ?_ _) | (with_reducible refine Kd.C_drewN ?_ _) | (with_reducible refine Kd.C_drew ?_)))
  (case side2 => exact (Kd.R_reads' HO620.out).2.1)
  (case side3 => repeat (first | exact (Kd.S_reads' HO623.out).2.2 | (with_reducible refine Kd.C_alloc ?_ _) | (with_reducible refine Kd.C_drewN ?_ _) | (with_reducible refine Kd.C_drew ?_)))
  (case side4 => exact (Kd.S_reads' HO623.out).2.1)
  (case side5 => exact HLD.out.on (zl_ HB))
  (case side6 => exact HTD.out.on (zl_ HB))
  rintro e w101 ⟨rfl,hb⟩
  refine ⟨_,rfl,?_⟩
  replace HO620 := zrb HO620 hb
  replace HO_592004 := zrb HO_592004 hb
  replace HO623 := am_ (Kd.S_below (by (with_reducible repeat (first | apply Kd.S_alloc | apply Kd.S_drewN | apply Kd.S_drew));exact HO623.out) hb)
  replace HO_592005 := am_ (Kd.S_below (by (with_reducible repeat (first | apply Kd.S_alloc | apply Kd.S_drewN | apply Kd.S_drew));exact HO_592005.out) hb)
  replace HO_606001 := zrb HO_606001 hb
  replace HO_606002 := zrb HO_606002 hb
  replace HO_606003 := zrb HO_606003 hb
  replace BK575 := zb BK575 hb
  replace BK591 := zb BK591 hb
  replace BK605 := zb BK605 hb
  replace BK616 := zb BK616 hb
  replace BK617 := zb BK617 hb
  replace HB := zs_ HB hb
  try clear hb
  refine hK.out _ _ ⟨(blk_cell BK616.out 0).trans rfl,(blk_cell BK616.out 1).trans rfl,(blk_cell BK616.out 2).trans rfl,(blk_cell BK616.out 3).trans rfl,(blk_cell BK616.out 4).trans rfl,(blk_cell BK616.out 5).trans rfl,(blk_cell BK617.out 0).trans rfl,(blk_cell BK617.out 1).trans rfl,(blk_cell BK617.out 2).trans rfl,(blk_cell BK617.out 3).trans rfl,(blk_cell BK617.out 4).trans rfl,(blk_cell BK617.out 5).trans rfl⟩ (fun hHeld => ?_)
  clear hK K
  refine nm_ ?_
  refine pu_ 8 143 HT_ ?_
  refine pu_ 9 144 HT_ ?_
  refine pu_ 10 4 HT_ ?_
  refine done_ (done_of HT_.out (by kernel_rfl)) ?_
  try go_wp2
  go_ret
  exact ⟨zt_,zl_ HB⟩
set_option maxHeartbeats 64000000 in
set_option maxRecDepth 100000 in
theorem Zc.part1 (k : Nat) (A0 : Option Addr) (c0 : Nat) (l0 : List Int) (A1 : Option Addr) (c1 : Nat) (l1 : List Int) (r : Bool) (w : World) (hu24 : Tryd.prog.underlying 24 = some (TypeDesc.struct #[{ name := "Name",type := 9,offset := 0,embedded := false,tag := "",pkgPath := "",byteOffset := 0 },{ name := "Holder",type := 3,offset := 1,embedded := false,tag := "",pkgPath := "",byteOffset := 16 },{ name := "Token",type := 3,offset := 2,embedded := false,tag := "",pkgPath := "",byteOffset := 24 },{ name := "Expiry",type := 3,offset := 3,embedded := false,tag := "",pkgPath := "",byteOffset := 32 }])) (hu31 : Tryd.prog.underlying 31 = some (TypeDesc.struct #[{ name := "Grant",type := 24,offset := 0,embedded := false,tag := "",pkgPath := "",byteOffset := 0 },{ name := "Nodes",type := 26,offset := 4,embedded := false,tag := "",pkgPath := "",byteOffset := 40 },{ name := "Signatures",type := 29,offset := 5,embedded := false,tag := "",pkgPath := "",byteOffset := 64 }])) (hu37 : Tryd.prog.underlying 37 = some (TypeDesc.struct #[{ name := "Index",type := 3,offset := 0,embedded := false,tag := "",pkgPath := "",byteOffset := 0 },{ name := "Ones",type := 35,offset := 1,embedded := false,tag := "",pkgPath := "",byteOffset := 8 },{ name := "Rest",type := 35,offset := 2,embedded := false,tag := "",pkgPath := "",byteOffset := 32 },{ name := "Path",type := 35,offset := 3,embedded := false,tag := "",pkgPath := "",byteOffset := 56 }])) (HLD : Aside0 (Laid w)) (HTD : Aside0 (LaidT w)) (kj2 : Nat) (HJ2 : Aside0 (kj2 + 1 ≤ k)) (t571 : ByteArray) (t572 t573 t574 : Int) (t576 : List Int) (t579 : Int) (t580 : ByteArray) (t581 t582 t583 : Int) (t584 : List Int) (t587 : List S37) (t590 : Int) (gb575 : Nat) (Ao16 : Option Addr) (co16 : Nat) (gb591 : Nat) (NB575_591 : Aside0 (gb575 ≠ gb591)) (NB591_575 : Aside0 (gb591 ≠ gb575)) (hnb19 : gb591 ≠ gb575) (hnc19 : gb575 ≠ gb591) (Ao21 : Option Addr) (co21 : Nat) (Ao22 : Option Addr) (co22 : Nat) (wc : World) (u20 u21 u22 u23 u24 u25 u26 u27 u28 u29 u30 u31 u32 u33 u34 u35 u36 u37 u38 u39 u40 u41 u42 u43 u44 u45 u46 u47 u48 u49 u50 u51 u52 u53 u54 u55 u56 u57 u58 u59 u60 u61 u62 u63 u64 u65 u67 u68 u69 u70 u71 u72 u73 u74 u75 u76 u77 u78 u79 u80 u81 u82 u83 u84 u85 u86 u87 u88 u89 u90 u91 u92 u93 u94 u95 u96 u97 u98 u99 u100 u101 u102 u103 u104 u105 u106 u107 u108 u109 u110 u111 u112 u113 u114 u115 u116 u117 u118 u119 u120 u121 u122 u123 u124 u125 u126 u127 u128 u129 u130 u131 u132 u133 u134 u135 u136 u137 u138 u139 u140 u141 u142 u143 u144 : Value) (kq : Nat) (x66_9 : Bool) (HA : Aside0 (j1 kq t576 t579 x66_9 t571 t572 t573 t574 t580 t581 t582 t583 t584 t587 = some r)) (HJ9 : Aside0 (kq ≤ kj2)) (HO_6 : Aside0 ((Kd.int IntKind.i64).R 3 wc w.heap.size (fun (k_ : Nat) => some k_ ≠ (Value.slice Ao21 t584.length co21).ownBlock) (Value.slice Ao16 t576.length co16) t576)) (HO_592004 : Aside0 ((Kd.int IntKind.i64).R 3 wc w.heap.size (fun (k_ : Nat) => some k_ ≠ (Value.slice Ao16 t576.length co16).ownBlock) (Value.slice Ao21 t584.length co21) t584)) (HO_592005 : Aside0 (k37.S 37 wc w.heap.size (fun (x : Nat) => True) (Value.slice Ao22 t587.length co22) t587)) (BK575 : Aside0 (wc.heap[gb575]? = some (Obj.cells #[Value.string t571,Value.int IntKind.i64 t572,Value.int IntKind.i64 t573,Value.int IntKind.i64 t574] 24))) (BK591 : Aside0 (wc.heap[gb591]? = some (Obj.cells #[Value.string t580,Value.int IntKind.i64 t581,Value.int IntKind.i64 t582,Value.int IntKind.i64 t583,Value.slice Ao21 t584.length co21,Value.slice Ao22 t587.length co22] 31))) (HB : Aside0 (Below w.heap.size w wc)) :
  let Q_ : Exit → Act → World → Prop := bodyPost Tryd.prog Tryd.f3 fun (e : Ending) (w' : World) => e = Ending.returned (Value.bool r) ∧ Below w.heap.size w w'
  ∀ (K1_ : Act → World → Prop) (a1_ : ∀ (a : Act) (w : World),Code.wp Tryd.prog (codeAt_ [true,true,true,true,true,true,true] (Tryd.f3.body.getD .skip)) Q_ a w → K1_ a w) (K0_ : Act → World → Prop) (a0_ : ∀ (a : Act) (w : World),Code.wp Tryd.prog (codeAt_ [true,true,true,true,true,true,false,true] (Tryd.f3.body.getD .skip)) (Exit.then K1_ Q_) a w → K0_ a w),K0_ { tmps := #[Value.slice A0 l0.length c0,Value.slice A1 l1.length c1,undef,undef,Value.bool false,Value.pointer (some { block := gb575,off := 0 }),Value.slice Ao16 t576.length co16,Value.int IntKind.i64 t579,Value.pointer (some { block := gb591,off := 0 }),Value.int IntKind.i64 t590,undef,undef,undef,undef,undef,undef,undef,undef,undef,undef,u20,u21,u22,u23,u24,u25,u26,u27,u28,u29,u30,u31,u32,u33,u34,u35,u36,u37,u38,u39,u40,u41,u42,u43,u44,u45,u46,u47,u48,u49,u50,u51,u52,u53,u54,u55,u56,u57,u58,u59,u60,u61,u62,u63,u64,u65,Value.bool x66_9,u67,u68,u69,u70,u71,u72,u73,u74,u75,u76,u77,u78,u79,u80,u81,u82,u83,u84,u85,u86,u87,u88,u89,u90,u91,u92,u93,u94,u95,u96,u97,u98,u99,u100,u101,u102,u103,u104,u105,u106,u107,u108,u109,u110,u111,u112,u113,u114,u115,u116,u117,u118,u119,u120,u121,u122,u123,u124,u125,u126,u127,u128,u129,u130,u131,u132,u133,u134,u135,u136,u137,u138,u139,u140,u141,u142,u143,u144],defers := [] } wc := by
 intro Q_ K1_ a1_ K0_ a0_
 dsimp only [codeAt_,Option.getD,Tryd.f3] at a0_ a1_
 cases kq with
 | zero => exact absurd HA.out (by simp [Zc.j1])
 | succ kj9 =>
  have H := HA.out
  clear HA
  simp only [Zc.j1] at H
  by_cases c34 : x66_9 = true
  ·subst c34
   rw [if_pos rfl] at H
   obtain rfl := Option.some.inj H
   go_wp2
   go_ret
   exact ⟨zt_,zl_ HB⟩
  replace c34 := Bool.eq_false_iff.mpr c34
  subst c34
  rw [if_neg (show ¬ (false = true) by decide)] at H
  by_cases c35 : 1 < (t576.length : Int)
  case neg =>
   rw [if_neg c35] at H
   exact absurd H (by simp)
  rw [if_pos c35] at H
  have c35b0 := decide_eq_true c35
  have c35b1 : decide (1 < t576.length) = true := decide_eq_true (by omega)
  clear c35
  replace H := Option.bind_eq_some_iff.mp H
  obtain ⟨⟨t594,t595,t598,t601,t604⟩,A360,H⟩ := H
  try dsimp only at H
  have A36 := am_ A360
  clear A360
  replace H := Option.bind_eq_some_iff.mp H
  obtain ⟨⟨t607,t608⟩,A370,H⟩ := H
  try dsimp only at H
  have A37 := am_ A370
  clear A370
  replace H := Option.bind_eq_some_iff.mp H
  obtain ⟨⟨t610,t611⟩,A380,H⟩ := H
  try dsimp only at H
  have A38 := am_ A380
  clear A380
  replace H := Option.bind_eq_some_iff.mp H
  obtain ⟨⟨t612,t613⟩,A390,H⟩ := H
  try dsimp only at H
  have A39 := am_ A390
  clear A390
  have HC40 := am_ H
  clear H
  try go_wp2
  replace HO_6 := am_ (Kd.R_drew HO_6.out)
  replace HO_592004 := am_ (Kd.R_drew HO_592004.out)
  replace HO_592005 := am_ (Kd.S_drew HO_592005.out)
  replace BK575 := am_ (blk_drew BK575.out)
  replace BK591 := am_ (blk_drew BK591.out)
  replace HB := am_ (below_drew1 HB.out)
  have p593 : 0 ≤ (1 : Int) := (by omega)
  have q593 : 1 < (t576.length : Int) := zo_
  obtain ⟨ad593,e593,hx593_0⟩ := Kd.at_int (Kd.R_reads' HO_6.out).2.2 1 p593 q593
  cases e593
  (try simp only [show (1 : Int).toNat = 1 from rfl,Nat.reduceMul,Nat.reduceEqDiff,Go.Addr.add,↓reduceIte] at hx593_0)
  have qi593 : (1 < t576.length) = True := eq_true (by omega)
  (try rw [show ((1 : Int)).toNat = 1 from rfl] at hx593_0)
  replace p593 := eq_true p593
  replace q593 := eq_true q593
  refine start_ (n := 12) (S := fun w' => w'.cell? ⟨gb575,0,none⟩ = some (.string t571) ∧ w'.cell? ⟨gb575,1,none⟩ = some (.int .i64 t572) ∧ w'.cell? ⟨gb575,2,none⟩ = some (.int .i64 t573) ∧ w'.cell? ⟨gb575,3,none⟩ = some (.int .i64 t574) ∧ w'.cell? ⟨ad593.block,ad593.off + 1,none⟩ = some (.int .i64 (rd t576 1))) (ds := []) #[false,false,false,false,false,false,false,false,false,false,false,false] (by kernel_rfl) rfl rfl ⟨(blk_cell BK575.out 0).trans rfl,(blk_cell BK575.out 1).trans rfl,(blk_cell BK575.out 2).trans rfl,(blk_cell BK575.out 3).trans rfl,hx593_0⟩ (fun hHeld => ?_);refine with_tabW Zc.tab9 Zc.bits9 (fun HT_ HW_ => ?_)
  generalize wc.drew = w41 at HO_6 HO_592004 HO_592005 BK575 BK591 HB hx593_0 hHeld ⊢
  refine pu_ 0 68 HT_ ?_
  refine pu_ 1 69 HT_ ?_
  refine pu_ 3 71 HT_ ?_
  refine tk_ 2 70 HT_ HW_ hHeld ?_
  refine tk_ 4 72 HT_ HW_ hHeld ?_
  refine join_ (σ := Value × Value × Value × Nat) 2 #[true,true,true,true,true,true,true,true,true,true,false,false] (fun s_ => [(73,.tuple #[.agg #[.int .i64 t594,s_.1,s_.2.1,s_.2.2.1],.int .i64 t604]),(10,.pointer (some ⟨s_.2.2.2,0,none⟩)),(67,.tuple #[.agg #[.int .i64 t594,s_.1,s_.2.1,s_.2.2.1],.int .i64 t604]),(74,.agg #[.int .i64 t594,s_.1,s_.2.1,s_.2.2.1]),(75,.int .i64 t604)]) (fun s_ w' => (w'.cell? ⟨gb575,0,none⟩ = some (.string t571) ∧ w'.cell? ⟨gb575,1,none⟩ = some (.int .i64 t572) ∧ w'.cell? ⟨gb575,2,none⟩ = some (.int .i64 t573) ∧ w'.cell? ⟨gb575,3,none⟩ = some (.int .i64 t574) ∧ w'.cell? ⟨ad593.block,ad593.off + 1,none⟩ = some (.int .i64 (rd t576 1))) ∧ (Kd.R Kd.string 9 w' w.heap.size (fun k_ => some k_ ≠ (s_.2.1 : Value).ownBlock ∧ some k_ ≠ (s_.2.2.1 : Value).ownBlock) s_.1 t595) ∧ (Kd.R Kd.string 9 w' w.heap.size (fun k_ => some k_ ≠ (s_.1 : Value).ownBlock ∧ some k_ ≠ (s_.2.2.1 : Value).ownBlock) s_.2.1 t598) ∧ (Kd.R Kd.string 9 w' w.heap.size (fun k_ => some k_ ≠ (s_.1 : Value).ownBlock ∧ some k_ ≠ (s_.2.1 : Value).ownBlock) s_.2.2.1 t601) ∧ (Kd.R (Kd.int .i64) 3 w' w.heap.size (fun k_ => some k_ ≠ (.slice (some ad593) t576.length co16 : Value).ownBlock) (.slice Ao21 t584.length co21) t584) ∧ (Kd.S k37 37 w' w.heap.size (fun k_ => some k_ ≠ (s_.1 : Value).ownBlock ∧ some k_ ≠ (s_.2.1 : Value).ownBlock ∧ some k_ ≠ (s_.2.2.1 : Value).ownBlock ∧ k_ ≠ s_.2.2.2) (.slice Ao22 t587.length co22) t587) ∧ (Kd.R (Kd.int .i64) 3 w' w.heap.size (fun k_ => some k_ ≠ (.slice Ao21 t584.length co21 : Value).ownBlock) (.slice (some ad593) t576.length co16) t576) ∧ (w'.heap[gb575]? = some (.cells #[.string t571,.int .i64 t572,.int .i64 t573,.int .i64 t574] 24 (0,0))) ∧ (w'.heap[gb591]? = some (.cells #[.string t580,.int .i64 t581,.int .i64 t582,.int .i64 t583,.slice Ao21 t584.length co21,.slice Ao22 t587.length co22] 31 (0,0))) ∧ (w'.heap[s_.2.2.2]? = some (.cells #[.int .i64 0,.slice none 0 0,.slice none 0 0,.slice none 0 0] 37 (0,0))) ∧ (w.heap.size ≤ s_.2.2.2) ∧ (w.heap.size ≤ s_.2.2.2) ∧ (gb575 ≠ s_.2.2.2) ∧ (s_.2.2.2 ≠ gb575) ∧ (gb591 ≠ s_.2.2.2) ∧ (s_.2.2.2 ≠ gb591) ∧ (Below w.heap.size w w')) ?_ ?_
  rotate_left
  ·intro hCont
   refine two_ (i := 5) (j := 9) (Ni := some 73) (Nj := some 10) #[true,true,true,true,true,true,false,false,false,false,false,false] #[true,true,true,true,true,false,false,false,false,true,false,false] rfl rfl rfl rfl (two_of HT_.out (by kernel_rfl)) (by decide) (by decide) (fun K hK => ?_) (fun K hK => ?_)
   ·skip
    refine zgo Tryd.func8 #[.int .i64 (rd t576 1),.int .i64 t579,.agg #[.string t571,.int .i64 t572,.int .i64 t573,.int .i64 t574]] ?_
    with_reducible refine (Zt.calls kj9 (rd t576 1) t579 t571 t572 t573 t574 t594 t595 t598 t601 t604 _ ?side1 ?side2 A36.out).mono ?_
    (case side1 => exact HLD.out.on (zl_ HB))
    (case side2 => exact HTD.out.on (zl_ HB))
    rintro e w42 ⟨v596,v599,v602,rfl,ho0,ho1,ho2,hb⟩
    have HS4_ := (hb.cell (World.block_lt_of_cell? _ _ (hHeld.2.2.2.2))).trans (hHeld.2.2.2.2)
    refine ⟨_,rfl,?_⟩
    replace HO_6 := zrb HO_6 hb
    replace HO_592004 := zrb HO_592004 hb
    replace HO_592005 := am_ (Kd.S_mono (Kd.S_told (Kd.S_told (Kd.S_told (Kd.S_old (by (with_reducible repeat (first | apply Kd.S_alloc | apply Kd.S_drewN | apply Kd.S_drew));exact HO_592005.out) hb) (Kd.R_base ho0)) (Kd.R_base ho1)) (Kd.R_base ho2)) (fun _ h_ => h_.1))
    have HO597 := am_ (Kd.R_lower ho0 (below_size (zl_ HB)))
    have HO600 := am_ (Kd.R_lower ho1 (below_size (zl_ HB)))
    have HO603 := am_ (Kd.R_lower ho2 (below_size (zl_ HB)))
    replace BK575 := zb BK575 hb
    replace BK591 := zb BK591 hb
    replace HB := zs_ HB hb
    try clear hb
    (try clear ho0)
    (try clear ho1)
    (try clear ho2)
    refine hK.out _ _ ⟨(blk_cell BK575.out 0).trans rfl,(blk_cell BK575.out 1).trans rfl,(blk_cell BK575.out 2).trans rfl,(blk_cell BK575.out 3).trans rfl,HS4_⟩ (fun hHeld => ?_)
    clear hK K
    refine nm_ ?_
    refine pu_ 6 67 HT_ ?_
    refine pu_ 7 74 HT_ ?_
    refine pu_ 8 75 HT_ ?_
    refine zon 9 (N := some 10) HT_ (fun K hK => ?_)
    refine box_step ?hg (N := 10) ?hd (cs := #[.int .i64 0,.slice none 0 0,.slice none 0 0,.slice none 0 0]) (t := 37) ?hr ?_;(case hd => rfl);(case hg => rfl);(case hr => first | (go_simp;done) | (go_simp;rfl))
    intro gb605 hg w43 hbox hb
    have HS4_ := (hb.cell (World.block_lt_of_cell? _ _ (hHeld.2.2.2.2))).trans (hHeld.2.2.2.2)
    replace HO_6 := zrb HO_6 hb
    replace HO_592004 := zrb HO_592004 hb
    replace HO_592005 := am_ (Kd.S_below (Kd.S_elderB (by (with_reducible repeat (first | apply Kd.S_alloc | apply Kd.S_drewN | apply Kd.S_drew));exact HO_592005.out) gb605 (Nat.le_of_eq hg.symm)) hb)
    replace HO597 := zrb HO597 hb
    replace HO600 := zrb HO600 hb
    replace HO603 := zrb HO603 hb
    have BK605 := am_ (hbox)
    have GW605 := zw_ HB hg
    have GE605 := zw_ HB hg
    replace HB := zs_ HB hb
    have NB575_605 := zl hg BK575
    have NB605_575 := zg hg BK575
    replace BK575 := zb BK575 hb
    have NB591_605 := zl hg BK591
    have NB605_591 := zg hg BK591
    replace BK591 := zb BK591 hb
    clear hb hbox hg
    refine hK.out _ _ ⟨(blk_cell BK575.out 0).trans rfl,(blk_cell BK575.out 1).trans rfl,(blk_cell BK575.out 2).trans rfl,(blk_cell BK575.out 3).trans rfl,HS4_⟩ (fun hHeld => ?_)
    clear hK K
    refine nm_ ?_
    exact norm_ (by simp only [putAll,Act.put,p1_,p2_,p3_]) (hCont (v596,v599,v602,gb605) _ ⟨hHeld,(zr HO597),(zr HO600),(zr HO603),(zr HO_592004),(by (with_reducible repeat (first | apply Kd.S_alloc | apply Kd.S_drewN | apply Kd.S_drew));exact Kd.S_mono HO_592005.out (fun _ hk => ⟨hk.1.1.1.2,⟨hk.1.1.2,⟨hk.1.2,hk.2⟩⟩⟩)),(zr HO_6),(zk BK575),(zk BK591),(zk BK605),GW605.out,GE605.out,NB575_605.out,NB605_575.out,NB591_605.out,NB605_591.out,(zl_ HB)⟩)
   ·skip
    refine box_step ?hg (N := 10) ?hd (cs := #[.int .i64 0,.slice none 0 0,.slice none 0 0,.slice none 0 0]) (t := 37) ?hr ?_;(case hd => rfl);(case hg => rfl);(case hr => first | (go_simp;done) | (go_simp;rfl))
    intro gb605 hg w42 hbox hb
    have HS4_ := (hb.cell (World.block_lt_of_cell? _ _ (hHeld.2.2.2.2))).trans (hHeld.2.2.2.2)
    replace HO_6 := zrb HO_6 hb
    replace HO_592004 := zrb HO_592004 hb
    replace HO_592005 := am_ (Kd.S_below (Kd.S_elderB (by (with_reducible repeat (first | apply Kd.S_alloc | apply Kd.S_drewN | apply Kd.S_drew));exact HO_592005.out) gb605 (Nat.le_of_eq hg.symm)) hb)
    have BK605 := am_ (hbox)
    have GW605 := zw_ HB hg
    have GE605 := zw_ HB hg
    replace HB := zs_ HB hb
    have NB575_605 := zl hg BK575
    have NB605_575 := zg hg BK575
    replace BK575 := zb BK575 hb
    have NB591_605 := zl hg BK591
    have NB605_591 := zg hg BK591
    replace BK591 := zb BK591 hb
    clear hb hbox hg
    refine hK.out _ _ ⟨(blk_cell BK575.out 0).trans rfl,(blk_cell BK575.out 1).trans rfl,(blk_cell BK575.out 2).trans rfl,(blk_cell BK575.out 3).trans rfl,HS4_⟩ (fun hHeld => ?_)
    clear hK K
    refine nm_ ?_
    refine zon 5 (N := some 73) HT_ (fun K hK => ?_)
    refine zgo Tryd.func8 #[.int .i64 (rd t576 1),.int .i64 t579,.agg #[.string t571,.int .i64 t572,.int .i64 t573,.int .i64 t574]] ?_
    with_reducible refine (Zt.calls kj9 (rd t576 1) t579 t571 t572 t573 t574 t594 t595 t598 t601 t604 _ ?side1 ?side2 A36.out).mono ?_
    (case side1 => exact HLD.out.on (zl_ HB))
    (case side2 => exact HTD.out.on (zl_ HB))
    rintro e w43 ⟨v596,v599,v602,rfl,ho0,ho1,ho2,hb⟩
    have HS4_ := (hb.cell (World.block_lt_of_cell? _ _ (hHeld.2.2.2.2))).trans (hHeld.2.2.2.2)
    refine ⟨_,rfl,?_⟩
    replace HO_6 := zrb HO_6 hb
    replace HO_592004 := zrb HO_592004 hb
    replace HO_592005 := am_ (Kd.S_mono (Kd.S_told (Kd.S_told (Kd.S_told (Kd.S_old (by (with_reducible repeat (first | apply Kd.S_alloc | apply Kd.S_drewN | apply Kd.S_drew));exact HO_592005.out) hb) (Kd.R_base ho0)) (Kd.R_base ho1)) (Kd.R_base ho2)) (fun _ h_ => h_.1))
    have HO597 := am_ (Kd.R_lower ho0 (below_size (zl_ HB)))
    have HO600 := am_ (Kd.R_lower ho1 (below_size (zl_ HB)))
    have HO603 := am_ (Kd.R_lower ho2 (below_size (zl_ HB)))
    replace BK575 := zb BK575 hb
    replace BK591 := zb BK591 hb
    replace BK605 := zb BK605 hb
    replace HB := zs_ HB hb
    try clear hb
    (try clear ho0)
    (try clear ho1)
    (try clear ho2)
    refine hK.out _ _ ⟨(blk_cell BK575.out 0).trans rfl,(blk_cell BK575.out 1).trans rfl,(blk_cell BK575.out 2).trans rfl,(blk_cell BK575.out 3).trans rfl,HS4_⟩ (fun hHeld => ?_)
    clear hK K
    refine nm_ ?_
    refine pu_ 6 67 HT_ ?_
    refine pu_ 7 74 HT_ ?_
    refine pu_ 8 75 HT_ ?_
    exact norm_ (by simp only [putAll,Act.put,p1_,p2_,p3_]) (hCont (v596,v599,v602,gb605) _ ⟨hHeld,(zr HO597),(zr HO600),(zr HO603),(zr HO_592004),(by (with_reducible repeat (first | apply Kd.S_alloc | apply Kd.S_drewN | apply Kd.S_drew));exact Kd.S_mono HO_592005.out (fun _ hk => ⟨hk.1.1.2,⟨hk.1.2,⟨hk.2,hk.1.1.1.2⟩⟩⟩)),(zr HO_6),(zk BK575),(zk BK591),(zk BK605),GW605.out,GE605.out,NB575_605.out,NB605_575.out,NB591_605.out,NB605_591.out,(zl_ HB)⟩)
  rintro ⟨v596,v599,v602,gb605⟩ w44 ⟨hS_,h0_,h1_,h2_,h3_,h4_,h5_,h6_,h7_,h8_,h9_,h10_,h11_,h12_,h13_,h14_,h15_⟩
  have n0_ : Aside0 (Kd.R Kd.string 9 w44 w.heap.size (fun k_ => some k_ ≠ (v599 : Value).ownBlock ∧ some k_ ≠ (v602 : Value).ownBlock) v596 t595) := ⟨h0_⟩
  have n1_ : Aside0 (Kd.R Kd.string 9 w44 w.heap.size (fun k_ => some k_ ≠ (v596 : Value).ownBlock ∧ some k_ ≠ (v602 : Value).ownBlock) v599 t598) := ⟨h1_⟩
  have n2_ : Aside0 (Kd.R Kd.string 9 w44 w.heap.size (fun k_ => some k_ ≠ (v596 : Value).ownBlock ∧ some k_ ≠ (v599 : Value).ownBlock) v602 t601) := ⟨h2_⟩
  have n3_ : Aside0 (Kd.R (Kd.int .i64) 3 w44 w.heap.size (fun k_ => some k_ ≠ (.slice (some ad593) t576.length co16 : Value).ownBlock) (.slice Ao21 t584.length co21) t584) := ⟨h3_⟩
  have n4_ : Aside0 (Kd.S k37 37 w44 w.heap.size (fun k_ => some k_ ≠ (v596 : Value).ownBlock ∧ some k_ ≠ (v599 : Value).ownBlock ∧ some k_ ≠ (v602 : Value).ownBlock ∧ k_ ≠ gb605) (.slice Ao22 t587.length co22) t587) := ⟨h4_⟩
  have n5_ : Aside0 (Kd.R (Kd.int .i64) 3 w44 w.heap.size (fun k_ => some k_ ≠ (.slice Ao21 t584.length co21 : Value).ownBlock) (.slice (some ad593) t576.length co16) t576) := ⟨h5_⟩
  have n6_ : Aside0 (w44.heap[gb575]? = some (.cells #[.string t571,.int .i64 t572,.int .i64 t573,.int .i64 t574] 24 (0,0))) := ⟨h6_⟩
  have n7_ : Aside0 (w44.heap[gb591]? = some (.cells #[.string t580,.int .i64 t581,.int .i64 t582,.int .i64 t583,.slice Ao21 t584.length co21,.slice Ao22 t587.length co22] 31 (0,0))) := ⟨h7_⟩
  have n8_ : Aside0 (w44.heap[gb605]? = some (.cells #[.int .i64 0,.slice none 0 0,.slice none 0 0,.slice none 0 0] 37 (0,0))) := ⟨h8_⟩
  have n9_ : Aside0 (w.heap.size ≤ gb605) := ⟨h9_⟩
  have n10_ : Aside0 (w.heap.size ≤ gb605) := ⟨h10_⟩
  have n11_ : Aside0 (gb575 ≠ gb605) := ⟨h11_⟩
  have n12_ : Aside0 (gb605 ≠ gb575) := ⟨h12_⟩
  have n13_ : Aside0 (gb591 ≠ gb605) := ⟨h13_⟩
  have n14_ : Aside0 (gb605 ≠ gb591) := ⟨h14_⟩
  have n15_ : Aside0 (Below w.heap.size w w44) := ⟨h15_⟩
  clear HO_6
  clear HO_592004
  clear HO_592005
  clear BK575
  clear BK591
  clear HB
  clear h0_ h1_ h2_ h3_ h4_ h5_ h6_ h7_ h8_ h9_ h10_ h11_ h12_ h13_ h14_ h15_
  have HO597 := n0_
  have HO600 := n1_
  have HO603 := n2_
  have HO_592004 := n3_
  have HO_592005 := n4_
  have HO_6 := n5_
  have BK575 := n6_
  have BK591 := n7_
  have BK605 := n8_
  have GW605 := n9_
  have GE605 := n10_
  have NB575_605 := n11_
  have NB605_575 := n12_
  have NB591_605 := n13_
  have NB605_591 := n14_
  have HB := n15_
  clear n0_ n1_ n2_ n3_ n4_ n5_ n6_ n7_ n8_ n9_ n10_ n11_ n12_ n13_ n14_ n15_
  have hHeld : w44.cell? ⟨gb575,0,none⟩ = some (.string t571) ∧ w44.cell? ⟨gb575,1,none⟩ = some (.int .i64 t572) ∧ w44.cell? ⟨gb575,2,none⟩ = some (.int .i64 t573) ∧ w44.cell? ⟨gb575,3,none⟩ = some (.int .i64 t574) ∧ w44.cell? ⟨ad593.block,ad593.off + 1,none⟩ = some (.int .i64 (rd t576 1)) := hS_
  obtain ⟨Ao46,co46,eo46⟩ := Kd.R_slice HO597.out
  (first | subst eo46 | (injection eo46 with f1_ f2_ f3_;have f4_ := f1_.symm;have f5_ := f3_.symm;clear f1_ f2_ f3_;subst f4_;subst f5_))
  obtain ⟨Ao48,co48,eo48⟩ := Kd.R_slice HO600.out
  (first | subst eo48 | (injection eo48 with f1_ f2_ f3_;have f4_ := f1_.symm;have f5_ := f3_.symm;clear f1_ f2_ f3_;subst f4_;subst f5_))
  obtain ⟨Ao50,co50,eo50⟩ := Kd.R_slice HO603.out
  (first | subst eo50 | (injection eo50 with f1_ f2_ f3_;have f4_ := f1_.symm;have f5_ := f3_.symm;clear f1_ f2_ f3_;subst f4_;subst f5_))
  refine norm_ (a' := ?_) ?_ ?_
  rotate_left
  ·simp only [putAll,Act.put,p1_,p2_,p3_]
   rfl
  refine zon 10 (N := none) HT_ (fun K hK => ?_)
  have hs45 : w44.cell? ⟨gb605,0,none⟩ = some (.int .i64 0) := (blk_cell BK605.out 0).trans rfl
  have hfs45 := blk_frozen BK605.out 0
  have hns45_0 := NB575_605.out
  have hns45_1 := NB591_605.out
  have hms45_0 := NB605_575.out
  have hms45_1 := NB605_591.out
  have hs47 : w44.cell? ⟨gb605,1,none⟩ = some (.slice none 0 0) := (blk_cell BK605.out 1).trans rfl
  have hfs47 := blk_frozen BK605.out 1
  have hns47_0 := NB575_605.out
  have hns47_1 := NB591_605.out
  have hms47_0 := NB605_575.out
  have hms47_1 := NB605_591.out
  have hs49 : w44.cell? ⟨gb605,2,none⟩ = some (.slice none 0 0) := (blk_cell BK605.out 2).trans rfl
  have hfs49 := blk_frozen BK605.out 2
  have hns49_0 := NB575_605.out
  have hns49_1 := NB591_605.out
  have hms49_0 := NB605_575.out
  have hms49_1 := NB605_591.out
  have hs51 : w44.cell? ⟨gb605,3,none⟩ = some (.slice none 0 0) := (blk_cell BK605.out 3).trans rfl
  have hfs51 := blk_frozen BK605.out 3
  have hns51_0 := NB575_605.out
  have hns51_1 := NB591_605.out
  have hms51_0 := NB605_575.out
  have hms51_1 := NB605_591.out
  refine skip_ (w1 := ?_) (by rfl) rfl ?_ ?_
  rotate_left
  ·go_simp
   rfl
  refine hK.out _ _ ⟨((cell_far (p := ⟨gb605,_,none⟩) NB575_605.out _).trans (((cell_far (p := ⟨gb605,_,none⟩) NB575_605.out _).trans (((cell_far (p := ⟨gb605,_,none⟩) NB575_605.out _).trans (((cell_far (p := ⟨gb605,_,none⟩) NB575_605.out _).trans (hHeld.1)))))))),((cell_far (p := ⟨gb605,_,none⟩) NB575_605.out _).trans (((cell_far (p := ⟨gb605,_,none⟩) NB575_605.out _).trans (((cell_far (p := ⟨gb605,_,none⟩) NB575_605.out _).trans (((cell_far (p := ⟨gb605,_,none⟩) NB575_605.out _).trans (hHeld.2.1)))))))),((cell_far (p := ⟨gb605,_,none⟩) NB575_605.out _).trans (((cell_far (p := ⟨gb605,_,none⟩) NB575_605.out _).trans (((cell_far (p := ⟨gb605,_,none⟩) NB575_605.out _).trans (((cell_far (p := ⟨gb605,_,none⟩) NB575_605.out _).trans (hHeld.2.2.1)))))))),((cell_far (p := ⟨gb605,_,none⟩) NB575_605.out _).trans (((cell_far (p := ⟨gb605,_,none⟩) NB575_605.out _).trans (((cell_far (p := ⟨gb605,_,none⟩) NB575_605.out _).trans (((cell_far (p := ⟨gb605,_,none⟩) NB575_605.out _).trans (hHeld.2.2.2.1)))))))),((cell_far (p := ⟨gb605,_,none⟩) (by first | exact Kd.own_blk (Kd.R_ne HO_6.out BK605.out (by decide)) | (rw [add_block];exact Kd.own_blk (Kd.R_ne HO_6.out BK605.out (by decide))) | (show (Addr.add _ _).block ≠ _;rw [add_block];exact Kd.own_blk (Kd.R_ne HO_6.out BK605.out (by decide))) | (dsimp only;exact Kd.own_blk (Kd.R_ne HO_6.out BK605.out (by decide)))) _).trans (((cell_far (p := ⟨gb605,_,none⟩) (by first | exact Kd.own_blk (Kd.R_ne HO_6.out BK605.out (by decide)) | (rw [add_block];exact Kd.own_blk (Kd.R_ne HO_6.out BK605.out (by decide))) | (show (Addr.add _ _).block ≠ _;rw [add_block];exact Kd.own_blk (Kd.R_ne HO_6.out BK605.out (by decide))) | (dsimp only;exact Kd.own_blk (Kd.R_ne HO_6.out BK605.out (by decide)))) _).trans (((cell_far (p := ⟨gb605,_,none⟩) (by first | exact Kd.own_blk (Kd.R_ne HO_6.out BK605.out (by decide)) | (rw [add_block];exact Kd.own_blk (Kd.R_ne HO_6.out BK605.out (by decide))) | (show (Addr.add _ _).block ≠ _;rw [add_block];exact Kd.own_blk (Kd.R_ne HO_6.out BK605.out (by decide))) | (dsimp only;exact Kd.own_blk (Kd.R_ne HO_6.out BK605.out (by decide)))) _).trans (((cell_far (p := ⟨gb605,_,none⟩) (by first | exact Kd.own_blk (Kd.R_ne HO_6.out BK605.out (by decide)) | (rw [add_block];exact Kd.own_blk (Kd.R_ne HO_6.out BK605.out (by decide))) | (show (Addr.add _ _).block ≠ _;rw [add_block];exact Kd.own_blk (Kd.R_ne HO_6.out BK605.out (by decide))) | (dsimp only;exact Kd.own_blk (Kd.R_ne HO_6.out BK605.out (by decide)))) _).trans (hHeld.2.2.2.2))))))))⟩ (fun hHeld => ?_)
  clear hK K
  refine pu_ 11 11 HT_ ?_
  refine done_ (done_of HT_.out (by kernel_rfl)) ?_
  have p606 : 0 ≤ (1 : Int) := (by omega)
  have q606 : 1 < (t576.length : Int) := zo_
  obtain ⟨ad606,e606,hx606_0⟩ := Kd.at_int (Kd.R_reads' HO_6.out).2.2 1 p606 q606
  obtain rfl : ad593 = ad606 := (by injection e606)
  (try simp only [show (1 : Int).toNat = 1 from rfl,Nat.reduceMul,Nat.reduceEqDiff,Go.Addr.add,↓reduceIte] at hx606_0)
  have qi606 : (1 < t576.length) = True := eq_true (by omega)
  (try rw [show ((1 : Int)).toNat = 1 from rfl] at hx606_0)
  have hn606_0 : ad593.block ≠ gb605 := Kd.own_blk (Kd.R_ne HO_6.out BK605.out (by decide))
  have hn606_1 : ad593.block ≠ gb605 := Kd.own_blk (Kd.R_ne HO_6.out BK605.out (by decide))
  have hn606_2 : ad593.block ≠ gb605 := Kd.own_blk (Kd.R_ne HO_6.out BK605.out (by decide))
  have hn606_3 : ad593.block ≠ gb605 := Kd.own_blk (Kd.R_ne HO_6.out BK605.out (by decide))
  replace hx606_0 := (cell_far (p := ⟨gb605,0,none⟩) (by first | (rw [add_block];exact hn606_0) | (show (Addr.add _ _).block ≠ _;rw [add_block];exact hn606_0) | exact hn606_0) (.int .i64 t594)).trans hx606_0
  replace hx606_0 := (cell_far (p := ⟨gb605,1,none⟩) (by first | (rw [add_block];exact hn606_1) | (show (Addr.add _ _).block ≠ _;rw [add_block];exact hn606_1) | exact hn606_1) (.slice Ao46 t595.length co46)).trans hx606_0
  replace hx606_0 := (cell_far (p := ⟨gb605,2,none⟩) (by first | (rw [add_block];exact hn606_2) | (show (Addr.add _ _).block ≠ _;rw [add_block];exact hn606_2) | exact hn606_2) (.slice Ao48 t598.length co48)).trans hx606_0
  replace hx606_0 := (cell_far (p := ⟨gb605,3,none⟩) (by first | (rw [add_block];exact hn606_3) | (show (Addr.add _ _).block ≠ _;rw [add_block];exact hn606_3) | exact hn606_3) (.slice Ao50 t601.length co50)).trans hx606_0
  clear hn606_0
  clear hn606_1
  clear hn606_2
  clear hn606_3
  replace p606 := eq_true p606
  replace q606 := eq_true q606
  go_upto_region 13 with (first | ((with_reducible refine gate_callee (f := 9) rfl ?_);refine zgl (some 80) Tryd.func9 #[.int .i64 (rd t576 1)] ?_;(with_reducible refine (ZY.calls kj9 (rd t576 1) t607 t608 _ ?side1 A37.out).mono ?_);(case side1 => exact HLD.out.on (zl_ HB));rintro e w52 ⟨rfl,hb⟩;refine ⟨_,rfl,?_⟩;replace HO_6 := am_ (Kd.R_below (by (with_reducible repeat (first | apply r1_ | apply r2_ | apply r3_));exact (Kd.R_mono (zrf (Kd.R_types HO_6.out BK605.out (by decide))) (fun _ h_ => h_.1))) hb);replace HO_592004 := am_ (Kd.R_below (by (with_reducible repeat (first | apply r1_ | apply r2_ | apply r3_));exact (Kd.R_mono (zrf (Kd.R_types HO_592004.out BK605.out (by decide))) (fun _ h_ => h_.1))) hb);replace HO_592005 := am_ (Kd.S_below (by (with_reducible repeat (first | apply Kd.S_alloc | apply Kd.S_drewN | apply Kd.S_drew));exact (Kd.S_mono (Kd.S_far (p := ⟨gb605,3,none⟩) (Kd.S_far (p := ⟨gb605,2,none⟩) (Kd.S_far (p := ⟨gb605,1,none⟩) (Kd.S_far (p := ⟨gb605,0,none⟩) (Kd.S_mono HO_592005.out (fun k_ hk => (⟨hk,hk.2.2.2⟩ : _ ∧ k_ ≠ gb605))) (fun _ hk => hk.2) (.int .i64 t594)) (fun _ hk => hk.2) (.slice Ao46 t595.length co46)) (fun _ hk => hk.2) (.slice Ao48 t598.length co48)) (fun _ hk => hk.2) (.slice Ao50 t601.length co50)) (fun _ h_ => h_.1))) hb);replace HO597 := am_ (Kd.R_below (by (with_reducible repeat (first | apply r1_ | apply r2_ | apply r3_));exact (Kd.R_mono (zrf (Kd.R_types HO597.out BK605.out (by decide))) (fun _ h_ => h_.1))) hb);replace HO600 := am_ (Kd.R_below (by (with_reducible repeat (first | apply r1_ | apply r2_ | apply r3_));exact (Kd.R_mono (zrf (Kd.R_types HO600.out BK605.out (by decide))) (fun _ h_ => h_.1))) hb);replace HO603 := am_ (Kd.R_below (by (with_reducible repeat (first | apply r1_ | apply r2_ | apply r3_));exact (Kd.R_mono (zrf (Kd.R_types HO603.out BK605.out (by decide))) (fun _ h_ => h_.1))) hb);replace BK575 := am_ (blk_below (g := gb575) (o := .cells #[.string t571,.int .i64 t572,.int .i64 t573,.int .i64 t574] 24 (0,0)) (zq BK575) hb);replace BK591 := am_ (blk_below (g := gb591) (o := .cells #[.string t580,.int .i64 t581,.int .i64 t582,.int .i64 t583,.slice Ao21 t584.length co21,.slice Ao22 t587.length co22] 31 (0,0)) (zq BK591) hb);replace BK605 := am_ (blk_below (g := gb605) (o := .cells #[.int .i64 t594,.slice Ao46 t595.length co46,.slice Ao48 t598.length co48,.slice Ao50 t601.length co50] 37 (0,0)) (zq BK605) hb);replace HB := zs_ HB hb;(try clear hb);have p609 : 0 ≤ (1 : Int) := (by omega);have q609 : 1 < (t576.length : Int) := zo_;obtain ⟨ad609,e609,hx609_0⟩ := Kd.at_int (Kd.R_reads' HO_6.out).2.2 1 p609 q609;obtain rfl : ad593 = ad609 := (by injection e609);(try simp only [show (1 : Int).toNat = 1 from rfl,Nat.reduceMul,Nat.reduceEqDiff,Go.Addr.add,↓reduceIte] at hx609_0);have qi609 : (1 < t576.length) = True := eq_true (by omega);(try rw [show ((1 : Int)).toNat = 1 from rfl] at hx609_0);replace p609 := eq_true p609;replace q609 := eq_true q609) | ((with_reducible refine gate_callee (f := 10) rfl ?_);refine zgl (some 87) Tryd.func10 #[.int .i64 (rd t576 1)] ?_;(with_reducible refine (ZZ.calls kj9 (rd t576 1) t610 t611 _ ?side1 A38.out).mono ?_);(case side1 => exact HLD.out.on (zl_ HB));rintro e w53 ⟨rfl,hb⟩;refine ⟨_,rfl,?_⟩;replace HO_6 := zrb HO_6 hb;replace HO_592004 := zrb HO_592004 hb;replace HO_592005 := am_ (Kd.S_below (by (with_reducible repeat (first | apply Kd.S_alloc | apply Kd.S_drewN | apply Kd.S_drew));exact HO_592005.out) hb);replace HO597 := zrb HO597 hb;replace HO600 := zrb HO600 hb;replace HO603 := zrb HO603 hb;replace BK575 := zb BK575 hb;replace BK591 := zb BK591 hb;replace BK605 := zb BK605 hb;replace HB := zs_ HB hb;(try clear hb);(try clear hi)) | ((with_reducible refine gate_callee (f := 11) rfl ?_);refine zgl (some 92) Tryd.func11 #[.string t607] ?_;(with_reducible refine (ZS.calls kj9 t607 t612 t613 _ A39.out).mono ?_);rintro e w54 ⟨rfl,hb⟩;refine ⟨_,rfl,?_⟩;replace HO_6 := zrb HO_6 hb;replace HO_592004 := zrb HO_592004 hb;replace HO_592005 := am_ (Kd.S_below (by (with_reducible repeat (first | apply Kd.S_alloc | apply Kd.S_drewN | apply Kd.S_drew));exact HO_592005.out) hb);replace HO597 := zrb HO597 hb;replace HO600 := zrb HO600 hb;replace HO603 := zrb HO603 hb;replace BK575 := zb BK575 hb;replace BK591 := zb BK591 hb;replace BK605 := zb BK605 hb;replace HB := zs_ HB hb;(try clear hb)))
  (try simp only [Act.put,p1_,p2_,p3_])
  go_cut [118] (fun v118 wc => ∃ (kq : Nat) (x118_39 : Bool),v118 = .bool x118_39 ∧ Aside0 (Zc.j2 kq x118_39 t580 t581 t582 t583 t584 t587 = some r) ∧ Aside0 (kq ≤ kj9) ∧ Aside0 (Kd.R (Kd.int .i64) 3 wc w.heap.size (fun _ => True) (.slice Ao21 t584.length co21) t584) ∧ Aside0 (Kd.S k37 37 wc w.heap.size (fun k_ => some k_ ≠ ((.slice Ao46 t595.length co46) : Value).ownBlock ∧ some k_ ≠ ((.slice Ao48 t598.length co48) : Value).ownBlock ∧ some k_ ≠ ((.slice Ao50 t601.length co50) : Value).ownBlock ∧ k_ ≠ gb605) (.slice Ao22 t587.length co22) t587) ∧ Aside0 (Kd.R Kd.string 9 wc w.heap.size (fun k_ => some k_ ≠ ((.slice Ao48 t598.length co48) : Value).ownBlock ∧ some k_ ≠ ((.slice Ao50 t601.length co50) : Value).ownBlock) (.slice Ao46 t595.length co46) t595) ∧ Aside0 (Kd.R Kd.string 9 wc w.heap.size (fun k_ => some k_ ≠ ((.slice Ao46 t595.length co46) : Value).ownBlock ∧ some k_ ≠ ((.slice Ao50 t601.length co50) : Value).ownBlock) (.slice Ao48 t598.length co48) t598) ∧ Aside0 (Kd.R Kd.string 9 wc w.heap.size (fun k_ => some k_ ≠ ((.slice Ao46 t595.length co46) : Value).ownBlock ∧ some k_ ≠ ((.slice Ao48 t598.length co48) : Value).ownBlock) (.slice Ao50 t601.length co50) t601) ∧ Aside0 (wc.heap[gb575]? = some (.cells #[.string t571,.int .i64 t572,.int .i64 t573,.int .i64 t574] 24 (0,0))) ∧ Aside0 (wc.heap[gb591]? = some (.cells #[.string t580,.int .i64 t581,.int .i64 t582,.int .i64 t583,(.slice Ao21 t584.length co21),(.slice Ao22 t587.length co22)] 31 (0,0))) ∧ Aside0 (wc.heap[gb605]? = some (.cells #[.int .i64 t594,(.slice Ao46 t595.length co46),(.slice Ao48 t598.length co48),(.slice Ao50 t601.length co50)] 37 (0,0))) ∧ Aside0 (Below w.heap.size w wc))
  case first =>
   have H := HC40.out
   clear HC40
   by_cases c55 : t604 = 0
   case neg =>
    rw [if_neg c55] at H
    have c55b0 := beq_eq_false_iff_ne.mpr c55
    have c55b1 := bne_iff_ne.mpr c55
    (first | rw [c55b0] | (simp only [i64_w,i32_w];rw [c55b0]) | skip)
    have H' := am_ H
    clear H
    try go_wp2
    replace HO_6 := am_ (Kd.R_drew HO_6.out)
    replace HO_592004 := am_ (Kd.R_drew HO_592004.out)
    replace HO_592005 := am_ (Kd.S_drew HO_592005.out)
    replace HO597 := am_ (Kd.R_drew HO597.out)
    replace HO600 := am_ (Kd.R_drew HO600.out)
    replace HO603 := am_ (Kd.R_drew HO603.out)
    replace BK575 := am_ (blk_drew BK575.out)
    replace BK591 := am_ (blk_drew BK591.out)
    replace BK605 := am_ (blk_drew BK605.out)
    replace HB := am_ (below_drew1 HB.out)
    refine start_ (n := 24) (S := fun w' => True) (ds := []) #[false,false,false,false,false,false,false,false,false,false,false,false,false,false,false,false,false,false,false,false,false,false,false,false] (by kernel_rfl) rfl rfl trivial (fun hHeld => ?_);refine with_tabW Zc.tab13 Zc.bits13 (fun HT_ HW_ => ?_)
    generalize w54.drew = w66 at HO_6 HO_592004 HO_592005 HO597 HO600 HO603 BK575 BK591 BK605 HB hHeld ⊢
    refine pu_ 0 95 HT_ ?_
    refine pu_ 1 96 HT_ ?_
    refine pu_ 2 97 HT_ ?_
    refine px_ 3 98 HT_ ?_
    refine px_ 4 99 HT_ ?_
    refine pu_ 5 100 HT_ ?_
    refine pu_ 6 101 HT_ ?_
    refine px_ 7 102 HT_ ?_
    refine px_ 8 103 HT_ ?_
    refine pu_ 9 104 HT_ ?_
    refine pu_ 10 105 HT_ ?_
    refine px_ 11 106 HT_ ?_
    refine px_ 12 107 HT_ ?_
    refine px_ 13 108 HT_ ?_
    refine pu_ 14 109 HT_ ?_
    refine pu_ 15 110 HT_ ?_
    refine px_ 16 111 HT_ ?_
    refine px_ 17 112 HT_ ?_
    refine px_ 18 113 HT_ ?_
    refine px_ 19 114 HT_ ?_
    refine px_ 20 115 HT_ ?_
    refine px_ 21 116 HT_ ?_
    refine px_ 22 117 HT_ ?_
    refine pu_ 23 118 HT_ ?_
    refine done_ (done_of HT_.out (by kernel_rfl)) ?_
    try go_wp2
    go_meet
    case rel => exact ⟨_,(true),(by first | rfl | (simp;done) | (simp [*];done)),H',⟨by have := HJ2.out;have := HJ9.out;first | omega | exact Nat.le_refl _⟩,⟨by (with_reducible repeat (first | apply r1_ | apply r2_ | apply r3_));exact Kd.R_mono HO_592004.out (fun _ hk => trivial)⟩,⟨by (with_reducible repeat (first | apply Kd.S_alloc | apply Kd.S_drewN | apply Kd.S_drew));exact HO_592005.out⟩,⟨zr HO597⟩,⟨zr HO600⟩,⟨zr HO603⟩,⟨by (with_reducible repeat (first | apply k1_ | apply k2_ | apply k3_));exact BK575.out⟩,⟨by (with_reducible repeat (first | apply k1_ | apply k2_ | apply k3_));exact BK591.out⟩,⟨by (with_reducible repeat (first | apply k1_ | apply k2_ | apply k3_));exact BK605.out⟩,⟨zl_ HB⟩⟩
   rw [if_pos c55] at H
   have c55b0 := beq_iff_eq.mpr c55
   have c55b1 := bne_eq_false_iff_eq.mpr c55
   clear c55
   (first | rw [c55b0] | (simp only [i64_w,i32_w];rw [c55b0]) | skip)
   by_cases c56 : t608 = 0
   case neg =>
    rw [if_neg c56] at H
    have c56b0 := beq_eq_false_iff_ne.mpr c56
    have c56b1 := bne_iff_ne.mpr c56
    have H' := am_ H
    clear H
    try go_wp2
    replace HO_6 := am_ (Kd.R_drew HO_6.out)
    replace HO_592004 := am_ (Kd.R_drew HO_592004.out)
    replace HO_592005 := am_ (Kd.S_drew HO_592005.out)
    replace HO597 := am_ (Kd.R_drew HO597.out)
    replace HO600 := am_ (Kd.R_drew HO600.out)
    replace HO603 := am_ (Kd.R_drew HO603.out)
    replace BK575 := am_ (blk_drew BK575.out)
    replace BK591 := am_ (blk_drew BK591.out)
    replace BK605 := am_ (blk_drew BK605.out)
    replace HB := am_ (below_drew1 HB.out)
    refine start_ (n := 24) (S := fun w' => True) (ds := []) #[false,false,false,false,false,false,false,false,false,false,false,false,false,false,false,false,false,false,false,false,false,false,false,false] (by kernel_rfl) rfl rfl trivial (fun hHeld => ?_);refine with_tabW Zc.tab13 Zc.bits13 (fun HT_ HW_ => ?_)
    generalize w54.drew = w65 at HO_6 HO_592004 HO_592005 HO597 HO600 HO603 BK575 BK591 BK605 HB hHeld ⊢
    refine pu_ 0 95 HT_ ?_
    refine pu_ 1 96 HT_ ?_
    refine pu_ 2 97 HT_ ?_
    refine pu_ 3 98 HT_ ?_
    refine pu_ 4 99 HT_ ?_
    refine pu_ 5 100 HT_ ?_
    refine pu_ 6 101 HT_ ?_
    refine px_ 7 102 HT_ ?_
    refine px_ 8 103 HT_ ?_
    refine pu_ 9 104 HT_ ?_
    refine pu_ 10 105 HT_ ?_
    refine px_ 11 106 HT_ ?_
    refine px_ 12 107 HT_ ?_
    refine px_ 13 108 HT_ ?_
    refine pu_ 14 109 HT_ ?_
    refine pu_ 15 110 HT_ ?_
    refine px_ 16 111 HT_ ?_
    refine px_ 17 112 HT_ ?_
    refine px_ 18 113 HT_ ?_
    refine px_ 19 114 HT_ ?_
    refine px_ 20 115 HT_ ?_
    refine px_ 21 116 HT_ ?_
    refine px_ 22 117 HT_ ?_
    refine pu_ 23 118 HT_ ?_
    refine done_ (done_of HT_.out (by kernel_rfl)) ?_
    try go_wp2
    go_meet
    case rel => exact ⟨_,(true),(by first | rfl | (simp;done) | (simp [*];done)),H',⟨by have := HJ2.out;have := HJ9.out;first | omega | exact Nat.le_refl _⟩,⟨by (with_reducible repeat (first | apply r1_ | apply r2_ | apply r3_));exact Kd.R_mono HO_592004.out (fun _ hk => trivial)⟩,⟨by (with_reducible repeat (first | apply Kd.S_alloc | apply Kd.S_drewN | apply Kd.S_drew));exact HO_592005.out⟩,⟨zr HO597⟩,⟨zr HO600⟩,⟨zr HO603⟩,⟨by (with_reducible repeat (first | apply k1_ | apply k2_ | apply k3_));exact BK575.out⟩,⟨by (with_reducible repeat (first | apply k1_ | apply k2_ | apply k3_));exact BK591.out⟩,⟨by (with_reducible repeat (first | apply k1_ | apply k2_ | apply k3_));exact BK605.out⟩,⟨zl_ HB⟩⟩
   rw [if_pos c56] at H
   have c56b0 := beq_iff_eq.mpr c56
   have c56b1 := bne_eq_false_iff_eq.mpr c56
   clear c56
   by_cases c57 : t611 = 0
   case neg =>
    rw [if_neg c57] at H
    have c57b0 := beq_eq_false_iff_ne.mpr c57
    have c57b1 := bne_iff_ne.mpr c57
    have H' := am_ H
    clear H
    try go_wp2
    replace HO_6 := am_ (Kd.R_drew HO_6.out)
    replace HO_592004 := am_ (Kd.R_drew HO_592004.out)
    replace HO_592005 := am_ (Kd.S_drew HO_592005.out)
    replace HO597 := am_ (Kd.R_drew HO597.out)
    replace HO600 := am_ (Kd.R_drew HO600.out)
    replace HO603 := am_ (Kd.R_drew HO603.out)
    replace BK575 := am_ (blk_drew BK575.out)
    replace BK591 := am_ (blk_drew BK591.out)
    replace BK605 := am_ (blk_drew BK605.out)
    replace HB := am_ (below_drew1 HB.out)
    refine start_ (n := 24) (S := fun w' => True) (ds := []) #[false,false,false,false,false,false,false,false,false,false,false,false,false,false,false,false,false,false,false,false,false,false,false,false] (by kernel_rfl) rfl rfl trivial (fun hHeld => ?_);refine with_tabW Zc.tab13 Zc.bits13 (fun HT_ HW_ => ?_)
    generalize w54.drew = w64 at HO_6 HO_592004 HO_592005 HO597 HO600 HO603 BK575 BK591 BK605 HB hHeld ⊢
    refine pu_ 0 95 HT_ ?_
    refine pu_ 1 96 HT_ ?_
    refine pu_ 2 97 HT_ ?_
    refine pu_ 3 98 HT_ ?_
    refine pu_ 4 99 HT_ ?_
    refine pu_ 5 100 HT_ ?_
    refine pu_ 6 101 HT_ ?_
    refine pu_ 7 102 HT_ ?_
    refine pu_ 8 103 HT_ ?_
    refine pu_ 9 104 HT_ ?_
    refine pu_ 10 105 HT_ ?_
    refine px_ 11 106 HT_ ?_
    refine px_ 12 107 HT_ ?_
    refine px_ 13 108 HT_ ?_
    refine pu_ 14 109 HT_ ?_
    refine pu_ 15 110 HT_ ?_
    refine px_ 16 111 HT_ ?_
    refine px_ 17 112 HT_ ?_
    refine px_ 18 113 HT_ ?_
    refine px_ 19 114 HT_ ?_
    refine px_ 20 115 HT_ ?_
    refine px_ 21 116 HT_ ?_
    refine px_ 22 117 HT_ ?_
    refine pu_ 23 118 HT_ ?_
    refine done_ (done_of HT_.out (by kernel_rfl)) ?_
    try go_wp2
    go_meet
    case rel => exact ⟨_,(true),(by first | rfl | (simp;done) | (simp [*];done)),H',⟨by have := HJ2.out;have := HJ9.out;first | omega | exact Nat.le_refl _⟩,⟨by (with_reducible repeat (first | apply r1_ | apply r2_ | apply r3_));exact Kd.R_mono HO_592004.out (fun _ hk => trivial)⟩,⟨by (with_reducible repeat (first | apply Kd.S_alloc | apply Kd.S_drewN | apply Kd.S_drew));exact HO_592005.out⟩,⟨zr HO597⟩,⟨zr HO600⟩,⟨zr HO603⟩,⟨by (with_reducible repeat (first | apply k1_ | apply k2_ | apply k3_));exact BK575.out⟩,⟨by (with_reducible repeat (first | apply k1_ | apply k2_ | apply k3_));exact BK591.out⟩,⟨by (with_reducible repeat (first | apply k1_ | apply k2_ | apply k3_));exact BK605.out⟩,⟨zl_ HB⟩⟩
   rw [if_pos c57] at H
   have c57b0 := beq_iff_eq.mpr c57
   have c57b1 := bne_eq_false_iff_eq.mpr c57
   clear c57
   by_cases c58 : t610.toList = t612.toList
   case neg =>
    rw [if_neg c58] at H
    have c58b0 := beq_eq_false_iff_ne.mpr c58
    have c58b1 := bne_iff_ne.mpr c58
    have H' := am_ H
    clear H
    try go_wp2
    replace HO_6 := am_ (Kd.R_drew HO_6.out)
    replace HO_592004 := am_ (Kd.R_drew HO_592004.out)
    replace HO_592005 := am_ (Kd.S_drew HO_592005.out)
    replace HO597 := am_ (Kd.R_drew HO597.out)
    replace HO600 := am_ (Kd.R_drew HO600.out)
    replace HO603 := am_ (Kd.R_drew HO603.out)
    replace BK575 := am_ (blk_drew BK575.out)
    replace BK591 := am_ (blk_drew BK591.out)
    replace BK605 := am_ (blk_drew BK605.out)
    replace HB := am_ (below_drew1 HB.out)
    refine start_ (n := 24) (S := fun w' => True) (ds := []) #[false,false,false,false,false,false,false,false,false,false,false,false,false,false,false,false,false,false,false,false,false,false,false,false] (by kernel_rfl) rfl rfl trivial (fun hHeld => ?_);refine with_tabW Zc.tab13 Zc.bits13 (fun HT_ HW_ => ?_)
    generalize w54.drew = w63 at HO_6 HO_592004 HO_592005 HO597 HO600 HO603 BK575 BK591 BK605 HB hHeld ⊢
    refine pu_ 0 95 HT_ ?_
    refine pu_ 1 96 HT_ ?_
    refine pu_ 2 97 HT_ ?_
    refine pu_ 3 98 HT_ ?_
    refine pu_ 4 99 HT_ ?_
    refine pu_ 5 100 HT_ ?_
    refine pu_ 6 101 HT_ ?_
    refine pu_ 7 102 HT_ ?_
    refine pu_ 8 103 HT_ ?_
    refine pu_ 9 104 HT_ ?_
    refine pu_ 10 105 HT_ ?_
    refine pu_ 11 106 HT_ ?_
    refine pu_ 12 107 HT_ ?_
    refine pu_ 13 108 HT_ ?_
    refine pu_ 14 109 HT_ ?_
    refine pu_ 15 110 HT_ ?_
    refine px_ 16 111 HT_ ?_
    refine px_ 17 112 HT_ ?_
    refine px_ 18 113 HT_ ?_
    refine px_ 19 114 HT_ ?_
    refine px_ 20 115 HT_ ?_
    refine px_ 21 116 HT_ ?_
    refine px_ 22 117 HT_ ?_
    refine pu_ 23 118 HT_ ?_
    refine done_ (done_of HT_.out (by kernel_rfl)) ?_
    try go_wp2
    go_meet
    case rel => exact ⟨_,(true),(by first | rfl | (simp;done) | (simp [*];done)),H',⟨by have := HJ2.out;have := HJ9.out;first | omega | exact Nat.le_refl _⟩,⟨by (with_reducible repeat (first | apply r1_ | apply r2_ | apply r3_));exact Kd.R_mono HO_592004.out (fun _ hk => trivial)⟩,⟨by (with_reducible repeat (first | apply Kd.S_alloc | apply Kd.S_drewN | apply Kd.S_drew));exact HO_592005.out⟩,⟨zr HO597⟩,⟨zr HO600⟩,⟨zr HO603⟩,⟨by (with_reducible repeat (first | apply k1_ | apply k2_ | apply k3_));exact BK575.out⟩,⟨by (with_reducible repeat (first | apply k1_ | apply k2_ | apply k3_));exact BK591.out⟩,⟨by (with_reducible repeat (first | apply k1_ | apply k2_ | apply k3_));exact BK605.out⟩,⟨zl_ HB⟩⟩
   rw [if_pos c58] at H
   have c58b0 := beq_iff_eq.mpr c58
   have c58b1 := bne_eq_false_iff_eq.mpr c58
   clear c58
   by_cases c59 : 1 < (t587.length : Int)
   case neg =>
    rw [if_neg c59] at H
    exact absurd H (by simp)
   rw [if_pos c59] at H
   have c59b0 := decide_eq_true c59
   have c59b1 : decide (1 < t587.length) = true := decide_eq_true (by omega)
   clear c59
   replace H := Option.bind_eq_some_iff.mp H
   obtain ⟨t615,A600,H⟩ := H
   try dsimp only at H
   have A60 := am_ A600
   clear A600
   have H' := am_ H
   clear H
   try go_wp2
   replace HO_6 := am_ (Kd.R_drew HO_6.out)
   replace HO_592004 := am_ (Kd.R_drew HO_592004.out)
   replace HO_592005 := am_ (Kd.S_drew HO_592005.out)
   replace HO597 := am_ (Kd.R_drew HO597.out)
   replace HO600 := am_ (Kd.R_drew HO600.out)
   replace HO603 := am_ (Kd.R_drew HO603.out)
   replace BK575 := am_ (blk_drew BK575.out)
   replace BK591 := am_ (blk_drew BK591.out)
   replace BK605 := am_ (blk_drew BK605.out)
   replace HB := am_ (below_drew1 HB.out)
   have p614 : 0 ≤ (1 : Int) := (by omega)
   have q614 : 1 < (t587.length : Int) := zo_
   obtain ⟨ad614,A614_1,c614_1,A614_2,c614_2,A614_3,c614_3,e614,hx614_0,hx614_1,hx614_2,hx614_3,hl614_1,hi614_1,hl614_2,hi614_2,hl614_3,hi614_3⟩ := at_T37 (Kd.S_reads' HO_592005.out).2.2 1 p614 q614
   cases e614
   obtain ⟨ce614,hce614,hMe614,hcc614⟩ := Kd.S_get HO_592005.out z37 1 p614 (by first | exact q614 | exact zo_ | (have e_ := (Kd.S_reads' HO_592005.out).1;omega))
   obtain ⟨ve614_1,ve614_2,ve614_3,rfl,ge614_1,ge614_2,ge614_3⟩ := k37_openM hMe614
   have hv614_1 := hcc614 1 _ rfl
   rw [add_field _ _ 1 (by omega)] at hv614_1
   replace hv614_1 := Option.some.inj (hv614_1.symm.trans hx614_1)
   rw [hv614_1] at ge614_1
   have HL614_1 := am_ (show Kd.R Kd.string 9 _ _ _ _ ((rd_T37 t587 1).f1) from ge614_1)
   clear hv614_1 ge614_1
   have hv614_2 := hcc614 2 _ rfl
   rw [add_field _ _ 2 (by omega)] at hv614_2
   replace hv614_2 := Option.some.inj (hv614_2.symm.trans hx614_2)
   rw [hv614_2] at ge614_2
   have HL614_2 := am_ (show Kd.R Kd.string 9 _ _ _ _ ((rd_T37 t587 1).f2) from ge614_2)
   clear hv614_2 ge614_2
   have hv614_3 := hcc614 3 _ rfl
   rw [add_field _ _ 3 (by omega)] at hv614_3
   replace hv614_3 := Option.some.inj (hv614_3.symm.trans hx614_3)
   rw [hv614_3] at ge614_3
   have HL614_3 := am_ (show Kd.R Kd.string 9 _ _ _ _ ((rd_T37 t587 1).f3) from ge614_3)
   clear hv614_3 ge614_3
   clear hcc614 hce614
   (try simp only [show (1 : Int).toNat = 1 from rfl,Nat.reduceMul,Nat.reduceEqDiff,Go.Addr.add,↓reduceIte] at hx614_0)
   (try simp only [show (1 : Int).toNat = 1 from rfl,Nat.reduceMul,Nat.reduceEqDiff,Go.Addr.add,↓reduceIte] at hx614_1)
   (try simp only [show (1 : Int).toNat = 1 from rfl,Nat.reduceMul,Nat.reduceEqDiff,Go.Addr.add,↓reduceIte] at hx614_2)
   (try simp only [show (1 : Int).toNat = 1 from rfl,Nat.reduceMul,Nat.reduceEqDiff,Go.Addr.add,↓reduceIte] at hx614_3)
   have qi614 : (1 < t587.length) = True := eq_true (by omega)
   (try rw [show ((1 : Int)).toNat = 1 from rfl] at hx614_0)
   (try rw [show 1 * 4 = 4 from rfl] at hx614_0)
   (try rw [show ((1 : Int)).toNat = 1 from rfl] at hx614_1)
   (try rw [show 1 * 4 = 4 from rfl] at hx614_1)
   (try rw [show ((1 : Int)).toNat = 1 from rfl] at hx614_2)
   (try rw [show 1 * 4 = 4 from rfl] at hx614_2)
   (try rw [show ((1 : Int)).toNat = 1 from rfl] at hx614_3)
   (try rw [show 1 * 4 = 4 from rfl] at hx614_3)
   have HR614_1 := am_ hi614_1
   have HC614_1 := am_ hl614_1
   clear hi614_1 hl614_1
   have HR614_2 := am_ hi614_2
   have HC614_2 := am_ hl614_2
   clear hi614_2 hl614_2
   have HR614_3 := am_ hi614_3
   have HC614_3 := am_ hl614_3
   clear hi614_3 hl614_3
   replace p614 := eq_true p614
   replace q614 := eq_true q614
   refine start_ (n := 24) (S := fun w' => w'.cell? ⟨gb605,0,none⟩ = some (.int .i64 t594) ∧ w'.cell? ⟨gb605,1,none⟩ = some (.slice Ao46 t595.length co46) ∧ w'.cell? ⟨gb605,2,none⟩ = some (.slice Ao48 t598.length co48) ∧ w'.cell? ⟨gb605,3,none⟩ = some (.slice Ao50 t601.length co50) ∧ w'.cell? ⟨gb591,0,none⟩ = some (.string t580) ∧ w'.cell? ⟨gb591,1,none⟩ = some (.int .i64 t581) ∧ w'.cell? ⟨gb591,2,none⟩ = some (.int .i64 t582) ∧ w'.cell? ⟨gb591,3,none⟩ = some (.int .i64 t583) ∧ w'.cell? ⟨gb591,4,none⟩ = some (.slice Ao21 t584.length co21) ∧ w'.cell? ⟨gb591,5,none⟩ = some (.slice (some ad614) t587.length co22) ∧ w'.cell? ⟨ad614.block,ad614.off + 4,none⟩ = some (.int .i64 ((rd_T37 t587 1).f0)) ∧ w'.cell? ⟨ad614.block,ad614.off + 4 + 1,none⟩ = some (.slice A614_1 ((rd_T37 t587 1).f1).length c614_1) ∧ w'.cell? ⟨ad614.block,ad614.off + 4 + 2,none⟩ = some (.slice A614_2 ((rd_T37 t587 1).f2).length c614_2) ∧ w'.cell? ⟨ad614.block,ad614.off + 4 + 3,none⟩ = some (.slice A614_3 ((rd_T37 t587 1).f3).length c614_3)) (ds := []) #[false,false,false,false,false,false,false,false,false,false,false,false,false,false,false,false,false,false,false,false,false,false,false,false] (by kernel_rfl) rfl rfl ⟨(blk_cell BK605.out 0).trans rfl,(blk_cell BK605.out 1).trans rfl,(blk_cell BK605.out 2).trans rfl,(blk_cell BK605.out 3).trans rfl,(blk_cell BK591.out 0).trans rfl,(blk_cell BK591.out 1).trans rfl,(blk_cell BK591.out 2).trans rfl,(blk_cell BK591.out 3).trans rfl,(blk_cell BK591.out 4).trans rfl,(blk_cell BK591.out 5).trans rfl,hx614_0,hx614_1,hx614_2,hx614_3⟩ (fun hHeld => ?_);refine with_tabW Zc.tab13 Zc.bits13 (fun HT_ HW_ => ?_)
   generalize w54.drew = w61 at HO_6 HO_592004 HO_592005 HO597 HO600 HO603 BK575 BK591 BK605 HB HL614_1 HL614_2 HL614_3 HR614_1 HR614_2 HR614_3 hx614_0 hx614_1 hx614_2 hx614_3 hHeld ⊢
   refine pu_ 0 95 HT_ ?_
   refine pu_ 1 96 HT_ ?_
   refine pu_ 2 97 HT_ ?_
   refine pu_ 3 98 HT_ ?_
   refine pu_ 4 99 HT_ ?_
   refine pu_ 5 100 HT_ ?_
   refine pu_ 6 101 HT_ ?_
   refine pu_ 7 102 HT_ ?_
   refine pu_ 8 103 HT_ ?_
   refine pu_ 9 104 HT_ ?_
   refine pu_ 10 105 HT_ ?_
   refine pu_ 11 106 HT_ ?_
   refine pu_ 12 107 HT_ ?_
   refine pu_ 13 108 HT_ ?_
   refine pu_ 14 109 HT_ ?_
   refine pu_ 15 110 HT_ ?_
   refine pu_ 17 112 HT_ ?_
   refine tk_ 16 111 HT_ HW_ hHeld ?_
   refine tk_ 18 113 HT_ HW_ hHeld ?_
   refine pu_ 19 114 HT_ ?_
   refine tk_ 20 115 HT_ HW_ hHeld ?_
   refine zon 21 (N := some 116) HT_ (fun K hK => ?_)
   refine zgo Tryd.func12 #[.agg #[.int .i64 t594,.slice Ao46 t595.length co46,.slice Ao48 t598.length co48,.slice Ao50 t601.length co50],.agg #[.int .i64 ((rd_T37 t587 1).f0),.slice A614_1 ((rd_T37 t587 1).f1).length c614_1,.slice A614_2 ((rd_T37 t587 1).f2).length c614_2,.slice A614_3 ((rd_T37 t587 1).f3).length c614_3]] ?_
   with_reducible refine (ZN.calls kj9 t594 _ _ t595 _ _ t598 _ _ t601 ((rd_T37 t587 1).f0) _ _ ((rd_T37 t587 1).f1) _ _ ((rd_T37 t587 1).f2) _ _ ((rd_T37 t587 1).f3) t615 _ ?side1 ?side2 ?side3 ?side4 ?side5 ?side6 ?side7 ?side8 ?side9 ?side10 ?side11 ?side12 A60.out).mono ?_
   (case side1 => repeat (first | exact (Kd.R_reads' HO597.out).2.2 | (with_reducible refine Kd.C_alloc ?_ _) | (with_reducible refine Kd.C_drewN ?_ _) | (with_reducible refine Kd.C_drew ?_)))
   (case side2 => exact (Kd.R_reads' HO597.out).2.1)
   (case side3 => repeat (first | exact (Kd.R_reads' HO600.out).2.2 | (with_reducible refine Kd.C_alloc ?_ _) | (with_reducible refine Kd.C_drewN ?_ _) | (with_reducible refine Kd.C_drew ?_)))
   (case side4 => exact (Kd.R_reads' HO600.out).2.1)
   (case side5 => repeat (first | exact (Kd.R_reads' HO603.out).2.2 | (with_reducible refine Kd.C_alloc ?_ _) | (with_reducible refine Kd.C_drewN ?_ _) | (with_reducible refine Kd.C_drew ?_)))
   (case side6 => exact (Kd.R_reads' HO603.out).2.1)
   (case side7 => repeat (first | exact (by repeat (first | (with_reducible exact HR614_1.out) | (with_reducible refine Kd.C_alloc ?_ _) | (with_reducible refine Kd.C_drewN ?_ _) | (with_reducible refine Kd.C_drew ?_) | exact HR614_1.out)) | (with_reducible refine Kd.C_alloc ?_ _) | (with_reducible refine Kd.C_drewN ?_ _) | (with_reducible refine Kd.C_drew ?_)))
   (case side8 => exact HC614_1.out)
   (case side9 => repeat (first | exact (by repeat (first | (with_reducible exact HR614_2.out) | (with_reducible refine Kd.C_alloc ?_ _) | (with_reducible refine Kd.C_drewN ?_ _) | (with_reducible refine Kd.C_drew ?_) | exact HR614_2.out)) | (with_reducible refine Kd.C_alloc ?_ _) | (with_reducible refine Kd.C_drewN ?_ _) | (with_reducible refine Kd.C_drew ?_)))
   (case side10 => exact HC614_2.out)
   (case side11 => repeat (first | exact (by repeat (first | (with_reducible exact HR614_3.out) | (with_reducible refine Kd.C_alloc ?_ _) | (with_reducible refine Kd.C_drewN ?_ _) | (with_reducible refine Kd.C_drew ?_) | exact HR614_3.out)) | (with_reducible refine Kd.C_alloc ?_ _) | (with_reducible refine Kd.C_drewN ?_ _) | (with_reducible refine Kd.C_drew ?_)))
   (case side12 => exact HC614_3.out)
   rintro e w62 ⟨rfl,hb⟩
   have HS10_ := (hb.cell (World.block_lt_of_cell? _ _ (hHeld.2.2.2.2.2.2.2.2.2.2.1))).trans (hHeld.2.2.2.2.2.2.2.2.2.2.1)
   have HS11_ := (hb.cell (World.block_lt_of_cell? _ _ (hHeld.2.2.2.2.2.2.2.2.2.2.2.1))).trans (hHeld.2.2.2.2.2.2.2.2.2.2.2.1)
   have HS12_ := (hb.cell (World.block_lt_of_cell? _ _ (hHeld.2.2.2.2.2.2.2.2.2.2.2.2.1))).trans (hHeld.2.2.2.2.2.2.2.2.2.2.2.2.1)
   have HS13_ := (hb.cell (World.block_lt_of_cell? _ _ (hHeld.2.2.2.2.2.2.2.2.2.2.2.2.2))).trans (hHeld.2.2.2.2.2.2.2.2.2.2.2.2.2)
   refine ⟨_,rfl,?_⟩
   replace HO_592004 := zrb HO_592004 hb
   replace HO_592005 := am_ (Kd.S_below (by (with_reducible repeat (first | apply Kd.S_alloc | apply Kd.S_drewN | apply Kd.S_drew));exact HO_592005.out) hb)
   replace HO597 := zrb HO597 hb
   replace HO600 := zrb HO600 hb
   replace HO603 := zrb HO603 hb
   replace HL614_1 := am_ (Kd.R_below (by (with_reducible repeat (first | apply r1_ | apply r2_ | apply r3_));exact HL614_1.out) hb)
   replace HL614_2 := am_ (Kd.R_below (by (with_reducible repeat (first | apply r1_ | apply r2_ | apply r3_));exact HL614_2.out) hb)
   replace HL614_3 := am_ (Kd.R_below (by (with_reducible repeat (first | apply r1_ | apply r2_ | apply r3_));exact HL614_3.out) hb)
   replace BK575 := zb BK575 hb
   replace BK591 := zb BK591 hb
   replace BK605 := zb BK605 hb
   replace HR614_1 := am_ (Kd.C_below (by repeat (first | (with_reducible exact HR614_1.out) | (with_reducible refine Kd.C_alloc ?_ _) | (with_reducible refine Kd.C_drewN ?_ _) | (with_reducible refine Kd.C_drew ?_) | exact HR614_1.out)) hb)
   replace HR614_2 := am_ (Kd.C_below (by repeat (first | (with_reducible exact HR614_2.out) | (with_reducible refine Kd.C_alloc ?_ _) | (with_reducible refine Kd.C_drewN ?_ _) | (with_reducible refine Kd.C_drew ?_) | exact HR614_2.out)) hb)
   replace HR614_3 := am_ (Kd.C_below (by repeat (first | (with_reducible exact HR614_3.out) | (with_reducible refine Kd.C_alloc ?_ _) | (with_reducible refine Kd.C_drewN ?_ _) | (with_reducible refine Kd.C_drew ?_) | exact HR614_3.out)) hb)
   replace HB := zs_ HB hb
   try clear hb
   refine hK.out _ _ ⟨(blk_cell BK605.out 0).trans rfl,(blk_cell BK605.out 1).trans rfl,(blk_cell BK605.out 2).trans rfl,(blk_cell BK605.out 3).trans rfl,(blk_cell BK591.out 0).trans rfl,(blk_cell BK591.out 1).trans rfl,(blk_cell BK591.out 2).trans rfl,(blk_cell BK591.out 3).trans rfl,(blk_cell BK591.out 4).trans rfl,(blk_cell BK591.out 5).trans rfl,HS10_,HS11_,HS12_,HS13_⟩ (fun hHeld => ?_)
   clear hK K
   refine nm_ ?_
   refine pu_ 22 117 HT_ ?_
   refine pu_ 23 118 HT_ ?_
   refine done_ (done_of HT_.out (by kernel_rfl)) ?_
   try go_wp2
   go_meet
   case rel => exact ⟨_,(!t615),(by first | rfl | (simp;done) | (simp [*];done)),H',⟨by have := HJ2.out;have := HJ9.out;first | omega | exact Nat.le_refl _⟩,⟨by (with_reducible repeat (first | apply r1_ | apply r2_ | apply r3_));exact Kd.R_mono HO_592004.out (fun _ hk => trivial)⟩,⟨by (with_reducible repeat (first | apply Kd.S_alloc | apply Kd.S_drewN | apply Kd.S_drew));exact HO_592005.out⟩,⟨zr HO597⟩,⟨zr HO600⟩,⟨zr HO603⟩,⟨by (with_reducible repeat (first | apply k1_ | apply k2_ | apply k3_));exact BK575.out⟩,⟨by (with_reducible repeat (first | apply k1_ | apply k2_ | apply k3_));exact BK591.out⟩,⟨by (with_reducible repeat (first | apply k1_ | apply k2_ | apply k3_));exact BK605.out⟩,⟨zl_ HB⟩⟩
  case rest =>
   clear HC40
   try clear p2
   try clear c5
   try clear c55
   try clear c55b0
   try clear c55b1
   try clear c56
   try clear c56b0
   try clear c56b1
   try clear c57
   try clear c57b0
   try clear c57b1
   obtain ⟨kq,x118_39,rfl,HA,HJ39,HO_592004,HO_592005,HO_606001,HO_606002,HO_606003,BK575,BK591,BK605,HB⟩ := hcut
   exact Zc.part2 A0 c0 l0 A1 c1 l1 r w hu24 hu31 hu37 HLD HTD t571 t572 t573 t574 t576 t579 t580 t581 t582 t583 t584 t587 t590 gb575 co16 gb591 NB575_591 NB591_575 hnb19 hnc19 Ao21 co21 Ao22 co22 c35b0 c35b1 t594 t595 t598 t601 t604 t607 t608 t610 t611 t612 t613 ad593 qi593 p593 q593 HT_ HW_ gb605 w44 NB591_605 NB605_591 Ao46 co46 Ao48 co48 Ao50 co50 hns45_0 hns45_1 hms45_0 hms45_1 hns47_0 hns47_1 hms47_0 hms47_1 hns49_0 hns49_1 hms49_0 hms49_1 hns51_0 hns51_1 hms51_0 hms51_1 hHeld e606 qi606 p606 q606 e609 qi609 p609 q609 wc u20 u21 u22 u23 u24 u25 u26 u27 u28 u29 u30 u31 u32 u33 u34 u35 u36 u37 u38 u39 u40 u41 u42 u43 u44 u45 u46 u47 u48 u49 u50 u51 u52 u53 u54 u55 u56 u57 u58 u59 u60 u61 u62 u63 u64 u65 u66 u67 u68 u69 u70 u71 u72 u73 u74 u75 u76 u77 u78 u79 u80 u81 u82 u83 u84 u85 u86 u87 u88 u89 u90 u91 u92 u93 u94 u95 u96 u97 u98 u99 u100 u101 u102 u103 u104 u105 u106 u107 u108 u109 u110 u111 u112 u113 u114 u115 u116 u117 u119 u120 u121 u122 u123 u124 u125 u126 u127 u128 u129 u130 u131 u132 u133 u134 u135 u136 u137 u138 u139 u140 u141 u142 u143 u144 kq x118_39 HA HO_592004 HO_592005 HO_606001 HO_606002 HO_606003 BK575 BK591 BK605 HB _ (by assumption) _ (by assumption)
set_option maxHeartbeats 64000000 in
set_option maxRecDepth 100000 in
theorem Zc.part0 (k : Nat) (A0 : Option Addr) (c0 : Nat) (l0 : List Int) (A1 : Option Addr) (c1 : Nat) (l1 : List Int) (r : Bool) (w : World) (hu24 : Tryd.prog.underlying 24 = some (TypeDesc.struct #[{ name := "Name",type := 9,offset := 0,embedded := false,tag := "",pkgPath := "",byteOffset := 0 },{ name := "Holder",type := 3,offset := 1,embedded := false,tag := "",pkgPath := "",byteOffset := 16 },{ name := "Token",type := 3,offset := 2,embedded := false,tag := "",pkgPath := "",byteOffset := 24 },{ name := "Expiry",type := 3,offset := 3,embedded := false,tag := "",pkgPath := "",byteOffset := 32 }])) (hu31 : Tryd.prog.underlying 31 = some (TypeDesc.struct #[{ name := "Grant",type := 24,offset := 0,embedded := false,tag := "",pkgPath := "",byteOffset := 0 },{ name := "Nodes",type := 26,offset := 4,embedded := false,tag := "",pkgPath := "",byteOffset := 40 },{ name := "Signatures",type := 29,offset := 5,embedded := false,tag := "",pkgPath := "",byteOffset := 64 }])) (hu37 : Tryd.prog.underlying 37 = some (TypeDesc.struct #[{ name := "Index",type := 3,offset := 0,embedded := false,tag := "",pkgPath := "",byteOffset := 0 },{ name := "Ones",type := 35,offset := 1,embedded := false,tag := "",pkgPath := "",byteOffset := 8 },{ name := "Rest",type := 35,offset := 2,embedded := false,tag := "",pkgPath := "",byteOffset := 32 },{ name := "Path",type := 35,offset := 3,embedded := false,tag := "",pkgPath := "",byteOffset := 56 }])) (HR0 : Aside0 ((Kd.int IntKind.u8).C w A0 l0.length l0)) (HC0 : Aside0 (l0.length ≤ c0)) (HR1 : Aside0 ((Kd.int IntKind.u8).C w A1 l1.length l1)) (HC1 : Aside0 (l1.length ≤ c1)) (HLD : Aside0 (Laid w)) (HTD : Aside0 (LaidT w)) (wc : World) (u20 u21 u22 u23 u24 u25 u26 u28 u29 u30 u31 u32 u33 u34 u35 u36 u37 u38 u39 u40 u41 u42 u43 u44 u45 u46 u47 u48 u49 u50 u51 u52 u53 u54 u55 u56 u57 u58 u59 u60 u61 u62 u63 u64 u65 u66 u67 u68 u69 u70 u71 u72 u73 u74 u75 u76 u77 u78 u79 u80 u81 u82 u83 u84 u85 u86 u87 u88 u89 u90 u91 u92 u93 u94 u95 u96 u97 u98 u99 u100 u101 u102 u103 u104 u105 u106 u107 u108 u109 u110 u111 u112 u113 u114 u115 u116 u117 u118 u119 u120 u121 u122 u123 u124 u125 u126 u127 u128 u129 u130 u131 u132 u133 u134 u135 u136 u137 u138 u139 u140 u141 u142 u143 u144 : Value) (kq : Nat) (x27_2 : Bool) (HA : Aside0 (j0 kq l0 l1 x27_2 = some r)) (HJ2 : Aside0 (kq ≤ k)) (HB : Aside0 (Below w.heap.size w wc)) :
  let Q_ : Exit → Act → World → Prop := bodyPost Tryd.prog Tryd.f3 fun (e : Ending) (w' : World) => e = Ending.returned (Value.bool r) ∧ Below w.heap.size w w'
  ∀ (K1_ : Act → World → Prop) (a1_ : ∀ (a : Act) (w : World),Code.wp Tryd.prog (codeAt_ [true,true] (Tryd.f3.body.getD .skip)) Q_ a w → K1_ a w) (K0_ : Act → World → Prop) (a0_ : ∀ (a : Act) (w : World),Code.wp Tryd.prog (codeAt_ [true,false,true] (Tryd.f3.body.getD .skip)) (Exit.then K1_ Q_) a w → K0_ a w),K0_ { tmps := #[Value.slice A0 l0.length c0,Value.slice A1 l1.length c1,undef,undef,Value.bool false,undef,undef,undef,undef,undef,undef,undef,undef,undef,undef,undef,undef,undef,undef,undef,u20,u21,u22,u23,u24,u25,u26,Value.bool x27_2,u28,u29,u30,u31,u32,u33,u34,u35,u36,u37,u38,u39,u40,u41,u42,u43,u44,u45,u46,u47,u48,u49,u50,u51,u52,u53,u54,u55,u56,u57,u58,u59,u60,u61,u62,u63,u64,u65,u66,u67,u68,u69,u70,u71,u72,u73,u74,u75,u76,u77,u78,u79,u80,u81,u82,u83,u84,u85,u86,u87,u88,u89,u90,u91,u92,u93,u94,u95,u96,u97,u98,u99,u100,u101,u102,u103,u104,u105,u106,u107,u108,u109,u110,u111,u112,u113,u114,u115,u116,u117,u118,u119,u120,u121,u122,u123,u124,u125,u126,u127,u128,u129,u130,u131,u132,u133,u134,u135,u136,u137,u138,u139,u140,u141,u142,u143,u144],defers := [] } wc := by
 intro Q_ K1_ a1_ K0_ a0_
 dsimp only [codeAt_,Option.getD,Tryd.f3] at a0_ a1_
 cases kq with
 | zero => exact absurd HA.out (by simp [Zc.j0])
 | succ kj2 =>
  have H := HA.out
  clear HA
  simp only [Zc.j0] at H
  by_cases c5 : x27_2 = true
  ·subst c5
   rw [if_pos rfl] at H
   obtain rfl := Option.some.inj H
   go_wp2
   go_ret
   exact ⟨zt_,zl_ HB⟩
  replace c5 := Bool.eq_false_iff.mpr c5
  subst c5
  rw [if_neg (show ¬ (false = true) by decide)] at H
  replace H := Option.bind_eq_some_iff.mp H
  obtain ⟨⟨t571,t572,t573,t574⟩,A60,H⟩ := H
  try dsimp only at H
  have A6 := am_ A60
  clear A60
  replace H := Option.bind_eq_some_iff.mp H
  obtain ⟨t576,A70,H⟩ := H
  try dsimp only at H
  have A7 := am_ A70
  clear A70
  replace H := Option.bind_eq_some_iff.mp H
  obtain ⟨t579,A80,H⟩ := H
  try dsimp only at H
  have A8 := am_ A80
  clear A80
  replace H := Option.bind_eq_some_iff.mp H
  obtain ⟨⟨t580,t581,t582,t583,t584,t587,t590⟩,A90,H⟩ := H
  try dsimp only at H
  have A9 := am_ A90
  clear A90
  have HC10 := am_ H
  clear H
  obtain ⟨tq,Aqt0,htq0,htq1,hyq⟩ := rowat_of A7.out
  have Aqt := am_ Aqt0
  clear Aqt0
  go_upto_region 7 with (first | ((with_reducible refine gate_callee (f := 4) rfl ?_);refine zgl (some 29) Tryd.func4 #[.slice A0 l0.length c0] ?_;(with_reducible refine (Yv.calls _ _ l0 t571 t572 t573 t574 _ ?side1 ?side2 A6.out).mono ?_);(case side1 => exact zc_ HR0 HB);(case side2 => exact HC0.out);rintro e w11 ⟨rfl,hb⟩;refine ⟨_,rfl,?_⟩;replace HB := zs_ HB hb;(try clear hb);(try clear hi)) | ((with_reducible refine gate_dst (N := 5) rfl ?_);(try (refine gate_guard (by rfl) ?_;dsimp only));refine zbx (N := 5) (cs := #[.string ⟨#[]⟩,.int .i64 0,.int .i64 0,.int .i64 0]) (t := 24) ?_;intro gb575 hg w12 hbox hb;have BK575 := am_ (hbox);have GW575 := zw_ HB hg;have GE575 := zw_ HB hg;replace HB := zs_ HB hb;clear hb hbox hg;obtain ⟨hcz13_0,hcz13_1,hcz13_2,hcz13_3,hfz13_0,hfz13_1,hfz13_2,hfz13_3⟩ := zc4 BK575) | ((with_reducible refine gate_dst (N := 30) rfl ?_);refine Kd.R_lit (Kd.int .i64) _ 3 ?hg (N := 30) ?hd (xs := ([0,1] : List Int)) (inner := [.int .i64 0,.int .i64 1]) (ok := fun _ => True) (okp := fun _ => True) ?hr ?hp (fun _ hk => hk) trivial (Below.refl _ _) (Nat.le_refl _) (by simp) ?_;(case hd => rfl);(case hg => rfl);(case hr => first | (go_simp;done) | (go_simp;rfl));(case hp => exact (Reps.one (show Kd.M (Kd.int .i64) _ _ _ (0 : Int) [.int .i64 0] from rfl) (Reps.one (show Kd.M (Kd.int .i64) _ _ _ (1 : Int) [.int .i64 1] from rfl) (Reps.none _ _))));intro vq30 wq30 ho3 hb hg_ hnew_;clear hg_ hnew_;have HOq30 := am_ (Kd.R_lower ho3 (below_size (zl_ HB)));replace BK575 := am_ (blk_below (g := gb575) (o := .cells #[.string t571,.int .i64 t572,.int .i64 t573,.int .i64 t574] 24 (0,0)) (zq BK575) hb);replace HB := zs_ HB hb;clear hb ho3;obtain ⟨Aq30,cq30,eq30⟩ : ∃ A_ c_,vq30 = .slice A_ 2 c_ := Kd.R_slice HOq30.out;subst eq30) | ((with_reducible refine gate_dst (N := 31) rfl ?_);refine Kd.R_lit (Kd.int .i64) _ 3 ?hg (N := 31) ?hd (xs := ([0,2] : List Int)) (inner := [.int .i64 0,.int .i64 2]) (ok := fun _ => True) (okp := fun _ => True) ?hr ?hp (fun _ hk => hk) trivial (Below.refl _ _) (Nat.le_refl _) (by simp) ?_;(case hd => rfl);(case hg => rfl);(case hr => first | (go_simp;done) | (go_simp;rfl));(case hp => exact (Reps.one (show Kd.M (Kd.int .i64) _ _ _ (0 : Int) [.int .i64 0] from rfl) (Reps.one (show Kd.M (Kd.int .i64) _ _ _ (2 : Int) [.int .i64 2] from rfl) (Reps.none _ _))));intro vq31 wq31 ho3 hb hg_ hnew_;clear hg_ hnew_;have HOq31 := am_ (Kd.R_lower ho3 (below_size (zl_ HB)));replace BK575 := am_ (blk_below (g := gb575) (o := .cells #[.string t571,.int .i64 t572,.int .i64 t573,.int .i64 t574] 24 (0,0)) (zq BK575) hb);replace HOq30 := zrb HOq30 hb;replace HB := zs_ HB hb;clear hb ho3;obtain ⟨Aq31,cq31,eq31⟩ : ∃ A_ c_,vq31 = .slice A_ 2 c_ := Kd.R_slice HOq31.out;subst eq31) | ((with_reducible refine gate_dst (N := 32) rfl ?_);refine Kd.R_lit (Kd.int .i64) _ 3 ?hg (N := 32) ?hd (xs := ([1,3] : List Int)) (inner := [.int .i64 1,.int .i64 3]) (ok := fun _ => True) (okp := fun _ => True) ?hr ?hp (fun _ hk => hk) trivial (Below.refl _ _) (Nat.le_refl _) (by simp) ?_;(case hd => rfl);(case hg => rfl);(case hr => first | (go_simp;done) | (go_simp;rfl));(case hp => exact (Reps.one (show Kd.M (Kd.int .i64) _ _ _ (1 : Int) [.int .i64 1] from rfl) (Reps.one (show Kd.M (Kd.int .i64) _ _ _ (3 : Int) [.int .i64 3] from rfl) (Reps.none _ _))));intro vq32 wq32 ho3 hb hg_ hnew_;clear hg_ hnew_;have HOq32 := am_ (Kd.R_lower ho3 (below_size (zl_ HB)));replace BK575 := am_ (blk_below (g := gb575) (o := .cells #[.string t571,.int .i64 t572,.int .i64 t573,.int .i64 t574] 24 (0,0)) (zq BK575) hb);replace HOq30 := zrb HOq30 hb;replace HOq31 := zrb HOq31 hb;replace HB := zs_ HB hb;clear hb ho3;obtain ⟨Aq32,cq32,eq32⟩ : ∃ A_ c_,vq32 = .slice A_ 2 c_ := Kd.R_slice HOq32.out;subst eq32) | ((with_reducible refine gate_dst (N := 33) rfl ?_);refine Kd.R_lit (Kd.int .i64) _ 3 ?hg (N := 33) ?hd (xs := ([2,3] : List Int)) (inner := [.int .i64 2,.int .i64 3]) (ok := fun _ => True) (okp := fun _ => True) ?hr ?hp (fun _ hk => hk) trivial (Below.refl _ _) (Nat.le_refl _) (by simp) ?_;(case hd => rfl);(case hg => rfl);(case hr => first | (go_simp;done) | (go_simp;rfl));(case hp => exact (Reps.one (show Kd.M (Kd.int .i64) _ _ _ (2 : Int) [.int .i64 2] from rfl) (Reps.one (show Kd.M (Kd.int .i64) _ _ _ (3 : Int) [.int .i64 3] from rfl) (Reps.none _ _))));intro vq33 wq33 ho3 hb hg_ hnew_;clear hg_ hnew_;have HOq33 := am_ (Kd.R_lower ho3 (below_size (zl_ HB)));replace BK575 := am_ (blk_below (g := gb575) (o := .cells #[.string t571,.int .i64 t572,.int .i64 t573,.int .i64 t574] 24 (0,0)) (zq BK575) hb);replace HOq30 := zrb HOq30 hb;replace HOq31 := zrb HOq31 hb;replace HOq32 := zrb HOq32 hb;replace HB := zs_ HB hb;clear hb ho3;obtain ⟨Aq33,cq33,eq33⟩ : ∃ A_ c_,vq33 = .slice A_ 2 c_ := Kd.R_slice HOq33.out;subst eq33) | ((with_reducible refine gate_dst (N := 34) rfl ?_);refine rows_event (N := 34) (cs := #[.slice Aq30 2 cq30,.slice Aq31 2 cq31,.slice Aq32 2 cq32,.slice Aq33 2 cq33]) (n := 4) (t := 26) ?_ ?hr;(case hr => first | (go_simp;done) | (go_simp;rfl));intro gq hg wq hbox hb;have BKq := am_ hbox;replace BK575 := am_ (blk_below (g := gb575) (o := .cells #[.string t571,.int .i64 t572,.int .i64 t573,.int .i64 t574] 24 (0,0)) (zq BK575) hb);replace HOq30 := zrb HOq30 hb;replace HOq31 := zrb HOq31 hb;replace HOq32 := zrb HOq32 hb;replace HOq33 := zrb HOq33 hb;replace HB := zs_ HB hb;clear hb hbox hg) | ((with_reducible refine gate_callee (f := 5) rfl ?_);refine zgl (some 36) Tryd.func5 #[.slice A1 l1.length c1,.int .i64 0,.int .i64 4] ?_;(with_reducible refine (Yy.calls _ _ l1 0 4 tq _ ?side1 ?side2 Aqt.out).mono ?_);(case side1 => exact zc_ HR1 HB);(case side2 => exact HC1.out);rintro e w14 ⟨rfl,hd_⟩;refine ⟨_,rfl,?_⟩;have hb := hd_.below;replace BK575 := am_ (blk_below (g := gb575) (o := .cells #[.string t571,.int .i64 t572,.int .i64 t573,.int .i64 t574] 24 (0,0)) (zq BK575) hb);replace HOq30 := zrb HOq30 hb;replace HOq31 := zrb HOq31 hb;replace HOq32 := zrb HOq32 hb;replace HOq33 := zrb HOq33 hb;replace BKq := am_ (blk_below (g := gq) (o := .cells #[.slice Aq30 2 cq30,.slice Aq31 2 cq31,.slice Aq32 2 cq32,.slice Aq33 2 cq33] 26 (0,0)) BKq.out hb);replace HB := zs_ HB hb;clear hb hd_;obtain ⟨v577,hvq,hRq⟩ := pick4 HOq30.out HOq31.out HOq32.out HOq33.out BKq.out htq0 htq1 hyq;have HO578 := am_ hRq;clear hRq HOq30 HOq31 HOq32 HOq33 BKq;have hq0 := eq_true htq0;have hq1 := eq_true htq1) | ((with_reducible refine gate_callee (f := 5) rfl ?_);refine zgl (some 40) Tryd.func5 #[.slice A1 l1.length c1,.int .i64 1,.int .i64 8] ?_;(with_reducible refine (Yy.calls _ _ l1 1 8 t579 _ ?side1 ?side2 A8.out).mono ?_);(case side1 => exact zc_ HR1 HB);(case side2 => exact HC1.out);rintro e w' ⟨rfl,⟨nd,rfl⟩⟩;refine ⟨_,rfl,?_⟩;(try (rw [drewN_self w14];generalize hq_ : World.drewN w14 _ = w14;have n0_ : Aside0 (Kd.R (Kd.int .i64) 3 w14 w.heap.size (fun _ => True) v577 t576) := ⟨by rw [← hq_];exact (zr HO578)⟩;have n1_ : Aside0 (w14.heap[gb575]? = some (.cells #[.string t571,.int .i64 t572,.int .i64 t573,.int .i64 t574] 24 (0,0))) := ⟨by rw [← hq_];exact (zk BK575)⟩;have n2_ : Aside0 (Below w.heap.size w w14) := ⟨by rw [← hq_];exact (zl_ HB)⟩;clear HO578 BK575 HB hq_;have HO578 := n0_;have BK575 := n1_;have HB := n2_;clear n0_ n1_ n2_));(try have hfu575_0 := blk_frozen BK575.out 0);(try have hcu575_0 : w14.cell? ⟨gb575,0,none⟩ = some (.string t571) := (blk_cell BK575.out 0).trans rfl);(try have hfu575_1 := blk_frozen BK575.out 1);(try have hcu575_1 : w14.cell? ⟨gb575,1,none⟩ = some (.int .i64 t572) := (blk_cell BK575.out 1).trans rfl);(try have hfu575_2 := blk_frozen BK575.out 2);(try have hcu575_2 : w14.cell? ⟨gb575,2,none⟩ = some (.int .i64 t573) := (blk_cell BK575.out 2).trans rfl);(try have hfu575_3 := blk_frozen BK575.out 3);(try have hcu575_3 : w14.cell? ⟨gb575,3,none⟩ = some (.int .i64 t574) := (blk_cell BK575.out 3).trans rfl);obtain ⟨hcz15_0,hcz15_1,hcz15_2,hcz15_3,hfz15_0,hfz15_1,hfz15_2,hfz15_3⟩ := zc4 BK575;obtain ⟨Ao16,co16,eo16⟩ := Kd.R_slice HO578.out;subst eo16) | ((with_reducible refine gate_callee (f := 6) rfl ?_);refine zgl (some 45) Tryd.func6 #[.int .i64 4,.agg #[.string t571,.int .i64 t572,.int .i64 t573,.int .i64 t574],.slice Ao16 t576.length co16,.int .i64 t579] ?_;(with_reducible refine (Zg.calls kj2 4 t571 t572 t573 t574 _ _ t576 t579 t580 t581 t582 t583 t584 t587 t590 _ ?side1 ?side2 ?side3 ?side4 A9.out).mono ?_);(case side1 => repeat (first | exact (Kd.R_reads' HO578.out).2.2 | (with_reducible refine Kd.C_alloc ?_ _) | (with_reducible refine Kd.C_drewN ?_ _) | (with_reducible refine Kd.C_drew ?_)));(case side2 => exact (Kd.R_reads' HO578.out).2.1);(case side3 => exact HLD.out.on (zl_ HB));(case side4 => exact HTD.out.on (zl_ HB));rintro e w17 ⟨v585,v588,rfl,ho0,ho1,hb⟩;refine ⟨_,rfl,?_⟩;have HO586 := am_ (Kd.R_lower (Kd.R_new' ho0 (Kd.R_lt (zr HO578))) (below_size (zl_ HB)));replace HO578 := am_ (Kd.R_elder' (zr HO578) (Kd.R_base ho0) hb);have HO589 := am_ (Kd.S_lower ho1 (below_size (zl_ HB)));replace BK575 := zb BK575 hb;replace HB := zs_ HB hb;(try clear hb);(try clear ho0);(try clear ho1)) | ((with_reducible refine gate_dst (N := 8) rfl ?_);(try (refine gate_guard (by rfl) ?_;dsimp only));refine zbx (N := 8) (cs := #[.string ⟨#[]⟩,.int .i64 0,.int .i64 0,.int .i64 0,.slice none 0 0,.slice none 0 0]) (t := 31) ?_;intro gb591 hg w18 hbox hb;replace HO578 := zrb HO578 hb;replace HO586 := zrb HO586 hb;replace HO589 := am_ (Kd.S_below (by (with_reducible repeat (first | apply Kd.S_alloc | apply Kd.S_drewN | apply Kd.S_drew));exact HO589.out) hb);have BK591 := am_ (hbox);have GW591 := zw_ HB hg;have GE591 := zw_ HB hg;replace HB := zs_ HB hb;have NB575_591 := zl hg BK575;have NB591_575 := zg hg BK575;replace BK575 := zb BK575 hb;clear hb hbox hg;have hnb19 := NB591_575.out;have hnc19 := NB575_591.out;obtain ⟨hcz20_0,hcz20_1,hcz20_2,hcz20_3,hcz20_4,hcz20_5,hfz20_0,hfz20_1,hfz20_2,hfz20_3,hfz20_4,hfz20_5⟩ := zc6 BK591;obtain ⟨Ao21,co21,eo21⟩ := Kd.R_slice HO586.out;subst eo21;obtain ⟨Ao22,co22,eo22⟩ := Kd.S_slice HO589.out;subst eo22))
  (try simp only [Act.put,p1_,p2_,p3_])
  go_cut [66] (fun v66 wc => ∃ (kq : Nat) (x66_9 : Bool),v66 = .bool x66_9 ∧ Aside0 (Zc.j1 kq t576 t579 x66_9 t571 t572 t573 t574 t580 t581 t582 t583 t584 t587 = some r) ∧ Aside0 (kq ≤ kj2) ∧ Aside0 (Kd.R (Kd.int .i64) 3 wc w.heap.size (fun k_ => some k_ ≠ ((.slice Ao21 t584.length co21) : Value).ownBlock) (.slice Ao16 t576.length co16) t576) ∧ Aside0 (Kd.R (Kd.int .i64) 3 wc w.heap.size (fun k_ => some k_ ≠ ((.slice Ao16 t576.length co16) : Value).ownBlock) (.slice Ao21 t584.length co21) t584) ∧ Aside0 (Kd.S k37 37 wc w.heap.size (fun _ => True) (.slice Ao22 t587.length co22) t587) ∧ Aside0 (wc.heap[gb575]? = some (.cells #[.string t571,.int .i64 t572,.int .i64 t573,.int .i64 t574] 24 (0,0))) ∧ Aside0 (wc.heap[gb591]? = some (.cells #[.string t580,.int .i64 t581,.int .i64 t582,.int .i64 t583,(.slice Ao21 t584.length co21),(.slice Ao22 t587.length co22)] 31 (0,0))) ∧ Aside0 (Below w.heap.size w wc))
  case first =>
   have H := HC10.out
   clear HC10
   by_cases c23 : t590 = 0
   case neg =>
    rw [if_neg c23] at H
    have c23b0 := beq_eq_false_iff_ne.mpr c23
    have c23b1 := bne_iff_ne.mpr c23
    (first | rw [c23b0] | (simp only [i64_w,i32_w];rw [c23b0]) | skip)
    have H' := am_ H
    clear H
    go_wp2
    go_meet
    case rel => exact ⟨_,(true),(by first | rfl | (simp;done) | (simp [*];done)),H',⟨by have := HJ2.out;first | omega | exact Nat.le_refl _⟩,⟨by (with_reducible repeat (first | apply r1_ | apply r2_ | apply r3_));exact Kd.R_mono (zrf (Kd.R_types HO578.out BK591.out (by decide))) (fun _ hk => hk.1.2)⟩,⟨by (with_reducible repeat (first | apply r1_ | apply r2_ | apply r3_));exact Kd.R_mono (zrf (Kd.R_types HO586.out BK591.out (by decide))) (fun _ hk => hk.1.2)⟩,⟨by (with_reducible repeat (first | apply Kd.S_alloc | apply Kd.S_drewN | apply Kd.S_drew));exact Kd.S_mono (Kd.S_far (p := ⟨gb591,5,none⟩) (Kd.S_far (p := ⟨gb591,4,none⟩) (Kd.S_far (p := ⟨gb591,3,none⟩) (Kd.S_far (p := ⟨gb591,2,none⟩) (Kd.S_far (p := ⟨gb591,1,none⟩) (Kd.S_far (p := ⟨gb591,0,none⟩) (Kd.S_types HO589.out BK591.out (by decide)) (fun _ hk => hk.2) (.string t580)) (fun _ hk => hk.2) (.int .i64 t581)) (fun _ hk => hk.2) (.int .i64 t582)) (fun _ hk => hk.2) (.int .i64 t583)) (fun _ hk => hk.2) (.slice Ao21 t584.length co21)) (fun _ hk => hk.2) (.slice Ao22 t587.length co22)) (fun _ hk => trivial)⟩,⟨zq BK575⟩,⟨zq BK591⟩,⟨zl_ HB⟩⟩
   rw [if_pos c23] at H
   have c23b0 := beq_iff_eq.mpr c23
   have c23b1 := bne_eq_false_iff_eq.mpr c23
   clear c23
   (first | rw [c23b0] | (simp only [i64_w,i32_w];rw [c23b0]) | skip)
   by_cases c24 : (t584.length : Int) = 2
   case neg =>
    rw [if_neg c24] at H
    have c24b0 := beq_eq_false_iff_ne.mpr c24
    have c24b1 := bne_iff_ne.mpr c24
    have H' := am_ H
    clear H
    have hnb32 := NB591_575.out
    have hnc32 := NB575_591.out
    obtain ⟨hcz33_0,hcz33_1,hcz33_2,hcz33_3,hcz33_4,hcz33_5,hfz33_0,hfz33_1,hfz33_2,hfz33_3,hfz33_4,hfz33_5⟩ := zc6 BK591
    go_wp2
    go_meet
    case rel => exact ⟨_,(true),(by first | rfl | (simp;done) | (simp [*];done)),H',⟨by have := HJ2.out;first | omega | exact Nat.le_refl _⟩,⟨by (with_reducible repeat (first | apply r1_ | apply r2_ | apply r3_));exact Kd.R_mono (zrf (Kd.R_types HO578.out BK591.out (by decide))) (fun _ hk => hk.1.2)⟩,⟨by (with_reducible repeat (first | apply r1_ | apply r2_ | apply r3_));exact Kd.R_mono (zrf (Kd.R_types HO586.out BK591.out (by decide))) (fun _ hk => hk.1.2)⟩,⟨by (with_reducible repeat (first | apply Kd.S_alloc | apply Kd.S_drewN | apply Kd.S_drew));exact Kd.S_mono (Kd.S_far (p := ⟨gb591,5,none⟩) (Kd.S_far (p := ⟨gb591,4,none⟩) (Kd.S_far (p := ⟨gb591,3,none⟩) (Kd.S_far (p := ⟨gb591,2,none⟩) (Kd.S_far (p := ⟨gb591,1,none⟩) (Kd.S_far (p := ⟨gb591,0,none⟩) (Kd.S_types HO589.out BK591.out (by decide)) (fun _ hk => hk.2) (.string t580)) (fun _ hk => hk.2) (.int .i64 t581)) (fun _ hk => hk.2) (.int .i64 t582)) (fun _ hk => hk.2) (.int .i64 t583)) (fun _ hk => hk.2) (.slice Ao21 t584.length co21)) (fun _ hk => hk.2) (.slice Ao22 t587.length co22)) (fun _ hk => trivial)⟩,⟨zq BK575⟩,⟨zq BK591⟩,⟨zl_ HB⟩⟩
   rw [if_pos c24] at H
   have c24b0 := beq_iff_eq.mpr c24
   have c24b1 := bne_eq_false_iff_eq.mpr c24
   clear c24
   by_cases c25 : (t587.length : Int) = 2
   case neg =>
    rw [if_neg c25] at H
    have c25b0 := beq_eq_false_iff_ne.mpr c25
    have c25b1 := bne_iff_ne.mpr c25
    have H' := am_ H
    clear H
    have hnb30 := NB591_575.out
    have hnc30 := NB575_591.out
    obtain ⟨hcz31_0,hcz31_1,hcz31_2,hcz31_3,hcz31_4,hcz31_5,hfz31_0,hfz31_1,hfz31_2,hfz31_3,hfz31_4,hfz31_5⟩ := zc6 BK591
    go_wp2
    go_meet
    case rel => exact ⟨_,(true),(by first | rfl | (simp;done) | (simp [*];done)),H',⟨by have := HJ2.out;first | omega | exact Nat.le_refl _⟩,⟨by (with_reducible repeat (first | apply r1_ | apply r2_ | apply r3_));exact Kd.R_mono (zrf (Kd.R_types HO578.out BK591.out (by decide))) (fun _ hk => hk.1.2)⟩,⟨by (with_reducible repeat (first | apply r1_ | apply r2_ | apply r3_));exact Kd.R_mono (zrf (Kd.R_types HO586.out BK591.out (by decide))) (fun _ hk => hk.1.2)⟩,⟨by (with_reducible repeat (first | apply Kd.S_alloc | apply Kd.S_drewN | apply Kd.S_drew));exact Kd.S_mono (Kd.S_far (p := ⟨gb591,5,none⟩) (Kd.S_far (p := ⟨gb591,4,none⟩) (Kd.S_far (p := ⟨gb591,3,none⟩) (Kd.S_far (p := ⟨gb591,2,none⟩) (Kd.S_far (p := ⟨gb591,1,none⟩) (Kd.S_far (p := ⟨gb591,0,none⟩) (Kd.S_types HO589.out BK591.out (by decide)) (fun _ hk => hk.2) (.string t580)) (fun _ hk => hk.2) (.int .i64 t581)) (fun _ hk => hk.2) (.int .i64 t582)) (fun _ hk => hk.2) (.int .i64 t583)) (fun _ hk => hk.2) (.slice Ao21 t584.length co21)) (fun _ hk => hk.2) (.slice Ao22 t587.length co22)) (fun _ hk => trivial)⟩,⟨zq BK575⟩,⟨zq BK591⟩,⟨zl_ HB⟩⟩
   rw [if_pos c25] at H
   have c25b0 := beq_iff_eq.mpr c25
   have c25b1 := bne_eq_false_iff_eq.mpr c25
   clear c25
   replace H := Option.bind_eq_some_iff.mp H
   obtain ⟨t592,A260,H⟩ := H
   try dsimp only at H
   have A26 := am_ A260
   clear A260
   have H' := am_ H
   clear H
   have hnb27 := NB591_575.out
   have hnc27 := NB575_591.out
   obtain ⟨hcz28_0,hcz28_1,hcz28_2,hcz28_3,hcz28_4,hcz28_5,hfz28_0,hfz28_1,hfz28_2,hfz28_3,hfz28_4,hfz28_5⟩ := zc6 BK591
   go_wp2_with (first | (go_at_call 7;(with_reducible refine (Zh.calls kj2 4 t580 t581 t582 t583 _ _ t584 _ _ t587 t592 _ ?side1 ?side2 ?side3 ?side4 ?side5 ?side6 A26.out).mono ?_);(case side1 => refine (Kd.R_reads' (e := 3) (base := w.heap.size) (ok := fun k_ => (True ∧ some k_ ≠ (.slice Ao16 t576.length co16 : Value).ownBlock)) (n := t584.length) (c := co21) ?_).2.2;exact (by (with_reducible repeat (first | apply r1_ | apply r2_ | apply r3_));exact (Kd.R_mono (zrf (Kd.R_types HO586.out BK591.out (by decide))) (fun _ h_ => h_.1))));(case side2 => exact (Kd.R_reads' HO586.out).2.1);(case side3 => refine (Kd.S_reads' (e := 37) (base := w.heap.size) (ok := fun k_ => True) (n := t587.length) (c := co22) ?_).2.2;exact (by (with_reducible repeat (first | apply Kd.S_alloc | apply Kd.S_drewN | apply Kd.S_drew));exact (Kd.S_mono (Kd.S_far (p := ⟨gb591,5,none⟩) (Kd.S_far (p := ⟨gb591,4,none⟩) (Kd.S_far (p := ⟨gb591,3,none⟩) (Kd.S_far (p := ⟨gb591,2,none⟩) (Kd.S_far (p := ⟨gb591,1,none⟩) (Kd.S_far (p := ⟨gb591,0,none⟩) (Kd.S_types HO589.out BK591.out (by decide)) (fun _ hk => hk.2) (.string t580)) (fun _ hk => hk.2) (.int .i64 t581)) (fun _ hk => hk.2) (.int .i64 t582)) (fun _ hk => hk.2) (.int .i64 t583)) (fun _ hk => hk.2) (.slice Ao21 t584.length co21)) (fun _ hk => hk.2) (.slice Ao22 t587.length co22)) (fun _ h_ => h_.1))));(case side4 => exact (Kd.S_reads' HO589.out).2.1);(case side5 => exact HLD.out.on (zl_ HB));(case side6 => exact HTD.out.on (zl_ HB));rintro e w29 ⟨rfl,hb⟩;replace HO578 := am_ (Kd.R_below (by (with_reducible repeat (first | apply r1_ | apply r2_ | apply r3_));exact (Kd.R_mono (zrf (Kd.R_types HO578.out BK591.out (by decide))) (fun _ h_ => h_.1))) hb);replace HO586 := am_ (Kd.R_below (by (with_reducible repeat (first | apply r1_ | apply r2_ | apply r3_));exact (Kd.R_mono (zrf (Kd.R_types HO586.out BK591.out (by decide))) (fun _ h_ => h_.1))) hb);replace HO589 := am_ (Kd.S_below (by (with_reducible repeat (first | apply Kd.S_alloc | apply Kd.S_drewN | apply Kd.S_drew));exact (Kd.S_mono (Kd.S_far (p := ⟨gb591,5,none⟩) (Kd.S_far (p := ⟨gb591,4,none⟩) (Kd.S_far (p := ⟨gb591,3,none⟩) (Kd.S_far (p := ⟨gb591,2,none⟩) (Kd.S_far (p := ⟨gb591,1,none⟩) (Kd.S_far (p := ⟨gb591,0,none⟩) (Kd.S_types HO589.out BK591.out (by decide)) (fun _ hk => hk.2) (.string t580)) (fun _ hk => hk.2) (.int .i64 t581)) (fun _ hk => hk.2) (.int .i64 t582)) (fun _ hk => hk.2) (.int .i64 t583)) (fun _ hk => hk.2) (.slice Ao21 t584.length co21)) (fun _ hk => hk.2) (.slice Ao22 t587.length co22)) (fun _ h_ => h_.1))) hb);replace BK575 := am_ (blk_below (g := gb575) (o := .cells #[.string t571,.int .i64 t572,.int .i64 t573,.int .i64 t574] 24 (0,0)) (zq BK575) hb);replace BK591 := am_ (blk_below (g := gb591) (o := .cells #[.string t580,.int .i64 t581,.int .i64 t582,.int .i64 t583,.slice Ao21 t584.length co21,.slice Ao22 t587.length co22] 31 (0,0)) (zq BK591) hb);replace HB := zs_ HB hb;(try clear hb)))
   go_meet
   case rel => exact ⟨_,((t592 != 0)),(by first | rfl | (simp;done) | (simp [*];done)),H',⟨by have := HJ2.out;first | omega | exact Nat.le_refl _⟩,⟨by (with_reducible repeat (first | apply r1_ | apply r2_ | apply r3_));exact Kd.R_mono HO578.out (fun _ hk => hk.2)⟩,⟨by (with_reducible repeat (first | apply r1_ | apply r2_ | apply r3_));exact Kd.R_mono HO586.out (fun _ hk => hk.2)⟩,⟨by (with_reducible repeat (first | apply Kd.S_alloc | apply Kd.S_drewN | apply Kd.S_drew));exact HO589.out⟩,⟨by (with_reducible repeat (first | apply k1_ | apply k2_ | apply k3_));exact BK575.out⟩,⟨by (with_reducible repeat (first | apply k1_ | apply k2_ | apply k3_));exact BK591.out⟩,⟨zl_ HB⟩⟩
  case rest =>
   clear HC10
   try clear c1
   try clear c2
   try clear p2
   try clear c3
   try clear c4
   try clear c4b0
   try clear c4b1
   try clear c5
   try clear c6
   try clear c11
   try clear c19
   try clear c23
   try clear c23b0
   try clear c23b1
   try clear c24
   try clear c24b0
   try clear c24b1
   try clear c25
   try clear c25b0
   try clear c25b1
   try clear c27
   try clear c30
   try clear c32
   try clear hcz13_0
   try clear hcz13_1
   try clear hcz13_2
   try clear hcz13_3
   try clear hcz15_0
   try clear hcz15_1
   try clear hcz15_2
   try clear hcz15_3
   try clear hcz20_0
   try clear hcz20_1
   try clear hcz20_2
   try clear hcz20_3
   try clear hcz20_4
   try clear hcz20_5
   try clear hcz28_0
   try clear hcz28_1
   try clear hcz28_2
   try clear hcz28_3
   try clear hcz28_4
   try clear hcz28_5
   try clear hcz31_0
   try clear hcz31_1
   try clear hcz31_2
   try clear hcz31_3
   try clear hcz31_4
   try clear hcz31_5
   try clear hcz33_0
   try clear hcz33_1
   try clear hcz33_2
   try clear hcz33_3
   try clear hcz33_4
   try clear hcz33_5
   try clear hfz13_0
   try clear hfz13_1
   try clear hfz13_2
   try clear hfz13_3
   try clear hfz15_0
   try clear hfz15_1
   try clear hfz15_2
   try clear hfz15_3
   try clear hfz20_0
   try clear hfz20_1
   try clear hfz20_2
   try clear hfz20_3
   try clear hfz20_4
   try clear hfz20_5
   try clear hfz28_0
   try clear hfz28_1
   try clear hfz28_2
   try clear hfz28_3
   try clear hfz28_4
   try clear hfz28_5
   try clear hfz31_0
   try clear hfz31_1
   try clear hfz31_2
   try clear hfz31_3
   try clear hfz31_4
   try clear hfz31_5
   try clear hfz33_0
   try clear hfz33_1
   try clear hfz33_2
   try clear hfz33_3
   try clear hfz33_4
   try clear hfz33_5
   try clear p2
   obtain ⟨kq,x66_9,rfl,HA,HJ9,HO_6,HO_592004,HO_592005,BK575,BK591,HB⟩ := hcut
   exact Zc.part1 k A0 c0 l0 A1 c1 l1 r w hu24 hu31 hu37 HLD HTD kj2 HJ2 t571 t572 t573 t574 t576 t579 t580 t581 t582 t583 t584 t587 t590 gb575 Ao16 co16 gb591 NB575_591 NB591_575 hnb19 hnc19 Ao21 co21 Ao22 co22 wc u20 u21 u22 u23 u24 u25 u26 u27 u28 u29 u30 u31 u32 u33 u34 u35 u36 u37 u38 u39 u40 u41 u42 u43 u44 u45 u46 u47 u48 u49 u50 u51 u52 u53 u54 u55 u56 u57 u58 u59 u60 u61 u62 u63 u64 u65 u67 u68 u69 u70 u71 u72 u73 u74 u75 u76 u77 u78 u79 u80 u81 u82 u83 u84 u85 u86 u87 u88 u89 u90 u91 u92 u93 u94 u95 u96 u97 u98 u99 u100 u101 u102 u103 u104 u105 u106 u107 u108 u109 u110 u111 u112 u113 u114 u115 u116 u117 u118 u119 u120 u121 u122 u123 u124 u125 u126 u127 u128 u129 u130 u131 u132 u133 u134 u135 u136 u137 u138 u139 u140 u141 u142 u143 u144 kq x66_9 HA HJ9 HO_6 HO_592004 HO_592005 BK575 BK591 HB _ (by assumption) _ (by assumption)
theorem Zc.calls (k : Nat) (A0 : Option Addr) (c0 : Nat) (l0 : List Int) (A1 : Option Addr) (c1 : Nat) (l1 : List Int) (r : Bool) (w : World) (hr0 : Kd.C (Kd.int .u8) w A0 l0.length l0) (hc0 : l0.length ≤ c0) (hr1 : Kd.C (Kd.int .u8) w A1 l1.length l1) (hc1 : l1.length ≤ c1) (hL : Laid w) (hT : LaidT w) (h : Zc.f k l0 l1 = some r) :
  Calls Tryd.prog 3 #[.slice A0 l0.length c0,.slice A1 l1.length c1] w fun e w' => e = .returned (.bool r) ∧ Below w.heap.size w w' := by
 have hu24 := Tryd.underlying24
 have hu31 := Tryd.underlying31
 have hu37 := Tryd.underlying37
 have HR0 := am_ hr0
 have HC0 := am_ hc0
 clear hr0 hc0
 have HR1 := am_ hr1
 have HC1 := am_ hc1
 clear hr1 hc1
 have HLD := am_ hL
 clear hL
 have HTD := am_ hT
 clear hT
 have HB := am_ (Below.refl w.heap.size w)
 have H : (if (l0.length : Int) > 1048576 then (Zc.j0 k l0 l1 true) else (Zc.j0 k l0 l1 (decide ((l1.length : Int) > 1048576)))) = some r := h
 clear h
 have HC3 := am_ H
 clear H
 go_enter Tryd.func3,Tryd.ntmps3
 go_upto_region 1 with (fail)
 go_cut [27] (fun v27 wc => ∃ (kq : Nat) (x27_2 : Bool),v27 = .bool x27_2 ∧ Aside0 (Zc.j0 kq l0 l1 x27_2 = some r) ∧ Aside0 (kq ≤ k) ∧ Aside0 (Below w.heap.size w wc))
 case first =>
  have H := HC3.out
  clear HC3
  by_cases c4 : (l0.length : Int) > 1048576
  ·rw [if_pos c4] at H
   have c4b0 : decide (1048576 < (l0.length : Int)) = true := decide_eq_true c4
   have c4b1 : decide (1048576 < l0.length) = true := decide_eq_true (by omega)
   clear c4
   (first | rw [c4b0] | (simp only [i64_w,i32_w];rw [c4b0]) | skip)
   have H' := am_ H
   clear H
   go_wp2
   go_meet
   case rel => exact ⟨_,(true),(by first | rfl | (simp;done) | (simp [*];done)),H',⟨by first | omega | exact Nat.le_refl _⟩,⟨zl_ HB⟩⟩
  rw [if_neg c4] at H
  have c4b0 : decide (1048576 < (l0.length : Int)) = false := decide_eq_false c4
  have c4b1 : decide (1048576 < l0.length) = false := decide_eq_false (by omega)
  clear c4
  (first | rw [c4b0] | (simp only [i64_w,i32_w];rw [c4b0]) | skip)
  have H' := am_ H
  clear H
  go_wp2
  go_meet
  case rel => exact ⟨_,(decide ((l1.length : Int) > 1048576)),(by first | rfl | (simp;done) | (simp [*];done)),H',⟨by first | omega | exact Nat.le_refl _⟩,⟨zl_ HB⟩⟩
 case rest =>
  clear HC3
  try clear c1
  try clear p2
  try clear c3
  try clear c4
  try clear c4b0
  try clear c4b1
  obtain ⟨kq,x27_2,rfl,HA,HJ2,HB⟩ := hcut
  exact Zc.part0 k A0 c0 l0 A1 c1 l1 r w hu24 hu31 hu37 HR0 HC0 HR1 HC1 HLD HTD wc u20 u21 u22 u23 u24 u25 u26 u28 u29 u30 u31 u32 u33 u34 u35 u36 u37 u38 u39 u40 u41 u42 u43 u44 u45 u46 u47 u48 u49 u50 u51 u52 u53 u54 u55 u56 u57 u58 u59 u60 u61 u62 u63 u64 u65 u66 u67 u68 u69 u70 u71 u72 u73 u74 u75 u76 u77 u78 u79 u80 u81 u82 u83 u84 u85 u86 u87 u88 u89 u90 u91 u92 u93 u94 u95 u96 u97 u98 u99 u100 u101 u102 u103 u104 u105 u106 u107 u108 u109 u110 u111 u112 u113 u114 u115 u116 u117 u118 u119 u120 u121 u122 u123 u124 u125 u126 u127 u128 u129 u130 u131 u132 u133 u134 u135 u136 u137 u138 u139 u140 u141 u142 u143 u144 kq x27_2 HA HJ2 HB _ (by assumption) _ (by assumption)
end Go.Proofs.YtkfhejklnmkfmaaDoor.A
end
