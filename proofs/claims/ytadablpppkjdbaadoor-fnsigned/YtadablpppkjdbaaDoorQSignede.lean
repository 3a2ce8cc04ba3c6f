/- A part of the proof that FnSigned returns true at every input: plain functions, contracts and lemmas. No conditions. -/
import Derived.Test.YtadablpppkjdbaaDoorQSignedd
set_option linter.unusedVariables false
set_option linter.unusedSimpArgs false
set_option linter.unusedSectionVars false
section
namespace Go.Proofs.YtadablpppkjdbaaDoor.A
open Go.RowKit Go.Proofs.YtadablpppkjdbaaDoorW.PrintWords Go.Proofs.YtadablpppkjdbaaDoorW.PrintLast Go.Proofs.YtadablpppkjdbaaDoorW.PrintMore
attribute [local go_sem] max2_int min2_int max_two min_two max_three min_three max_four min_four
set_option maxHeartbeats 8000000 in
set_option maxRecDepth 100000 in
theorem spec_l04Secret.calls (k : Nat) (a0 : Int) (r : ByteArray) (w : World) (h : spec_l04Secret.f k a0 = some r) :
  Calls Tryd.prog 176 #[.int .i64 a0] w fun e w' => e = .returned (.string r) ∧ Below w.heap.size w w' := by
 have HB := am_ (Below.refl w.heap.size w)
 have H : ((some (([(a0) % 256] : List Int) : List Int)).bind fun y679 => (if 8 + (strOfNums y679).size ≤ 9223372036854775807 then (if ((⟨#[110,111,100,101,32,107,101,121]⟩ : ByteArray) ++ (strOfNums y679)).size ≤ 140737488355328 then ((spec_l01Hash.f k (bytesOf ((⟨#[110,111,100,101,32,107,101,121]⟩ : ByteArray) ++ (strOfNums y679)))).bind fun t685 => (some t685)) else (none)) else (none))) = some r := h
 clear h
 obtain ⟨y679,hy679⟩ : ∃ y_ : List Int,y_ = (([(a0) % 256] : List Int)) := ⟨_,rfl⟩
 replace H : (if 8 + (strOfNums y679).size ≤ 9223372036854775807 then (if ((⟨#[110,111,100,101,32,107,101,121]⟩ : ByteArray) ++ (strOfNums y679)).size ≤ 140737488355328 then ((spec_l01Hash.f k (bytesOf ((⟨#[110,111,100,101,32,107,101,121]⟩ : ByteArray) ++ (strOfNums y679)))).bind fun t685 => (some t685)) else (none)) else (none)) = some r := by first | (rw [hy679];with_reducible exact H) | (have H2_ := (Option.bind_some _ _).symm.trans H;rw [hy679];with_reducible exact H2_) | (have H2_ := (Option.bind_some _ _).symm.trans H;with_reducible exact H2_) | with_reducible exact H | (rw [hy679];exact H) | exact H
 have Ny679 := am_ hy679
 clear hy679
 by_cases c2 : 8 + (strOfNums y679).size ≤ 9223372036854775807
 ·rw [if_pos c2] at H
  have c2b0 := eq_true c2
  have c2b1 : decide (8 + (strOfNums y679).size ≤ 9223372036854775807) = true := decide_eq_true c2
  try have c2b2 : (9223372036854775807 < 8 + (strOfNums y679).size) = False := eq_false (Nat.not_lt.2 c2)
  by_cases c3 : ((⟨#[110,111,100,101,32,107,101,121]⟩ : ByteArray) ++ (strOfNums y679)).size ≤ 140737488355328
  ·rw [if_pos c3] at H
   have c3b0 := eq_true c3
   have c3b1 : decide (((⟨#[110,111,100,101,32,107,101,121]⟩ : ByteArray) ++ (strOfNums y679)).size ≤ 140737488355328) = true := decide_eq_true c3
   obtain ⟨y682,hy682⟩ : ∃ y_ : List Int,y_ = (bytesOf ((⟨#[110,111,100,101,32,107,101,121]⟩ : ByteArray) ++ (strOfNums y679))) := ⟨_,rfl⟩
   replace H : ((spec_l01Hash.f k y682).bind fun t685 => (some t685)) = some r := by first | (rw [hy682];with_reducible exact H) | (have H2_ := (Option.bind_some _ _).symm.trans H;rw [hy682];with_reducible exact H2_) | (have H2_ := (Option.bind_some _ _).symm.trans H;with_reducible exact H2_) | with_reducible exact H | (rw [hy682];exact H) | exact H
   have Ny682 := am_ hy682
   clear hy682
   replace H := Option.bind_eq_some_iff.mp H
   obtain ⟨t685,A40,H⟩ := H
   try dsimp only at H
   have A4 := am_ A40
   clear A40
   obtain rfl := Option.some.inj H
   go_enter Tryd.func176,Tryd.ntmps176
   go_wp2_with (first | ((with_reducible refine gate_dst (N := 5) rfl ?_);refine Kd.R_lit (Kd.int .u8) _ 5 ?hg (N := 5) ?hd (xs := ([(a0) % 256] : List Int)) (inner := [.int .u8 ((a0) % 256)]) (ok := fun _ => True) (okp := fun _ => True) ?hr ?hp (fun _ hk => hk) trivial (Below.refl _ _) (Nat.le_refl _) (by simp) ?_;(case hd => rfl);(case hg => rfl);(case hr => first | (go_simp;done) | (go_simp;rfl));(case hp => exact (Reps.one (show Kd.M (Kd.int .u8) _ _ _ ((a0) % 256) [.int .u8 ((a0) % 256)] from rfl) (Reps.none _ _)));intro v680 w5 ho6 hb hg_ hnew_;clear hg_ hnew_;(first | rw [← Ny679.out] at ho6 | (simp only [Int.reduceToNat] at ho6;rw [← Ny679.out] at ho6));have HO681 := am_ (Kd.R_lower ho6 (below_size (zl_ HB)));replace HB := zs_ HB hb;clear hb ho6;have hcv7 := own_string (P := Tryd.prog) Tryd.underlying31 Tryd.underlying5 Tryd.underlying9 (Kd.own_of_R HO681.out)) | ((with_reducible refine gate_dst (N := 8) rfl ?_);refine Kd.V_conv (Kd.int .u8) rfl _ 5 rfl (N := 8) rfl 9 31 _ rfl ((⟨#[110,111,100,101,32,107,101,121]⟩ : ByteArray) ++ (strOfNums y679)) rfl Tryd.underlying9 Tryd.underlying31 Tryd.underlying5 (ok := fun k_ => w5.heap.size ≤ k_) (okp := fun _ => False) (fun _ hk => hk.elim) (Nat.le_refl _) (by have := o1_ (by first | (with_reducible assumption) | assumption : decide (((⟨#[110,111,100,101,32,107,101,121]⟩ : ByteArray) ++ (strOfNums y679)).size ≤ 140737488355328) = true);omega) (Below.refl _ _) (Nat.le_refl _) ?_;intro v683 w8 ho9 hb hg_ hnew_;clear hg_ hnew_;(first | rw [← Ny682.out] at ho9 | (simp only [Int.reduceToNat] at ho9;rw [← Ny682.out] at ho9));have HO684 := am_ (Kd.V_lower (Kd.V_mono (ok' := fun k_ => some k_ ≠ (v680 : Value).ownBlock) ho9 (fun k_ hk_ => (Kd.fresh' (Kd.R_lt (zr HO681)) k_ hk_))) (below_size (zl_ HB)));replace HB := zs_ HB hb;clear hb ho9;obtain ⟨Ao10,co10,eo10⟩ := Kd.V_slice HO684.out;subst eo10) | ((with_reducible refine gate_callee (f := 123) rfl ?_);refine zgl (some 9) Tryd.func123 #[.slice Ao10 y682.length co10] ?_;(with_reducible refine (spec_l01Hash.calls k _ _ y682 t685 _ ?side1 ?side2 A4.out).mono ?_);(case side1 => repeat (first | exact (Kd.V_reads' HO684.out).2.2 | (with_reducible refine Kd.C_alloc ?_ _) | (with_reducible refine Kd.C_drewN ?_ _) | (with_reducible refine Kd.C_drew ?_)));(case side2 => exact (Kd.V_reads' HO684.out).2.1);rintro e w11 ⟨rfl,hb⟩;refine ⟨_,rfl,?_⟩;replace HB := zs_ HB hb;(try clear hb);(try clear hb2);(try clear hk);(try clear hi)))
   go_ret
   exact ⟨zt_,zl_ HB⟩
  ·rw [if_neg c3] at H
   exact absurd H (by simp)
 ·rw [if_neg c2] at H
  exact absurd H (by simp)
end Go.Proofs.YtadablpppkjdbaaDoor.A
end

section
namespace Go.Proofs.YtadablpppkjdbaaDoor.A
open Go.RowKit Go.Proofs.YtadablpppkjdbaaDoorW.PrintWords Go.Proofs.YtadablpppkjdbaaDoorW.PrintLast Go.Proofs.YtadablpppkjdbaaDoorW.PrintMore
theorem bm_C {W : World} {g cap : Nat} {l : List Int} (h : Bm W g cap l) (hl : l.length ≤ 140737488355328) : Kd.C (Kd.int .u8) W (some ⟨g, 0, none⟩) l.length l :=
  Kd.C_of_reads (enc := Value.int .u8) (d := (0 : Int)) (h1 := fun _ => rfl) ⟨rfl, by omega, fun hn => ⟨⟨g, 0, none⟩, rfl, fun j hj => by rw [add0]; exact h.cell j hj⟩⟩
theorem firstCells_C {P : Program} {W : World} {A : Option Addr} {c : Nat} {ys : List Int} (hC : Kd.C (Kd.int .u8) W A ys.length ys) : ∀ W', W'.heap = W.heap → (Builtin.firstCells 1 ys.length (.slice A ys.length c)).run P W' = .ok (nums .u8 ys).toArray W' := by
  intro W' hW
  by_cases h0 : 0 < ys.length
  · obtain ⟨ad, e, cc⟩ := Kd.at_int hC 0 (by decide) (by omega)
    subst e
    refine run_firstCells_some (P := P) W' 1 ys.length ad ys.length c (nums .u8 ys) (by rw [nums_length]; omega) (fun j v hj => ?_)
    have hjl : j < ys.length := by
      have := (List.getElem?_eq_some_iff.1 hj).1
      rw [nums_length] at this
      exact this
    obtain ⟨ad2, e2, c2⟩ := Kd.at_int hC (j : Int) (by omega) (by omega)
    obtain rfl : ad = ad2 := Option.some.inj e2
    rw [Int.toNat_natCast] at c2
    have hc : W'.cell? (ad.add j) = W.cell? (ad.add j) := by unfold World.cell?; rw [hW]
    rw [hc, c2]
    simp only [nums, List.getElem?_map, List.getElem?_eq_getElem hjl, Option.map_some, Option.some.injEq] at hj
    subst hj
    simp [rd, List.getD, hjl]
  · have h1 : ys = [] := List.eq_nil_of_length_eq_zero (by omega)
    subst h1
    cases A with
    | none => simp [Builtin.firstCells, nums]
    | some ad => exact run_firstCells_some (P := P) W' 1 0 ad 0 c [] rfl (fun j v hj => by simp at hj)
theorem appendC_hs {P : Program} {ops : Array Oper} {rest : List Oper} {o : Oper} {a : Act} {Q : Exit → Act → World → Prop} {w W : World} {n g cap : Nat} {l ys : List Int} {A : Option Addr} {c : Nat} (t e : TypeId) (hgd : o.guard = none) (s x : Operand)
    (ho : o.op = .call { callee := .builtin .append, args := #[s, x], argTypes := #[t, t] })
    (ht : P.underlying t = some (.slice e)) (hinfo : (P.info? e).map (fun i => (i.zero, i.size, i.bytes)) = some (some (.int .u8 0), 1, 1))
    (hs : a.eval s = .slice (some ⟨g, 0, none⟩) l.length cap) (hx : a.eval x = .slice A ys.length c) (hC : Kd.C (Kd.int .u8) W A ys.length ys) (hne : 0 < l.length) (HB : Hs w W n g cap l) (hl : l.length + ys.length ≤ 140737488355328)
    (h : ∀ g' cap' w1, Hs w w1 n g' cap' (l ++ ys) → wpList P ops Q rest (a.put o.dst (.slice (some ⟨g', 0, none⟩) (l ++ ys).length cap')) w1) :
    wpList P ops Q (o :: rest) a W := by
  obtain ⟨g', cap', w1, hr, hb, hg, hat⟩ := run_append_bm (P := P) (W := W) t t o.type e ht (Or.inr ht) hinfo (.slice A ys.length c) ys (fun W' => by simp [Builtin.lenOf]) (firstCells_C hC) HB.row hl
  refine wpList_plain hgd fun K hK => ?_
  unfold Oper.wp execOp
  simp only [ho, resolve, invoke, builtin, Sem.run_bind, Sem.run_pure, Result.andThen_ok, List.map_toArray, List.map_cons, List.map_nil, hs, hx, hr]
  refine hK _ _ ?_
  have := h g' cap' w1 (HB.after hb (by have := hb.room; rw [List.length_append] at this; omega) hg hat)
  rwa [List.length_append] at this
set_option maxHeartbeats 2000000 in
set_option maxRecDepth 100000 in
theorem mac_walk (k : Nat) (a0 : Int) (A1 : Option Addr) (c1 : Nat) (l1 : List Int) (t t2 : ByteArray) (w : World) (hr1 : Kd.C (Kd.int .u8) w A1 l1.length l1) (hc1 : l1.length ≤ c1) (h1 : spec_l04Secret.f k a0 = some t) (hz : t.size + l1.length < 140737488355328) (h0 : 0 < t.size) (h2 : spec_l01Hash.f k (bytesOf t ++ l1) = some t2) (h8 : 8 ≤ t2.size) :
    Calls Tryd.prog 128 #[.int .i64 a0, .slice A1 l1.length c1] w fun e w' => e = .returned (.string (t2.extract 0 8)) ∧ Below w.heap.size w w' := by
  have HR := Aside0.mk hr1
  have HC := Aside0.mk hc1
  have H1 := Aside0.mk h1
  have H2 := Aside0.mk h2
  have hb : (bytesOf t).length = t.size := bytesOf_length t
  have HZ := Aside0.mk (And.intro hb (And.intro hz h0))
  clear hr1 hc1 h1 h2 hb hz h0
  have h8i : (8 : Int) ≤ (t2.size : Int) := by omega
  go_enter Tryd.func128, Tryd.ntmps128
  go_wp2_with (first | (go_at_call 176; with_reducible refine (spec_l04Secret.calls k a0 t _ H1.out).mono ?_; rintro e w1 ⟨rfl, hb1⟩; have B1 := Aside0.mk hb1; clear hb1) | ((with_reducible refine gate_dst (N := 7) rfl ?_); refine conv_hs 5 rfl 9 31 _ rfl t rfl Tryd.underlying9 Tryd.underlying31 Tryd.underlying5 ?_; intro g cap w2 F0; have F := Aside0.mk F0; clear F0) | ((with_reducible refine gate_builtin (b := .append) (xs := #[.tmp 7, .tmp 8]) rfl ?_); at_builtin; refine appendC_hs (l := bytesOf t) (ys := l1) 31 5 rfl (.tmp 7) (.tmp 8) rfl Tryd.underlying31 info5 (by rw [HZ.out.1]; rfl) rfl (Kd.C_below HR.out (Below.trans B1.out (F.out.below.mono B1.out.size))) (by have := HZ.out; omega) F.out (by have := HZ.out; omega) ?_; clear F; intro g' cap' w3 F0; have F := Aside0.mk F0; clear F0) | (go_at_call 123; refine calls_of_args (args' := #[.slice (some ⟨g', 0, none⟩) (bytesOf t ++ l1).length cap']) (by rw [List.length_append]) ?_; with_reducible refine (spec_l01Hash.calls k (some ⟨g', 0, none⟩) cap' (bytesOf t ++ l1) t2 _ (bm_C F.out.row (by have := HZ.out; rw [List.length_append]; omega)) F.out.row.room H2.out).mono ?_; rintro e w4 ⟨rfl, hb4⟩; have B4 := Aside0.mk (Below.trans (Below.trans B1.out (F.out.below.mono B1.out.size)) (hb4.mono (Nat.le_trans B1.out.size F.out.below.size))); clear hb4 F B1))
  go_ret
  exact ⟨by first | rfl | (simp; done), B4.out⟩
end Go.Proofs.YtadablpppkjdbaaDoor.A
end

section
namespace Go.Proofs.YtadablpppkjdbaaDoor.A
open Go.RowKit Go.Proofs.YtadablpppkjdbaaDoorW.PrintWords Go.Proofs.YtadablpppkjdbaaDoorW.PrintLast Go.Proofs.YtadablpppkjdbaaDoorW.PrintMore
attribute [local go_sem] max2_int min2_int max_two min_two max_three min_three max_four min_four
theorem spec_l04Mac.calls (k : Nat) (a0 : Int) (A1 : Option Addr) (c1 : Nat) (l1 : List Int) (r : ByteArray) (w : World) (hr1 : Kd.C (Kd.int .u8) w A1 l1.length l1) (hc1 : l1.length ≤ c1) (h : spec_l04Mac.f k a0 l1 = some r) :
  Calls Tryd.prog 128 #[.int .i64 a0,.slice A1 l1.length c1] w fun e w' => e = .returned (.string r) ∧ Below w.heap.size w w' := by
 unfold spec_l04Mac.f at h
 obtain ⟨t1,h1,h⟩ := Option.bind_eq_some_iff.1 h
 by_cases c : t1.size + l1.length < 140737488355328 ∧ 0 < t1.size
 ·rw [if_pos c] at h
  obtain ⟨t2,h2,h⟩ := Option.bind_eq_some_iff.1 h
  by_cases c8 : 8 ≤ t2.size
  ·rw [if_pos c8] at h
   obtain rfl := Option.some.inj h
   exact mac_walk k a0 A1 c1 l1 t1 t2 w hr1 hc1 h1 c.1 c.2 h2 c8
  ·rw [if_neg c8] at h
   cases h
 ·rw [if_neg c] at h
  cases h
def spec_l06Signed.T1 : Bool × List (List Nat × List Nat) := (true,[([],[]),([0],[0]),([1,1],[1]),([2],[2]),([3,2],[2,3]),([2],[2]),([4,5,2],[2,4,5]),([2,6],[2,6]),([7,2],[7]),([8],[8]),([9,8],[8,9]),([8],[8]),([11,8,8],[8,11]),([10,12,12,8],[8,10,12]),([8],[8]),([14,8],[8,14]),([13,15,8],[8,13,15]),([8,16],[8,16]),([17,13,0,1,2,3,4,5,6,7,8,9,10,11,12,13,14,15,16,17],[17])])
def spec_l06Signed.B1 : List Nat := [0,1,3,7,15,7,63,127,255,511,1023,511,2559,8191,511,16895,65535,131071,262143]
theorem spec_l06Signed.tab1 : rtab .any (opsOf Tryd.f74 1) = spec_l06Signed.T1 := by kernel_rfl
theorem spec_l06Signed.bits1 : waitsOk spec_l06Signed.T1.2 spec_l06Signed.B1 = true := by kernel_rfl
set_option maxHeartbeats 8000000 in
set_option maxRecDepth 100000 in
theorem spec_l06Signed.calls (k : Nat) (a0 : Int) (a1_0 : Int) (a1_1 : Int) (a1_2 : Int) (a1_3 : Int) (a1_4 : ByteArray) (a1_5 : ByteArray) (a1_6 : ByteArray) (r : Bool) (w : World) (h : spec_l06Signed.f k a0 a1_0 a1_1 a1_2 a1_3 a1_4 a1_5 a1_6 = some r) :
  Calls Tryd.prog 74 #[.int .i64 a0,.agg #[.int .i64 a1_0,.int .i64 a1_1,.int .i64 a1_2,.int .i64 a1_3,.string a1_4,.string a1_5,.string a1_6]] w fun e w' => e = .returned (.bool r) ∧ Below w.heap.size w w' := by
 have hu33 := Tryd.underlying33
 have HB := am_ (Below.refl w.heap.size w)
 have H : ((spec_MessageOK.f k a1_0 a1_1 a1_2 a1_3 a1_4 a1_5 a1_6).bind fun t728 => (if t728 = true then (if a1_3 < a0 then ((spec_l02Plain.f k a1_0 a1_1 a1_2 a1_3 a1_4 a1_5 a1_6).bind fun t729 => ((spec_l04Mac.f k a1_3 t729).bind fun t732 => (some (t732.toList == a1_6.toList)))) else (some false)) else (some false))) = some r := h
 clear h
 replace H := Option.bind_eq_some_iff.mp H
 obtain ⟨t728,A30,H⟩ := H
 try dsimp only at H
 have A3 := am_ A30
 clear A30
 by_cases c4 : t728 = true
 ·subst c4
  have H1 : (if a1_3 < a0 then ((spec_l02Plain.f k a1_0 a1_1 a1_2 a1_3 a1_4 a1_5 a1_6).bind fun t729 => ((spec_l04Mac.f k a1_3 t729).bind fun t732 => (some (t732.toList == a1_6.toList)))) else (some false)) = some r := by rw [if_pos rfl] at H;exact H
  clear H
  have H := H1
  clear H1
  by_cases c5 : a1_3 < a0
  ·rw [if_pos c5] at H
   have c5b0 : decide (a1_3 < a0) = true := decide_eq_true c5
   clear c5
   replace H := Option.bind_eq_some_iff.mp H
   obtain ⟨t729,A60,H⟩ := H
   try dsimp only at H
   have A6 := am_ A60
   clear A60
   replace H := Option.bind_eq_some_iff.mp H
   obtain ⟨t732,A70,H⟩ := H
   try dsimp only at H
   have A7 := am_ A70
   clear A70
   obtain rfl := Option.some.inj H
   go_enter Tryd.func74,Tryd.ntmps74
   try go_wp2_with (first | ((with_reducible refine gate_dst (N := 3) rfl ?_);refine zbx (N := 3) (cs := #[.int .i64 a1_0,.int .i64 a1_1,.int .i64 a1_2,.int .i64 a1_3,.string a1_4,.string a1_5,.string a1_6]) (t := 33) ?_;intro gb727 hg w8 hbox hb;have BK727 := am_ (hbox);have GW727 := zw_ HB hg;have GE727 := zw_ HB hg;replace HB := zs_ HB hb;clear hb hbox hg))
   replace BK727 := am_ (blk_drew BK727.out)
   replace HB := am_ (below_drew1 HB.out)
   refine start_ (n := 19) (S := fun w' => w'.cell? ⟨gb727,0,none⟩ = some (.int .i64 a1_0) ∧ w'.cell? ⟨gb727,1,none⟩ = some (.int .i64 a1_1) ∧ w'.cell? ⟨gb727,2,none⟩ = some (.int .i64 a1_2) ∧ w'.cell? ⟨gb727,3,none⟩ = some (.int .i64 a1_3) ∧ w'.cell? ⟨gb727,4,none⟩ = some (.string a1_4) ∧ w'.cell? ⟨gb727,5,none⟩ = some (.string a1_5) ∧ w'.cell? ⟨gb727,6,none⟩ = some (.string a1_6)) (ds := []) #[false,false,false,false,false,false,false,false,false,false,false,false,false,false,false,false,false,false,false] (by kernel_rfl) rfl rfl ⟨(blk_cell BK727.out 0).trans rfl,(blk_cell BK727.out 1).trans rfl,(blk_cell BK727.out 2).trans rfl,(blk_cell BK727.out 3).trans rfl,(blk_cell BK727.out 4).trans rfl,(blk_cell BK727.out 5).trans rfl,(blk_cell BK727.out 6).trans rfl⟩ (fun hHeld => ?_);refine with_tabW spec_l06Signed.tab1 spec_l06Signed.bits1 (fun HT_ HW_ => ?_)
   generalize w8.drew = w9 at BK727 HB hHeld ⊢
   refine ztk 0 (N := some 5) HT_ HW_ hHeld ?_
   refine zon 1 (N := some 6) HT_ (fun K hK => ?_)
   refine zgo Tryd.func67 #[.agg #[.int .i64 a1_0,.int .i64 a1_1,.int .i64 a1_2,.int .i64 a1_3,.string a1_4,.string a1_5,.string a1_6]] ?_
   with_reducible refine (spec_MessageOK.calls k a1_0 a1_1 a1_2 a1_3 a1_4 a1_5 a1_6 true _ A3.out).mono ?_
   rintro e w10 ⟨rfl,hb⟩
   refine ⟨_,rfl,?_⟩
   replace BK727 := zb BK727 hb
   replace HB := zs_ HB hb
   (try clear hb)
   (try clear hb2)
   (try clear hk)
   (try clear hi)
   refine hK.out _ _ ⟨(blk_cell BK727.out 0).trans rfl,(blk_cell BK727.out 1).trans rfl,(blk_cell BK727.out 2).trans rfl,(blk_cell BK727.out 3).trans rfl,(blk_cell BK727.out 4).trans rfl,(blk_cell BK727.out 5).trans rfl,(blk_cell BK727.out 6).trans rfl⟩ (fun hHeld => ?_)
   clear hK K
   refine norm_ (a' := ?_) ?_ ?_
   rotate_left
   ·show Act.put _ (some 6) _ = _
    simp only [Act.put,p1_,p2_,p3_,i64_w,i32_w]
    rfl
   refine zpu 2 (N := some 7) HT_ ?_
   refine zpu 3 (N := some 8) HT_ ?_
   refine zpu 5 (N := some 10) HT_ ?_
   refine ztk 4 (N := some 9) HT_ HW_ hHeld ?_
   refine zpu 6 (N := some 11) HT_ ?_
   refine zpu 7 (N := some 12) HT_ ?_
   refine zpu 8 (N := some 13) HT_ ?_
   refine zpu 9 (N := some 14) HT_ ?_
   refine zpu 14 (N := some 19) HT_ ?_
   refine ztk 10 (N := some 15) HT_ HW_ hHeld ?_
   refine ztk 11 (N := some 16) HT_ HW_ hHeld ?_
   refine ztk 15 (N := some 20) HT_ HW_ hHeld ?_
   refine zon 12 (N := some 17) HT_ (fun K hK => ?_)
   refine zgo Tryd.func129 #[.agg #[.int .i64 a1_0,.int .i64 a1_1,.int .i64 a1_2,.int .i64 a1_3,.string a1_4,.string a1_5,.string a1_6]] ?_
   with_reducible refine (spec_l02Plain.calls k a1_0 a1_1 a1_2 a1_3 a1_4 a1_5 a1_6 t729 _ A6.out).mono ?_
   rintro e w11 ⟨v730,rfl,ho0,hb⟩
   refine ⟨_,rfl,?_⟩
   have HO731 := am_ (Kd.R_lower ho0 (below_size (zl_ HB)))
   replace BK727 := zb BK727 hb
   replace HB := zs_ HB hb
   (try clear hb)
   (try clear hb2)
   (try clear hk)
   (try clear hi)
   (try clear ho0)
   obtain ⟨Ao12,co12,eo12⟩ := Kd.R_slice HO731.out
   (first | subst eo12 | (injection eo12 with f1_ f2_ f3_;have f4_ := f1_.symm;have f5_ := f3_.symm;clear f1_ f2_ f3_;subst f4_;subst f5_))
   refine hK.out _ _ ⟨(blk_cell BK727.out 0).trans rfl,(blk_cell BK727.out 1).trans rfl,(blk_cell BK727.out 2).trans rfl,(blk_cell BK727.out 3).trans rfl,(blk_cell BK727.out 4).trans rfl,(blk_cell BK727.out 5).trans rfl,(blk_cell BK727.out 6).trans rfl⟩ (fun hHeld => ?_)
   clear hK K
   refine norm_ (a' := ?_) ?_ ?_
   rotate_left
   ·show Act.put _ (some 17) _ = _
    simp only [Act.put,p1_,p2_,p3_,i64_w,i32_w]
    rfl
   refine zon 13 (N := some 18) HT_ (fun K hK => ?_)
   refine zgo Tryd.func128 #[.int .i64 a1_3,.slice Ao12 t729.length co12] ?_
   with_reducible refine (spec_l04Mac.calls k a1_3 _ _ t729 t732 _ ?side1 ?side2 A7.out).mono ?_
   (case side1 => repeat (first | exact (Kd.R_reads' HO731.out).2.2 | (with_reducible refine Kd.C_alloc ?_ _) | (with_reducible refine Kd.C_drewN ?_ _) | (with_reducible refine Kd.C_drew ?_)))
   (case side2 => exact (Kd.R_reads' HO731.out).2.1)
   rintro e w13 ⟨rfl,hb⟩
   refine ⟨_,rfl,?_⟩
   replace BK727 := zb BK727 hb
   replace HB := zs_ HB hb
   (try clear hb)
   (try clear hb2)
   (try clear hk)
   (try clear hi)
   refine hK.out _ _ ⟨(blk_cell BK727.out 0).trans rfl,(blk_cell BK727.out 1).trans rfl,(blk_cell BK727.out 2).trans rfl,(blk_cell BK727.out 3).trans rfl,(blk_cell BK727.out 4).trans rfl,(blk_cell BK727.out 5).trans rfl,(blk_cell BK727.out 6).trans rfl⟩ (fun hHeld => ?_)
   clear hK K
   refine norm_ (a' := ?_) ?_ ?_
   rotate_left
   ·show Act.put _ (some 18) _ = _
    simp only [Act.put,p1_,p2_,p3_,i64_w,i32_w]
    rfl
   refine zpu 16 (N := some 21) HT_ ?_
   refine zpu 17 (N := some 22) HT_ ?_
   refine zpu 18 (N := some 4) HT_ ?_
   refine done_ (done_of HT_.out (by kernel_rfl)) ?_
   try go_wp2
   go_ret
   exact ⟨zt_,zl_ HB⟩
  ·rw [if_neg c5] at H
   have c5b0 : decide (a1_3 < a0) = false := decide_eq_false c5
   clear c5
   obtain rfl := Option.some.inj H
   go_enter Tryd.func74,Tryd.ntmps74
   try go_wp2_with (first | ((with_reducible refine gate_dst (N := 3) rfl ?_);refine zbx (N := 3) (cs := #[.int .i64 a1_0,.int .i64 a1_1,.int .i64 a1_2,.int .i64 a1_3,.string a1_4,.string a1_5,.string a1_6]) (t := 33) ?_;intro gb727 hg w14 hbox hb;have BK727 := am_ (hbox);have GW727 := zw_ HB hg;have GE727 := zw_ HB hg;replace HB := zs_ HB hb;clear hb hbox hg))
   replace BK727 := am_ (blk_drew BK727.out)
   replace HB := am_ (below_drew1 HB.out)
   refine start_ (n := 19) (S := fun w' => w'.cell? ⟨gb727,0,none⟩ = some (.int .i64 a1_0) ∧ w'.cell? ⟨gb727,1,none⟩ = some (.int .i64 a1_1) ∧ w'.cell? ⟨gb727,2,none⟩ = some (.int .i64 a1_2) ∧ w'.cell? ⟨gb727,3,none⟩ = some (.int .i64 a1_3) ∧ w'.cell? ⟨gb727,4,none⟩ = some (.string a1_4) ∧ w'.cell? ⟨gb727,5,none⟩ = some (.string a1_5) ∧ w'.cell? ⟨gb727,6,none⟩ = some (.string a1_6)) (ds := []) #[false,false,false,false,false,false,false,false,false,false,false,false,false,false,false,false,false,false,false] (by kernel_rfl) rfl rfl ⟨(blk_cell BK727.out 0).trans rfl,(blk_cell BK727.out 1).trans rfl,(blk_cell BK727.out 2).trans rfl,(blk_cell BK727.out 3).trans rfl,(blk_cell BK727.out 4).trans rfl,(blk_cell BK727.out 5).trans rfl,(blk_cell BK727.out 6).trans rfl⟩ (fun hHeld => ?_);refine with_tabW spec_l06Signed.tab1 spec_l06Signed.bits1 (fun HT_ HW_ => ?_)
   generalize w14.drew = w15 at BK727 HB hHeld ⊢
   refine ztk 0 (N := some 5) HT_ HW_ hHeld ?_
   refine zon 1 (N := some 6) HT_ (fun K hK => ?_)
   refine zgo Tryd.func67 #[.agg #[.int .i64 a1_0,.int .i64 a1_1,.int .i64 a1_2,.int .i64 a1_3,.string a1_4,.string a1_5,.string a1_6]] ?_
   with_reducible refine (spec_MessageOK.calls k a1_0 a1_1 a1_2 a1_3 a1_4 a1_5 a1_6 true _ A3.out).mono ?_
   rintro e w16 ⟨rfl,hb⟩
   refine ⟨_,rfl,?_⟩
   replace BK727 := zb BK727 hb
   replace HB := zs_ HB hb
   (try clear hb)
   (try clear hb2)
   (try clear hk)
   (try clear hi)
   refine hK.out _ _ ⟨(blk_cell BK727.out 0).trans rfl,(blk_cell BK727.out 1).trans rfl,(blk_cell BK727.out 2).trans rfl,(blk_cell BK727.out 3).trans rfl,(blk_cell BK727.out 4).trans rfl,(blk_cell BK727.out 5).trans rfl,(blk_cell BK727.out 6).trans rfl⟩ (fun hHeld => ?_)
   clear hK K
   refine norm_ (a' := ?_) ?_ ?_
   rotate_left
   ·show Act.put _ (some 6) _ = _
    simp only [Act.put,p1_,p2_,p3_,i64_w,i32_w]
    rfl
   refine zpu 2 (N := some 7) HT_ ?_
   refine zpu 3 (N := some 8) HT_ ?_
   refine zpu 5 (N := some 10) HT_ ?_
   refine ztk 4 (N := some 9) HT_ HW_ hHeld ?_
   refine zpu 6 (N := some 11) HT_ ?_
   refine zpu 7 (N := some 12) HT_ ?_
   refine zpu 8 (N := some 13) HT_ ?_
   refine zpx 9 (N := some 14) HT_ ?_
   refine zpx 10 (N := some 15) HT_ ?_
   refine zpx 11 (N := some 16) HT_ ?_
   refine zpx 12 (N := some 17) HT_ ?_
   refine zpx 13 (N := some 18) HT_ ?_
   refine zpx 14 (N := some 19) HT_ ?_
   refine zpx 15 (N := some 20) HT_ ?_
   refine zpx 16 (N := some 21) HT_ ?_
   refine zpu 17 (N := some 22) HT_ ?_
   refine zpu 18 (N := some 4) HT_ ?_
   refine done_ (done_of HT_.out (by kernel_rfl)) ?_
   try go_wp2
   go_ret
   exact ⟨zt_,zl_ HB⟩
 ·replace c4 := Bool.eq_false_iff.mpr c4
  subst c4
  have H1 : (some false) = some r := by rw [if_neg (show ¬ (false = true) by decide)] at H;exact H
  clear H
  have H := H1
  clear H1
  obtain rfl := Option.some.inj H
  go_enter Tryd.func74,Tryd.ntmps74
  try go_wp2_with (first | ((with_reducible refine gate_dst (N := 3) rfl ?_);refine zbx (N := 3) (cs := #[.int .i64 a1_0,.int .i64 a1_1,.int .i64 a1_2,.int .i64 a1_3,.string a1_4,.string a1_5,.string a1_6]) (t := 33) ?_;intro gb727 hg w17 hbox hb;have BK727 := am_ (hbox);have GW727 := zw_ HB hg;have GE727 := zw_ HB hg;replace HB := zs_ HB hb;clear hb hbox hg))
  replace BK727 := am_ (blk_drew BK727.out)
  replace HB := am_ (below_drew1 HB.out)
  refine start_ (n := 19) (S := fun w' => w'.cell? ⟨gb727,0,none⟩ = some (.int .i64 a1_0) ∧ w'.cell? ⟨gb727,1,none⟩ = some (.int .i64 a1_1) ∧ w'.cell? ⟨gb727,2,none⟩ = some (.int .i64 a1_2) ∧ w'.cell? ⟨gb727,3,none⟩ = some (.int .i64 a1_3) ∧ w'.cell? ⟨gb727,4,none⟩ = some (.string a1_4) ∧ w'.cell? ⟨gb727,5,none⟩ = some (.string a1_5) ∧ w'.cell? ⟨gb727,6,none⟩ = some (.string a1_6)) (ds := []) #[false,false,false,false,false,false,false,false,false,false,false,false,false,false,false,false,false,false,false] (by kernel_rfl) rfl rfl ⟨(blk_cell BK727.out 0).trans rfl,(blk_cell BK727.out 1).trans rfl,(blk_cell BK727.out 2).trans rfl,(blk_cell BK727.out 3).trans rfl,(blk_cell BK727.out 4).trans rfl,(blk_cell BK727.out 5).trans rfl,(blk_cell BK727.out 6).trans rfl⟩ (fun hHeld => ?_);refine with_tabW spec_l06Signed.tab1 spec_l06Signed.bits1 (fun HT_ HW_ => ?_)
  generalize w17.drew = w18 at BK727 HB hHeld ⊢
  refine ztk 0 (N := some 5) HT_ HW_ hHeld ?_
  refine zon 1 (N := some 6) HT_ (fun K hK => ?_)
  refine zgo Tryd.func67 #[.agg #[.int .i64 a1_0,.int .i64 a1_1,.int .i64 a1_2,.int .i64 a1_3,.string a1_4,.string a1_5,.string a1_6]] ?_
  with_reducible refine (spec_MessageOK.calls k a1_0 a1_1 a1_2 a1_3 a1_4 a1_5 a1_6 false _ A3.out).mono ?_
  rintro e w19 ⟨rfl,hb⟩
  refine ⟨_,rfl,?_⟩
  replace BK727 := zb BK727 hb
  replace HB := zs_ HB hb
  (try clear hb)
  (try clear hb2)
  (try clear hk)
  (try clear hi)
  refine hK.out _ _ ⟨(blk_cell BK727.out 0).trans rfl,(blk_cell BK727.out 1).trans rfl,(blk_cell BK727.out 2).trans rfl,(blk_cell BK727.out 3).trans rfl,(blk_cell BK727.out 4).trans rfl,(blk_cell BK727.out 5).trans rfl,(blk_cell BK727.out 6).trans rfl⟩ (fun hHeld => ?_)
  clear hK K
  refine norm_ (a' := ?_) ?_ ?_
  rotate_left
  ·show Act.put _ (some 6) _ = _
   simp only [Act.put,p1_,p2_,p3_,i64_w,i32_w]
   rfl
  refine zpu 2 (N := some 7) HT_ ?_
  refine zpx 3 (N := some 8) HT_ ?_
  refine zpx 4 (N := some 9) HT_ ?_
  refine zpx 5 (N := some 10) HT_ ?_
  refine zpx 6 (N := some 11) HT_ ?_
  refine zpu 7 (N := some 12) HT_ ?_
  refine zpu 8 (N := some 13) HT_ ?_
  refine zpx 9 (N := some 14) HT_ ?_
  refine zpx 10 (N := some 15) HT_ ?_
  refine zpx 11 (N := some 16) HT_ ?_
  refine zpx 12 (N := some 17) HT_ ?_
  refine zpx 13 (N := some 18) HT_ ?_
  refine zpx 14 (N := some 19) HT_ ?_
  refine zpx 15 (N := some 20) HT_ ?_
  refine zpx 16 (N := some 21) HT_ ?_
  refine zpu 17 (N := some 22) HT_ ?_
  refine zpu 18 (N := some 4) HT_ ?_
  refine done_ (done_of HT_.out (by kernel_rfl)) ?_
  try go_wp2
  go_ret
  exact ⟨zt_,zl_ HB⟩
set_option maxHeartbeats 8000000 in
set_option maxRecDepth 100000 in
theorem spec_MessageSigned.calls (k : Nat) (a0 : Int) (a1_0 : Int) (a1_1 : Int) (a1_2 : Int) (a1_3 : Int) (a1_4 : ByteArray) (a1_5 : ByteArray) (a1_6 : ByteArray) (r : Bool) (w : World) (h : spec_MessageSigned.f k a0 a1_0 a1_1 a1_2 a1_3 a1_4 a1_5 a1_6 = some r) :
  Calls Tryd.prog 26 #[.int .i64 a0,.agg #[.int .i64 a1_0,.int .i64 a1_1,.int .i64 a1_2,.int .i64 a1_3,.string a1_4,.string a1_5,.string a1_6]] w fun e w' => e = .returned (.bool r) ∧ Below w.heap.size w w' := by
 have hu33 := Tryd.underlying33
 have HB := am_ (Below.refl w.heap.size w)
 have H : ((spec_l04Nodes.f a0).bind fun t734 => (if t734 = true then ((spec_l06Signed.f k a0 a1_0 a1_1 a1_2 a1_3 a1_4 a1_5 a1_6).bind fun t735 => (some t735)) else (some false))) = some r := h
 clear h
 replace H := Option.bind_eq_some_iff.mp H
 obtain ⟨t734,A30,H⟩ := H
 try dsimp only at H
 have A3 := am_ A30
 clear A30
 by_cases c4 : t734 = true
 ·subst c4
  have H1 : ((spec_l06Signed.f k a0 a1_0 a1_1 a1_2 a1_3 a1_4 a1_5 a1_6).bind fun t735 => (some t735)) = some r := by rw [if_pos rfl] at H;exact H
  clear H
  have H := H1
  clear H1
  replace H := Option.bind_eq_some_iff.mp H
  obtain ⟨t735,A50,H⟩ := H
  try dsimp only at H
  have A5 := am_ A50
  clear A50
  obtain rfl := Option.some.inj H
  go_enter Tryd.func26,Tryd.ntmps26
  go_wp2_with (first | ((with_reducible refine gate_dst (N := 3) rfl ?_);refine zbx (N := 3) (cs := #[.int .i64 a1_0,.int .i64 a1_1,.int .i64 a1_2,.int .i64 a1_3,.string a1_4,.string a1_5,.string a1_6]) (t := 33) ?_;intro gb733 hg w6 hbox hb;have BK733 := am_ (hbox);have GW733 := zw_ HB hg;have GE733 := zw_ HB hg;replace HB := zs_ HB hb;clear hb hbox hg) | ((with_reducible refine gate_callee (f := 73) rfl ?_);refine zgl (some 6) Tryd.func73 #[.int .i64 a0] ?_;(with_reducible refine (spec_l04Nodes.calls a0 true _ A3.out).mono ?_);rintro e w' ⟨rfl,⟨nd,rfl⟩⟩;refine ⟨_,rfl,?_⟩;obtain ⟨hcz7_0,hcz7_1,hcz7_2,hcz7_3,hcz7_4,hcz7_5,hcz7_6,hfz7_0,hfz7_1,hfz7_2,hfz7_3,hfz7_4,hfz7_5,hfz7_6⟩ := zc7 BK733) | (go_at_call 74;(with_reducible refine (spec_l06Signed.calls k a0 a1_0 a1_1 a1_2 a1_3 a1_4 a1_5 a1_6 t735 _ A5.out).mono ?_);rintro e w8 ⟨rfl,hb⟩;replace HB := zs_ HB hb;(try clear hb);(try clear hb2);(try clear hk);(try clear hi)))
  go_ret
  exact ⟨zt_,zl_ HB⟩
 ·replace c4 := Bool.eq_false_iff.mpr c4
  subst c4
  have H1 : (some false) = some r := by rw [if_neg (show ¬ (false = true) by decide)] at H;exact H
  clear H
  have H := H1
  clear H1
  obtain rfl := Option.some.inj H
  go_enter Tryd.func26,Tryd.ntmps26
  go_wp2_with (first | ((with_reducible refine gate_dst (N := 3) rfl ?_);refine zbx (N := 3) (cs := #[.int .i64 a1_0,.int .i64 a1_1,.int .i64 a1_2,.int .i64 a1_3,.string a1_4,.string a1_5,.string a1_6]) (t := 33) ?_;intro gb733 hg w9 hbox hb;have GW733 := zw_ HB hg;have GE733 := zw_ HB hg;replace HB := zs_ HB hb;clear hb hbox hg) | ((with_reducible refine gate_callee (f := 73) rfl ?_);refine zgl (some 6) Tryd.func73 #[.int .i64 a0] ?_;(with_reducible refine (spec_l04Nodes.calls a0 false _ A3.out).mono ?_);rintro e w' ⟨rfl,⟨nd,rfl⟩⟩;refine ⟨_,rfl,?_⟩))
  go_ret
  exact ⟨zt_,zl_ HB⟩
set_option maxHeartbeats 8000000 in
set_option maxRecDepth 100000 in
theorem spec_l06Sign.calls (k : Nat) (a0 : Int) (a1_0 : Int) (a1_1 : Int) (a1_2 : Int) (a1_3 : Int) (a1_4 : ByteArray) (a1_5 : ByteArray) (a1_6 : ByteArray) (r1 : Int) (r2 : Int) (r3 : Int) (r4 : Int) (r5 : ByteArray) (r6 : ByteArray) (r7 : ByteArray) (w : World) (h : spec_l06Sign.f k a0 a1_0 a1_1 a1_2 a1_3 a1_4 a1_5 a1_6 = some (r1,r2,r3,r4,r5,r6,r7)) :
  Calls Tryd.prog 68 #[.int .i64 a0,.agg #[.int .i64 a1_0,.int .i64 a1_1,.int .i64 a1_2,.int .i64 a1_3,.string a1_4,.string a1_5,.string a1_6]] w fun e w' => e = .returned (.agg #[.int .i64 r1,.int .i64 r2,.int .i64 r3,.int .i64 r4,.string r5,.string r6,.string r7]) ∧ Below w.heap.size w w' := by
 have hu33 := Tryd.underlying33
 have HB := am_ (Below.refl w.heap.size w)
 have H : ((spec_l02Plain.f k a1_0 a1_1 a1_2 a0 a1_4 a1_5 a1_6).bind fun t704 => ((spec_l04Mac.f k a0 t704).bind fun t707 => (some (a1_0,a1_1,a1_2,a0,a1_4,a1_5,t707)))) = some (r1,r2,r3,r4,r5,r6,r7) := h
 clear h
 replace H := Option.bind_eq_some_iff.mp H
 obtain ⟨t704,A30,H⟩ := H
 try dsimp only at H
 have A3 := am_ A30
 clear A30
 replace H := Option.bind_eq_some_iff.mp H
 obtain ⟨t707,A40,H⟩ := H
 try dsimp only at H
 have A4 := am_ A40
 clear A40
 simp only [Option.some.injEq,Prod.mk.injEq] at H
 obtain ⟨rfl,rfl,rfl,rfl,rfl,rfl,rfl⟩ := H
 go_enter Tryd.func68,Tryd.ntmps68
 go_wp2_with (first | ((with_reducible refine gate_dst (N := 3) rfl ?_);refine zbx (N := 3) (cs := #[.int .i64 a1_0,.int .i64 a1_1,.int .i64 a1_2,.int .i64 a1_3,.string a1_4,.string a1_5,.string a1_6]) (t := 33) ?_;intro gb702 hg w5 hbox hb;have BK702 := am_ (hbox);have GW702 := zw_ HB hg;have GE702 := zw_ HB hg;replace HB := zs_ HB hb;clear hb hbox hg) | ((with_reducible refine gate_dst (N := 4) rfl ?_);refine zbx (N := 4) (cs := #[.int .i64 0,.int .i64 0,.int .i64 0,.int .i64 0,.string ⟨#[]⟩,.string ⟨#[]⟩,.string ⟨#[]⟩]) (t := 33) ?_;intro gb703 hg w6 hbox hb;have BK703 := am_ (hbox);have GW703 := zw_ HB hg;have GE703 := zw_ HB hg;replace HB := zs_ HB hb;have NB702_703 := zl hg BK702;have NB703_702 := zg hg BK702;replace BK702 := zb BK702 hb;clear hb hbox hg;have hnb7 := NB702_703.out;have hnc7 := NB703_702.out;obtain ⟨hcz8_0,hcz8_1,hcz8_2,hcz8_3,hcz8_4,hcz8_5,hcz8_6,hfz8_0,hfz8_1,hfz8_2,hfz8_3,hfz8_4,hfz8_5,hfz8_6⟩ := zc7 BK702) | ((with_reducible refine gate_callee (f := 129) rfl ?_);refine zgl (some 9) Tryd.func129 #[.agg #[.int .i64 a1_0,.int .i64 a1_1,.int .i64 a1_2,.int .i64 a0,.string a1_4,.string a1_5,.string a1_6]] ?_;(with_reducible refine (spec_l02Plain.calls k a1_0 a1_1 a1_2 a0 a1_4 a1_5 a1_6 t704 _ A3.out).mono ?_);rintro e w9 ⟨v705,rfl,ho0,hb⟩;refine ⟨_,rfl,?_⟩;have HO706 := am_ (Kd.R_lower ho0 (below_size (zl_ HB)));replace BK702 := am_ (blk_below (g := gb702) (o := .cells #[.int .i64 a1_0,.int .i64 a1_1,.int .i64 a1_2,.int .i64 a0,.string a1_4,.string a1_5,.string a1_6] 33 (0,0)) (zq BK702) hb);replace BK703 := am_ (blk_below (g := gb703) (o := .cells #[.int .i64 0,.int .i64 0,.int .i64 0,.int .i64 0,.string ⟨#[]⟩,.string ⟨#[]⟩,.string ⟨#[]⟩] 33 (0,0)) (zq BK703) hb);replace HB := zs_ HB hb;(try clear hb);(try clear hb2);(try clear hk);(try clear hi);(try clear ho0);obtain ⟨Ao10,co10,eo10⟩ := Kd.R_slice HO706.out;subst eo10) | ((with_reducible refine gate_callee (f := 128) rfl ?_);refine zgl (some 10) Tryd.func128 #[.int .i64 a0,.slice Ao10 t704.length co10] ?_;(with_reducible refine (spec_l04Mac.calls k a0 _ _ t704 t707 _ ?side1 ?side2 A4.out).mono ?_);(case side1 => repeat (first | exact (Kd.R_reads' HO706.out).2.2 | (with_reducible refine Kd.C_alloc ?_ _) | (with_reducible refine Kd.C_drewN ?_ _) | (with_reducible refine Kd.C_drew ?_)));(case side2 => exact (Kd.R_reads' HO706.out).2.1);rintro e w11 ⟨rfl,hb⟩;refine ⟨_,rfl,?_⟩;replace BK702 := zb BK702 hb;replace BK703 := zb BK703 hb;replace HB := zs_ HB hb;(try clear hb);(try clear hb2);(try clear hk);(try clear hi);obtain ⟨hcz12_0,hcz12_1,hcz12_2,hcz12_3,hcz12_4,hcz12_5,hcz12_6,hfz12_0,hfz12_1,hfz12_2,hfz12_3,hfz12_4,hfz12_5,hfz12_6⟩ := zc7 BK702;obtain ⟨hcz13_0,hcz13_1,hcz13_2,hcz13_3,hcz13_4,hcz13_5,hcz13_6,hfz13_0,hfz13_1,hfz13_2,hfz13_3,hfz13_4,hfz13_5,hfz13_6⟩ := zc7 BK703))
 refine bodyPost_ret (results_cell_row rfl _ _ gb703 33 #[.int .i64 a1_0,.int .i64 a1_1,.int .i64 a1_2,.int .i64 a0,.string a1_4,.string a1_5,.string t707] (0,0) _ rfl (zq BK703) Tryd.underlying33 rfl (by kernel_rfl)) rfl ?_
 exact ⟨zt_,zl_ HB⟩
set_option maxHeartbeats 8000000 in
set_option maxRecDepth 100000 in
theorem spec_SignMessage.calls (k : Nat) (a0 : Int) (a1_0 : Int) (a1_1 : Int) (a1_2 : Int) (a1_3 : Int) (a1_4 : ByteArray) (a1_5 : ByteArray) (a1_6 : ByteArray) (r1 : Int) (r2 : Int) (r3 : Int) (r4 : Int) (r5 : ByteArray) (r6 : ByteArray) (r7 : ByteArray) (r8 : Int) (w : World) (h : spec_SignMessage.f k a0 a1_0 a1_1 a1_2 a1_3 a1_4 a1_5 a1_6 = some (r1,r2,r3,r4,r5,r6,r7,r8)) :
  Calls Tryd.prog 23 #[.int .i64 a0,.agg #[.int .i64 a1_0,.int .i64 a1_1,.int .i64 a1_2,.int .i64 a1_3,.string a1_4,.string a1_5,.string a1_6]] w fun e w' => e = .returned (.tuple #[.agg #[.int .i64 r1,.int .i64 r2,.int .i64 r3,.int .i64 r4,.string r5,.string r6,.string r7],.int .i64 r8]) ∧ Below w.heap.size w w' := by
 have hu33 := Tryd.underlying33
 have HB := am_ (Below.refl w.heap.size w)
 have H : ((spec_l01In.f a0 0 6).bind fun t710 => (if t710 = true then ((spec_MessageOK.f k a1_0 a1_1 a1_2 a0 a1_4 a1_5 (⟨#[49,50,51,52,53,54,55,56]⟩ : ByteArray)).bind fun t711 => (if t711 = true then ((spec_l06Sign.f k a0 a1_0 a1_1 a1_2 a0 a1_4 a1_5 (⟨#[49,50,51,52,53,54,55,56]⟩ : ByteArray)).bind fun bt712 => (some (bt712.1,bt712.2.1,bt712.2.2.1,bt712.2.2.2.1,bt712.2.2.2.2.1,bt712.2.2.2.2.2.1,bt712.2.2.2.2.2.2,0))) else (some (0,0,0,0,(⟨#[]⟩ : ByteArray),(⟨#[]⟩ : ByteArray),(⟨#[]⟩ : ByteArray),1)))) else (some (0,0,0,0,(⟨#[]⟩ : ByteArray),(⟨#[]⟩ : ByteArray),(⟨#[]⟩ : ByteArray),4)))) = some (r1,r2,r3,r4,r5,r6,r7,r8) := h
 clear h
 replace H := Option.bind_eq_some_iff.mp H
 obtain ⟨t710,A30,H⟩ := H
 try dsimp only at H
 have A3 := am_ A30
 clear A30
 by_cases c4 : t710 = true
 ·subst c4
  have H1 : ((spec_MessageOK.f k a1_0 a1_1 a1_2 a0 a1_4 a1_5 (⟨#[49,50,51,52,53,54,55,56]⟩ : ByteArray)).bind fun t711 => (if t711 = true then ((spec_l06Sign.f k a0 a1_0 a1_1 a1_2 a0 a1_4 a1_5 (⟨#[49,50,51,52,53,54,55,56]⟩ : ByteArray)).bind fun bt712 => (some (bt712.1,bt712.2.1,bt712.2.2.1,bt712.2.2.2.1,bt712.2.2.2.2.1,bt712.2.2.2.2.2.1,bt712.2.2.2.2.2.2,0))) else (some (0,0,0,0,(⟨#[]⟩ : ByteArray),(⟨#[]⟩ : ByteArray),(⟨#[]⟩ : ByteArray),1)))) = some (r1,r2,r3,r4,r5,r6,r7,r8) := by rw [if_pos rfl] at H;exact H
  clear H
  have H := H1
  clear H1
  replace H := Option.bind_eq_some_iff.mp H
  obtain ⟨t711,A50,H⟩ := H
  try dsimp only at H
  have A5 := am_ A50
  clear A50
  by_cases c6 : t711 = true
  ·subst c6
   have H1 : ((spec_l06Sign.f k a0 a1_0 a1_1 a1_2 a0 a1_4 a1_5 (⟨#[49,50,51,52,53,54,55,56]⟩ : ByteArray)).bind fun bt712 => (some (bt712.1,bt712.2.1,bt712.2.2.1,bt712.2.2.2.1,bt712.2.2.2.2.1,bt712.2.2.2.2.2.1,bt712.2.2.2.2.2.2,0))) = some (r1,r2,r3,r4,r5,r6,r7,r8) := by rw [if_pos rfl] at H;exact H
   clear H
   have H := H1
   clear H1
   replace H := Option.bind_eq_some_iff.mp H
   obtain ⟨⟨t712,t713,t714,t715,t716,t717,t718⟩,A70,H⟩ := H
   try dsimp only at H
   have A7 := am_ A70
   clear A70
   simp only [Option.some.injEq,Prod.mk.injEq] at H
   obtain ⟨rfl,rfl,rfl,rfl,rfl,rfl,rfl,rfl⟩ := H
   go_enter Tryd.func23,Tryd.ntmps23
   go_wp2_with (first | ((with_reducible refine gate_dst (N := 3) rfl ?_);refine zbx (N := 3) (cs := #[.int .i64 a1_0,.int .i64 a1_1,.int .i64 a1_2,.int .i64 a1_3,.string a1_4,.string a1_5,.string a1_6]) (t := 33) ?_;intro gb708 hg w8 hbox hb;have BK708 := am_ (hbox);have GW708 := zw_ HB hg;have GE708 := zw_ HB hg;replace HB := zs_ HB hb;clear hb hbox hg) | ((with_reducible refine gate_dst (N := 4) rfl ?_);refine zbx (N := 4) (cs := #[.int .i64 0,.int .i64 0,.int .i64 0,.int .i64 0,.string ⟨#[]⟩,.string ⟨#[]⟩,.string ⟨#[]⟩]) (t := 33) ?_;intro gb709 hg w9 hbox hb;have BK709 := am_ (hbox);have GW709 := zw_ HB hg;have GE709 := zw_ HB hg;replace HB := zs_ HB hb;have NB708_709 := zl hg BK708;have NB709_708 := zg hg BK708;replace BK708 := zb BK708 hb;clear hb hbox hg) | ((with_reducible refine gate_callee (f := 53) rfl ?_);refine zgl (some 7) Tryd.func53 #[.int .i64 a0,.int .i64 0,.int .i64 6] ?_;(with_reducible refine (spec_l01In.calls a0 0 6 true _ A3.out).mono ?_);rintro e w' ⟨rfl,⟨nd,rfl⟩⟩;refine ⟨_,rfl,?_⟩;(try (rw [drewN_self w9];generalize hq_ : World.drewN w9 _ = w9;have n0_ : Aside0 (w9.heap[gb708]? = some (.cells #[.int .i64 a1_0,.int .i64 a1_1,.int .i64 a1_2,.int .i64 a1_3,.string a1_4,.string a1_5,.string a1_6] 33 (0,0))) := ⟨by rw [← hq_];exact (zk BK708)⟩;have n1_ : Aside0 (w9.heap[gb709]? = some (.cells #[.int .i64 0,.int .i64 0,.int .i64 0,.int .i64 0,.string ⟨#[]⟩,.string ⟨#[]⟩,.string ⟨#[]⟩] 33 (0,0))) := ⟨by rw [← hq_];exact (zk BK709)⟩;have n2_ : Aside0 (Below w.heap.size w w9) := ⟨by rw [← hq_];exact (zl_ HB)⟩;clear BK708 BK709 HB hq_;have BK708 := n0_;have BK709 := n1_;have HB := n2_;clear n0_ n1_ n2_));(try have hfu708_0 := blk_frozen BK708.out 0);(try have hcu708_0 : w9.cell? ⟨gb708,0,none⟩ = some (.int .i64 a1_0) := (blk_cell BK708.out 0).trans rfl);(try have hfu708_1 := blk_frozen BK708.out 1);(try have hcu708_1 : w9.cell? ⟨gb708,1,none⟩ = some (.int .i64 a1_1) := (blk_cell BK708.out 1).trans rfl);(try have hfu708_2 := blk_frozen BK708.out 2);(try have hcu708_2 : w9.cell? ⟨gb708,2,none⟩ = some (.int .i64 a1_2) := (blk_cell BK708.out 2).trans rfl);(try have hfu708_3 := blk_frozen BK708.out 3);(try have hcu708_3 : w9.cell? ⟨gb708,3,none⟩ = some (.int .i64 a1_3) := (blk_cell BK708.out 3).trans rfl);(try have hfu708_4 := blk_frozen BK708.out 4);(try have hcu708_4 : w9.cell? ⟨gb708,4,none⟩ = some (.string a1_4) := (blk_cell BK708.out 4).trans rfl);(try have hfu708_5 := blk_frozen BK708.out 5);(try have hcu708_5 : w9.cell? ⟨gb708,5,none⟩ = some (.string a1_5) := (blk_cell BK708.out 5).trans rfl);(try have hfu708_6 := blk_frozen BK708.out 6);(try have hcu708_6 : w9.cell? ⟨gb708,6,none⟩ = some (.string a1_6) := (blk_cell BK708.out 6).trans rfl);(try have hfu709_0 := blk_frozen BK709.out 0);(try have hcu709_0 : w9.cell? ⟨gb709,0,none⟩ = some (.int .i64 0) := (blk_cell BK709.out 0).trans rfl);(try have hfu709_1 := blk_frozen BK709.out 1);(try have hcu709_1 : w9.cell? ⟨gb709,1,none⟩ = some (.int .i64 0) := (blk_cell BK709.out 1).trans rfl);(try have hfu709_2 := blk_frozen BK709.out 2);(try have hcu709_2 : w9.cell? ⟨gb709,2,none⟩ = some (.int .i64 0) := (blk_cell BK709.out 2).trans rfl);(try have hfu709_3 := blk_frozen BK709.out 3);(try have hcu709_3 : w9.cell? ⟨gb709,3,none⟩ = some (.int .i64 0) := (blk_cell BK709.out 3).trans rfl);(try have hfu709_4 := blk_frozen BK709.out 4);(try have hcu709_4 : w9.cell? ⟨gb709,4,none⟩ = some (.string ⟨#[]⟩) := (blk_cell BK709.out 4).trans rfl);(try have hfu709_5 := blk_frozen BK709.out 5);(try have hcu709_5 : w9.cell? ⟨gb709,5,none⟩ = some (.string ⟨#[]⟩) := (blk_cell BK709.out 5).trans rfl);(try have hfu709_6 := blk_frozen BK709.out 6);(try have hcu709_6 : w9.cell? ⟨gb709,6,none⟩ = some (.string ⟨#[]⟩) := (blk_cell BK709.out 6).trans rfl);have hnb10 := NB708_709.out;have hnc10 := NB709_708.out;obtain ⟨hcz11_0,hcz11_1,hcz11_2,hcz11_3,hcz11_4,hcz11_5,hcz11_6,hfz11_0,hfz11_1,hfz11_2,hfz11_3,hfz11_4,hfz11_5,hfz11_6⟩ := zc7 BK708) | ((with_reducible refine gate_callee (f := 67) rfl ?_);refine zgl (some 14) Tryd.func67 #[.agg #[.int .i64 a1_0,.int .i64 a1_1,.int .i64 a1_2,.int .i64 a0,.string a1_4,.string a1_5,.string ⟨#[49,50,51,52,53,54,55,56]⟩]] ?_;(with_reducible refine (spec_MessageOK.calls k a1_0 a1_1 a1_2 a0 a1_4 a1_5 (⟨#[49,50,51,52,53,54,55,56]⟩ : ByteArray) true _ A5.out).mono ?_);rintro e w12 ⟨rfl,hb⟩;refine ⟨_,rfl,?_⟩;replace BK708 := am_ (blk_below (g := gb708) (o := .cells #[.int .i64 a1_0,.int .i64 a1_1,.int .i64 a1_2,.int .i64 a0,.string a1_4,.string a1_5,.string ⟨#[49,50,51,52,53,54,55,56]⟩] 33 (0,0)) (zq BK708) hb);replace BK709 := am_ (blk_below (g := gb709) (o := .cells #[.int .i64 0,.int .i64 0,.int .i64 0,.int .i64 0,.string ⟨#[]⟩,.string ⟨#[]⟩,.string ⟨#[]⟩] 33 (0,0)) (zq BK709) hb);replace HB := zs_ HB hb;(try clear hb);(try clear hb2);(try clear hk);(try clear hi);obtain ⟨hcz13_0,hcz13_1,hcz13_2,hcz13_3,hcz13_4,hcz13_5,hcz13_6,hfz13_0,hfz13_1,hfz13_2,hfz13_3,hfz13_4,hfz13_5,hfz13_6⟩ := zc7 BK708) | ((with_reducible refine gate_callee (f := 68) rfl ?_);refine zgl (some 19) Tryd.func68 #[.int .i64 a0,.agg #[.int .i64 a1_0,.int .i64 a1_1,.int .i64 a1_2,.int .i64 a0,.string a1_4,.string a1_5,.string ⟨#[49,50,51,52,53,54,55,56]⟩]] ?_;(with_reducible refine (spec_l06Sign.calls k a0 a1_0 a1_1 a1_2 a0 a1_4 a1_5 (⟨#[49,50,51,52,53,54,55,56]⟩ : ByteArray) t712 t713 t714 t715 t716 t717 t718 _ A7.out).mono ?_);rintro e w14 ⟨rfl,hb⟩;refine ⟨_,rfl,?_⟩;replace BK708 := zb BK708 hb;replace BK709 := zb BK709 hb;replace HB := zs_ HB hb;(try clear hb);(try clear hb2);(try clear hk);(try clear hi);obtain ⟨hcz15_0,hcz15_1,hcz15_2,hcz15_3,hcz15_4,hcz15_5,hcz15_6,hfz15_0,hfz15_1,hfz15_2,hfz15_3,hfz15_4,hfz15_5,hfz15_6⟩ := zc7 BK709))
   refine bodyPost_ret (results_ct rfl _ _ gb709 33 #[.int .i64 t712,.int .i64 t713,.int .i64 t714,.int .i64 t715,.string t716,.string t717,.string t718] (0,0) _ rfl (zq BK709) Tryd.underlying33 rfl (by kernel_rfl)) rfl ?_
   exact ⟨zt_,zl_ HB⟩
  ·replace c6 := Bool.eq_false_iff.mpr c6
   subst c6
   have H1 : (some (0,0,0,0,(⟨#[]⟩ : ByteArray),(⟨#[]⟩ : ByteArray),(⟨#[]⟩ : ByteArray),1)) = some (r1,r2,r3,r4,r5,r6,r7,r8) := by rw [if_neg (show ¬ (false = true) by decide)] at H;exact H
   clear H
   have H := H1
   clear H1
   simp only [Option.some.injEq,Prod.mk.injEq] at H
   obtain ⟨rfl,rfl,rfl,rfl,rfl,rfl,rfl,rfl⟩ := H
   go_enter Tryd.func23,Tryd.ntmps23
   go_wp2_with (first | ((with_reducible refine gate_dst (N := 3) rfl ?_);refine zbx (N := 3) (cs := #[.int .i64 a1_0,.int .i64 a1_1,.int .i64 a1_2,.int .i64 a1_3,.string a1_4,.string a1_5,.string a1_6]) (t := 33) ?_;intro gb708 hg w16 hbox hb;have BK708 := am_ (hbox);have GW708 := zw_ HB hg;have GE708 := zw_ HB hg;replace HB := zs_ HB hb;clear hb hbox hg) | ((with_reducible refine gate_dst (N := 4) rfl ?_);refine zbx (N := 4) (cs := #[.int .i64 0,.int .i64 0,.int .i64 0,.int .i64 0,.string ⟨#[]⟩,.string ⟨#[]⟩,.string ⟨#[]⟩]) (t := 33) ?_;intro gb709 hg w17 hbox hb;have BK709 := am_ (hbox);have GW709 := zw_ HB hg;have GE709 := zw_ HB hg;replace HB := zs_ HB hb;have NB708_709 := zl hg BK708;have NB709_708 := zg hg BK708;replace BK708 := zb BK708 hb;clear hb hbox hg) | ((with_reducible refine gate_callee (f := 53) rfl ?_);refine zgl (some 7) Tryd.func53 #[.int .i64 a0,.int .i64 0,.int .i64 6] ?_;(with_reducible refine (spec_l01In.calls a0 0 6 true _ A3.out).mono ?_);rintro e w' ⟨rfl,⟨nd,rfl⟩⟩;refine ⟨_,rfl,?_⟩;(try (rw [drewN_self w17];generalize hq_ : World.drewN w17 _ = w17;have n0_ : Aside0 (w17.heap[gb708]? = some (.cells #[.int .i64 a1_0,.int .i64 a1_1,.int .i64 a1_2,.int .i64 a1_3,.string a1_4,.string a1_5,.string a1_6] 33 (0,0))) := ⟨by rw [← hq_];exact (zk BK708)⟩;have n1_ : Aside0 (w17.heap[gb709]? = some (.cells #[.int .i64 0,.int .i64 0,.int .i64 0,.int .i64 0,.string ⟨#[]⟩,.string ⟨#[]⟩,.string ⟨#[]⟩] 33 (0,0))) := ⟨by rw [← hq_];exact (zk BK709)⟩;have n2_ : Aside0 (Below w.heap.size w w17) := ⟨by rw [← hq_];exact (zl_ HB)⟩;clear BK708 BK709 HB hq_;have BK708 := n0_;have BK709 := n1_;have HB := n2_;clear n0_ n1_ n2_));(try have hfu708_0 := blk_frozen BK708.out 0);(try have hcu708_0 : w17.cell? ⟨gb708,0,none⟩ = some (.int .i64 a1_0) := (blk_cell BK708.out 0).trans rfl);(try have hfu708_1 := blk_frozen BK708.out 1);(try have hcu708_1 : w17.cell? ⟨gb708,1,none⟩ = some (.int .i64 a1_1) := (blk_cell BK708.out 1).trans rfl);(try have hfu708_2 := blk_frozen BK708.out 2);(try have hcu708_2 : w17.cell? ⟨gb708,2,none⟩ = some (.int .i64 a1_2) := (blk_cell BK708.out 2).trans rfl);(try have hfu708_3 := blk_frozen BK708.out 3);(try have hcu708_3 : w17.cell? ⟨gb708,3,none⟩ = some (.int .i64 a1_3) := (blk_cell BK708.out 3).trans rfl);(try have hfu708_4 := blk_frozen BK708.out 4);(try have hcu708_4 : w17.cell? ⟨gb708,4,none⟩ = some (.string a1_4) := (blk_cell BK708.out 4).trans rfl);(try have hfu708_5 := blk_frozen BK708.out 5);(try have hcu708_5 : w17.cell? ⟨gb708,5,none⟩ = some (.string a1_5) := (blk_cell BK708.out 5).trans rfl);(try have hfu708_6 := blk_frozen BK708.out 6);(try have hcu708_6 : w17.cell? ⟨gb708,6,none⟩ = some (.string a1_6) := (blk_cell BK708.out 6).trans rfl);(try have hfu709_0 := blk_frozen BK709.out 0);(try have hcu709_0 : w17.cell? ⟨gb709,0,none⟩ = some (.int .i64 0) := (blk_cell BK709.out 0).trans rfl);(try have hfu709_1 := blk_frozen BK709.out 1);(try have hcu709_1 : w17.cell? ⟨gb709,1,none⟩ = some (.int .i64 0) := (blk_cell BK709.out 1).trans rfl);(try have hfu709_2 := blk_frozen BK709.out 2);(try have hcu709_2 : w17.cell? ⟨gb709,2,none⟩ = some (.int .i64 0) := (blk_cell BK709.out 2).trans rfl);(try have hfu709_3 := blk_frozen BK709.out 3);(try have hcu709_3 : w17.cell? ⟨gb709,3,none⟩ = some (.int .i64 0) := (blk_cell BK709.out 3).trans rfl);(try have hfu709_4 := blk_frozen BK709.out 4);(try have hcu709_4 : w17.cell? ⟨gb709,4,none⟩ = some (.string ⟨#[]⟩) := (blk_cell BK709.out 4).trans rfl);(try have hfu709_5 := blk_frozen BK709.out 5);(try have hcu709_5 : w17.cell? ⟨gb709,5,none⟩ = some (.string ⟨#[]⟩) := (blk_cell BK709.out 5).trans rfl);(try have hfu709_6 := blk_frozen BK709.out 6);(try have hcu709_6 : w17.cell? ⟨gb709,6,none⟩ = some (.string ⟨#[]⟩) := (blk_cell BK709.out 6).trans rfl);have hnb18 := NB708_709.out;have hnc18 := NB709_708.out;obtain ⟨hcz19_0,hcz19_1,hcz19_2,hcz19_3,hcz19_4,hcz19_5,hcz19_6,hfz19_0,hfz19_1,hfz19_2,hfz19_3,hfz19_4,hfz19_5,hfz19_6⟩ := zc7 BK708) | ((with_reducible refine gate_callee (f := 67) rfl ?_);refine zgl (some 14) Tryd.func67 #[.agg #[.int .i64 a1_0,.int .i64 a1_1,.int .i64 a1_2,.int .i64 a0,.string a1_4,.string a1_5,.string ⟨#[49,50,51,52,53,54,55,56]⟩]] ?_;(with_reducible refine (spec_MessageOK.calls k a1_0 a1_1 a1_2 a0 a1_4 a1_5 (⟨#[49,50,51,52,53,54,55,56]⟩ : ByteArray) false _ A5.out).mono ?_);rintro e w20 ⟨rfl,hb⟩;refine ⟨_,rfl,?_⟩;replace BK709 := am_ (blk_below (g := gb709) (o := .cells #[.int .i64 0,.int .i64 0,.int .i64 0,.int .i64 0,.string ⟨#[]⟩,.string ⟨#[]⟩,.string ⟨#[]⟩] 33 (0,0)) (zq BK709) hb);replace HB := zs_ HB hb;(try clear hb);(try clear hb2);(try clear hk);(try clear hi);obtain ⟨hcz21_0,hcz21_1,hcz21_2,hcz21_3,hcz21_4,hcz21_5,hcz21_6,hfz21_0,hfz21_1,hfz21_2,hfz21_3,hfz21_4,hfz21_5,hfz21_6⟩ := zc7 BK709))
   refine bodyPost_ret (results_ct rfl _ _ gb709 33 #[.int .i64 0,.int .i64 0,.int .i64 0,.int .i64 0,.string ⟨#[]⟩,.string ⟨#[]⟩,.string ⟨#[]⟩] (0,0) _ rfl (zq BK709) Tryd.underlying33 rfl (by kernel_rfl)) rfl ?_
   exact ⟨zt_,zl_ HB⟩
 ·replace c4 := Bool.eq_false_iff.mpr c4
  subst c4
  have H1 : (some (0,0,0,0,(⟨#[]⟩ : ByteArray),(⟨#[]⟩ : ByteArray),(⟨#[]⟩ : ByteArray),4)) = some (r1,r2,r3,r4,r5,r6,r7,r8) := by rw [if_neg (show ¬ (false = true) by decide)] at H;exact H
  clear H
  have H := H1
  clear H1
  simp only [Option.some.injEq,Prod.mk.injEq] at H
  obtain ⟨rfl,rfl,rfl,rfl,rfl,rfl,rfl,rfl⟩ := H
  go_enter Tryd.func23,Tryd.ntmps23
  go_wp2_with (first | ((with_reducible refine gate_dst (N := 3) rfl ?_);refine zbx (N := 3) (cs := #[.int .i64 a1_0,.int .i64 a1_1,.int .i64 a1_2,.int .i64 a1_3,.string a1_4,.string a1_5,.string a1_6]) (t := 33) ?_;intro gb708 hg w22 hbox hb;have BK708 := am_ (hbox);have GW708 := zw_ HB hg;have GE708 := zw_ HB hg;replace HB := zs_ HB hb;clear hb hbox hg) | ((with_reducible refine gate_dst (N := 4) rfl ?_);refine zbx (N := 4) (cs := #[.int .i64 0,.int .i64 0,.int .i64 0,.int .i64 0,.string ⟨#[]⟩,.string ⟨#[]⟩,.string ⟨#[]⟩]) (t := 33) ?_;intro gb709 hg w23 hbox hb;have BK709 := am_ (hbox);have GW709 := zw_ HB hg;have GE709 := zw_ HB hg;replace HB := zs_ HB hb;have NB708_709 := zl hg BK708;have NB709_708 := zg hg BK708;replace BK708 := zb BK708 hb;clear hb hbox hg) | ((with_reducible refine gate_callee (f := 53) rfl ?_);refine zgl (some 7) Tryd.func53 #[.int .i64 a0,.int .i64 0,.int .i64 6] ?_;(with_reducible refine (spec_l01In.calls a0 0 6 false _ A3.out).mono ?_);rintro e w' ⟨rfl,⟨nd,rfl⟩⟩;refine ⟨_,rfl,?_⟩;(try (rw [drewN_self w23];generalize hq_ : World.drewN w23 _ = w23;have n0_ : Aside0 (w23.heap[gb708]? = some (.cells #[.int .i64 a1_0,.int .i64 a1_1,.int .i64 a1_2,.int .i64 a1_3,.string a1_4,.string a1_5,.string a1_6] 33 (0,0))) := ⟨by rw [← hq_];exact (zk BK708)⟩;have n1_ : Aside0 (w23.heap[gb709]? = some (.cells #[.int .i64 0,.int .i64 0,.int .i64 0,.int .i64 0,.string ⟨#[]⟩,.string ⟨#[]⟩,.string ⟨#[]⟩] 33 (0,0))) := ⟨by rw [← hq_];exact (zk BK709)⟩;have n2_ : Aside0 (Below w.heap.size w w23) := ⟨by rw [← hq_];exact (zl_ HB)⟩;clear BK708 BK709 HB hq_;have BK708 := n0_;have BK709 := n1_;have HB := n2_;clear n0_ n1_ n2_));(try have hfu708_0 := blk_frozen BK708.out 0);(try have hcu708_0 : w23.cell? ⟨gb708,0,none⟩ = some (.int .i64 a1_0) := (blk_cell BK708.out 0).trans rfl);(try have hfu708_1 := blk_frozen BK708.out 1);(try have hcu708_1 : w23.cell? ⟨gb708,1,none⟩ = some (.int .i64 a1_1) := (blk_cell BK708.out 1).trans rfl);(try have hfu708_2 := blk_frozen BK708.out 2);(try have hcu708_2 : w23.cell? ⟨gb708,2,none⟩ = some (.int .i64 a1_2) := (blk_cell BK708.out 2).trans rfl);(try have hfu708_3 := blk_frozen BK708.out 3);(try have hcu708_3 : w23.cell? ⟨gb708,3,none⟩ = some (.int .i64 a1_3) := (blk_cell BK708.out 3).trans rfl);(try have hfu708_4 := blk_frozen BK708.out 4);(try have hcu708_4 : w23.cell? ⟨gb708,4,none⟩ = some (.string a1_4) := (blk_cell BK708.out 4).trans rfl);(try have hfu708_5 := blk_frozen BK708.out 5);(try have hcu708_5 : w23.cell? ⟨gb708,5,none⟩ = some (.string a1_5) := (blk_cell BK708.out 5).trans rfl);(try have hfu708_6 := blk_frozen BK708.out 6);(try have hcu708_6 : w23.cell? ⟨gb708,6,none⟩ = some (.string a1_6) := (blk_cell BK708.out 6).trans rfl);(try have hfu709_0 := blk_frozen BK709.out 0);(try have hcu709_0 : w23.cell? ⟨gb709,0,none⟩ = some (.int .i64 0) := (blk_cell BK709.out 0).trans rfl);(try have hfu709_1 := blk_frozen BK709.out 1);(try have hcu709_1 : w23.cell? ⟨gb709,1,none⟩ = some (.int .i64 0) := (blk_cell BK709.out 1).trans rfl);(try have hfu709_2 := blk_frozen BK709.out 2);(try have hcu709_2 : w23.cell? ⟨gb709,2,none⟩ = some (.int .i64 0) := (blk_cell BK709.out 2).trans rfl);(try have hfu709_3 := blk_frozen BK709.out 3);(try have hcu709_3 : w23.cell? ⟨gb709,3,none⟩ = some (.int .i64 0) := (blk_cell BK709.out 3).trans rfl);(try have hfu709_4 := blk_frozen BK709.out 4);(try have hcu709_4 : w23.cell? ⟨gb709,4,none⟩ = some (.string ⟨#[]⟩) := (blk_cell BK709.out 4).trans rfl);(try have hfu709_5 := blk_frozen BK709.out 5);(try have hcu709_5 : w23.cell? ⟨gb709,5,none⟩ = some (.string ⟨#[]⟩) := (blk_cell BK709.out 5).trans rfl);(try have hfu709_6 := blk_frozen BK709.out 6);(try have hcu709_6 : w23.cell? ⟨gb709,6,none⟩ = some (.string ⟨#[]⟩) := (blk_cell BK709.out 6).trans rfl);have hnb24 := NB709_708.out;have hnc24 := NB708_709.out;obtain ⟨hcz25_0,hcz25_1,hcz25_2,hcz25_3,hcz25_4,hcz25_5,hcz25_6,hfz25_0,hfz25_1,hfz25_2,hfz25_3,hfz25_4,hfz25_5,hfz25_6⟩ := zc7 BK709))
  refine bodyPost_ret (results_ct rfl _ _ gb709 33 #[.int .i64 0,.int .i64 0,.int .i64 0,.int .i64 0,.string ⟨#[]⟩,.string ⟨#[]⟩,.string ⟨#[]⟩] (0,0) _ rfl (zq BK709) Tryd.underlying33 rfl (by kernel_rfl)) rfl ?_
  exact ⟨zt_,zl_ HB⟩
end Go.Proofs.YtadablpppkjdbaaDoor.A
end

section
namespace Go.Proofs.YtadablpppkjdbaaDoor.A
open Go.RowKit Go.Proofs.YtadablpppkjdbaaDoorW.PrintWords Go.Proofs.YtadablpppkjdbaaDoorW.PrintLast Go.Proofs.YtadablpppkjdbaaDoorW.PrintMore
attribute [local go_sem] max2_int min2_int max_two min_two max_three min_three max_four min_four
attribute [local go_sem high] eqA33
set_option maxHeartbeats 8000000 in
set_option maxRecDepth 100000 in
theorem laws_FnSigned.calls (k : Nat) (A0 : Option Addr) (c0 : Nat) (l0 : List Int) (A1 : Option Addr) (c1 : Nat) (l1 : List Int) (r : Bool) (w : World) (hr0 : Kd.C (Kd.int .u8) w A0 l0.length l0) (hc0 : l0.length ≤ c0) (hr1 : Kd.C (Kd.int .u8) w A1 l1.length l1) (hc1 : l1.length ≤ c1) (hL : Laid w) (h : laws_FnSigned.f k l0 l1 = some r) :
  Calls Tryd.prog 5 #[.slice A0 l0.length c0,.slice A1 l1.length c1] w fun e w' => e = .returned (.bool r) ∧ Below w.heap.size w w' := by
 have hu33 := Tryd.underlying33
 have HR0 := am_ hr0
 have HC0 := am_ hc0
 clear hr0 hc0
 have HR1 := am_ hr1
 have HC1 := am_ hc1
 clear hr1 hc1
 have HLD := am_ hL
 clear hL
 have HB := am_ (Below.refl w.heap.size w)
 have H : (if (l0.length : Int) > 1048576 then (laws_FnSigned.j0 k l0 l1 true) else (laws_FnSigned.j0 k l0 l1 (decide ((l1.length : Int) > 1048576)))) = some r := h
 clear h
 have HC3 := am_ H
 clear H
 go_enter Tryd.func5,Tryd.ntmps5
 go_upto_region 1 with (fail)
 go_cut [19] (fun v19 wc => ∃ (kq : Nat) (x19_2 : Bool),v19 = .bool x19_2 ∧ Aside0 (laws_FnSigned.j0 kq l0 l1 x19_2 = some r) ∧ Aside0 (kq ≤ k) ∧ Aside0 (Below w.heap.size w wc))
 case first =>
  have H := HC3.out
  clear HC3
  by_cases c4 : (l0.length : Int) > 1048576
  ·rw [if_pos c4] at H
   have c4b0 : decide (1048576 < (l0.length : Int)) = true := decide_eq_true c4
   have c4b1 : decide (1048576 < l0.length) = true := decide_eq_true (by omega)
   clear c4
   (first | rw [c4b0] | (simp only [i64_w,i32_w];rw [c4b0]) | skip)
   have H' := am_ H
   clear H
   go_wp2
   go_meet
   case rel => exact ⟨_,(true),(by first | rfl | (simp;done) | (simp [*];done)),H',⟨by first | omega | exact Nat.le_refl _⟩,⟨zl_ HB⟩⟩
  ·rw [if_neg c4] at H
   have c4b0 : decide (1048576 < (l0.length : Int)) = false := decide_eq_false c4
   have c4b1 : decide (1048576 < l0.length) = false := decide_eq_false (by omega)
   clear c4
   (first | rw [c4b0] | (simp only [i64_w,i32_w];rw [c4b0]) | skip)
   have H' := am_ H
   clear H
   go_wp2
   go_meet
   case rel => exact ⟨_,(decide ((l1.length : Int) > 1048576)),(by first | rfl | (simp;done) | (simp [*];done)),H',⟨by first | omega | exact Nat.le_refl _⟩,⟨zl_ HB⟩⟩
 case rest =>
  clear HC3
  try clear c1
  try clear p2
  try clear c4
  try clear c4b0
  try clear c4b1
  obtain ⟨kq,x19_2,rfl,HA,HJ2,HB⟩ := hcut
  cases kq with
  | zero => exact absurd HA.out (by simp [laws_FnSigned.j0])
  | succ kj2 =>
   have H := HA.out
   clear HA
   simp only [laws_FnSigned.j0] at H
   by_cases c5 : x19_2 = true
   ·subst c5
    have H1 : (some true) = some r := by rw [if_pos rfl] at H;exact H
    clear H
    have H := H1
    clear H1
    obtain rfl := Option.some.inj H
    go_wp2
    go_ret
    exact ⟨zt_,zl_ HB⟩
   ·replace c5 := Bool.eq_false_iff.mpr c5
    subst c5
    have H1 : ((spec_MessageOf.f kj2 l0).bind fun bt736 => ((laws_at.f l1 0 4).bind fun t744 => ((impl_SignMessage.f kj2 t744 bt736.1 bt736.2.1 bt736.2.2.1 bt736.2.2.2.1 bt736.2.2.2.2.1 bt736.2.2.2.2.2.1 bt736.2.2.2.2.2.2).bind fun bt745 => ((spec_SignMessage.f kj2 t744 bt736.1 bt736.2.1 bt736.2.2.1 bt736.2.2.2.1 bt736.2.2.2.2.1 bt736.2.2.2.2.2.1 bt736.2.2.2.2.2.2).bind fun bt754 => (if bt745.2.2.2.2.2.2.2 = 0 then (if (!(bt745.1 == bt754.1) || (!(bt745.2.1 == bt754.2.1) || (!(bt745.2.2.1 == bt754.2.2.1) || (!(bt745.2.2.2.1 == bt754.2.2.2.1) || (!(bt745.2.2.2.2.1.toList == bt754.2.2.2.2.1.toList) || (!(bt745.2.2.2.2.2.1.toList == bt754.2.2.2.2.2.1.toList) || (!(bt745.2.2.2.2.2.2.1.toList == bt754.2.2.2.2.2.2.1.toList)))))))) = true then (laws_FnSigned.j1 kj2 l1 t744 true bt745.1 bt745.2.1 bt745.2.2.1 bt745.2.2.2.1 bt745.2.2.2.2.1 bt745.2.2.2.2.2.1 bt745.2.2.2.2.2.2.1) else (if bt745.2.2.2.1 = t744 then ((impl_MessageSigned.f kj2 4 bt745.1 bt745.2.1 bt745.2.2.1 bt745.2.2.2.1 bt745.2.2.2.2.1 bt745.2.2.2.2.2.1 bt745.2.2.2.2.2.2.1).bind fun t763 => (laws_FnSigned.j1 kj2 l1 t744 (!t763) bt745.1 bt745.2.1 bt745.2.2.1 bt745.2.2.2.1 bt745.2.2.2.2.1 bt745.2.2.2.2.2.1 bt745.2.2.2.2.2.2.1)) else (laws_FnSigned.j1 kj2 l1 t744 true bt745.1 bt745.2.1 bt745.2.2.1 bt745.2.2.2.1 bt745.2.2.2.2.1 bt745.2.2.2.2.2.1 bt745.2.2.2.2.2.2.1))) else (laws_FnSigned.j1 kj2 l1 t744 true bt745.1 bt745.2.1 bt745.2.2.1 bt745.2.2.2.1 bt745.2.2.2.2.1 bt745.2.2.2.2.2.1 bt745.2.2.2.2.2.2.1)))))) = some r := by rw [if_neg (show ¬ (false = true) by decide)] at H;exact H
    clear H
    have H := H1
    clear H1
    replace H := Option.bind_eq_some_iff.mp H
    obtain ⟨⟨t736,t737,t738,t739,t740,t741,t742⟩,A60,H⟩ := H
    try dsimp only at H
    have A6 := am_ A60
    clear A60
    replace H := Option.bind_eq_some_iff.mp H
    obtain ⟨t744,A70,H⟩ := H
    try dsimp only at H
    have A7 := am_ A70
    clear A70
    replace H := Option.bind_eq_some_iff.mp H
    obtain ⟨⟨t745,t746,t747,t748,t749,t750,t751,t752⟩,A80,H⟩ := H
    try dsimp only at H
    have A8 := am_ A80
    clear A80
    replace H := Option.bind_eq_some_iff.mp H
    obtain ⟨⟨t754,t755,t756,t757,t758,t759,t760,t761⟩,A90,H⟩ := H
    try dsimp only at H
    have A9 := am_ A90
    clear A90
    have HC10 := am_ H
    clear H
    go_upto_region 7 with (first | ((with_reducible refine gate_callee (f := 20) rfl ?_);refine zgl (some 21) Tryd.func20 #[.slice A0 l0.length c0] ?_;(with_reducible refine (spec_MessageOf.calls kj2 _ _ l0 t736 t737 t738 t739 t740 t741 t742 _ ?side1 ?side2 A6.out).mono ?_);(case side1 => exact zc_ HR0 HB);(case side2 => exact HC0.out);rintro e w11 ⟨rfl,hb⟩;refine ⟨_,rfl,?_⟩;replace HB := zs_ HB hb;(try clear hb);(try clear hb2);(try clear hk);(try clear hi)) | ((with_reducible refine gate_dst (N := 5) rfl ?_);(try (refine gate_guard (by rfl) ?_;dsimp only));refine zbx (N := 5) (cs := #[.int .i64 0,.int .i64 0,.int .i64 0,.int .i64 0,.string ⟨#[]⟩,.string ⟨#[]⟩,.string ⟨#[]⟩]) (t := 33) ?_;intro gb743 hg w12 hbox hb;have BK743 := am_ (hbox);have GW743 := zw_ HB hg;have GE743 := zw_ HB hg;replace HB := zs_ HB hb;clear hb hbox hg;obtain ⟨hcz13_0,hcz13_1,hcz13_2,hcz13_3,hcz13_4,hcz13_5,hcz13_6,hfz13_0,hfz13_1,hfz13_2,hfz13_3,hfz13_4,hfz13_5,hfz13_6⟩ := zc7 BK743) | ((with_reducible refine gate_callee (f := 21) rfl ?_);refine zgl (some 23) Tryd.func21 #[.slice A1 l1.length c1,.int .i64 0,.int .i64 4] ?_;(with_reducible refine (laws_at.calls _ _ l1 0 4 t744 _ ?side1 ?side2 A7.out).mono ?_);(case side1 => exact Kd.C_below HR1.out (zl_ HB));(case side2 => exact HC1.out);rintro e w' ⟨rfl,⟨nd,rfl⟩⟩;refine ⟨_,rfl,?_⟩) | ((with_reducible refine gate_callee (f := 22) rfl ?_);refine zgl (some 27) Tryd.func22 #[.int .i64 t744,.agg #[.int .i64 t736,.int .i64 t737,.int .i64 t738,.int .i64 t739,.string t740,.string t741,.string t742]] ?_;(with_reducible refine (impl_SignMessage.calls kj2 t744 t736 t737 t738 t739 t740 t741 t742 t745 t746 t747 t748 t749 t750 t751 t752 _ ?side1 A8.out).mono ?_);(case side1 => exact HLD.out.on (zl_ HB));rintro e w14 ⟨rfl,hb⟩;refine ⟨_,rfl,?_⟩;replace BK743 := am_ (blk_below (g := gb743) (o := .cells #[.int .i64 t736,.int .i64 t737,.int .i64 t738,.int .i64 t739,.string t740,.string t741,.string t742] 33 (0,0)) (zq BK743) hb);replace HB := zs_ HB hb;(try clear hb);(try clear hb2);(try clear hk);(try clear hi)) | ((with_reducible refine gate_dst (N := 7) rfl ?_);(try (refine gate_guard (by rfl) ?_;dsimp only));refine zbx (N := 7) (cs := #[.int .i64 0,.int .i64 0,.int .i64 0,.int .i64 0,.string ⟨#[]⟩,.string ⟨#[]⟩,.string ⟨#[]⟩]) (t := 33) ?_;intro gb753 hg w15 hbox hb;have BK753 := am_ (hbox);have GW753 := zw_ HB hg;have GE753 := zw_ HB hg;replace HB := zs_ HB hb;have NB743_753 := zl hg BK743;have NB753_743 := zg hg BK743;replace BK743 := zb BK743 hb;clear hb hbox hg;have hnb16 := NB753_743.out;have hnc16 := NB743_753.out;obtain ⟨hcz17_0,hcz17_1,hcz17_2,hcz17_3,hcz17_4,hcz17_5,hcz17_6,hfz17_0,hfz17_1,hfz17_2,hfz17_3,hfz17_4,hfz17_5,hfz17_6⟩ := zc7 BK753;obtain ⟨hcz18_0,hcz18_1,hcz18_2,hcz18_3,hcz18_4,hcz18_5,hcz18_6,hfz18_0,hfz18_1,hfz18_2,hfz18_3,hfz18_4,hfz18_5,hfz18_6⟩ := zc7 BK743) | ((with_reducible refine gate_callee (f := 23) rfl ?_);refine zgl (some 33) Tryd.func23 #[.int .i64 t744,.agg #[.int .i64 t736,.int .i64 t737,.int .i64 t738,.int .i64 t739,.string t740,.string t741,.string t742]] ?_;(with_reducible refine (spec_SignMessage.calls kj2 t744 t736 t737 t738 t739 t740 t741 t742 t754 t755 t756 t757 t758 t759 t760 t761 _ A9.out).mono ?_);rintro e w19 ⟨rfl,hb⟩;refine ⟨_,rfl,?_⟩;replace BK743 := am_ (blk_below (g := gb743) (o := .cells #[.int .i64 t736,.int .i64 t737,.int .i64 t738,.int .i64 t739,.string t740,.string t741,.string t742] 33 (0,0)) (zq BK743) hb);replace BK753 := am_ (blk_below (g := gb753) (o := .cells #[.int .i64 t745,.int .i64 t746,.int .i64 t747,.int .i64 t748,.string t749,.string t750,.string t751] 33 (0,0)) (zq BK753) hb);replace HB := zs_ HB hb;(try clear hb);(try clear hb2);(try clear hk);(try clear hi)) | ((with_reducible refine gate_dst (N := 9) rfl ?_);(try (refine gate_guard (by rfl) ?_;dsimp only));refine zbx (N := 9) (cs := #[.int .i64 0,.int .i64 0,.int .i64 0,.int .i64 0,.string ⟨#[]⟩,.string ⟨#[]⟩,.string ⟨#[]⟩]) (t := 33) ?_;intro gb762 hg w20 hbox hb;have BK762 := am_ (hbox);have GW762 := zw_ HB hg;have GE762 := zw_ HB hg;replace HB := zs_ HB hb;have NB743_762 := zl hg BK743;have NB762_743 := zg hg BK743;replace BK743 := zb BK743 hb;have NB753_762 := zl hg BK753;have NB762_753 := zg hg BK753;replace BK753 := zb BK753 hb;clear hb hbox hg;have hnb21 := NB762_743.out;have hnc21 := NB743_762.out;have hnb22 := NB762_753.out;have hnc22 := NB753_762.out;obtain ⟨hcz23_0,hcz23_1,hcz23_2,hcz23_3,hcz23_4,hcz23_5,hcz23_6,hfz23_0,hfz23_1,hfz23_2,hfz23_3,hfz23_4,hfz23_5,hfz23_6⟩ := zc7 BK762))
    (try simp only [Act.put,p1_,p2_,p3_])
    go_cut [53] (fun v53 wc => ∃ (kq : Nat) (x53_9 : Bool),v53 = .bool x53_9 ∧ Aside0 (laws_FnSigned.j1 kq l1 t744 x53_9 t745 t746 t747 t748 t749 t750 t751 = some r) ∧ Aside0 (kq ≤ kj2) ∧ Aside0 (wc.heap[gb743]? = some (.cells #[.int .i64 t736,.int .i64 t737,.int .i64 t738,.int .i64 t739,.string t740,.string t741,.string t742] 33 (0,0))) ∧ Aside0 (wc.heap[gb753]? = some (.cells #[.int .i64 t745,.int .i64 t746,.int .i64 t747,.int .i64 t748,.string t749,.string t750,.string t751] 33 (0,0))) ∧ Aside0 (wc.heap[gb762]? = some (.cells #[.int .i64 t754,.int .i64 t755,.int .i64 t756,.int .i64 t757,.string t758,.string t759,.string t760] 33 (0,0))) ∧ Aside0 (Below w.heap.size w wc))
    case first =>
     have H := HC10.out
     clear HC10
     by_cases c24 : t752 = 0
     ·rw [if_pos c24] at H
      have c24b0 : (t752 == 0) = true := beq_iff_eq.mpr c24
      have c24b1 : (t752 != 0) = false := bne_eq_false_iff_eq.mpr c24
      clear c24
      (first | rw [c24b0] | (simp only [i64_w,i32_w];rw [c24b0]) | skip)
      by_cases c25 : (!(t745 == t754) || (!(t746 == t755) || (!(t747 == t756) || (!(t748 == t757) || (!(t749.toList == t758.toList) || (!(t750.toList == t759.toList) || (!(t751.toList == t760.toList)))))))) = true
      ·rw [if_pos c25] at H
       have c25k := am_ c25
       have c25b0 : (!(t745 == t754) || (!(t746 == t755) || (!(t747 == t756) || (!(t748 == t757) || (!(t749.toList == t758.toList) || (!(t750.toList == t759.toList) || (!(t751.toList == t760.toList)))))))) = true := c25k.out
       (try simp only [*,Bool.not_true,Bool.not_false,Bool.false_or,Bool.true_or,Bool.or_false,Bool.or_true,Bool.true_and,Bool.and_true,Bool.false_and,Bool.and_false] at c25)
       have c25bs := c25
       clear c25k
       clear c25
       have H' := am_ H
       clear H
       have hnb26 := NB753_743.out
       have hnc26 := NB743_753.out
       have hnb27 := NB753_762.out
       have hnc27 := NB762_753.out
       obtain ⟨hcz28_0,hcz28_1,hcz28_2,hcz28_3,hcz28_4,hcz28_5,hcz28_6,hfz28_0,hfz28_1,hfz28_2,hfz28_3,hfz28_4,hfz28_5,hfz28_6⟩ := zc7 BK753
       have hnb29 := NB762_743.out
       have hnc29 := NB743_762.out
       obtain ⟨hcz30_0,hcz30_1,hcz30_2,hcz30_3,hcz30_4,hcz30_5,hcz30_6,hfz30_0,hfz30_1,hfz30_2,hfz30_3,hfz30_4,hfz30_5,hfz30_6⟩ := zc7 BK762
       go_wp2
       go_meet
       case rel => exact ⟨_,(true),(by first | rfl | (simp;done) | (simp [*];done)),H',⟨by have := HJ2.out;first | omega | exact Nat.le_refl _⟩,⟨zq BK743⟩,⟨zq BK753⟩,⟨zq BK762⟩,⟨zl_ HB⟩⟩
      ·rw [if_neg c25] at H
       have c25k := am_ c25
       have c25b0 : (!(t745 == t754) || (!(t746 == t755) || (!(t747 == t756) || (!(t748 == t757) || (!(t749.toList == t758.toList) || (!(t750.toList == t759.toList) || (!(t751.toList == t760.toList)))))))) = false := by simpa using c25k.out
       (try simp only [*,Bool.not_true,Bool.not_false,Bool.false_or,Bool.true_or,Bool.or_false,Bool.or_true,Bool.true_and,Bool.and_true,Bool.false_and,Bool.and_false] at c25)
       have c25bs := c25
       clear c25k
       clear c25
       by_cases c31 : t748 = t744
       ·rw [if_pos c31] at H
        have c31b0 : (t748 == t744) = true := beq_iff_eq.mpr c31
        have c31b1 : (t748 != t744) = false := bne_eq_false_iff_eq.mpr c31
        clear c31
        replace H := Option.bind_eq_some_iff.mp H
        obtain ⟨t763,A320,H⟩ := H
        try dsimp only at H
        have A32 := am_ A320
        clear A320
        have H' := am_ H
        clear H
        have hnb33 := NB753_743.out
        have hnc33 := NB743_753.out
        have hnb34 := NB753_762.out
        have hnc34 := NB762_753.out
        obtain ⟨hcz35_0,hcz35_1,hcz35_2,hcz35_3,hcz35_4,hcz35_5,hcz35_6,hfz35_0,hfz35_1,hfz35_2,hfz35_3,hfz35_4,hfz35_5,hfz35_6⟩ := zc7 BK753
        have hnb36 := NB762_743.out
        have hnc36 := NB743_762.out
        obtain ⟨hcz37_0,hcz37_1,hcz37_2,hcz37_3,hcz37_4,hcz37_5,hcz37_6,hfz37_0,hfz37_1,hfz37_2,hfz37_3,hfz37_4,hfz37_5,hfz37_6⟩ := zc7 BK762
        go_wp2_with (first | (go_at_call 24;(with_reducible refine (impl_MessageSigned.calls kj2 4 t745 t746 t747 t748 t749 t750 t751 t763 _ ?side1 A32.out).mono ?_);(case side1 => exact HLD.out.on (zl_ HB));rintro e w38 ⟨rfl,hb⟩;replace BK743 := am_ (blk_below (g := gb743) (o := .cells #[.int .i64 t736,.int .i64 t737,.int .i64 t738,.int .i64 t739,.string t740,.string t741,.string t742] 33 (0,0)) (zq BK743) hb);replace BK753 := am_ (blk_below (g := gb753) (o := .cells #[.int .i64 t745,.int .i64 t746,.int .i64 t747,.int .i64 t748,.string t749,.string t750,.string t751] 33 (0,0)) (zq BK753) hb);replace BK762 := am_ (blk_below (g := gb762) (o := .cells #[.int .i64 t754,.int .i64 t755,.int .i64 t756,.int .i64 t757,.string t758,.string t759,.string t760] 33 (0,0)) (zq BK762) hb);replace HB := zs_ HB hb;(try clear hb);(try clear hb2);(try clear hk);(try clear hi)))
        go_meet
        case rel => exact ⟨_,(!t763),(by first | rfl | (simp;done) | (simp [*];done)),H',⟨by have := HJ2.out;first | omega | exact Nat.le_refl _⟩,⟨by (with_reducible repeat (first | apply k1_ | apply k2_ | apply k3_));exact BK743.out⟩,⟨by (with_reducible repeat (first | apply k1_ | apply k2_ | apply k3_));exact BK753.out⟩,⟨by (with_reducible repeat (first | apply k1_ | apply k2_ | apply k3_));exact BK762.out⟩,⟨zl_ HB⟩⟩
       ·rw [if_neg c31] at H
        have c31b0 : (t748 == t744) = false := beq_eq_false_iff_ne.mpr c31
        have c31b1 : (t748 != t744) = true := bne_iff_ne.mpr c31
        have H' := am_ H
        clear H
        have hnb39 := NB753_743.out
        have hnc39 := NB743_753.out
        have hnb40 := NB753_762.out
        have hnc40 := NB762_753.out
        obtain ⟨hcz41_0,hcz41_1,hcz41_2,hcz41_3,hcz41_4,hcz41_5,hcz41_6,hfz41_0,hfz41_1,hfz41_2,hfz41_3,hfz41_4,hfz41_5,hfz41_6⟩ := zc7 BK753
        have hnb42 := NB762_743.out
        have hnc42 := NB743_762.out
        obtain ⟨hcz43_0,hcz43_1,hcz43_2,hcz43_3,hcz43_4,hcz43_5,hcz43_6,hfz43_0,hfz43_1,hfz43_2,hfz43_3,hfz43_4,hfz43_5,hfz43_6⟩ := zc7 BK762
        go_wp2
        go_meet
        case rel => exact ⟨_,(true),(by first | rfl | (simp;done) | (simp [*];done)),H',⟨by have := HJ2.out;first | omega | exact Nat.le_refl _⟩,⟨zq BK743⟩,⟨zq BK753⟩,⟨zq BK762⟩,⟨zl_ HB⟩⟩
     ·rw [if_neg c24] at H
      have c24b0 : (t752 == 0) = false := beq_eq_false_iff_ne.mpr c24
      have c24b1 : (t752 != 0) = true := bne_iff_ne.mpr c24
      (first | rw [c24b0] | (simp only [i64_w,i32_w];rw [c24b0]) | skip)
      have H' := am_ H
      clear H
      go_wp2
      go_meet
      case rel => exact ⟨_,(true),(by first | rfl | (simp;done) | (simp [*];done)),H',⟨by have := HJ2.out;first | omega | exact Nat.le_refl _⟩,⟨zq BK743⟩,⟨zq BK753⟩,⟨zq BK762⟩,⟨zl_ HB⟩⟩
    case rest =>
     clear HC10
     try clear c1
     try clear c2
     try clear p2
     try clear c3
     try clear c4
     try clear c4b0
     try clear c4b1
     try clear c5
     try clear c16
     try clear c20
     try clear c21
     try clear c22
     try clear c23
     try clear c24
     try clear c24b0
     try clear c24b1
     try clear c25
     try clear c25b0
     try clear c26
     try clear c27
     try clear c29
     try clear c31
     try clear c31b0
     try clear c31b1
     try clear c33
     try clear c34
     try clear c36
     try clear c39
     try clear c40
     try clear c42
     try clear hcz13_0
     try clear hcz13_1
     try clear hcz13_2
     try clear hcz13_3
     try clear hcz13_4
     try clear hcz13_5
     try clear hcz13_6
     try clear hcz17_0
     try clear hcz17_1
     try clear hcz17_2
     try clear hcz17_3
     try clear hcz17_4
     try clear hcz17_5
     try clear hcz17_6
     try clear hcz18_0
     try clear hcz18_1
     try clear hcz18_2
     try clear hcz18_3
     try clear hcz18_4
     try clear hcz18_5
     try clear hcz18_6
     try clear hcz23_0
     try clear hcz23_1
     try clear hcz23_2
     try clear hcz23_3
     try clear hcz23_4
     try clear hcz23_5
     try clear hcz23_6
     try clear hcz28_0
     try clear hcz28_1
     try clear hcz28_2
     try clear hcz28_3
     try clear hcz28_4
     try clear hcz28_5
     try clear hcz28_6
     try clear hcz30_0
     try clear hcz30_1
     try clear hcz30_2
     try clear hcz30_3
     try clear hcz30_4
     try clear hcz30_5
     try clear hcz30_6
     try clear hcz35_0
     try clear hcz35_1
     try clear hcz35_2
     try clear hcz35_3
     try clear hcz35_4
     try clear hcz35_5
     try clear hcz35_6
     try clear hcz37_0
     try clear hcz37_1
     try clear hcz37_2
     try clear hcz37_3
     try clear hcz37_4
     try clear hcz37_5
     try clear hcz37_6
     try clear hcz41_0
     try clear hcz41_1
     try clear hcz41_2
     try clear hcz41_3
     try clear hcz41_4
     try clear hcz41_5
     try clear hcz41_6
     try clear hcz43_0
     try clear hcz43_1
     try clear hcz43_2
     try clear hcz43_3
     try clear hcz43_4
     try clear hcz43_5
     try clear hcz43_6
     try clear hfz13_0
     try clear hfz13_1
     try clear hfz13_2
     try clear hfz13_3
     try clear hfz13_4
     try clear hfz13_5
     try clear hfz13_6
     try clear hfz17_0
     try clear hfz17_1
     try clear hfz17_2
     try clear hfz17_3
     try clear hfz17_4
     try clear hfz17_5
     try clear hfz17_6
     try clear hfz18_0
     try clear hfz18_1
     try clear hfz18_2
     try clear hfz18_3
     try clear hfz18_4
     try clear hfz18_5
     try clear hfz18_6
     try clear hfz23_0
     try clear hfz23_1
     try clear hfz23_2
     try clear hfz23_3
     try clear hfz23_4
     try clear hfz23_5
     try clear hfz23_6
     try clear hfz28_0
     try clear hfz28_1
     try clear hfz28_2
     try clear hfz28_3
     try clear hfz28_4
     try clear hfz28_5
     try clear hfz28_6
     try clear hfz30_0
     try clear hfz30_1
     try clear hfz30_2
     try clear hfz30_3
     try clear hfz30_4
     try clear hfz30_5
     try clear hfz30_6
     try clear hfz35_0
     try clear hfz35_1
     try clear hfz35_2
     try clear hfz35_3
     try clear hfz35_4
     try clear hfz35_5
     try clear hfz35_6
     try clear hfz37_0
     try clear hfz37_1
     try clear hfz37_2
     try clear hfz37_3
     try clear hfz37_4
     try clear hfz37_5
     try clear hfz37_6
     try clear hfz41_0
     try clear hfz41_1
     try clear hfz41_2
     try clear hfz41_3
     try clear hfz41_4
     try clear hfz41_5
     try clear hfz41_6
     try clear hfz43_0
     try clear hfz43_1
     try clear hfz43_2
     try clear hfz43_3
     try clear hfz43_4
     try clear hfz43_5
     try clear hfz43_6
     try clear p2
     obtain ⟨kq,x53_9,rfl,HA,HJ9,BK743,BK753,BK762,HB⟩ := hcut
     cases kq with
     | zero => exact absurd HA.out (by simp [laws_FnSigned.j1])
     | succ kj9 =>
      have H := HA.out
      clear HA
      simp only [laws_FnSigned.j1] at H
      by_cases c44 : x53_9 = true
      ·subst c44
       have H1 : (some false) = some r := by rw [if_pos rfl] at H;exact H
       clear H
       have H := H1
       clear H1
       obtain rfl := Option.some.inj H
       go_wp2
       go_ret
       exact ⟨zt_,zl_ HB⟩
      ·replace c44 := Bool.eq_false_iff.mpr c44
       subst c44
       have H1 : ((laws_at.f l1 1 4).bind fun t765 => (if t765 = 0 then ((impl_MessageSigned.f kj9 4 t745 t746 t747 (Int.tmod (wrap64 (t744 + 1)) 4) t749 t750 t751).bind fun t766 => ((spec_MessageSigned.f kj9 4 t745 t746 t747 (Int.tmod (wrap64 (t744 + 1)) 4) t749 t750 t751).bind fun t767 => (some (t766 == t767)))) else (if t765 = 1 then ((impl_MessageSigned.f kj9 4 t745 (wrap64 (t746 + 1)) t747 t748 t749 t750 t751).bind fun t768 => ((spec_MessageSigned.f kj9 4 t745 (wrap64 (t746 + 1)) t747 t748 t749 t750 t751).bind fun t769 => (some (t768 == t769)))) else (if t765 = 2 then ((impl_MessageSigned.f kj9 4 t745 t746 t747 t748 t749 t750 (⟨#[49,50,51,52,53,54,55,56]⟩ : ByteArray)).bind fun t770 => ((spec_MessageSigned.f kj9 4 t745 t746 t747 t748 t749 t750 (⟨#[49,50,51,52,53,54,55,56]⟩ : ByteArray)).bind fun t771 => (some (t770 == t771)))) else (if t765 = 3 then (if 0 ≤ (mn (l1.length : Int) 100) then (if (mn (l1.length : Int) 100) ≤ (l1.length : Int) then ((impl_Hash.f kj9 (l1.take ((mn (l1.length : Int) 100) : Int).toNat)).bind fun t773 => ((impl_MessageSigned.f kj9 4 t745 t746 t747 t748 t773 t750 t751).bind fun t774 => ((spec_MessageSigned.f kj9 4 t745 t746 t747 t748 t773 t750 t751).bind fun t775 => (some (t774 == t775))))) else (none)) else (none)) else ((impl_MessageSigned.f kj9 4 t745 t746 t747 t748 t749 t750 t751).bind fun t776 => ((spec_MessageSigned.f kj9 4 t745 t746 t747 t748 t749 t750 t751).bind fun t777 => (some (t776 == t777))))))))) = some r := by rw [if_neg (show ¬ (false = true) by decide)] at H;exact H
       clear H
       have H := H1
       clear H1
       replace H := Option.bind_eq_some_iff.mp H
       obtain ⟨t765,A450,H⟩ := H
       try dsimp only at H
       have A45 := am_ A450
       clear A450
       by_cases c46 : t765 = 0
       ·rw [if_pos c46] at H
        have c46b0 : (t765 == 0) = true := beq_iff_eq.mpr c46
        have c46b1 : (t765 != 0) = false := bne_eq_false_iff_eq.mpr c46
        clear c46
        replace H := Option.bind_eq_some_iff.mp H
        obtain ⟨t766,A470,H⟩ := H
        try dsimp only at H
        have A47 := am_ A470
        clear A470
        replace H := Option.bind_eq_some_iff.mp H
        obtain ⟨t767,A480,H⟩ := H
        try dsimp only at H
        have A48 := am_ A480
        clear A480
        obtain rfl := Option.some.inj H
        have hnb49 := NB753_743.out
        have hnc49 := NB743_753.out
        have hnb50 := NB753_762.out
        have hnc50 := NB762_753.out
        obtain ⟨hcz51_0,hcz51_1,hcz51_2,hcz51_3,hcz51_4,hcz51_5,hcz51_6,hfz51_0,hfz51_1,hfz51_2,hfz51_3,hfz51_4,hfz51_5,hfz51_6⟩ := zc7 BK753
        try go_wp2_with (first | ((with_reducible refine gate_dst (N := 11) rfl ?_);(try (refine gate_guard (by rfl) ?_;dsimp only));refine zbx (N := 11) (cs := #[.int .i64 0,.int .i64 0,.int .i64 0,.int .i64 0,.string ⟨#[]⟩,.string ⟨#[]⟩,.string ⟨#[]⟩]) (t := 33) ?_;intro gb764 hg w52 hbox hb;have BK764 := am_ (hbox);have GW764 := zw_ HB hg;have GE764 := zw_ HB hg;replace HB := zs_ HB hb;have NB743_764 := zl hg BK743;have NB764_743 := zg hg BK743;replace BK743 := zb BK743 hb;have NB753_764 := zl hg BK753;have NB764_753 := zg hg BK753;replace BK753 := zb BK753 hb;have NB762_764 := zl hg BK762;have NB764_762 := zg hg BK762;replace BK762 := zb BK762 hb;clear hb hbox hg;have hnb53 := NB764_743.out;have hnc53 := NB743_764.out;have hnb54 := NB764_753.out;have hnc54 := NB753_764.out;have hnb55 := NB764_762.out;have hnc55 := NB762_764.out;obtain ⟨hcz56_0,hcz56_1,hcz56_2,hcz56_3,hcz56_4,hcz56_5,hcz56_6,hfz56_0,hfz56_1,hfz56_2,hfz56_3,hfz56_4,hfz56_5,hfz56_6⟩ := zc7 BK764) | ((with_reducible refine gate_callee (f := 21) rfl ?_);refine zgl (some 56) Tryd.func21 #[.slice A1 l1.length c1,.int .i64 1,.int .i64 4] ?_;(with_reducible refine (laws_at.calls _ _ l1 1 4 t765 _ ?side1 ?side2 A45.out).mono ?_);(case side1 => exact Kd.C_below HR1.out (zl_ HB));(case side2 => exact HC1.out);rintro e w' ⟨rfl,⟨nd,rfl⟩⟩;refine ⟨_,rfl,?_⟩))
        have n0_ : Aside0 ((((((((((w52.setCell ⟨gb764,0,none⟩ (.int .i64 t745)).setCell ⟨gb764,1,none⟩ (.int .i64 t746)).setCell ⟨gb764,2,none⟩ (.int .i64 t747)).setCell ⟨gb764,3,none⟩ (.int .i64 t748)).setCell ⟨gb764,4,none⟩ (.string t749)).setCell ⟨gb764,5,none⟩ (.string t750)).setCell ⟨gb764,6,none⟩ (.string t751)).drewN nd).setCell ⟨gb764,3,none⟩ (.int .i64 (Int.tmod (wrap64 (t744 + 1)) 4))).heap[gb743]? = some (.cells #[.int .i64 t736,.int .i64 t737,.int .i64 t738,.int .i64 t739,.string t740,.string t741,.string t742] 33 (0,0))) := ⟨zq BK743⟩
        have n1_ : Aside0 ((((((((((w52.setCell ⟨gb764,0,none⟩ (.int .i64 t745)).setCell ⟨gb764,1,none⟩ (.int .i64 t746)).setCell ⟨gb764,2,none⟩ (.int .i64 t747)).setCell ⟨gb764,3,none⟩ (.int .i64 t748)).setCell ⟨gb764,4,none⟩ (.string t749)).setCell ⟨gb764,5,none⟩ (.string t750)).setCell ⟨gb764,6,none⟩ (.string t751)).drewN nd).setCell ⟨gb764,3,none⟩ (.int .i64 (Int.tmod (wrap64 (t744 + 1)) 4))).heap[gb753]? = some (.cells #[.int .i64 t745,.int .i64 t746,.int .i64 t747,.int .i64 t748,.string t749,.string t750,.string t751] 33 (0,0))) := ⟨zq BK753⟩
        have n2_ : Aside0 ((((((((((w52.setCell ⟨gb764,0,none⟩ (.int .i64 t745)).setCell ⟨gb764,1,none⟩ (.int .i64 t746)).setCell ⟨gb764,2,none⟩ (.int .i64 t747)).setCell ⟨gb764,3,none⟩ (.int .i64 t748)).setCell ⟨gb764,4,none⟩ (.string t749)).setCell ⟨gb764,5,none⟩ (.string t750)).setCell ⟨gb764,6,none⟩ (.string t751)).drewN nd).setCell ⟨gb764,3,none⟩ (.int .i64 (Int.tmod (wrap64 (t744 + 1)) 4))).heap[gb762]? = some (.cells #[.int .i64 t754,.int .i64 t755,.int .i64 t756,.int .i64 t757,.string t758,.string t759,.string t760] 33 (0,0))) := ⟨zq BK762⟩
        have n3_ : Aside0 ((((((((((w52.setCell ⟨gb764,0,none⟩ (.int .i64 t745)).setCell ⟨gb764,1,none⟩ (.int .i64 t746)).setCell ⟨gb764,2,none⟩ (.int .i64 t747)).setCell ⟨gb764,3,none⟩ (.int .i64 t748)).setCell ⟨gb764,4,none⟩ (.string t749)).setCell ⟨gb764,5,none⟩ (.string t750)).setCell ⟨gb764,6,none⟩ (.string t751)).drewN nd).setCell ⟨gb764,3,none⟩ (.int .i64 (Int.tmod (wrap64 (t744 + 1)) 4))).heap[gb764]? = some (.cells #[.int .i64 t745,.int .i64 t746,.int .i64 t747,.int .i64 (Int.tmod (wrap64 (t744 + 1)) 4),.string t749,.string t750,.string t751] 33 (0,0))) := ⟨zq BK764⟩
        have n4_ : Aside0 (Below w.heap.size w (((((((((w52.setCell ⟨gb764,0,none⟩ (.int .i64 t745)).setCell ⟨gb764,1,none⟩ (.int .i64 t746)).setCell ⟨gb764,2,none⟩ (.int .i64 t747)).setCell ⟨gb764,3,none⟩ (.int .i64 t748)).setCell ⟨gb764,4,none⟩ (.string t749)).setCell ⟨gb764,5,none⟩ (.string t750)).setCell ⟨gb764,6,none⟩ (.string t751)).drewN nd).setCell ⟨gb764,3,none⟩ (.int .i64 (Int.tmod (wrap64 (t744 + 1)) 4)))) := ⟨zl_ HB⟩
        (try clear BK743)
        (try clear BK753)
        (try clear BK762)
        (try clear BK764)
        (try clear HB)
        generalize (((((((((w52.setCell ⟨gb764,0,none⟩ (.int .i64 t745)).setCell ⟨gb764,1,none⟩ (.int .i64 t746)).setCell ⟨gb764,2,none⟩ (.int .i64 t747)).setCell ⟨gb764,3,none⟩ (.int .i64 t748)).setCell ⟨gb764,4,none⟩ (.string t749)).setCell ⟨gb764,5,none⟩ (.string t750)).setCell ⟨gb764,6,none⟩ (.string t751)).drewN nd).setCell ⟨gb764,3,none⟩ (.int .i64 (Int.tmod (wrap64 (t744 + 1)) 4))) = w57 at n0_ n1_ n2_ n3_ n4_ ⊢
        have BK743 := n0_
        have BK753 := n1_
        have BK762 := n2_
        have BK764 := n3_
        have HB := n4_
        clear n0_ n1_ n2_ n3_ n4_
        (try (rw [drewN_self w57];generalize hq_ : World.drewN w57 _ = w57;have n0_ : Aside0 (w57.heap[gb743]? = some (.cells #[.int .i64 t736,.int .i64 t737,.int .i64 t738,.int .i64 t739,.string t740,.string t741,.string t742] 33 (0,0))) := ⟨by rw [← hq_];exact (zk BK743)⟩;have n1_ : Aside0 (w57.heap[gb753]? = some (.cells #[.int .i64 t745,.int .i64 t746,.int .i64 t747,.int .i64 t748,.string t749,.string t750,.string t751] 33 (0,0))) := ⟨by rw [← hq_];exact (zk BK753)⟩;have n2_ : Aside0 (w57.heap[gb762]? = some (.cells #[.int .i64 t754,.int .i64 t755,.int .i64 t756,.int .i64 t757,.string t758,.string t759,.string t760] 33 (0,0))) := ⟨by rw [← hq_];exact (zk BK762)⟩;have n3_ : Aside0 (w57.heap[gb764]? = some (.cells #[.int .i64 t745,.int .i64 t746,.int .i64 t747,.int .i64 (Int.tmod (wrap64 (t744 + 1)) 4),.string t749,.string t750,.string t751] 33 (0,0))) := ⟨by rw [← hq_];exact (zk BK764)⟩;have n4_ : Aside0 (Below w.heap.size w w57) := ⟨by rw [← hq_];exact (zl_ HB)⟩;clear BK743 BK753 BK762 BK764 HB hq_;have BK743 := n0_;have BK753 := n1_;have BK762 := n2_;have BK764 := n3_;have HB := n4_;clear n0_ n1_ n2_ n3_ n4_));(try have hfu743_0 := blk_frozen BK743.out 0);(try have hcu743_0 : w57.cell? ⟨gb743,0,none⟩ = some (.int .i64 t736) := (blk_cell BK743.out 0).trans rfl);(try have hfu743_1 := blk_frozen BK743.out 1);(try have hcu743_1 : w57.cell? ⟨gb743,1,none⟩ = some (.int .i64 t737) := (blk_cell BK743.out 1).trans rfl);(try have hfu743_2 := blk_frozen BK743.out 2);(try have hcu743_2 : w57.cell? ⟨gb743,2,none⟩ = some (.int .i64 t738) := (blk_cell BK743.out 2).trans rfl);(try have hfu743_3 := blk_frozen BK743.out 3);(try have hcu743_3 : w57.cell? ⟨gb743,3,none⟩ = some (.int .i64 t739) := (blk_cell BK743.out 3).trans rfl);(try have hfu743_4 := blk_frozen BK743.out 4);(try have hcu743_4 : w57.cell? ⟨gb743,4,none⟩ = some (.string t740) := (blk_cell BK743.out 4).trans rfl);(try have hfu743_5 := blk_frozen BK743.out 5);(try have hcu743_5 : w57.cell? ⟨gb743,5,none⟩ = some (.string t741) := (blk_cell BK743.out 5).trans rfl);(try have hfu743_6 := blk_frozen BK743.out 6);(try have hcu743_6 : w57.cell? ⟨gb743,6,none⟩ = some (.string t742) := (blk_cell BK743.out 6).trans rfl);(try have hfu753_0 := blk_frozen BK753.out 0);(try have hcu753_0 : w57.cell? ⟨gb753,0,none⟩ = some (.int .i64 t745) := (blk_cell BK753.out 0).trans rfl);(try have hfu753_1 := blk_frozen BK753.out 1);(try have hcu753_1 : w57.cell? ⟨gb753,1,none⟩ = some (.int .i64 t746) := (blk_cell BK753.out 1).trans rfl);(try have hfu753_2 := blk_frozen BK753.out 2);(try have hcu753_2 : w57.cell? ⟨gb753,2,none⟩ = some (.int .i64 t747) := (blk_cell BK753.out 2).trans rfl);(try have hfu753_3 := blk_frozen BK753.out 3);(try have hcu753_3 : w57.cell? ⟨gb753,3,none⟩ = some (.int .i64 t748) := (blk_cell BK753.out 3).trans rfl);(try have hfu753_4 := blk_frozen BK753.out 4);(try have hcu753_4 : w57.cell? ⟨gb753,4,none⟩ = some (.string t749) := (blk_cell BK753.out 4).trans rfl);(try have hfu753_5 := blk_frozen BK753.out 5);(try have hcu753_5 : w57.cell? ⟨gb753,5,none⟩ = some (.string t750) := (blk_cell BK753.out 5).trans rfl);(try have hfu753_6 := blk_frozen BK753.out 6);(try have hcu753_6 : w57.cell? ⟨gb753,6,none⟩ = some (.string t751) := (blk_cell BK753.out 6).trans rfl);(try have hfu762_0 := blk_frozen BK762.out 0);(try have hcu762_0 : w57.cell? ⟨gb762,0,none⟩ = some (.int .i64 t754) := (blk_cell BK762.out 0).trans rfl);(try have hfu762_1 := blk_frozen BK762.out 1);(try have hcu762_1 : w57.cell? ⟨gb762,1,none⟩ = some (.int .i64 t755) := (blk_cell BK762.out 1).trans rfl);(try have hfu762_2 := blk_frozen BK762.out 2);(try have hcu762_2 : w57.cell? ⟨gb762,2,none⟩ = some (.int .i64 t756) := (blk_cell BK762.out 2).trans rfl);(try have hfu762_3 := blk_frozen BK762.out 3);(try have hcu762_3 : w57.cell? ⟨gb762,3,none⟩ = some (.int .i64 t757) := (blk_cell BK762.out 3).trans rfl);(try have hfu762_4 := blk_frozen BK762.out 4);(try have hcu762_4 : w57.cell? ⟨gb762,4,none⟩ = some (.string t758) := (blk_cell BK762.out 4).trans rfl);(try have hfu762_5 := blk_frozen BK762.out 5);(try have hcu762_5 : w57.cell? ⟨gb762,5,none⟩ = some (.string t759) := (blk_cell BK762.out 5).trans rfl);(try have hfu762_6 := blk_frozen BK762.out 6);(try have hcu762_6 : w57.cell? ⟨gb762,6,none⟩ = some (.string t760) := (blk_cell BK762.out 6).trans rfl);(try have hfu764_0 := blk_frozen BK764.out 0);(try have hcu764_0 : w57.cell? ⟨gb764,0,none⟩ = some (.int .i64 t745) := (blk_cell BK764.out 0).trans rfl);(try have hfu764_1 := blk_frozen BK764.out 1);(try have hcu764_1 : w57.cell? ⟨gb764,1,none⟩ = some (.int .i64 t746) := (blk_cell BK764.out 1).trans rfl);(try have hfu764_2 := blk_frozen BK764.out 2);(try have hcu764_2 : w57.cell? ⟨gb764,2,none⟩ = some (.int .i64 t747) := (blk_cell BK764.out 2).trans rfl);(try have hfu764_3 := blk_frozen BK764.out 3);(try have hcu764_3 : w57.cell? ⟨gb764,3,none⟩ = some (.int .i64 (Int.tmod (wrap64 (t744 + 1)) 4)) := (blk_cell BK764.out 3).trans rfl);(try have hfu764_4 := blk_frozen BK764.out 4);(try have hcu764_4 : w57.cell? ⟨gb764,4,none⟩ = some (.string t749) := (blk_cell BK764.out 4).trans rfl);(try have hfu764_5 := blk_frozen BK764.out 5);(try have hcu764_5 : w57.cell? ⟨gb764,5,none⟩ = some (.string t750) := (blk_cell BK764.out 5).trans rfl);(try have hfu764_6 := blk_frozen BK764.out 6);(try have hcu764_6 : w57.cell? ⟨gb764,6,none⟩ = some (.string t751) := (blk_cell BK764.out 6).trans rfl)
        replace BK743 := am_ (blk_drew BK743.out)
        replace BK753 := am_ (blk_drew BK753.out)
        replace BK762 := am_ (blk_drew BK762.out)
        replace BK764 := am_ (blk_drew BK764.out)
        replace HB := am_ (below_drew1 HB.out)
        refine start_ (n := 6) (S := fun w' => w'.cell? ⟨gb764,0,none⟩ = some (.int .i64 t745) ∧ w'.cell? ⟨gb764,1,none⟩ = some (.int .i64 t746) ∧ w'.cell? ⟨gb764,2,none⟩ = some (.int .i64 t747) ∧ w'.cell? ⟨gb764,3,none⟩ = some (.int .i64 (Int.tmod (wrap64 (t744 + 1)) 4)) ∧ w'.cell? ⟨gb764,4,none⟩ = some (.string t749) ∧ w'.cell? ⟨gb764,5,none⟩ = some (.string t750) ∧ w'.cell? ⟨gb764,6,none⟩ = some (.string t751)) (ds := []) #[false,false,false,false,false,false] (by kernel_rfl) rfl rfl ⟨(blk_cell BK764.out 0).trans rfl,(blk_cell BK764.out 1).trans rfl,(blk_cell BK764.out 2).trans rfl,(blk_cell BK764.out 3).trans rfl,(blk_cell BK764.out 4).trans rfl,(blk_cell BK764.out 5).trans rfl,(blk_cell BK764.out 6).trans rfl⟩ (fun hHeld => ?_)
        generalize w57.drew = w58 at BK743 BK753 BK762 BK764 HB hHeld ⊢
        refine take_ (i := 0) (N := some 81) (v := ?_) (a' := ?_) #[true,false,false,false,false,false] rfl rfl (by kernel_rfl) (fun _ _ _ h => h) (Or.inl ⟨by rfl,?_⟩) hHeld ?_ ?_
        rotate_left
        ·rintro w' ⟨s0,s1,s2,s3,s4,s5,s6⟩
         go_simp
         with_reducible rfl
        rotate_left
        ·simp only [Act.put,p1_,p2_,p3_,i64_w,i32_w]
         rfl
        refine take_ (i := 2) (N := some 83) (v := ?_) (a' := ?_) #[true,false,true,false,false,false] rfl rfl (by kernel_rfl) (fun _ _ _ h => h) (Or.inl ⟨by rfl,?_⟩) hHeld ?_ ?_
        rotate_left
        ·rintro w' ⟨s0,s1,s2,s3,s4,s5,s6⟩
         go_simp
         with_reducible rfl
        rotate_left
        ·simp only [Act.put,p1_,p2_,p3_,i64_w,i32_w]
         rfl
        refine one_ (i := 1) (N := some 82) #[true,true,true,false,false,false] rfl rfl (by kernel_rfl) (by decide) (fun K hK => ?_)
        refine zgo Tryd.func24 #[.int .i64 4,.agg #[.int .i64 t745,.int .i64 t746,.int .i64 t747,.int .i64 (Int.tmod (wrap64 (t744 + 1)) 4),.string t749,.string t750,.string t751]] ?_
        with_reducible refine (impl_MessageSigned.calls kj9 4 t745 t746 t747 (Int.tmod (wrap64 (t744 + 1)) 4) t749 t750 t751 t766 _ ?side1 A47.out).mono ?_
        (case side1 => exact HLD.out.on (zl_ HB))
        rintro e w59 ⟨rfl,hb⟩
        refine ⟨_,rfl,?_⟩
        replace BK743 := zb BK743 hb
        replace BK753 := zb BK753 hb
        replace BK762 := zb BK762 hb
        replace BK764 := zb BK764 hb
        replace HB := zs_ HB hb
        (try clear hb)
        (try clear hb2)
        (try clear hk)
        (try clear hi)
        refine hK.out _ _ ⟨(blk_cell BK764.out 0).trans rfl,(blk_cell BK764.out 1).trans rfl,(blk_cell BK764.out 2).trans rfl,(blk_cell BK764.out 3).trans rfl,(blk_cell BK764.out 4).trans rfl,(blk_cell BK764.out 5).trans rfl,(blk_cell BK764.out 6).trans rfl⟩ (fun hHeld => ?_)
        clear hK K
        refine norm_ (a' := ?_) ?_ ?_
        rotate_left
        ·show Act.put _ (some 82) _ = _
         simp only [Act.put,p1_,p2_,p3_,i64_w,i32_w]
         rfl
        refine one_ (i := 3) (N := some 84) #[true,true,true,true,false,false] rfl rfl (by kernel_rfl) (by decide) (fun K hK => ?_)
        refine zgo Tryd.func26 #[.int .i64 4,.agg #[.int .i64 t745,.int .i64 t746,.int .i64 t747,.int .i64 (Int.tmod (wrap64 (t744 + 1)) 4),.string t749,.string t750,.string t751]] ?_
        with_reducible refine (spec_MessageSigned.calls kj9 4 t745 t746 t747 (Int.tmod (wrap64 (t744 + 1)) 4) t749 t750 t751 t767 _ A48.out).mono ?_
        rintro e w60 ⟨rfl,hb⟩
        refine ⟨_,rfl,?_⟩
        replace BK743 := zb BK743 hb
        replace BK753 := zb BK753 hb
        replace BK762 := zb BK762 hb
        replace BK764 := zb BK764 hb
        replace HB := zs_ HB hb
        (try clear hb)
        (try clear hb2)
        (try clear hk)
        (try clear hi)
        refine hK.out _ _ ⟨(blk_cell BK764.out 0).trans rfl,(blk_cell BK764.out 1).trans rfl,(blk_cell BK764.out 2).trans rfl,(blk_cell BK764.out 3).trans rfl,(blk_cell BK764.out 4).trans rfl,(blk_cell BK764.out 5).trans rfl,(blk_cell BK764.out 6).trans rfl⟩ (fun hHeld => ?_)
        clear hK K
        refine norm_ (a' := ?_) ?_ ?_
        rotate_left
        ·show Act.put _ (some 84) _ = _
         simp only [Act.put,p1_,p2_,p3_,i64_w,i32_w]
         rfl
        refine pure_ (i := 4) (N := some 85) (v := ?_) (a' := ?_) #[true,true,true,true,true,false] rfl rfl (by kernel_rfl) (fun _ _ _ h => h) (Or.inl ⟨by rfl,?_⟩) ?_ ?_
        rotate_left
        ·intro w'
         go_simp
         with_reducible rfl
        rotate_left
        ·simp only [Act.put,p1_,p2_,p3_,i64_w,i32_w]
         rfl
        refine pure_ (i := 5) (N := some 4) (v := ?_) (a' := ?_) #[true,true,true,true,true,true] rfl rfl (by kernel_rfl) (fun _ _ _ h => h) (Or.inl ⟨by rfl,?_⟩) ?_ ?_
        rotate_left
        ·intro w'
         go_simp
         with_reducible rfl
        rotate_left
        ·simp only [Act.put,p1_,p2_,p3_,i64_w,i32_w]
         rfl
        refine done_ (by kernel_rfl) ?_
        try go_wp2
        go_ret
        exact ⟨zt_,zl_ HB⟩
       ·rw [if_neg c46] at H
        have c46b0 : (t765 == 0) = false := beq_eq_false_iff_ne.mpr c46
        have c46b1 : (t765 != 0) = true := bne_iff_ne.mpr c46
        by_cases c61 : t765 = 1
        ·rw [if_pos c61] at H
         have c61b0 : (t765 == 1) = true := beq_iff_eq.mpr c61
         have c61b1 : (t765 != 1) = false := bne_eq_false_iff_eq.mpr c61
         clear c61
         replace H := Option.bind_eq_some_iff.mp H
         obtain ⟨t768,A620,H⟩ := H
         try dsimp only at H
         have A62 := am_ A620
         clear A620
         replace H := Option.bind_eq_some_iff.mp H
         obtain ⟨t769,A630,H⟩ := H
         try dsimp only at H
         have A63 := am_ A630
         clear A630
         obtain rfl := Option.some.inj H
         have hnb64 := NB753_743.out
         have hnc64 := NB743_753.out
         have hnb65 := NB753_762.out
         have hnc65 := NB762_753.out
         obtain ⟨hcz66_0,hcz66_1,hcz66_2,hcz66_3,hcz66_4,hcz66_5,hcz66_6,hfz66_0,hfz66_1,hfz66_2,hfz66_3,hfz66_4,hfz66_5,hfz66_6⟩ := zc7 BK753
         try go_wp2_with (first | ((with_reducible refine gate_dst (N := 11) rfl ?_);(try (refine gate_guard (by rfl) ?_;dsimp only));refine zbx (N := 11) (cs := #[.int .i64 0,.int .i64 0,.int .i64 0,.int .i64 0,.string ⟨#[]⟩,.string ⟨#[]⟩,.string ⟨#[]⟩]) (t := 33) ?_;intro gb764 hg w67 hbox hb;have BK764 := am_ (hbox);have GW764 := zw_ HB hg;have GE764 := zw_ HB hg;replace HB := zs_ HB hb;have NB743_764 := zl hg BK743;have NB764_743 := zg hg BK743;replace BK743 := zb BK743 hb;have NB753_764 := zl hg BK753;have NB764_753 := zg hg BK753;replace BK753 := zb BK753 hb;have NB762_764 := zl hg BK762;have NB764_762 := zg hg BK762;replace BK762 := zb BK762 hb;clear hb hbox hg;have hnb68 := NB764_743.out;have hnc68 := NB743_764.out;have hnb69 := NB764_753.out;have hnc69 := NB753_764.out;have hnb70 := NB764_762.out;have hnc70 := NB762_764.out;obtain ⟨hcz71_0,hcz71_1,hcz71_2,hcz71_3,hcz71_4,hcz71_5,hcz71_6,hfz71_0,hfz71_1,hfz71_2,hfz71_3,hfz71_4,hfz71_5,hfz71_6⟩ := zc7 BK764) | ((with_reducible refine gate_callee (f := 21) rfl ?_);refine zgl (some 56) Tryd.func21 #[.slice A1 l1.length c1,.int .i64 1,.int .i64 4] ?_;(with_reducible refine (laws_at.calls _ _ l1 1 4 t765 _ ?side1 ?side2 A45.out).mono ?_);(case side1 => exact Kd.C_below HR1.out (zl_ HB));(case side2 => exact HC1.out);rintro e w' ⟨rfl,⟨nd,rfl⟩⟩;refine ⟨_,rfl,?_⟩;obtain ⟨hcz72_0,hcz72_1,hcz72_2,hcz72_3,hcz72_4,hcz72_5,hcz72_6,hfz72_0,hfz72_1,hfz72_2,hfz72_3,hfz72_4,hfz72_5,hfz72_6⟩ := zc7 BK753))
         have n0_ : Aside0 ((((((((((w67.setCell ⟨gb764,0,none⟩ (.int .i64 t745)).setCell ⟨gb764,1,none⟩ (.int .i64 t746)).setCell ⟨gb764,2,none⟩ (.int .i64 t747)).setCell ⟨gb764,3,none⟩ (.int .i64 t748)).setCell ⟨gb764,4,none⟩ (.string t749)).setCell ⟨gb764,5,none⟩ (.string t750)).setCell ⟨gb764,6,none⟩ (.string t751)).drewN nd).setCell ⟨gb764,1,none⟩ (.int .i64 (wrap64 (t746 + 1)))).heap[gb743]? = some (.cells #[.int .i64 t736,.int .i64 t737,.int .i64 t738,.int .i64 t739,.string t740,.string t741,.string t742] 33 (0,0))) := ⟨zq BK743⟩
         have n1_ : Aside0 ((((((((((w67.setCell ⟨gb764,0,none⟩ (.int .i64 t745)).setCell ⟨gb764,1,none⟩ (.int .i64 t746)).setCell ⟨gb764,2,none⟩ (.int .i64 t747)).setCell ⟨gb764,3,none⟩ (.int .i64 t748)).setCell ⟨gb764,4,none⟩ (.string t749)).setCell ⟨gb764,5,none⟩ (.string t750)).setCell ⟨gb764,6,none⟩ (.string t751)).drewN nd).setCell ⟨gb764,1,none⟩ (.int .i64 (wrap64 (t746 + 1)))).heap[gb753]? = some (.cells #[.int .i64 t745,.int .i64 t746,.int .i64 t747,.int .i64 t748,.string t749,.string t750,.string t751] 33 (0,0))) := ⟨zq BK753⟩
         have n2_ : Aside0 ((((((((((w67.setCell ⟨gb764,0,none⟩ (.int .i64 t745)).setCell ⟨gb764,1,none⟩ (.int .i64 t746)).setCell ⟨gb764,2,none⟩ (.int .i64 t747)).setCell ⟨gb764,3,none⟩ (.int .i64 t748)).setCell ⟨gb764,4,none⟩ (.string t749)).setCell ⟨gb764,5,none⟩ (.string t750)).setCell ⟨gb764,6,none⟩ (.string t751)).drewN nd).setCell ⟨gb764,1,none⟩ (.int .i64 (wrap64 (t746 + 1)))).heap[gb762]? = some (.cells #[.int .i64 t754,.int .i64 t755,.int .i64 t756,.int .i64 t757,.string t758,.string t759,.string t760] 33 (0,0))) := ⟨zq BK762⟩
         have n3_ : Aside0 ((((((((((w67.setCell ⟨gb764,0,none⟩ (.int .i64 t745)).setCell ⟨gb764,1,none⟩ (.int .i64 t746)).setCell ⟨gb764,2,none⟩ (.int .i64 t747)).setCell ⟨gb764,3,none⟩ (.int .i64 t748)).setCell ⟨gb764,4,none⟩ (.string t749)).setCell ⟨gb764,5,none⟩ (.string t750)).setCell ⟨gb764,6,none⟩ (.string t751)).drewN nd).setCell ⟨gb764,1,none⟩ (.int .i64 (wrap64 (t746 + 1)))).heap[gb764]? = some (.cells #[.int .i64 t745,.int .i64 (wrap64 (t746 + 1)),.int .i64 t747,.int .i64 t748,.string t749,.string t750,.string t751] 33 (0,0))) := ⟨zq BK764⟩
         have n4_ : Aside0 (Below w.heap.size w (((((((((w67.setCell ⟨gb764,0,none⟩ (.int .i64 t745)).setCell ⟨gb764,1,none⟩ (.int .i64 t746)).setCell ⟨gb764,2,none⟩ (.int .i64 t747)).setCell ⟨gb764,3,none⟩ (.int .i64 t748)).setCell ⟨gb764,4,none⟩ (.string t749)).setCell ⟨gb764,5,none⟩ (.string t750)).setCell ⟨gb764,6,none⟩ (.string t751)).drewN nd).setCell ⟨gb764,1,none⟩ (.int .i64 (wrap64 (t746 + 1))))) := ⟨zl_ HB⟩
         (try clear BK743)
         (try clear BK753)
         (try clear BK762)
         (try clear BK764)
         (try clear HB)
         generalize (((((((((w67.setCell ⟨gb764,0,none⟩ (.int .i64 t745)).setCell ⟨gb764,1,none⟩ (.int .i64 t746)).setCell ⟨gb764,2,none⟩ (.int .i64 t747)).setCell ⟨gb764,3,none⟩ (.int .i64 t748)).setCell ⟨gb764,4,none⟩ (.string t749)).setCell ⟨gb764,5,none⟩ (.string t750)).setCell ⟨gb764,6,none⟩ (.string t751)).drewN nd).setCell ⟨gb764,1,none⟩ (.int .i64 (wrap64 (t746 + 1)))) = w73 at n0_ n1_ n2_ n3_ n4_ ⊢
         have BK743 := n0_
         have BK753 := n1_
         have BK762 := n2_
         have BK764 := n3_
         have HB := n4_
         clear n0_ n1_ n2_ n3_ n4_
         (try (rw [drewN_self w73];generalize hq_ : World.drewN w73 _ = w73;have n0_ : Aside0 (w73.heap[gb743]? = some (.cells #[.int .i64 t736,.int .i64 t737,.int .i64 t738,.int .i64 t739,.string t740,.string t741,.string t742] 33 (0,0))) := ⟨by rw [← hq_];exact (zk BK743)⟩;have n1_ : Aside0 (w73.heap[gb753]? = some (.cells #[.int .i64 t745,.int .i64 t746,.int .i64 t747,.int .i64 t748,.string t749,.string t750,.string t751] 33 (0,0))) := ⟨by rw [← hq_];exact (zk BK753)⟩;have n2_ : Aside0 (w73.heap[gb762]? = some (.cells #[.int .i64 t754,.int .i64 t755,.int .i64 t756,.int .i64 t757,.string t758,.string t759,.string t760] 33 (0,0))) := ⟨by rw [← hq_];exact (zk BK762)⟩;have n3_ : Aside0 (w73.heap[gb764]? = some (.cells #[.int .i64 t745,.int .i64 (wrap64 (t746 + 1)),.int .i64 t747,.int .i64 t748,.string t749,.string t750,.string t751] 33 (0,0))) := ⟨by rw [← hq_];exact (zk BK764)⟩;have n4_ : Aside0 (Below w.heap.size w w73) := ⟨by rw [← hq_];exact (zl_ HB)⟩;clear BK743 BK753 BK762 BK764 HB hq_;have BK743 := n0_;have BK753 := n1_;have BK762 := n2_;have BK764 := n3_;have HB := n4_;clear n0_ n1_ n2_ n3_ n4_));(try have hfu743_0 := blk_frozen BK743.out 0);(try have hcu743_0 : w73.cell? ⟨gb743,0,none⟩ = some (.int .i64 t736) := (blk_cell BK743.out 0).trans rfl);(try have hfu743_1 := blk_frozen BK743.out 1);(try have hcu743_1 : w73.cell? ⟨gb743,1,none⟩ = some (.int .i64 t737) := (blk_cell BK743.out 1).trans rfl);(try have hfu743_2 := blk_frozen BK743.out 2);(try have hcu743_2 : w73.cell? ⟨gb743,2,none⟩ = some (.int .i64 t738) := (blk_cell BK743.out 2).trans rfl);(try have hfu743_3 := blk_frozen BK743.out 3);(try have hcu743_3 : w73.cell? ⟨gb743,3,none⟩ = some (.int .i64 t739) := (blk_cell BK743.out 3).trans rfl);(try have hfu743_4 := blk_frozen BK743.out 4);(try have hcu743_4 : w73.cell? ⟨gb743,4,none⟩ = some (.string t740) := (blk_cell BK743.out 4).trans rfl);(try have hfu743_5 := blk_frozen BK743.out 5);(try have hcu743_5 : w73.cell? ⟨gb743,5,none⟩ = some (.string t741) := (blk_cell BK743.out 5).trans rfl);(try have hfu743_6 := blk_frozen BK743.out 6);(try have hcu743_6 : w73.cell? ⟨gb743,6,none⟩ = some (.string t742) := (blk_cell BK743.out 6).trans rfl);(try have hfu753_0 := blk_frozen BK753.out 0);(try have hcu753_0 : w73.cell? ⟨gb753,0,none⟩ = some (.int .i64 t745) := (blk_cell BK753.out 0).trans rfl);(try have hfu753_1 := blk_frozen BK753.out 1);(try have hcu753_1 : w73.cell? ⟨gb753,1,none⟩ = some (.int .i64 t746) := (blk_cell BK753.out 1).trans rfl);(try have hfu753_2 := blk_frozen BK753.out 2);(try have hcu753_2 : w73.cell? ⟨gb753,2,none⟩ = some (.int .i64 t747) := (blk_cell BK753.out 2).trans rfl);(try have hfu753_3 := blk_frozen BK753.out 3);(try have hcu753_3 : w73.cell? ⟨gb753,3,none⟩ = some (.int .i64 t748) := (blk_cell BK753.out 3).trans rfl);(try have hfu753_4 := blk_frozen BK753.out 4);(try have hcu753_4 : w73.cell? ⟨gb753,4,none⟩ = some (.string t749) := (blk_cell BK753.out 4).trans rfl);(try have hfu753_5 := blk_frozen BK753.out 5);(try have hcu753_5 : w73.cell? ⟨gb753,5,none⟩ = some (.string t750) := (blk_cell BK753.out 5).trans rfl);(try have hfu753_6 := blk_frozen BK753.out 6);(try have hcu753_6 : w73.cell? ⟨gb753,6,none⟩ = some (.string t751) := (blk_cell BK753.out 6).trans rfl);(try have hfu762_0 := blk_frozen BK762.out 0);(try have hcu762_0 : w73.cell? ⟨gb762,0,none⟩ = some (.int .i64 t754) := (blk_cell BK762.out 0).trans rfl);(try have hfu762_1 := blk_frozen BK762.out 1);(try have hcu762_1 : w73.cell? ⟨gb762,1,none⟩ = some (.int .i64 t755) := (blk_cell BK762.out 1).trans rfl);(try have hfu762_2 := blk_frozen BK762.out 2);(try have hcu762_2 : w73.cell? ⟨gb762,2,none⟩ = some (.int .i64 t756) := (blk_cell BK762.out 2).trans rfl);(try have hfu762_3 := blk_frozen BK762.out 3);(try have hcu762_3 : w73.cell? ⟨gb762,3,none⟩ = some (.int .i64 t757) := (blk_cell BK762.out 3).trans rfl);(try have hfu762_4 := blk_frozen BK762.out 4);(try have hcu762_4 : w73.cell? ⟨gb762,4,none⟩ = some (.string t758) := (blk_cell BK762.out 4).trans rfl);(try have hfu762_5 := blk_frozen BK762.out 5);(try have hcu762_5 : w73.cell? ⟨gb762,5,none⟩ = some (.string t759) := (blk_cell BK762.out 5).trans rfl);(try have hfu762_6 := blk_frozen BK762.out 6);(try have hcu762_6 : w73.cell? ⟨gb762,6,none⟩ = some (.string t760) := (blk_cell BK762.out 6).trans rfl);(try have hfu764_0 := blk_frozen BK764.out 0);(try have hcu764_0 : w73.cell? ⟨gb764,0,none⟩ = some (.int .i64 t745) := (blk_cell BK764.out 0).trans rfl);(try have hfu764_1 := blk_frozen BK764.out 1);(try have hcu764_1 : w73.cell? ⟨gb764,1,none⟩ = some (.int .i64 (wrap64 (t746 + 1))) := (blk_cell BK764.out 1).trans rfl);(try have hfu764_2 := blk_frozen BK764.out 2);(try have hcu764_2 : w73.cell? ⟨gb764,2,none⟩ = some (.int .i64 t747) := (blk_cell BK764.out 2).trans rfl);(try have hfu764_3 := blk_frozen BK764.out 3);(try have hcu764_3 : w73.cell? ⟨gb764,3,none⟩ = some (.int .i64 t748) := (blk_cell BK764.out 3).trans rfl);(try have hfu764_4 := blk_frozen BK764.out 4);(try have hcu764_4 : w73.cell? ⟨gb764,4,none⟩ = some (.string t749) := (blk_cell BK764.out 4).trans rfl);(try have hfu764_5 := blk_frozen BK764.out 5);(try have hcu764_5 : w73.cell? ⟨gb764,5,none⟩ = some (.string t750) := (blk_cell BK764.out 5).trans rfl);(try have hfu764_6 := blk_frozen BK764.out 6);(try have hcu764_6 : w73.cell? ⟨gb764,6,none⟩ = some (.string t751) := (blk_cell BK764.out 6).trans rfl)
         replace BK743 := am_ (blk_drew BK743.out)
         replace BK753 := am_ (blk_drew BK753.out)
         replace BK762 := am_ (blk_drew BK762.out)
         replace BK764 := am_ (blk_drew BK764.out)
         replace HB := am_ (below_drew1 HB.out)
         refine start_ (n := 6) (S := fun w' => w'.cell? ⟨gb764,0,none⟩ = some (.int .i64 t745) ∧ w'.cell? ⟨gb764,1,none⟩ = some (.int .i64 (wrap64 (t746 + 1))) ∧ w'.cell? ⟨gb764,2,none⟩ = some (.int .i64 t747) ∧ w'.cell? ⟨gb764,3,none⟩ = some (.int .i64 t748) ∧ w'.cell? ⟨gb764,4,none⟩ = some (.string t749) ∧ w'.cell? ⟨gb764,5,none⟩ = some (.string t750) ∧ w'.cell? ⟨gb764,6,none⟩ = some (.string t751)) (ds := []) #[false,false,false,false,false,false] (by kernel_rfl) rfl rfl ⟨(blk_cell BK764.out 0).trans rfl,(blk_cell BK764.out 1).trans rfl,(blk_cell BK764.out 2).trans rfl,(blk_cell BK764.out 3).trans rfl,(blk_cell BK764.out 4).trans rfl,(blk_cell BK764.out 5).trans rfl,(blk_cell BK764.out 6).trans rfl⟩ (fun hHeld => ?_)
         generalize w73.drew = w74 at BK743 BK753 BK762 BK764 HB hHeld ⊢
         refine take_ (i := 0) (N := some 81) (v := ?_) (a' := ?_) #[true,false,false,false,false,false] rfl rfl (by kernel_rfl) (fun _ _ _ h => h) (Or.inl ⟨by rfl,?_⟩) hHeld ?_ ?_
         rotate_left
         ·rintro w' ⟨s0,s1,s2,s3,s4,s5,s6⟩
          go_simp
          with_reducible rfl
         rotate_left
         ·simp only [Act.put,p1_,p2_,p3_,i64_w,i32_w]
          rfl
         refine take_ (i := 2) (N := some 83) (v := ?_) (a' := ?_) #[true,false,true,false,false,false] rfl rfl (by kernel_rfl) (fun _ _ _ h => h) (Or.inl ⟨by rfl,?_⟩) hHeld ?_ ?_
         rotate_left
         ·rintro w' ⟨s0,s1,s2,s3,s4,s5,s6⟩
          go_simp
          with_reducible rfl
         rotate_left
         ·simp only [Act.put,p1_,p2_,p3_,i64_w,i32_w]
          rfl
         refine one_ (i := 1) (N := some 82) #[true,true,true,false,false,false] rfl rfl (by kernel_rfl) (by decide) (fun K hK => ?_)
         refine zgo Tryd.func24 #[.int .i64 4,.agg #[.int .i64 t745,.int .i64 (wrap64 (t746 + 1)),.int .i64 t747,.int .i64 t748,.string t749,.string t750,.string t751]] ?_
         with_reducible refine (impl_MessageSigned.calls kj9 4 t745 (wrap64 (t746 + 1)) t747 t748 t749 t750 t751 t768 _ ?side1 A62.out).mono ?_
         (case side1 => exact HLD.out.on (zl_ HB))
         rintro e w75 ⟨rfl,hb⟩
         refine ⟨_,rfl,?_⟩
         replace BK743 := zb BK743 hb
         replace BK753 := zb BK753 hb
         replace BK762 := zb BK762 hb
         replace BK764 := zb BK764 hb
         replace HB := zs_ HB hb
         (try clear hb)
         (try clear hb2)
         (try clear hk)
         (try clear hi)
         refine hK.out _ _ ⟨(blk_cell BK764.out 0).trans rfl,(blk_cell BK764.out 1).trans rfl,(blk_cell BK764.out 2).trans rfl,(blk_cell BK764.out 3).trans rfl,(blk_cell BK764.out 4).trans rfl,(blk_cell BK764.out 5).trans rfl,(blk_cell BK764.out 6).trans rfl⟩ (fun hHeld => ?_)
         clear hK K
         refine norm_ (a' := ?_) ?_ ?_
         rotate_left
         ·show Act.put _ (some 82) _ = _
          simp only [Act.put,p1_,p2_,p3_,i64_w,i32_w]
          rfl
         refine one_ (i := 3) (N := some 84) #[true,true,true,true,false,false] rfl rfl (by kernel_rfl) (by decide) (fun K hK => ?_)
         refine zgo Tryd.func26 #[.int .i64 4,.agg #[.int .i64 t745,.int .i64 (wrap64 (t746 + 1)),.int .i64 t747,.int .i64 t748,.string t749,.string t750,.string t751]] ?_
         with_reducible refine (spec_MessageSigned.calls kj9 4 t745 (wrap64 (t746 + 1)) t747 t748 t749 t750 t751 t769 _ A63.out).mono ?_
         rintro e w76 ⟨rfl,hb⟩
         refine ⟨_,rfl,?_⟩
         replace BK743 := zb BK743 hb
         replace BK753 := zb BK753 hb
         replace BK762 := zb BK762 hb
         replace BK764 := zb BK764 hb
         replace HB := zs_ HB hb
         (try clear hb)
         (try clear hb2)
         (try clear hk)
         (try clear hi)
         refine hK.out _ _ ⟨(blk_cell BK764.out 0).trans rfl,(blk_cell BK764.out 1).trans rfl,(blk_cell BK764.out 2).trans rfl,(blk_cell BK764.out 3).trans rfl,(blk_cell BK764.out 4).trans rfl,(blk_cell BK764.out 5).trans rfl,(blk_cell BK764.out 6).trans rfl⟩ (fun hHeld => ?_)
         clear hK K
         refine norm_ (a' := ?_) ?_ ?_
         rotate_left
         ·show Act.put _ (some 84) _ = _
          simp only [Act.put,p1_,p2_,p3_,i64_w,i32_w]
          rfl
         refine pure_ (i := 4) (N := some 85) (v := ?_) (a' := ?_) #[true,true,true,true,true,false] rfl rfl (by kernel_rfl) (fun _ _ _ h => h) (Or.inl ⟨by rfl,?_⟩) ?_ ?_
         rotate_left
         ·intro w'
          go_simp
          with_reducible rfl
         rotate_left
         ·simp only [Act.put,p1_,p2_,p3_,i64_w,i32_w]
          rfl
         refine pure_ (i := 5) (N := some 4) (v := ?_) (a' := ?_) #[true,true,true,true,true,true] rfl rfl (by kernel_rfl) (fun _ _ _ h => h) (Or.inl ⟨by rfl,?_⟩) ?_ ?_
         rotate_left
         ·intro w'
          go_simp
          with_reducible rfl
         rotate_left
         ·simp only [Act.put,p1_,p2_,p3_,i64_w,i32_w]
          rfl
         refine done_ (by kernel_rfl) ?_
         try go_wp2
         go_ret
         exact ⟨zt_,zl_ HB⟩
        ·rw [if_neg c61] at H
         have c61b0 : (t765 == 1) = false := beq_eq_false_iff_ne.mpr c61
         have c61b1 : (t765 != 1) = true := bne_iff_ne.mpr c61
         by_cases c77 : t765 = 2
         ·rw [if_pos c77] at H
          have c77b0 : (t765 == 2) = true := beq_iff_eq.mpr c77
          have c77b1 : (t765 != 2) = false := bne_eq_false_iff_eq.mpr c77
          clear c77
          replace H := Option.bind_eq_some_iff.mp H
          obtain ⟨t770,A780,H⟩ := H
          try dsimp only at H
          have A78 := am_ A780
          clear A780
          replace H := Option.bind_eq_some_iff.mp H
          obtain ⟨t771,A790,H⟩ := H
          try dsimp only at H
          have A79 := am_ A790
          clear A790
          obtain rfl := Option.some.inj H
          have hnb80 := NB753_743.out
          have hnc80 := NB743_753.out
          have hnb81 := NB753_762.out
          have hnc81 := NB762_753.out
          obtain ⟨hcz82_0,hcz82_1,hcz82_2,hcz82_3,hcz82_4,hcz82_5,hcz82_6,hfz82_0,hfz82_1,hfz82_2,hfz82_3,hfz82_4,hfz82_5,hfz82_6⟩ := zc7 BK753
          try go_wp2_with (first | ((with_reducible refine gate_dst (N := 11) rfl ?_);(try (refine gate_guard (by rfl) ?_;dsimp only));refine zbx (N := 11) (cs := #[.int .i64 0,.int .i64 0,.int .i64 0,.int .i64 0,.string ⟨#[]⟩,.string ⟨#[]⟩,.string ⟨#[]⟩]) (t := 33) ?_;intro gb764 hg w83 hbox hb;have BK764 := am_ (hbox);have GW764 := zw_ HB hg;have GE764 := zw_ HB hg;replace HB := zs_ HB hb;have NB743_764 := zl hg BK743;have NB764_743 := zg hg BK743;replace BK743 := zb BK743 hb;have NB753_764 := zl hg BK753;have NB764_753 := zg hg BK753;replace BK753 := zb BK753 hb;have NB762_764 := zl hg BK762;have NB764_762 := zg hg BK762;replace BK762 := zb BK762 hb;clear hb hbox hg;have hnb84 := NB764_743.out;have hnc84 := NB743_764.out;have hnb85 := NB764_753.out;have hnc85 := NB753_764.out;have hnb86 := NB764_762.out;have hnc86 := NB762_764.out;obtain ⟨hcz87_0,hcz87_1,hcz87_2,hcz87_3,hcz87_4,hcz87_5,hcz87_6,hfz87_0,hfz87_1,hfz87_2,hfz87_3,hfz87_4,hfz87_5,hfz87_6⟩ := zc7 BK764) | ((with_reducible refine gate_callee (f := 21) rfl ?_);refine zgl (some 56) Tryd.func21 #[.slice A1 l1.length c1,.int .i64 1,.int .i64 4] ?_;(with_reducible refine (laws_at.calls _ _ l1 1 4 t765 _ ?side1 ?side2 A45.out).mono ?_);(case side1 => exact Kd.C_below HR1.out (zl_ HB));(case side2 => exact HC1.out);rintro e w' ⟨rfl,⟨nd,rfl⟩⟩;refine ⟨_,rfl,?_⟩))
          have n0_ : Aside0 ((((((((((w83.setCell ⟨gb764,0,none⟩ (.int .i64 t745)).setCell ⟨gb764,1,none⟩ (.int .i64 t746)).setCell ⟨gb764,2,none⟩ (.int .i64 t747)).setCell ⟨gb764,3,none⟩ (.int .i64 t748)).setCell ⟨gb764,4,none⟩ (.string t749)).setCell ⟨gb764,5,none⟩ (.string t750)).setCell ⟨gb764,6,none⟩ (.string t751)).drewN nd).setCell ⟨gb764,6,none⟩ (.string ⟨#[49,50,51,52,53,54,55,56]⟩)).heap[gb743]? = some (.cells #[.int .i64 t736,.int .i64 t737,.int .i64 t738,.int .i64 t739,.string t740,.string t741,.string t742] 33 (0,0))) := ⟨zq BK743⟩
          have n1_ : Aside0 ((((((((((w83.setCell ⟨gb764,0,none⟩ (.int .i64 t745)).setCell ⟨gb764,1,none⟩ (.int .i64 t746)).setCell ⟨gb764,2,none⟩ (.int .i64 t747)).setCell ⟨gb764,3,none⟩ (.int .i64 t748)).setCell ⟨gb764,4,none⟩ (.string t749)).setCell ⟨gb764,5,none⟩ (.string t750)).setCell ⟨gb764,6,none⟩ (.string t751)).drewN nd).setCell ⟨gb764,6,none⟩ (.string ⟨#[49,50,51,52,53,54,55,56]⟩)).heap[gb753]? = some (.cells #[.int .i64 t745,.int .i64 t746,.int .i64 t747,.int .i64 t748,.string t749,.string t750,.string t751] 33 (0,0))) := ⟨zq BK753⟩
          have n2_ : Aside0 ((((((((((w83.setCell ⟨gb764,0,none⟩ (.int .i64 t745)).setCell ⟨gb764,1,none⟩ (.int .i64 t746)).setCell ⟨gb764,2,none⟩ (.int .i64 t747)).setCell ⟨gb764,3,none⟩ (.int .i64 t748)).setCell ⟨gb764,4,none⟩ (.string t749)).setCell ⟨gb764,5,none⟩ (.string t750)).setCell ⟨gb764,6,none⟩ (.string t751)).drewN nd).setCell ⟨gb764,6,none⟩ (.string ⟨#[49,50,51,52,53,54,55,56]⟩)).heap[gb762]? = some (.cells #[.int .i64 t754,.int .i64 t755,.int .i64 t756,.int .i64 t757,.string t758,.string t759,.string t760] 33 (0,0))) := ⟨zq BK762⟩
          have n3_ : Aside0 ((((((((((w83.setCell ⟨gb764,0,none⟩ (.int .i64 t745)).setCell ⟨gb764,1,none⟩ (.int .i64 t746)).setCell ⟨gb764,2,none⟩ (.int .i64 t747)).setCell ⟨gb764,3,none⟩ (.int .i64 t748)).setCell ⟨gb764,4,none⟩ (.string t749)).setCell ⟨gb764,5,none⟩ (.string t750)).setCell ⟨gb764,6,none⟩ (.string t751)).drewN nd).setCell ⟨gb764,6,none⟩ (.string ⟨#[49,50,51,52,53,54,55,56]⟩)).heap[gb764]? = some (.cells #[.int .i64 t745,.int .i64 t746,.int .i64 t747,.int .i64 t748,.string t749,.string t750,.string ⟨#[49,50,51,52,53,54,55,56]⟩] 33 (0,0))) := ⟨zq BK764⟩
          have n4_ : Aside0 (Below w.heap.size w (((((((((w83.setCell ⟨gb764,0,none⟩ (.int .i64 t745)).setCell ⟨gb764,1,none⟩ (.int .i64 t746)).setCell ⟨gb764,2,none⟩ (.int .i64 t747)).setCell ⟨gb764,3,none⟩ (.int .i64 t748)).setCell ⟨gb764,4,none⟩ (.string t749)).setCell ⟨gb764,5,none⟩ (.string t750)).setCell ⟨gb764,6,none⟩ (.string t751)).drewN nd).setCell ⟨gb764,6,none⟩ (.string ⟨#[49,50,51,52,53,54,55,56]⟩))) := ⟨zl_ HB⟩
          (try clear BK743)
          (try clear BK753)
          (try clear BK762)
          (try clear BK764)
          (try clear HB)
          generalize (((((((((w83.setCell ⟨gb764,0,none⟩ (.int .i64 t745)).setCell ⟨gb764,1,none⟩ (.int .i64 t746)).setCell ⟨gb764,2,none⟩ (.int .i64 t747)).setCell ⟨gb764,3,none⟩ (.int .i64 t748)).setCell ⟨gb764,4,none⟩ (.string t749)).setCell ⟨gb764,5,none⟩ (.string t750)).setCell ⟨gb764,6,none⟩ (.string t751)).drewN nd).setCell ⟨gb764,6,none⟩ (.string ⟨#[49,50,51,52,53,54,55,56]⟩)) = w88 at n0_ n1_ n2_ n3_ n4_ ⊢
          have BK743 := n0_
          have BK753 := n1_
          have BK762 := n2_
          have BK764 := n3_
          have HB := n4_
          clear n0_ n1_ n2_ n3_ n4_
          (try (rw [drewN_self w88];generalize hq_ : World.drewN w88 _ = w88;have n0_ : Aside0 (w88.heap[gb743]? = some (.cells #[.int .i64 t736,.int .i64 t737,.int .i64 t738,.int .i64 t739,.string t740,.string t741,.string t742] 33 (0,0))) := ⟨by rw [← hq_];exact (zk BK743)⟩;have n1_ : Aside0 (w88.heap[gb753]? = some (.cells #[.int .i64 t745,.int .i64 t746,.int .i64 t747,.int .i64 t748,.string t749,.string t750,.string t751] 33 (0,0))) := ⟨by rw [← hq_];exact (zk BK753)⟩;have n2_ : Aside0 (w88.heap[gb762]? = some (.cells #[.int .i64 t754,.int .i64 t755,.int .i64 t756,.int .i64 t757,.string t758,.string t759,.string t760] 33 (0,0))) := ⟨by rw [← hq_];exact (zk BK762)⟩;have n3_ : Aside0 (w88.heap[gb764]? = some (.cells #[.int .i64 t745,.int .i64 t746,.int .i64 t747,.int .i64 t748,.string t749,.string t750,.string ⟨#[49,50,51,52,53,54,55,56]⟩] 33 (0,0))) := ⟨by rw [← hq_];exact (zk BK764)⟩;have n4_ : Aside0 (Below w.heap.size w w88) := ⟨by rw [← hq_];exact (zl_ HB)⟩;clear BK743 BK753 BK762 BK764 HB hq_;have BK743 := n0_;have BK753 := n1_;have BK762 := n2_;have BK764 := n3_;have HB := n4_;clear n0_ n1_ n2_ n3_ n4_));(try have hfu743_0 := blk_frozen BK743.out 0);(try have hcu743_0 : w88.cell? ⟨gb743,0,none⟩ = some (.int .i64 t736) := (blk_cell BK743.out 0).trans rfl);(try have hfu743_1 := blk_frozen BK743.out 1);(try have hcu743_1 : w88.cell? ⟨gb743,1,none⟩ = some (.int .i64 t737) := (blk_cell BK743.out 1).trans rfl);(try have hfu743_2 := blk_frozen BK743.out 2);(try have hcu743_2 : w88.cell? ⟨gb743,2,none⟩ = some (.int .i64 t738) := (blk_cell BK743.out 2).trans rfl);(try have hfu743_3 := blk_frozen BK743.out 3);(try have hcu743_3 : w88.cell? ⟨gb743,3,none⟩ = some (.int .i64 t739) := (blk_cell BK743.out 3).trans rfl);(try have hfu743_4 := blk_frozen BK743.out 4);(try have hcu743_4 : w88.cell? ⟨gb743,4,none⟩ = some (.string t740) := (blk_cell BK743.out 4).trans rfl);(try have hfu743_5 := blk_frozen BK743.out 5);(try have hcu743_5 : w88.cell? ⟨gb743,5,none⟩ = some (.string t741) := (blk_cell BK743.out 5).trans rfl);(try have hfu743_6 := blk_frozen BK743.out 6);(try have hcu743_6 : w88.cell? ⟨gb743,6,none⟩ = some (.string t742) := (blk_cell BK743.out 6).trans rfl);(try have hfu753_0 := blk_frozen BK753.out 0);(try have hcu753_0 : w88.cell? ⟨gb753,0,none⟩ = some (.int .i64 t745) := (blk_cell BK753.out 0).trans rfl);(try have hfu753_1 := blk_frozen BK753.out 1);(try have hcu753_1 : w88.cell? ⟨gb753,1,none⟩ = some (.int .i64 t746) := (blk_cell BK753.out 1).trans rfl);(try have hfu753_2 := blk_frozen BK753.out 2);(try have hcu753_2 : w88.cell? ⟨gb753,2,none⟩ = some (.int .i64 t747) := (blk_cell BK753.out 2).trans rfl);(try have hfu753_3 := blk_frozen BK753.out 3);(try have hcu753_3 : w88.cell? ⟨gb753,3,none⟩ = some (.int .i64 t748) := (blk_cell BK753.out 3).trans rfl);(try have hfu753_4 := blk_frozen BK753.out 4);(try have hcu753_4 : w88.cell? ⟨gb753,4,none⟩ = some (.string t749) := (blk_cell BK753.out 4).trans rfl);(try have hfu753_5 := blk_frozen BK753.out 5);(try have hcu753_5 : w88.cell? ⟨gb753,5,none⟩ = some (.string t750) := (blk_cell BK753.out 5).trans rfl);(try have hfu753_6 := blk_frozen BK753.out 6);(try have hcu753_6 : w88.cell? ⟨gb753,6,none⟩ = some (.string t751) := (blk_cell BK753.out 6).trans rfl);(try have hfu762_0 := blk_frozen BK762.out 0);(try have hcu762_0 : w88.cell? ⟨gb762,0,none⟩ = some (.int .i64 t754) := (blk_cell BK762.out 0).trans rfl);(try have hfu762_1 := blk_frozen BK762.out 1);(try have hcu762_1 : w88.cell? ⟨gb762,1,none⟩ = some (.int .i64 t755) := (blk_cell BK762.out 1).trans rfl);(try have hfu762_2 := blk_frozen BK762.out 2);(try have hcu762_2 : w88.cell? ⟨gb762,2,none⟩ = some (.int .i64 t756) := (blk_cell BK762.out 2).trans rfl);(try have hfu762_3 := blk_frozen BK762.out 3);(try have hcu762_3 : w88.cell? ⟨gb762,3,none⟩ = some (.int .i64 t757) := (blk_cell BK762.out 3).trans rfl);(try have hfu762_4 := blk_frozen BK762.out 4);(try have hcu762_4 : w88.cell? ⟨gb762,4,none⟩ = some (.string t758) := (blk_cell BK762.out 4).trans rfl);(try have hfu762_5 := blk_frozen BK762.out 5);(try have hcu762_5 : w88.cell? ⟨gb762,5,none⟩ = some (.string t759) := (blk_cell BK762.out 5).trans rfl);(try have hfu762_6 := blk_frozen BK762.out 6);(try have hcu762_6 : w88.cell? ⟨gb762,6,none⟩ = some (.string t760) := (blk_cell BK762.out 6).trans rfl);(try have hfu764_0 := blk_frozen BK764.out 0);(try have hcu764_0 : w88.cell? ⟨gb764,0,none⟩ = some (.int .i64 t745) := (blk_cell BK764.out 0).trans rfl);(try have hfu764_1 := blk_frozen BK764.out 1);(try have hcu764_1 : w88.cell? ⟨gb764,1,none⟩ = some (.int .i64 t746) := (blk_cell BK764.out 1).trans rfl);(try have hfu764_2 := blk_frozen BK764.out 2);(try have hcu764_2 : w88.cell? ⟨gb764,2,none⟩ = some (.int .i64 t747) := (blk_cell BK764.out 2).trans rfl);(try have hfu764_3 := blk_frozen BK764.out 3);(try have hcu764_3 : w88.cell? ⟨gb764,3,none⟩ = some (.int .i64 t748) := (blk_cell BK764.out 3).trans rfl);(try have hfu764_4 := blk_frozen BK764.out 4);(try have hcu764_4 : w88.cell? ⟨gb764,4,none⟩ = some (.string t749) := (blk_cell BK764.out 4).trans rfl);(try have hfu764_5 := blk_frozen BK764.out 5);(try have hcu764_5 : w88.cell? ⟨gb764,5,none⟩ = some (.string t750) := (blk_cell BK764.out 5).trans rfl);(try have hfu764_6 := blk_frozen BK764.out 6);(try have hcu764_6 : w88.cell? ⟨gb764,6,none⟩ = some (.string ⟨#[49,50,51,52,53,54,55,56]⟩) := (blk_cell BK764.out 6).trans rfl)
          replace BK743 := am_ (blk_drew BK743.out)
          replace BK753 := am_ (blk_drew BK753.out)
          replace BK762 := am_ (blk_drew BK762.out)
          replace BK764 := am_ (blk_drew BK764.out)
          replace HB := am_ (below_drew1 HB.out)
          refine start_ (n := 6) (S := fun w' => w'.cell? ⟨gb764,0,none⟩ = some (.int .i64 t745) ∧ w'.cell? ⟨gb764,1,none⟩ = some (.int .i64 t746) ∧ w'.cell? ⟨gb764,2,none⟩ = some (.int .i64 t747) ∧ w'.cell? ⟨gb764,3,none⟩ = some (.int .i64 t748) ∧ w'.cell? ⟨gb764,4,none⟩ = some (.string t749) ∧ w'.cell? ⟨gb764,5,none⟩ = some (.string t750) ∧ w'.cell? ⟨gb764,6,none⟩ = some (.string ⟨#[49,50,51,52,53,54,55,56]⟩)) (ds := []) #[false,false,false,false,false,false] (by kernel_rfl) rfl rfl ⟨(blk_cell BK764.out 0).trans rfl,(blk_cell BK764.out 1).trans rfl,(blk_cell BK764.out 2).trans rfl,(blk_cell BK764.out 3).trans rfl,(blk_cell BK764.out 4).trans rfl,(blk_cell BK764.out 5).trans rfl,(blk_cell BK764.out 6).trans rfl⟩ (fun hHeld => ?_)
          generalize w88.drew = w89 at BK743 BK753 BK762 BK764 HB hHeld ⊢
          refine take_ (i := 0) (N := some 81) (v := ?_) (a' := ?_) #[true,false,false,false,false,false] rfl rfl (by kernel_rfl) (fun _ _ _ h => h) (Or.inl ⟨by rfl,?_⟩) hHeld ?_ ?_
          rotate_left
          ·rintro w' ⟨s0,s1,s2,s3,s4,s5,s6⟩
           go_simp
           with_reducible rfl
          rotate_left
          ·simp only [Act.put,p1_,p2_,p3_,i64_w,i32_w]
           rfl
          refine take_ (i := 2) (N := some 83) (v := ?_) (a' := ?_) #[true,false,true,false,false,false] rfl rfl (by kernel_rfl) (fun _ _ _ h => h) (Or.inl ⟨by rfl,?_⟩) hHeld ?_ ?_
          rotate_left
          ·rintro w' ⟨s0,s1,s2,s3,s4,s5,s6⟩
           go_simp
           with_reducible rfl
          rotate_left
          ·simp only [Act.put,p1_,p2_,p3_,i64_w,i32_w]
           rfl
          refine one_ (i := 1) (N := some 82) #[true,true,true,false,false,false] rfl rfl (by kernel_rfl) (by decide) (fun K hK => ?_)
          refine zgo Tryd.func24 #[.int .i64 4,.agg #[.int .i64 t745,.int .i64 t746,.int .i64 t747,.int .i64 t748,.string t749,.string t750,.string ⟨#[49,50,51,52,53,54,55,56]⟩]] ?_
          with_reducible refine (impl_MessageSigned.calls kj9 4 t745 t746 t747 t748 t749 t750 (⟨#[49,50,51,52,53,54,55,56]⟩ : ByteArray) t770 _ ?side1 A78.out).mono ?_
          (case side1 => exact HLD.out.on (zl_ HB))
          rintro e w90 ⟨rfl,hb⟩
          refine ⟨_,rfl,?_⟩
          replace BK743 := zb BK743 hb
          replace BK753 := zb BK753 hb
          replace BK762 := zb BK762 hb
          replace BK764 := zb BK764 hb
          replace HB := zs_ HB hb
          (try clear hb)
          (try clear hb2)
          (try clear hk)
          (try clear hi)
          refine hK.out _ _ ⟨(blk_cell BK764.out 0).trans rfl,(blk_cell BK764.out 1).trans rfl,(blk_cell BK764.out 2).trans rfl,(blk_cell BK764.out 3).trans rfl,(blk_cell BK764.out 4).trans rfl,(blk_cell BK764.out 5).trans rfl,(blk_cell BK764.out 6).trans rfl⟩ (fun hHeld => ?_)
          clear hK K
          refine norm_ (a' := ?_) ?_ ?_
          rotate_left
          ·show Act.put _ (some 82) _ = _
           simp only [Act.put,p1_,p2_,p3_,i64_w,i32_w]
           rfl
          refine one_ (i := 3) (N := some 84) #[true,true,true,true,false,false] rfl rfl (by kernel_rfl) (by decide) (fun K hK => ?_)
          refine zgo Tryd.func26 #[.int .i64 4,.agg #[.int .i64 t745,.int .i64 t746,.int .i64 t747,.int .i64 t748,.string t749,.string t750,.string ⟨#[49,50,51,52,53,54,55,56]⟩]] ?_
          with_reducible refine (spec_MessageSigned.calls kj9 4 t745 t746 t747 t748 t749 t750 (⟨#[49,50,51,52,53,54,55,56]⟩ : ByteArray) t771 _ A79.out).mono ?_
          rintro e w91 ⟨rfl,hb⟩
          refine ⟨_,rfl,?_⟩
          replace BK743 := zb BK743 hb
          replace BK753 := zb BK753 hb
          replace BK762 := zb BK762 hb
          replace BK764 := zb BK764 hb
          replace HB := zs_ HB hb
          (try clear hb)
          (try clear hb2)
          (try clear hk)
          (try clear hi)
          refine hK.out _ _ ⟨(blk_cell BK764.out 0).trans rfl,(blk_cell BK764.out 1).trans rfl,(blk_cell BK764.out 2).trans rfl,(blk_cell BK764.out 3).trans rfl,(blk_cell BK764.out 4).trans rfl,(blk_cell BK764.out 5).trans rfl,(blk_cell BK764.out 6).trans rfl⟩ (fun hHeld => ?_)
          clear hK K
          refine norm_ (a' := ?_) ?_ ?_
          rotate_left
          ·show Act.put _ (some 84) _ = _
           simp only [Act.put,p1_,p2_,p3_,i64_w,i32_w]
           rfl
          refine pure_ (i := 4) (N := some 85) (v := ?_) (a' := ?_) #[true,true,true,true,true,false] rfl rfl (by kernel_rfl) (fun _ _ _ h => h) (Or.inl ⟨by rfl,?_⟩) ?_ ?_
          rotate_left
          ·intro w'
           go_simp
           with_reducible rfl
          rotate_left
          ·simp only [Act.put,p1_,p2_,p3_,i64_w,i32_w]
           rfl
          refine pure_ (i := 5) (N := some 4) (v := ?_) (a' := ?_) #[true,true,true,true,true,true] rfl rfl (by kernel_rfl) (fun _ _ _ h => h) (Or.inl ⟨by rfl,?_⟩) ?_ ?_
          rotate_left
          ·intro w'
           go_simp
           with_reducible rfl
          rotate_left
          ·simp only [Act.put,p1_,p2_,p3_,i64_w,i32_w]
           rfl
          refine done_ (by kernel_rfl) ?_
          try go_wp2
          go_ret
          exact ⟨zt_,zl_ HB⟩
         ·rw [if_neg c77] at H
          have c77b0 : (t765 == 2) = false := beq_eq_false_iff_ne.mpr c77
          have c77b1 : (t765 != 2) = true := bne_iff_ne.mpr c77
          by_cases c92 : t765 = 3
          ·rw [if_pos c92] at H
           have c92b0 : (t765 == 3) = true := beq_iff_eq.mpr c92
           have c92b1 : (t765 != 3) = false := bne_eq_false_iff_eq.mpr c92
           clear c92
           obtain ⟨ji93,hji93⟩ : ∃ j_ : Int,(mn (l1.length : Int) 100) = j_ := ⟨_,rfl⟩
           replace H : (if 0 ≤ (ji93) then (if (ji93) ≤ (l1.length : Int) then ((impl_Hash.f kj9 (l1.take ((ji93) : Int).toNat)).bind fun t773 => ((impl_MessageSigned.f kj9 4 t745 t746 t747 t748 t773 t750 t751).bind fun t774 => ((spec_MessageSigned.f kj9 4 t745 t746 t747 t748 t773 t750 t751).bind fun t775 => (some (t774 == t775))))) else (none)) else (none)) = some r := by first | (rw [hji93] at H;exact H) | (simp only [hji93] at H ⊢;exact H)
           (try rw [hji93] at A45)
           have hji93_ : (if 100 < (l1.length : Int) then 100 else (l1.length : Int)) = ji93 := hji93
           by_cases c94 : 0 ≤ (ji93)
           ·rw [if_pos c94] at H
            have c94b0 := eq_true c94
            have c94b1 : decide (0 ≤ (ji93)) = true := decide_eq_true c94
            clear c94
            by_cases c95 : (ji93) ≤ (l1.length : Int)
            ·rw [if_pos c95] at H
             have c95b0 := eq_true c95
             have c95b1 : decide ((ji93) ≤ (l1.length : Int)) = true := decide_eq_true c95
             clear c95
             replace H := Option.bind_eq_some_iff.mp H
             obtain ⟨t773,A960,H⟩ := H
             try dsimp only at H
             have A96 := am_ A960
             clear A960
             replace H := Option.bind_eq_some_iff.mp H
             obtain ⟨t774,A970,H⟩ := H
             try dsimp only at H
             have A97 := am_ A970
             clear A970
             replace H := Option.bind_eq_some_iff.mp H
             obtain ⟨t775,A980,H⟩ := H
             try dsimp only at H
             have A98 := am_ A980
             clear A980
             obtain rfl := Option.some.inj H
             have hnb99 := NB753_743.out
             have hnc99 := NB743_753.out
             have hnb100 := NB753_762.out
             have hnc100 := NB762_753.out
             obtain ⟨hcz101_0,hcz101_1,hcz101_2,hcz101_3,hcz101_4,hcz101_5,hcz101_6,hfz101_0,hfz101_1,hfz101_2,hfz101_3,hfz101_4,hfz101_5,hfz101_6⟩ := zc7 BK753
             try go_wp2_with (first | ((with_reducible refine gate_dst (N := 11) rfl ?_);(try (refine gate_guard (by rfl) ?_;dsimp only));refine zbx (N := 11) (cs := #[.int .i64 0,.int .i64 0,.int .i64 0,.int .i64 0,.string ⟨#[]⟩,.string ⟨#[]⟩,.string ⟨#[]⟩]) (t := 33) ?_;intro gb764 hg w102 hbox hb;have BK764 := am_ (hbox);have GW764 := zw_ HB hg;have GE764 := zw_ HB hg;replace HB := zs_ HB hb;have NB743_764 := zl hg BK743;have NB764_743 := zg hg BK743;replace BK743 := zb BK743 hb;have NB753_764 := zl hg BK753;have NB764_753 := zg hg BK753;replace BK753 := zb BK753 hb;have NB762_764 := zl hg BK762;have NB764_762 := zg hg BK762;replace BK762 := zb BK762 hb;clear hb hbox hg;have hnb103 := NB764_743.out;have hnc103 := NB743_764.out;have hnb104 := NB764_753.out;have hnc104 := NB753_764.out;have hnb105 := NB764_762.out;have hnc105 := NB762_764.out;obtain ⟨hcz106_0,hcz106_1,hcz106_2,hcz106_3,hcz106_4,hcz106_5,hcz106_6,hfz106_0,hfz106_1,hfz106_2,hfz106_3,hfz106_4,hfz106_5,hfz106_6⟩ := zc7 BK764) | ((with_reducible refine gate_callee (f := 21) rfl ?_);refine zgl (some 56) Tryd.func21 #[.slice A1 l1.length c1,.int .i64 1,.int .i64 4] ?_;(with_reducible refine (laws_at.calls _ _ l1 1 4 t765 _ ?side1 ?side2 A45.out).mono ?_);(case side1 => exact Kd.C_below HR1.out (zl_ HB));(case side2 => exact HC1.out);rintro e w' ⟨rfl,⟨nd,rfl⟩⟩;refine ⟨_,rfl,?_⟩;obtain ⟨i0107,hi0107,_,hsz107,_⟩ := info_parts info5;obtain ⟨hcut107,hA107,hC107⟩ := print_take_of (P := Tryd.prog) (Value.int .u8) 0 31 5 .i64 Tryd.underlying31 hi0107 hsz107 A1 c1 l1 (ji93) (zo_) (zo_) HC1.out;have HR772 := am_ (Kd.C_of_reads (h1 := fun _ => rfl) (hA107 _ (Kd.reads_of_C HR1.out)));have HC772 := am_ hC107;clear hA107 hC107 hi0107 hsz107) | ((with_reducible refine gate_callee (f := 25) rfl ?_);refine goesL_ (some 79) rfl rfl Tryd.func25 (by kernel_rfl) rfl #[.slice A1 (l1.take ((ji93) : Int).toNat).length c1] rfl (by (try simp only [m1_,m2_,m3_]);first | done | (rw [show (l1.take ((ji93) : Int).toNat).length = (ji93).toNat from (by rw [List.length_take];have h_ : ((ji93) : Int) ≤ (l1.length : Int) := zo_;omega)] <;> rfl) | (simp only [hji93];rfl) | rfl | (simp only [d1_,d2_];rfl)) ?_;(with_reducible refine (impl_Hash.calls kj9 _ _ (l1.take ((ji93) : Int).toNat) t773 _ ?side1 ?side2 ?side3 A96.out).mono ?_);(case side1 => exact Kd.C_below HR772.out (zl_ HB));(case side2 => exact HC772.out);(case side3 => exact HLD.out.on (zl_ HB));rintro e w108 ⟨rfl,hb⟩;refine ⟨_,rfl,?_⟩;replace BK743 := am_ (blk_below (g := gb743) (o := .cells #[.int .i64 t736,.int .i64 t737,.int .i64 t738,.int .i64 t739,.string t740,.string t741,.string t742] 33 (0,0)) (zq BK743) hb);replace BK753 := am_ (blk_below (g := gb753) (o := .cells #[.int .i64 t745,.int .i64 t746,.int .i64 t747,.int .i64 t748,.string t749,.string t750,.string t751] 33 (0,0)) (zq BK753) hb);replace BK762 := am_ (blk_below (g := gb762) (o := .cells #[.int .i64 t754,.int .i64 t755,.int .i64 t756,.int .i64 t757,.string t758,.string t759,.string t760] 33 (0,0)) (zq BK762) hb);replace BK764 := am_ (blk_below (g := gb764) (o := .cells #[.int .i64 t745,.int .i64 t746,.int .i64 t747,.int .i64 t748,.string t749,.string t750,.string t751] 33 (0,0)) (zq BK764) hb);replace HB := zs_ HB hb;(try clear hb);(try clear hb2);(try clear hk);(try clear hi);obtain ⟨hcz109_0,hcz109_1,hcz109_2,hcz109_3,hcz109_4,hcz109_5,hcz109_6,hfz109_0,hfz109_1,hfz109_2,hfz109_3,hfz109_4,hfz109_5,hfz109_6⟩ := zc7 BK764))
             have n0_ : Aside0 ((w108.setCell ⟨gb764,4,none⟩ (.string t773)).heap[gb743]? = some (.cells #[.int .i64 t736,.int .i64 t737,.int .i64 t738,.int .i64 t739,.string t740,.string t741,.string t742] 33 (0,0))) := ⟨zq BK743⟩
             have n1_ : Aside0 ((w108.setCell ⟨gb764,4,none⟩ (.string t773)).heap[gb753]? = some (.cells #[.int .i64 t745,.int .i64 t746,.int .i64 t747,.int .i64 t748,.string t749,.string t750,.string t751] 33 (0,0))) := ⟨zq BK753⟩
             have n2_ : Aside0 ((w108.setCell ⟨gb764,4,none⟩ (.string t773)).heap[gb762]? = some (.cells #[.int .i64 t754,.int .i64 t755,.int .i64 t756,.int .i64 t757,.string t758,.string t759,.string t760] 33 (0,0))) := ⟨zq BK762⟩
             have n3_ : Aside0 ((w108.setCell ⟨gb764,4,none⟩ (.string t773)).heap[gb764]? = some (.cells #[.int .i64 t745,.int .i64 t746,.int .i64 t747,.int .i64 t748,.string t773,.string t750,.string t751] 33 (0,0))) := ⟨zq BK764⟩
             have n4_ : Aside0 (Below w.heap.size w (w108.setCell ⟨gb764,4,none⟩ (.string t773))) := ⟨zl_ HB⟩
             (try clear BK743)
             (try clear BK753)
             (try clear BK762)
             (try clear BK764)
             (try clear HB)
             generalize (w108.setCell ⟨gb764,4,none⟩ (.string t773)) = w110 at n0_ n1_ n2_ n3_ n4_ ⊢
             have BK743 := n0_
             have BK753 := n1_
             have BK762 := n2_
             have BK764 := n3_
             have HB := n4_
             clear n0_ n1_ n2_ n3_ n4_
             replace BK743 := am_ (blk_drew BK743.out)
             replace BK753 := am_ (blk_drew BK753.out)
             replace BK762 := am_ (blk_drew BK762.out)
             replace BK764 := am_ (blk_drew BK764.out)
             replace HB := am_ (below_drew1 HB.out)
             refine start_ (n := 6) (S := fun w' => w'.cell? ⟨gb764,0,none⟩ = some (.int .i64 t745) ∧ w'.cell? ⟨gb764,1,none⟩ = some (.int .i64 t746) ∧ w'.cell? ⟨gb764,2,none⟩ = some (.int .i64 t747) ∧ w'.cell? ⟨gb764,3,none⟩ = some (.int .i64 t748) ∧ w'.cell? ⟨gb764,4,none⟩ = some (.string t773) ∧ w'.cell? ⟨gb764,5,none⟩ = some (.string t750) ∧ w'.cell? ⟨gb764,6,none⟩ = some (.string t751)) (ds := []) #[false,false,false,false,false,false] (by kernel_rfl) rfl rfl ⟨(blk_cell BK764.out 0).trans rfl,(blk_cell BK764.out 1).trans rfl,(blk_cell BK764.out 2).trans rfl,(blk_cell BK764.out 3).trans rfl,(blk_cell BK764.out 4).trans rfl,(blk_cell BK764.out 5).trans rfl,(blk_cell BK764.out 6).trans rfl⟩ (fun hHeld => ?_)
             generalize w110.drew = w111 at BK743 BK753 BK762 BK764 HB hHeld ⊢
             refine take_ (i := 0) (N := some 81) (v := ?_) (a' := ?_) #[true,false,false,false,false,false] rfl rfl (by kernel_rfl) (fun _ _ _ h => h) (Or.inl ⟨by rfl,?_⟩) hHeld ?_ ?_
             rotate_left
             ·rintro w' ⟨s0,s1,s2,s3,s4,s5,s6⟩
              go_simp
              with_reducible rfl
             rotate_left
             ·simp only [Act.put,p1_,p2_,p3_,i64_w,i32_w]
              rfl
             refine take_ (i := 2) (N := some 83) (v := ?_) (a' := ?_) #[true,false,true,false,false,false] rfl rfl (by kernel_rfl) (fun _ _ _ h => h) (Or.inl ⟨by rfl,?_⟩) hHeld ?_ ?_
             rotate_left
             ·rintro w' ⟨s0,s1,s2,s3,s4,s5,s6⟩
              go_simp
              with_reducible rfl
             rotate_left
             ·simp only [Act.put,p1_,p2_,p3_,i64_w,i32_w]
              rfl
             refine one_ (i := 1) (N := some 82) #[true,true,true,false,false,false] rfl rfl (by kernel_rfl) (by decide) (fun K hK => ?_)
             refine zgo Tryd.func24 #[.int .i64 4,.agg #[.int .i64 t745,.int .i64 t746,.int .i64 t747,.int .i64 t748,.string t773,.string t750,.string t751]] ?_
             with_reducible refine (impl_MessageSigned.calls kj9 4 t745 t746 t747 t748 t773 t750 t751 t774 _ ?side1 A97.out).mono ?_
             (case side1 => exact HLD.out.on (zl_ HB))
             rintro e w112 ⟨rfl,hb⟩
             refine ⟨_,rfl,?_⟩
             replace BK764 := zb BK764 hb
             replace HB := zs_ HB hb
             (try clear hb)
             (try clear hb2)
             (try clear hk)
             (try clear hi)
             refine hK.out _ _ ⟨(blk_cell BK764.out 0).trans rfl,(blk_cell BK764.out 1).trans rfl,(blk_cell BK764.out 2).trans rfl,(blk_cell BK764.out 3).trans rfl,(blk_cell BK764.out 4).trans rfl,(blk_cell BK764.out 5).trans rfl,(blk_cell BK764.out 6).trans rfl⟩ (fun hHeld => ?_)
             clear hK K
             refine norm_ (a' := ?_) ?_ ?_
             rotate_left
             ·show Act.put _ (some 82) _ = _
              simp only [Act.put,p1_,p2_,p3_,i64_w,i32_w]
              rfl
             refine one_ (i := 3) (N := some 84) #[true,true,true,true,false,false] rfl rfl (by kernel_rfl) (by decide) (fun K hK => ?_)
             refine zgo Tryd.func26 #[.int .i64 4,.agg #[.int .i64 t745,.int .i64 t746,.int .i64 t747,.int .i64 t748,.string t773,.string t750,.string t751]] ?_
             with_reducible refine (spec_MessageSigned.calls kj9 4 t745 t746 t747 t748 t773 t750 t751 t775 _ A98.out).mono ?_
             rintro e w113 ⟨rfl,hb⟩
             refine ⟨_,rfl,?_⟩
             replace BK764 := zb BK764 hb
             replace HB := zs_ HB hb
             (try clear hb)
             (try clear hb2)
             (try clear hk)
             (try clear hi)
             refine hK.out _ _ ⟨(blk_cell BK764.out 0).trans rfl,(blk_cell BK764.out 1).trans rfl,(blk_cell BK764.out 2).trans rfl,(blk_cell BK764.out 3).trans rfl,(blk_cell BK764.out 4).trans rfl,(blk_cell BK764.out 5).trans rfl,(blk_cell BK764.out 6).trans rfl⟩ (fun hHeld => ?_)
             clear hK K
             refine norm_ (a' := ?_) ?_ ?_
             rotate_left
             ·show Act.put _ (some 84) _ = _
              simp only [Act.put,p1_,p2_,p3_,i64_w,i32_w]
              rfl
             refine pure_ (i := 4) (N := some 85) (v := ?_) (a' := ?_) #[true,true,true,true,true,false] rfl rfl (by kernel_rfl) (fun _ _ _ h => h) (Or.inl ⟨by rfl,?_⟩) ?_ ?_
             rotate_left
             ·intro w'
              go_simp
              with_reducible rfl
             rotate_left
             ·simp only [Act.put,p1_,p2_,p3_,i64_w,i32_w]
              rfl
             refine pure_ (i := 5) (N := some 4) (v := ?_) (a' := ?_) #[true,true,true,true,true,true] rfl rfl (by kernel_rfl) (fun _ _ _ h => h) (Or.inl ⟨by rfl,?_⟩) ?_ ?_
             rotate_left
             ·intro w'
              go_simp
              with_reducible rfl
             rotate_left
             ·simp only [Act.put,p1_,p2_,p3_,i64_w,i32_w]
              rfl
             refine done_ (by kernel_rfl) ?_
             try go_wp2
             go_ret
             exact ⟨by first | rfl | (simp [e1_,e2_] <;> rfl) | (simp only [← hji93];first | rfl | (simp [e1_,e2_] <;> rfl)) | (simp [*,e1_,e2_] <;> rfl) | (simp [e3_,e4_];done) | (simp [*,e3_,e4_];done),zl_ HB⟩
            ·rw [if_neg c95] at H
             exact absurd H (by simp)
           ·rw [if_neg c94] at H
            exact absurd H (by simp)
          ·rw [if_neg c92] at H
           have c92b0 : (t765 == 3) = false := beq_eq_false_iff_ne.mpr c92
           have c92b1 : (t765 != 3) = true := bne_iff_ne.mpr c92
           replace H := Option.bind_eq_some_iff.mp H
           obtain ⟨t776,A1140,H⟩ := H
           try dsimp only at H
           have A114 := am_ A1140
           clear A1140
           replace H := Option.bind_eq_some_iff.mp H
           obtain ⟨t777,A1150,H⟩ := H
           try dsimp only at H
           have A115 := am_ A1150
           clear A1150
           obtain rfl := Option.some.inj H
           have hnb116 := NB753_743.out
           have hnc116 := NB743_753.out
           have hnb117 := NB753_762.out
           have hnc117 := NB762_753.out
           obtain ⟨hcz118_0,hcz118_1,hcz118_2,hcz118_3,hcz118_4,hcz118_5,hcz118_6,hfz118_0,hfz118_1,hfz118_2,hfz118_3,hfz118_4,hfz118_5,hfz118_6⟩ := zc7 BK753
           try go_wp2_with (first | ((with_reducible refine gate_dst (N := 11) rfl ?_);(try (refine gate_guard (by rfl) ?_;dsimp only));refine zbx (N := 11) (cs := #[.int .i64 0,.int .i64 0,.int .i64 0,.int .i64 0,.string ⟨#[]⟩,.string ⟨#[]⟩,.string ⟨#[]⟩]) (t := 33) ?_;intro gb764 hg w119 hbox hb;have BK764 := am_ (hbox);have GW764 := zw_ HB hg;have GE764 := zw_ HB hg;replace HB := zs_ HB hb;have NB743_764 := zl hg BK743;have NB764_743 := zg hg BK743;replace BK743 := zb BK743 hb;have NB753_764 := zl hg BK753;have NB764_753 := zg hg BK753;replace BK753 := zb BK753 hb;have NB762_764 := zl hg BK762;have NB764_762 := zg hg BK762;replace BK762 := zb BK762 hb;clear hb hbox hg;have hnb120 := NB764_743.out;have hnc120 := NB743_764.out;have hnb121 := NB764_753.out;have hnc121 := NB753_764.out;have hnb122 := NB764_762.out;have hnc122 := NB762_764.out;obtain ⟨hcz123_0,hcz123_1,hcz123_2,hcz123_3,hcz123_4,hcz123_5,hcz123_6,hfz123_0,hfz123_1,hfz123_2,hfz123_3,hfz123_4,hfz123_5,hfz123_6⟩ := zc7 BK764) | ((with_reducible refine gate_callee (f := 21) rfl ?_);refine zgl (some 56) Tryd.func21 #[.slice A1 l1.length c1,.int .i64 1,.int .i64 4] ?_;(with_reducible refine (laws_at.calls _ _ l1 1 4 t765 _ ?side1 ?side2 A45.out).mono ?_);(case side1 => exact Kd.C_below HR1.out (zl_ HB));(case side2 => exact HC1.out);rintro e w' ⟨rfl,⟨nd,rfl⟩⟩;refine ⟨_,rfl,?_⟩))
           have n0_ : Aside0 ((((((((w119.setCell ⟨gb764,0,none⟩ (.int .i64 t745)).setCell ⟨gb764,1,none⟩ (.int .i64 t746)).setCell ⟨gb764,2,none⟩ (.int .i64 t747)).setCell ⟨gb764,3,none⟩ (.int .i64 t748)).setCell ⟨gb764,4,none⟩ (.string t749)).setCell ⟨gb764,5,none⟩ (.string t750)).setCell ⟨gb764,6,none⟩ (.string t751)).heap[gb743]? = some (.cells #[.int .i64 t736,.int .i64 t737,.int .i64 t738,.int .i64 t739,.string t740,.string t741,.string t742] 33 (0,0))) := ⟨zq BK743⟩
           have n1_ : Aside0 ((((((((w119.setCell ⟨gb764,0,none⟩ (.int .i64 t745)).setCell ⟨gb764,1,none⟩ (.int .i64 t746)).setCell ⟨gb764,2,none⟩ (.int .i64 t747)).setCell ⟨gb764,3,none⟩ (.int .i64 t748)).setCell ⟨gb764,4,none⟩ (.string t749)).setCell ⟨gb764,5,none⟩ (.string t750)).setCell ⟨gb764,6,none⟩ (.string t751)).heap[gb753]? = some (.cells #[.int .i64 t745,.int .i64 t746,.int .i64 t747,.int .i64 t748,.string t749,.string t750,.string t751] 33 (0,0))) := ⟨zq BK753⟩
           have n2_ : Aside0 ((((((((w119.setCell ⟨gb764,0,none⟩ (.int .i64 t745)).setCell ⟨gb764,1,none⟩ (.int .i64 t746)).setCell ⟨gb764,2,none⟩ (.int .i64 t747)).setCell ⟨gb764,3,none⟩ (.int .i64 t748)).setCell ⟨gb764,4,none⟩ (.string t749)).setCell ⟨gb764,5,none⟩ (.string t750)).setCell ⟨gb764,6,none⟩ (.string t751)).heap[gb762]? = some (.cells #[.int .i64 t754,.int .i64 t755,.int .i64 t756,.int .i64 t757,.string t758,.string t759,.string t760] 33 (0,0))) := ⟨zq BK762⟩
           have n3_ : Aside0 ((((((((w119.setCell ⟨gb764,0,none⟩ (.int .i64 t745)).setCell ⟨gb764,1,none⟩ (.int .i64 t746)).setCell ⟨gb764,2,none⟩ (.int .i64 t747)).setCell ⟨gb764,3,none⟩ (.int .i64 t748)).setCell ⟨gb764,4,none⟩ (.string t749)).setCell ⟨gb764,5,none⟩ (.string t750)).setCell ⟨gb764,6,none⟩ (.string t751)).heap[gb764]? = some (.cells #[.int .i64 t745,.int .i64 t746,.int .i64 t747,.int .i64 t748,.string t749,.string t750,.string t751] 33 (0,0))) := ⟨zq BK764⟩
           have n4_ : Aside0 (Below w.heap.size w (((((((w119.setCell ⟨gb764,0,none⟩ (.int .i64 t745)).setCell ⟨gb764,1,none⟩ (.int .i64 t746)).setCell ⟨gb764,2,none⟩ (.int .i64 t747)).setCell ⟨gb764,3,none⟩ (.int .i64 t748)).setCell ⟨gb764,4,none⟩ (.string t749)).setCell ⟨gb764,5,none⟩ (.string t750)).setCell ⟨gb764,6,none⟩ (.string t751))) := ⟨zl_ HB⟩
           (try clear BK743)
           (try clear BK753)
           (try clear BK762)
           (try clear BK764)
           (try clear HB)
           generalize (((((((w119.setCell ⟨gb764,0,none⟩ (.int .i64 t745)).setCell ⟨gb764,1,none⟩ (.int .i64 t746)).setCell ⟨gb764,2,none⟩ (.int .i64 t747)).setCell ⟨gb764,3,none⟩ (.int .i64 t748)).setCell ⟨gb764,4,none⟩ (.string t749)).setCell ⟨gb764,5,none⟩ (.string t750)).setCell ⟨gb764,6,none⟩ (.string t751)) = w124 at n0_ n1_ n2_ n3_ n4_ ⊢
           have BK743 := n0_
           have BK753 := n1_
           have BK762 := n2_
           have BK764 := n3_
           have HB := n4_
           clear n0_ n1_ n2_ n3_ n4_
           (try (rw [drewN_self w124];generalize hq_ : World.drewN w124 _ = w124;have n0_ : Aside0 (w124.heap[gb743]? = some (.cells #[.int .i64 t736,.int .i64 t737,.int .i64 t738,.int .i64 t739,.string t740,.string t741,.string t742] 33 (0,0))) := ⟨by rw [← hq_];exact (zk BK743)⟩;have n1_ : Aside0 (w124.heap[gb753]? = some (.cells #[.int .i64 t745,.int .i64 t746,.int .i64 t747,.int .i64 t748,.string t749,.string t750,.string t751] 33 (0,0))) := ⟨by rw [← hq_];exact (zk BK753)⟩;have n2_ : Aside0 (w124.heap[gb762]? = some (.cells #[.int .i64 t754,.int .i64 t755,.int .i64 t756,.int .i64 t757,.string t758,.string t759,.string t760] 33 (0,0))) := ⟨by rw [← hq_];exact (zk BK762)⟩;have n3_ : Aside0 (w124.heap[gb764]? = some (.cells #[.int .i64 t745,.int .i64 t746,.int .i64 t747,.int .i64 t748,.string t749,.string t750,.string t751] 33 (0,0))) := ⟨by rw [← hq_];exact (zk BK764)⟩;have n4_ : Aside0 (Below w.heap.size w w124) := ⟨by rw [← hq_];exact (zl_ HB)⟩;clear BK743 BK753 BK762 BK764 HB hq_;have BK743 := n0_;have BK753 := n1_;have BK762 := n2_;have BK764 := n3_;have HB := n4_;clear n0_ n1_ n2_ n3_ n4_));(try have hfu743_0 := blk_frozen BK743.out 0);(try have hcu743_0 : w124.cell? ⟨gb743,0,none⟩ = some (.int .i64 t736) := (blk_cell BK743.out 0).trans rfl);(try have hfu743_1 := blk_frozen BK743.out 1);(try have hcu743_1 : w124.cell? ⟨gb743,1,none⟩ = some (.int .i64 t737) := (blk_cell BK743.out 1).trans rfl);(try have hfu743_2 := blk_frozen BK743.out 2);(try have hcu743_2 : w124.cell? ⟨gb743,2,none⟩ = some (.int .i64 t738) := (blk_cell BK743.out 2).trans rfl);(try have hfu743_3 := blk_frozen BK743.out 3);(try have hcu743_3 : w124.cell? ⟨gb743,3,none⟩ = some (.int .i64 t739) := (blk_cell BK743.out 3).trans rfl);(try have hfu743_4 := blk_frozen BK743.out 4);(try have hcu743_4 : w124.cell? ⟨gb743,4,none⟩ = some (.string t740) := (blk_cell BK743.out 4).trans rfl);(try have hfu743_5 := blk_frozen BK743.out 5);(try have hcu743_5 : w124.cell? ⟨gb743,5,none⟩ = some (.string t741) := (blk_cell BK743.out 5).trans rfl);(try have hfu743_6 := blk_frozen BK743.out 6);(try have hcu743_6 : w124.cell? ⟨gb743,6,none⟩ = some (.string t742) := (blk_cell BK743.out 6).trans rfl);(try have hfu753_0 := blk_frozen BK753.out 0);(try have hcu753_0 : w124.cell? ⟨gb753,0,none⟩ = some (.int .i64 t745) := (blk_cell BK753.out 0).trans rfl);(try have hfu753_1 := blk_frozen BK753.out 1);(try have hcu753_1 : w124.cell? ⟨gb753,1,none⟩ = some (.int .i64 t746) := (blk_cell BK753.out 1).trans rfl);(try have hfu753_2 := blk_frozen BK753.out 2);(try have hcu753_2 : w124.cell? ⟨gb753,2,none⟩ = some (.int .i64 t747) := (blk_cell BK753.out 2).trans rfl);(try have hfu753_3 := blk_frozen BK753.out 3);(try have hcu753_3 : w124.cell? ⟨gb753,3,none⟩ = some (.int .i64 t748) := (blk_cell BK753.out 3).trans rfl);(try have hfu753_4 := blk_frozen BK753.out 4);(try have hcu753_4 : w124.cell? ⟨gb753,4,none⟩ = some (.string t749) := (blk_cell BK753.out 4).trans rfl);(try have hfu753_5 := blk_frozen BK753.out 5);(try have hcu753_5 : w124.cell? ⟨gb753,5,none⟩ = some (.string t750) := (blk_cell BK753.out 5).trans rfl);(try have hfu753_6 := blk_frozen BK753.out 6);(try have hcu753_6 : w124.cell? ⟨gb753,6,none⟩ = some (.string t751) := (blk_cell BK753.out 6).trans rfl);(try have hfu762_0 := blk_frozen BK762.out 0);(try have hcu762_0 : w124.cell? ⟨gb762,0,none⟩ = some (.int .i64 t754) := (blk_cell BK762.out 0).trans rfl);(try have hfu762_1 := blk_frozen BK762.out 1);(try have hcu762_1 : w124.cell? ⟨gb762,1,none⟩ = some (.int .i64 t755) := (blk_cell BK762.out 1).trans rfl);(try have hfu762_2 := blk_frozen BK762.out 2);(try have hcu762_2 : w124.cell? ⟨gb762,2,none⟩ = some (.int .i64 t756) := (blk_cell BK762.out 2).trans rfl);(try have hfu762_3 := blk_frozen BK762.out 3);(try have hcu762_3 : w124.cell? ⟨gb762,3,none⟩ = some (.int .i64 t757) := (blk_cell BK762.out 3).trans rfl);(try have hfu762_4 := blk_frozen BK762.out 4);(try have hcu762_4 : w124.cell? ⟨gb762,4,none⟩ = some (.string t758) := (blk_cell BK762.out 4).trans rfl);(try have hfu762_5 := blk_frozen BK762.out 5);(try have hcu762_5 : w124.cell? ⟨gb762,5,none⟩ = some (.string t759) := (blk_cell BK762.out 5).trans rfl);(try have hfu762_6 := blk_frozen BK762.out 6);(try have hcu762_6 : w124.cell? ⟨gb762,6,none⟩ = some (.string t760) := (blk_cell BK762.out 6).trans rfl);(try have hfu764_0 := blk_frozen BK764.out 0);(try have hcu764_0 : w124.cell? ⟨gb764,0,none⟩ = some (.int .i64 t745) := (blk_cell BK764.out 0).trans rfl);(try have hfu764_1 := blk_frozen BK764.out 1);(try have hcu764_1 : w124.cell? ⟨gb764,1,none⟩ = some (.int .i64 t746) := (blk_cell BK764.out 1).trans rfl);(try have hfu764_2 := blk_frozen BK764.out 2);(try have hcu764_2 : w124.cell? ⟨gb764,2,none⟩ = some (.int .i64 t747) := (blk_cell BK764.out 2).trans rfl);(try have hfu764_3 := blk_frozen BK764.out 3);(try have hcu764_3 : w124.cell? ⟨gb764,3,none⟩ = some (.int .i64 t748) := (blk_cell BK764.out 3).trans rfl);(try have hfu764_4 := blk_frozen BK764.out 4);(try have hcu764_4 : w124.cell? ⟨gb764,4,none⟩ = some (.string t749) := (blk_cell BK764.out 4).trans rfl);(try have hfu764_5 := blk_frozen BK764.out 5);(try have hcu764_5 : w124.cell? ⟨gb764,5,none⟩ = some (.string t750) := (blk_cell BK764.out 5).trans rfl);(try have hfu764_6 := blk_frozen BK764.out 6);(try have hcu764_6 : w124.cell? ⟨gb764,6,none⟩ = some (.string t751) := (blk_cell BK764.out 6).trans rfl)
           replace BK743 := am_ (blk_drew BK743.out)
           replace BK753 := am_ (blk_drew BK753.out)
           replace BK762 := am_ (blk_drew BK762.out)
           replace BK764 := am_ (blk_drew BK764.out)
           replace HB := am_ (below_drew1 HB.out)
           refine start_ (n := 6) (S := fun w' => w'.cell? ⟨gb764,0,none⟩ = some (.int .i64 t745) ∧ w'.cell? ⟨gb764,1,none⟩ = some (.int .i64 t746) ∧ w'.cell? ⟨gb764,2,none⟩ = some (.int .i64 t747) ∧ w'.cell? ⟨gb764,3,none⟩ = some (.int .i64 t748) ∧ w'.cell? ⟨gb764,4,none⟩ = some (.string t749) ∧ w'.cell? ⟨gb764,5,none⟩ = some (.string t750) ∧ w'.cell? ⟨gb764,6,none⟩ = some (.string t751)) (ds := []) #[false,false,false,false,false,false] (by kernel_rfl) rfl rfl ⟨(blk_cell BK764.out 0).trans rfl,(blk_cell BK764.out 1).trans rfl,(blk_cell BK764.out 2).trans rfl,(blk_cell BK764.out 3).trans rfl,(blk_cell BK764.out 4).trans rfl,(blk_cell BK764.out 5).trans rfl,(blk_cell BK764.out 6).trans rfl⟩ (fun hHeld => ?_)
           generalize w124.drew = w125 at BK743 BK753 BK762 BK764 HB hHeld ⊢
           refine take_ (i := 0) (N := some 81) (v := ?_) (a' := ?_) #[true,false,false,false,false,false] rfl rfl (by kernel_rfl) (fun _ _ _ h => h) (Or.inl ⟨by rfl,?_⟩) hHeld ?_ ?_
           rotate_left
           ·rintro w' ⟨s0,s1,s2,s3,s4,s5,s6⟩
            go_simp
            with_reducible rfl
           rotate_left
           ·simp only [Act.put,p1_,p2_,p3_,i64_w,i32_w]
            rfl
           refine take_ (i := 2) (N := some 83) (v := ?_) (a' := ?_) #[true,false,true,false,false,false] rfl rfl (by kernel_rfl) (fun _ _ _ h => h) (Or.inl ⟨by rfl,?_⟩) hHeld ?_ ?_
           rotate_left
           ·rintro w' ⟨s0,s1,s2,s3,s4,s5,s6⟩
            go_simp
            with_reducible rfl
           rotate_left
           ·simp only [Act.put,p1_,p2_,p3_,i64_w,i32_w]
            rfl
           refine one_ (i := 1) (N := some 82) #[true,true,true,false,false,false] rfl rfl (by kernel_rfl) (by decide) (fun K hK => ?_)
           refine zgo Tryd.func24 #[.int .i64 4,.agg #[.int .i64 t745,.int .i64 t746,.int .i64 t747,.int .i64 t748,.string t749,.string t750,.string t751]] ?_
           with_reducible refine (impl_MessageSigned.calls kj9 4 t745 t746 t747 t748 t749 t750 t751 t776 _ ?side1 A114.out).mono ?_
           (case side1 => exact HLD.out.on (zl_ HB))
           rintro e w126 ⟨rfl,hb⟩
           refine ⟨_,rfl,?_⟩
           replace BK764 := zb BK764 hb
           replace HB := zs_ HB hb
           (try clear hb)
           (try clear hb2)
           (try clear hk)
           (try clear hi)
           refine hK.out _ _ ⟨(blk_cell BK764.out 0).trans rfl,(blk_cell BK764.out 1).trans rfl,(blk_cell BK764.out 2).trans rfl,(blk_cell BK764.out 3).trans rfl,(blk_cell BK764.out 4).trans rfl,(blk_cell BK764.out 5).trans rfl,(blk_cell BK764.out 6).trans rfl⟩ (fun hHeld => ?_)
           clear hK K
           refine norm_ (a' := ?_) ?_ ?_
           rotate_left
           ·show Act.put _ (some 82) _ = _
            simp only [Act.put,p1_,p2_,p3_,i64_w,i32_w]
            rfl
           refine one_ (i := 3) (N := some 84) #[true,true,true,true,false,false] rfl rfl (by kernel_rfl) (by decide) (fun K hK => ?_)
           refine zgo Tryd.func26 #[.int .i64 4,.agg #[.int .i64 t745,.int .i64 t746,.int .i64 t747,.int .i64 t748,.string t749,.string t750,.string t751]] ?_
           with_reducible refine (spec_MessageSigned.calls kj9 4 t745 t746 t747 t748 t749 t750 t751 t777 _ A115.out).mono ?_
           rintro e w127 ⟨rfl,hb⟩
           refine ⟨_,rfl,?_⟩
           replace BK764 := zb BK764 hb
           replace HB := zs_ HB hb
           (try clear hb)
           (try clear hb2)
           (try clear hk)
           (try clear hi)
           refine hK.out _ _ ⟨(blk_cell BK764.out 0).trans rfl,(blk_cell BK764.out 1).trans rfl,(blk_cell BK764.out 2).trans rfl,(blk_cell BK764.out 3).trans rfl,(blk_cell BK764.out 4).trans rfl,(blk_cell BK764.out 5).trans rfl,(blk_cell BK764.out 6).trans rfl⟩ (fun hHeld => ?_)
           clear hK K
           refine norm_ (a' := ?_) ?_ ?_
           rotate_left
           ·show Act.put _ (some 84) _ = _
            simp only [Act.put,p1_,p2_,p3_,i64_w,i32_w]
            rfl
           refine pure_ (i := 4) (N := some 85) (v := ?_) (a' := ?_) #[true,true,true,true,true,false] rfl rfl (by kernel_rfl) (fun _ _ _ h => h) (Or.inl ⟨by rfl,?_⟩) ?_ ?_
           rotate_left
           ·intro w'
            go_simp
            with_reducible rfl
           rotate_left
           ·simp only [Act.put,p1_,p2_,p3_,i64_w,i32_w]
            rfl
           refine pure_ (i := 5) (N := some 4) (v := ?_) (a' := ?_) #[true,true,true,true,true,true] rfl rfl (by kernel_rfl) (fun _ _ _ h => h) (Or.inl ⟨by rfl,?_⟩) ?_ ?_
           rotate_left
           ·intro w'
            go_simp
            with_reducible rfl
           rotate_left
           ·simp only [Act.put,p1_,p2_,p3_,i64_w,i32_w]
            rfl
           refine done_ (by kernel_rfl) ?_
           try go_wp2
           go_ret
           exact ⟨zt_,zl_ HB⟩
end Go.Proofs.YtadablpppkjdbaaDoor.A
end
