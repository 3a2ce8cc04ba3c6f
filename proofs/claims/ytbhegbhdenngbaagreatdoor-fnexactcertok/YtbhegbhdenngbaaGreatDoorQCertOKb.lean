/- A part of the proof that FnExactCertOK returns true at every input: plain functions, contracts and lemmas. No conditions. -/
import Derived.Test.YtbhegbhdenngbaaGreatDoorQCertOKa
set_option linter.unusedVariables false
set_option linter.unusedSimpArgs false
set_option linter.unusedSectionVars false
section
namespace Go.Proofs.YtbhegbhdenngbaaGreatDoor.A
open Go.RowKit Go.Proofs.YtbhegbhdenngbaaGreatDoorW.PrintWords Go.Proofs.YtbhegbhdenngbaaGreatDoorW.PrintLast Go.Proofs.YtbhegbhdenngbaaGreatDoorW.PrintMore
attribute [local go_sem] max2_int min2_int max_two min_two max_three min_three max_four min_four
def ZF.f (k : Nat) (a0 : Int) (a1_0 : Int) (a1_1 : Int) (a1_2 : Int) (a1_3 : Int) (a1_4 : ByteArray) (a1_5 : ByteArray) (a1_6 : ByteArray) : Option (Bool) := (Zy.f k a1_0 a1_1 a1_2 a1_3 a1_4 a1_5 a1_6).bind fun t338 => (if t338 = true then (if a1_3 < a0 then ((ZJ.f k a1_0 a1_1 a1_2 a1_3 a1_4 a1_5 a1_6).bind fun t339 => ((ZS.f k a1_3 t339).bind fun t342 => (some (t342.toList == a1_6.toList)))) else (some false)) else (some false))
theorem ZF.mono : ∀ a0 a1 a2 a3 a4 a5 a6 a7 k,LeO (ZF.f k a0 a1 a2 a3 a4 a5 a6 a7) (ZF.f (k + 1) a0 a1 a2 a3 a4 a5 a6 a7) := by
 intro a0 a1 a2 a3 a4 a5 a6 a7 k
 unfold ZF.f
 repeat' (with_reducible first | exact Zy.mono _ _ _ _ _ _ _ _ | exact ZJ.mono _ _ _ _ _ _ _ _ | exact ZS.mono _ _ _ | exact LeO.refl _ | exact LeO.none _ | refine LeO.ite ?_ ?_ | refine LeO.bind ?_ (fun _ => ?_))
noncomputable def ZF.v (a0 : Int) (a1_0 : Int) (a1_1 : Int) (a1_2 : Int) (a1_3 : Int) (a1_4 : ByteArray) (a1_5 : ByteArray) (a1_6 : ByteArray) : Option (Bool) := lim (fun k_ => ZF.f k_ a0 a1_0 a1_1 a1_2 a1_3 a1_4 a1_5 a1_6)
theorem ZF.v_lim (a0 : Int) (a1_0 : Int) (a1_1 : Int) (a1_2 : Int) (a1_3 : Int) (a1_4 : ByteArray) (a1_5 : ByteArray) (a1_6 : ByteArray) : LimIs (fun k_ => ZF.f k_ a0 a1_0 a1_1 a1_2 a1_3 a1_4 a1_5 a1_6) (ZF.v a0 a1_0 a1_1 a1_2 a1_3 a1_4 a1_5 a1_6) := lim_is (fun k_ => ZF.mono a0 a1_0 a1_1 a1_2 a1_3 a1_4 a1_5 a1_6 k_)
theorem ZF.v_eq (a0 : Int) (a1_0 : Int) (a1_1 : Int) (a1_2 : Int) (a1_3 : Int) (a1_4 : ByteArray) (a1_5 : ByteArray) (a1_6 : ByteArray) : ZF.v a0 a1_0 a1_1 a1_2 a1_3 a1_4 a1_5 a1_6 = ((Zy.v a1_0 a1_1 a1_2 a1_3 a1_4 a1_5 a1_6).bind fun t338 => (if t338 = true then (if a1_3 < a0 then ((ZJ.v a1_0 a1_1 a1_2 a1_3 a1_4 a1_5 a1_6).bind fun t339 => ((ZS.v a1_3 t339).bind fun t342 => (some (t342.toList == a1_6.toList)))) else (some false)) else (some false)) : Option (Bool)) := by
 refine LimIs.eq (ZF.v_lim a0 a1_0 a1_1 a1_2 a1_3 a1_4 a1_5 a1_6) ?_
 simp only [ZF.f]
 repeat' (with_reducible first | exact Zy.v_lim _ _ _ _ _ _ _ | exact ZJ.v_lim _ _ _ _ _ _ _ | exact ZS.v_lim _ _ | exact LimIs.const _ | refine LimIs.ite ?_ ?_ | refine LimIs.bind ?_ (fun _ => ?_))
def ZN.f (k : Nat) (a0 : ByteArray) : Option (ByteArray) := if 5 + a0.size ≤ 9223372036854775807 then (if ((⟨#[98,97,116,99,104]⟩ : ByteArray) ++ a0).size ≤ 140737488355328 then ((Zb.f k (bytesOf ((⟨#[98,97,116,99,104]⟩ : ByteArray) ++ a0))).bind fun t346 => (some t346)) else (none)) else (none)
theorem ZN.mono : ∀ a0 k,LeO (ZN.f k a0) (ZN.f (k + 1) a0) := by
 intro a0 k
 unfold ZN.f
 repeat' (with_reducible first | exact Zb.mono _ _ | exact LeO.refl _ | exact LeO.none _ | refine LeO.ite ?_ ?_ | refine LeO.bind ?_ (fun _ => ?_))
noncomputable def ZN.v (a0 : ByteArray) : Option (ByteArray) := lim (fun k_ => ZN.f k_ a0)
theorem ZN.v_lim (a0 : ByteArray) : LimIs (fun k_ => ZN.f k_ a0) (ZN.v a0) := lim_is (fun k_ => ZN.mono a0 k_)
theorem ZN.v_eq (a0 : ByteArray) : ZN.v a0 = (if 5 + a0.size ≤ 9223372036854775807 then (if ((⟨#[98,97,116,99,104]⟩ : ByteArray) ++ a0).size ≤ 140737488355328 then ((Zb.v (bytesOf ((⟨#[98,97,116,99,104]⟩ : ByteArray) ++ a0))).bind fun t346 => (some t346)) else (none)) else (none) : Option (ByteArray)) := by
 refine LimIs.eq (ZN.v_lim a0) ?_
 simp only [ZN.f]
 repeat' (with_reducible first | exact Zb.v_lim _ | exact LimIs.const _ | refine LimIs.ite ?_ ?_ | refine LimIs.bind ?_ (fun _ => ?_))
mutual
def Zf.j0 : Nat → Int → Bool → ByteArray → List (S40) → Option (Bool)
 | 0,_,_,_,_ => none
 | k + 1,x0,x25,x348000,x348001 => if x25 = true then (some false) else (Zf.l0 k x0 0 x348000 x348001)
def Zf.l0 : Nat → Int → Int → ByteArray → List (S40) → Option (Bool)
 | 0,_,_,_,_ => none
 | k + 1,x0,x5,x348000,x348001 => if x5 < (x348001.length : Int) then (if 0 ≤ x5 then (if ((rd_T40 x348001 x5).f0) = 2 then ((ZF.f k x0 ((rd_T40 x348001 x5).f0) ((rd_T40 x348001 x5).f1) ((rd_T40 x348001 x5).f2) ((rd_T40 x348001 x5).f3) ((rd_T40 x348001 x5).f4) ((rd_T40 x348001 x5).f5) ((rd_T40 x348001 x5).f6)).bind fun t352 => (if t352 = true then ((ZN.f k x348000).bind fun t353 => (if ((rd_T40 x348001 x5).f4).toList = t353.toList then (if 0 < (x348001.length : Int) then (if ((rd_T40 x348001 x5).f1) = ((rd_T40 x348001 0).f1) then (if ((rd_T40 x348001 x5).f2) = ((rd_T40 x348001 0).f2) then (if x5 > 0 then (if 0 ≤ (wrap64 (x5 - 1)) then (if (wrap64 (x5 - 1)) < (x348001.length : Int) then (if ((rd_T40 x348001 (wrap64 (x5 - 1))).f3) ≥ ((rd_T40 x348001 x5).f3) then (some false) else (Zf.l0 k x0 (wrap64 (x5 + 1)) x348000 x348001)) else (none)) else (none)) else (Zf.l0 k x0 (wrap64 (x5 + 1)) x348000 x348001)) else (some false)) else (some false)) else (none)) else (some false))) else (some false))) else (some false)) else (none)) else (some true)
end
def Zf.f (k : Nat) (a0 : Int) (a1_0 : ByteArray) (l1_1 : List (S40)) : Option (Bool) := (Yn.f a0).bind fun t348 => (if (l1_1.length : Int) = t348 then (if (a1_0.size : Int) > 20000 then (Zf.j0 k a0 true a1_0 l1_1) else ((ZZ.f k a0 a1_0).bind fun t349 => (Zf.j0 k a0 (!t349) a1_0 l1_1))) else (Zf.j0 k a0 true a1_0 l1_1))
theorem Zf.mono_l : ∀ k,(∀ y0 y1 y2 y3,LeO (Zf.j0 k y0 y1 y2 y3) (Zf.j0 (k + 1) y0 y1 y2 y3)) ∧ (∀ y0 y1 y2 y3,LeO (Zf.l0 k y0 y1 y2 y3) (Zf.l0 (k + 1) y0 y1 y2 y3))
 | 0 => ⟨fun _ _ _ _ r h => by simp [Zf.j0] at h,fun _ _ _ _ r h => by simp [Zf.l0] at h⟩
 | k + 1 => by
  obtain ⟨ih0,ih1⟩ := Zf.mono_l k
  refine ⟨?_,?_⟩
  ·intro y0 y1 y2 y3
   unfold Zf.j0
   repeat' (with_reducible first | exact ih0 _ _ _ _ | exact ih1 _ _ _ _ | exact ZZ.mono _ _ _ | exact ZN.mono _ _ | exact ZF.mono _ _ _ _ _ _ _ _ _ | exact LeO.refl _ | exact LeO.none _ | refine LeO.ite ?_ ?_ | refine LeO.bind ?_ (fun _ => ?_))
  ·intro y0 y1 y2 y3
   unfold Zf.l0
   repeat' (with_reducible first | exact ih0 _ _ _ _ | exact ih1 _ _ _ _ | exact ZZ.mono _ _ _ | exact ZN.mono _ _ | exact ZF.mono _ _ _ _ _ _ _ _ _ | exact LeO.refl _ | exact LeO.none _ | refine LeO.ite ?_ ?_ | refine LeO.bind ?_ (fun _ => ?_))
theorem Zf.mono : ∀ a0 a1 a2 k,LeO (Zf.f k a0 a1 a2) (Zf.f (k + 1) a0 a1 a2) := by
 intro a0 a1 a2 k
 obtain ⟨ih0,ih1⟩ := Zf.mono_l k
 unfold Zf.f
 repeat' (with_reducible first | exact ih0 _ _ _ _ | exact ih1 _ _ _ _ | exact ZZ.mono _ _ _ | exact ZN.mono _ _ | exact ZF.mono _ _ _ _ _ _ _ _ _ | exact LeO.refl _ | exact LeO.none _ | refine LeO.ite ?_ ?_ | refine LeO.bind ?_ (fun _ => ?_))
noncomputable def Zf.jv0 (x0 : Int) (x25 : Bool) (x348000 : ByteArray) (x348001 : List (S40)) : Option (Bool) := lim (fun k_ => Zf.j0 k_ x0 x25 x348000 x348001)
noncomputable def Zf.lv0 (x0 : Int) (x5 : Int) (x348000 : ByteArray) (x348001 : List (S40)) : Option (Bool) := lim (fun k_ => Zf.l0 k_ x0 x5 x348000 x348001)
noncomputable def Zf.v (a0 : Int) (a1_0 : ByteArray) (l1_1 : List (S40)) : Option (Bool) := lim (fun k_ => Zf.f k_ a0 a1_0 l1_1)
theorem Zf.jv0_lim (x0 : Int) (x25 : Bool) (x348000 : ByteArray) (x348001 : List (S40)) : LimIs (fun k_ => Zf.j0 k_ x0 x25 x348000 x348001) (Zf.jv0 x0 x25 x348000 x348001) := lim_is (fun k_ => (Zf.mono_l k_).1 x0 x25 x348000 x348001)
theorem Zf.lv0_lim (x0 : Int) (x5 : Int) (x348000 : ByteArray) (x348001 : List (S40)) : LimIs (fun k_ => Zf.l0 k_ x0 x5 x348000 x348001) (Zf.lv0 x0 x5 x348000 x348001) := lim_is (fun k_ => (Zf.mono_l k_).2 x0 x5 x348000 x348001)
theorem Zf.v_lim (a0 : Int) (a1_0 : ByteArray) (l1_1 : List (S40)) : LimIs (fun k_ => Zf.f k_ a0 a1_0 l1_1) (Zf.v a0 a1_0 l1_1) := lim_is (fun k_ => Zf.mono a0 a1_0 l1_1 k_)
theorem Zf.jv0_eq (x0 : Int) (x25 : Bool) (x348000 : ByteArray) (x348001 : List (S40)) : Zf.jv0 x0 x25 x348000 x348001 = (if x25 = true then (some false) else (Zf.lv0 x0 0 x348000 x348001) : Option (Bool)) := by
 refine LimIs.eq (Zf.jv0_lim x0 x25 x348000 x348001) ?_
 refine LimIs.step (fun k_ => (Zf.mono_l k_).1 x0 x25 x348000 x348001) ?_
 simp only [Zf.j0]
 repeat' (with_reducible first | exact Zf.lv0_lim _ _ _ _ | exact LimIs.const _ | refine LimIs.ite ?_ ?_ | refine LimIs.bind ?_ (fun _ => ?_))
theorem Zf.lv0_eq (x0 : Int) (x5 : Int) (x348000 : ByteArray) (x348001 : List (S40)) : Zf.lv0 x0 x5 x348000 x348001 = (if x5 < (x348001.length : Int) then (if 0 ≤ x5 then (if ((rd_T40 x348001 x5).f0) = 2 then ((ZF.v x0 ((rd_T40 x348001 x5).f0) ((rd_T40 x348001 x5).f1) ((rd_T40 x348001 x5).f2) ((rd_T40 x348001 x5).f3) ((rd_T40 x348001 x5).f4) ((rd_T40 x348001 x5).f5) ((rd_T40 x348001 x5).f6)).bind fun t352 => (if t352 = true then ((ZN.v x348000).bind fun t353 => (if ((rd_T40 x348001 x5).f4).toList = t353.toList then (if 0 < (x348001.length : Int) then (if ((rd_T40 x348001 x5).f1) = ((rd_T40 x348001 0).f1) then (if ((rd_T40 x348001 x5).f2) = ((rd_T40 x348001 0).f2) then (if x5 > 0 then (if 0 ≤ (wrap64 (x5 - 1)) then (if (wrap64 (x5 - 1)) < (x348001.length : Int) then (if ((rd_T40 x348001 (wrap64 (x5 - 1))).f3) ≥ ((rd_T40 x348001 x5).f3) then (some false) else (Zf.lv0 x0 (wrap64 (x5 + 1)) x348000 x348001)) else (none)) else (none)) else (Zf.lv0 x0 (wrap64 (x5 + 1)) x348000 x348001)) else (some false)) else (some false)) else (none)) else (some false))) else (some false))) else (some false)) else (none)) else (some true) : Option (Bool)) := by
 refine LimIs.eq (Zf.lv0_lim x0 x5 x348000 x348001) ?_
 refine LimIs.step (fun k_ => (Zf.mono_l k_).2 x0 x5 x348000 x348001) ?_
 simp only [Zf.l0]
 repeat' (with_reducible first | exact Zf.lv0_lim _ _ _ _ | exact ZN.v_lim _ | exact ZF.v_lim _ _ _ _ _ _ _ _ | exact LimIs.const _ | refine LimIs.ite ?_ ?_ | refine LimIs.bind ?_ (fun _ => ?_))
theorem Zf.v_eq (a0 : Int) (a1_0 : ByteArray) (l1_1 : List (S40)) : Zf.v a0 a1_0 l1_1 = ((Yn.v a0).bind fun t348 => (if (l1_1.length : Int) = t348 then (if (a1_0.size : Int) > 20000 then (Zf.jv0 a0 true a1_0 l1_1) else ((ZZ.v a0 a1_0).bind fun t349 => (Zf.jv0 a0 (!t349) a1_0 l1_1))) else (Zf.jv0 a0 true a1_0 l1_1)) : Option (Bool)) := by
 refine LimIs.eq (Zf.v_lim a0 a1_0 l1_1) ?_
 simp only [Zf.f]
 repeat' (with_reducible first | exact ZZ.v_lim _ _ | exact Zf.jv0_lim _ _ _ _ | exact Yn.v_lim _ | exact LimIs.const _ | refine LimIs.ite ?_ ?_ | refine LimIs.bind ?_ (fun _ => ?_))
def Yh.f (k : Nat) (a0 : Int) (a1_0 : ByteArray) (l1_1 : List (S40)) : Option (Bool) := (Yc.f a0).bind fun t358 => (if t358 = true then ((Zf.f k a0 a1_0 l1_1).bind fun t359 => (some t359)) else (some false))
theorem Yh.mono : ∀ a0 a1 a2 k,LeO (Yh.f k a0 a1 a2) (Yh.f (k + 1) a0 a1 a2) := by
 intro a0 a1 a2 k
 unfold Yh.f
 repeat' (with_reducible first | exact Zf.mono _ _ _ _ | exact LeO.refl _ | exact LeO.none _ | refine LeO.ite ?_ ?_ | refine LeO.bind ?_ (fun _ => ?_))
noncomputable def Yh.v (a0 : Int) (a1_0 : ByteArray) (l1_1 : List (S40)) : Option (Bool) := lim (fun k_ => Yh.f k_ a0 a1_0 l1_1)
theorem Yh.v_lim (a0 : Int) (a1_0 : ByteArray) (l1_1 : List (S40)) : LimIs (fun k_ => Yh.f k_ a0 a1_0 l1_1) (Yh.v a0 a1_0 l1_1) := lim_is (fun k_ => Yh.mono a0 a1_0 l1_1 k_)
theorem Yh.v_eq (a0 : Int) (a1_0 : ByteArray) (l1_1 : List (S40)) : Yh.v a0 a1_0 l1_1 = ((Yc.v a0).bind fun t358 => (if t358 = true then ((Zf.v a0 a1_0 l1_1).bind fun t359 => (some t359)) else (some false)) : Option (Bool)) := by
 refine LimIs.eq (Yh.v_lim a0 a1_0 l1_1) ?_
 simp only [Yh.f]
 repeat' (with_reducible first | exact Yc.v_lim _ | exact Zf.v_lim _ _ _ | exact LimIs.const _ | refine LimIs.ite ?_ ?_ | refine LimIs.bind ?_ (fun _ => ?_))
def Ys.f (a0_0 : Int) (a0_1 : Int) (a0_2 : Int) (a0_3 : Int) (a0_4 : ByteArray) (a0_5 : ByteArray) (a0_6 : ByteArray) : Option (Int × Int × Int × Int × ByteArray × ByteArray × ByteArray) := some (a0_0,a0_1,a0_2,a0_3,a0_4,a0_5,a0_6)
def Ys.v (a0_0 : Int) (a0_1 : Int) (a0_2 : Int) (a0_3 : Int) (a0_4 : ByteArray) (a0_5 : ByteArray) (a0_6 : ByteArray) : Option (Int × Int × Int × Int × ByteArray × ByteArray × ByteArray) := Ys.f a0_0 a0_1 a0_2 a0_3 a0_4 a0_5 a0_6
theorem Ys.v_lim (a0_0 : Int) (a0_1 : Int) (a0_2 : Int) (a0_3 : Int) (a0_4 : ByteArray) (a0_5 : ByteArray) (a0_6 : ByteArray) : LimIs (fun _ => Ys.f a0_0 a0_1 a0_2 a0_3 a0_4 a0_5 a0_6) (Ys.v a0_0 a0_1 a0_2 a0_3 a0_4 a0_5 a0_6) := LimIs.const _
theorem Ys.v_eq (a0_0 : Int) (a0_1 : Int) (a0_2 : Int) (a0_3 : Int) (a0_4 : ByteArray) (a0_5 : ByteArray) (a0_6 : ByteArray) : Ys.v a0_0 a0_1 a0_2 a0_3 a0_4 a0_5 a0_6 = (some (a0_0,a0_1,a0_2,a0_3,a0_4,a0_5,a0_6) : Option (Int × Int × Int × Int × ByteArray × ByteArray × ByteArray)) := rfl
def Zx.l0 : Nat → List (S46) → List (S40) → Int → Option ((List (S40)))
 | 0,_,_,_ => none
 | k + 1,x0,x3,x4 => if x4 < (x0.length : Int) then (if 0 ≤ x4 then ((Ys.f ((rd_T46 x0 x4).f0) ((rd_T46 x0 x4).f1) ((rd_T46 x0 x4).f2) ((rd_T46 x0 x4).f3) ((rd_T46 x0 x4).f4) ((rd_T46 x0 x4).f5) ((rd_T46 x0 x4).f6)).bind fun bt367 => (if x4 < (x3.length : Int) then (Zx.l0 k x0 (x3.set (x4 : Int).toNat (⟨bt367.1,bt367.2.1,bt367.2.2.1,bt367.2.2.2.1,bt367.2.2.2.2.1,bt367.2.2.2.2.2.1,bt367.2.2.2.2.2.2⟩ : S40)) (wrap64 (x4 + 1))) else (none))) else (none)) else (some x3)
def Zx.f (k : Nat) (l0 : List (S46)) : Option ((List (S40))) := if 0 ≤ (l0.length : Int) then (if ((l0.length : Int) : Int).toNat ≤ 3518437208883 then (Zx.l0 k l0 (List.replicate ((l0.length : Int) : Int).toNat z40) 0) else (none)) else (none)
theorem Zx.mono_l : ∀ k,(∀ y0 y1 y2,LeO (Zx.l0 k y0 y1 y2) (Zx.l0 (k + 1) y0 y1 y2))
 | 0 => fun _ _ _ r h => by simp [Zx.l0] at h
 | k + 1 => by
  have ih0 := Zx.mono_l k
  ·intro y0 y1 y2
   unfold Zx.l0
   repeat' (with_reducible first | exact ih0 _ _ _ | exact LeO.refl _ | exact LeO.none _ | refine LeO.ite ?_ ?_ | refine LeO.bind ?_ (fun _ => ?_))
theorem Zx.mono : ∀ a0 k,LeO (Zx.f k a0) (Zx.f (k + 1) a0) := by
 intro a0 k
 have ih0 := Zx.mono_l k
 unfold Zx.f
 repeat' (with_reducible first | exact ih0 _ _ _ | exact LeO.refl _ | exact LeO.none _ | refine LeO.ite ?_ ?_ | refine LeO.bind ?_ (fun _ => ?_))
noncomputable def Zx.lv0 (x0 : List (S46)) (x3 : List (S40)) (x4 : Int) : Option ((List (S40))) := lim (fun k_ => Zx.l0 k_ x0 x3 x4)
noncomputable def Zx.v (l0 : List (S46)) : Option ((List (S40))) := lim (fun k_ => Zx.f k_ l0)
theorem Zx.lv0_lim (x0 : List (S46)) (x3 : List (S40)) (x4 : Int) : LimIs (fun k_ => Zx.l0 k_ x0 x3 x4) (Zx.lv0 x0 x3 x4) := lim_is (fun k_ => (Zx.mono_l k_) x0 x3 x4)
theorem Zx.v_lim (l0 : List (S46)) : LimIs (fun k_ => Zx.f k_ l0) (Zx.v l0) := lim_is (fun k_ => Zx.mono l0 k_)
theorem Zx.lv0_eq (x0 : List (S46)) (x3 : List (S40)) (x4 : Int) : Zx.lv0 x0 x3 x4 = (if x4 < (x0.length : Int) then (if 0 ≤ x4 then ((Ys.v ((rd_T46 x0 x4).f0) ((rd_T46 x0 x4).f1) ((rd_T46 x0 x4).f2) ((rd_T46 x0 x4).f3) ((rd_T46 x0 x4).f4) ((rd_T46 x0 x4).f5) ((rd_T46 x0 x4).f6)).bind fun bt367 => (if x4 < (x3.length : Int) then (Zx.lv0 x0 (x3.set (x4 : Int).toNat (⟨bt367.1,bt367.2.1,bt367.2.2.1,bt367.2.2.2.1,bt367.2.2.2.2.1,bt367.2.2.2.2.2.1,bt367.2.2.2.2.2.2⟩ : S40)) (wrap64 (x4 + 1))) else (none))) else (none)) else (some x3) : Option ((List (S40)))) := by
 refine LimIs.eq (Zx.lv0_lim x0 x3 x4) ?_
 refine LimIs.step (fun k_ => (Zx.mono_l k_) x0 x3 x4) ?_
 simp only [Zx.l0]
 repeat' (with_reducible first | exact Ys.v_lim _ _ _ _ _ _ _ | exact Zx.lv0_lim _ _ _ | exact LimIs.const _ | refine LimIs.ite ?_ ?_ | refine LimIs.bind ?_ (fun _ => ?_))
theorem Zx.v_eq (l0 : List (S46)) : Zx.v l0 = (if 0 ≤ (l0.length : Int) then (if ((l0.length : Int) : Int).toNat ≤ 3518437208883 then (Zx.lv0 l0 (List.replicate ((l0.length : Int) : Int).toNat z40) 0) else (none)) else (none) : Option ((List (S40)))) := by
 refine LimIs.eq (Zx.v_lim l0) ?_
 simp only [Zx.f]
 repeat' (with_reducible first | exact Zx.lv0_lim _ _ _ | exact LimIs.const _ | refine LimIs.ite ?_ ?_ | refine LimIs.bind ?_ (fun _ => ?_))
def ZP.f (k : Nat) (a0_0 : ByteArray) (l0_1 : List (S46)) : Option (ByteArray × (List (S40))) := (Zx.f k l0_1).bind fun t378 => (some (a0_0,t378))
theorem ZP.mono : ∀ a0 a1 k,LeO (ZP.f k a0 a1) (ZP.f (k + 1) a0 a1) := by
 intro a0 a1 k
 unfold ZP.f
 repeat' (with_reducible first | exact Zx.mono _ _ | exact LeO.refl _ | exact LeO.none _ | refine LeO.ite ?_ ?_ | refine LeO.bind ?_ (fun _ => ?_))
noncomputable def ZP.v (a0_0 : ByteArray) (l0_1 : List (S46)) : Option (ByteArray × (List (S40))) := lim (fun k_ => ZP.f k_ a0_0 l0_1)
theorem ZP.v_lim (a0_0 : ByteArray) (l0_1 : List (S46)) : LimIs (fun k_ => ZP.f k_ a0_0 l0_1) (ZP.v a0_0 l0_1) := lim_is (fun k_ => ZP.mono a0_0 l0_1 k_)
theorem ZP.v_eq (a0_0 : ByteArray) (l0_1 : List (S46)) : ZP.v a0_0 l0_1 = ((Zx.v l0_1).bind fun t378 => (some (a0_0,t378)) : Option (ByteArray × (List (S40)))) := by
 refine LimIs.eq (ZP.v_lim a0_0 l0_1) ?_
 simp only [ZP.f]
 repeat' (with_reducible first | exact Zx.v_lim _ | exact LimIs.const _ | refine LimIs.ite ?_ ?_ | refine LimIs.bind ?_ (fun _ => ?_))
def Yx.f (a0 : Int) : Option (Int × Int) := if a0 = 1 then (some (wrap64 (Int.tdiv (wrap64 (a0 - 1)) 3),0)) else (if a0 = 4 then (some (wrap64 (Int.tdiv (wrap64 (a0 - 1)) 3),0)) else (if a0 = 7 then (some (wrap64 (Int.tdiv (wrap64 (a0 - 1)) 3),0)) else (some (0,4))))
def Yx.v (a0 : Int) : Option (Int × Int) := Yx.f a0
theorem Yx.v_eq (a0 : Int) : Yx.v a0 = (if a0 = 1 then (some (wrap64 (Int.tdiv (wrap64 (a0 - 1)) 3),0)) else (if a0 = 4 then (some (wrap64 (Int.tdiv (wrap64 (a0 - 1)) 3),0)) else (if a0 = 7 then (some (wrap64 (Int.tdiv (wrap64 (a0 - 1)) 3),0)) else (some (0,4)))) : Option (Int × Int)) := rfl
def ZX.f (a0 : Int) : Option (Bool) := (Yx.f a0).bind fun bt381 => (some (bt381.2 == 0))
def ZX.v (a0 : Int) : Option (Bool) := ZX.f a0
theorem ZX.v_lim (a0 : Int) : LimIs (fun _ => ZX.f a0) (ZX.v a0) := LimIs.const _
theorem ZX.v_eq (a0 : Int) : ZX.v a0 = ((Yx.v a0).bind fun bt381 => (some (bt381.2 == 0)) : Option (Bool)) := rfl
def ZG.f (s0_0 : ByteArray) (s0_1 : Bool) (a1 : Int) : Option (ByteArray × ByteArray × Bool) := if s0_1 = true then (some ((⟨#[]⟩ : ByteArray),s0_0,true)) else (if a1 > (s0_0.size : Int) then (some ((⟨#[]⟩ : ByteArray),s0_0,true)) else (if 0 ≤ a1 then (if a1 ≤ (s0_0.size : Int) then (some (s0_0.extract 0 (a1 : Int).toNat,s0_0.extract (a1 : Int).toNat s0_0.size,s0_1)) else (none)) else (none)))
def ZG.v (s0_0 : ByteArray) (s0_1 : Bool) (a1 : Int) : Option (ByteArray × ByteArray × Bool) := ZG.f s0_0 s0_1 a1
theorem ZG.v_lim (s0_0 : ByteArray) (s0_1 : Bool) (a1 : Int) : LimIs (fun _ => ZG.f s0_0 s0_1 a1) (ZG.v s0_0 s0_1 a1) := LimIs.const _
theorem ZG.v_eq (s0_0 : ByteArray) (s0_1 : Bool) (a1 : Int) : ZG.v s0_0 s0_1 a1 = (if s0_1 = true then (some ((⟨#[]⟩ : ByteArray),s0_0,true)) else (if a1 > (s0_0.size : Int) then (some ((⟨#[]⟩ : ByteArray),s0_0,true)) else (if 0 ≤ a1 then (if a1 ≤ (s0_0.size : Int) then (some (s0_0.extract 0 (a1 : Int).toNat,s0_0.extract (a1 : Int).toNat s0_0.size,s0_1)) else (none)) else (none))) : Option (ByteArray × ByteArray × Bool)) := rfl
def Zd.l0 : Nat → Int → List Int → Int → Int → ByteArray → Bool → Option (Int × ByteArray × Bool)
 | 0,_,_,_,_,_,_ => none
 | k + 1,x5,x11,x12,x13,x1000,x1001 => if x13 < x12 then (if 0 ≤ x13 then (if x13 < (x11.length : Int) then (Zd.l0 k (Go.bits .or .i64 (wrap64 (x5 * 256)) (wrap64 (rd x11 x13))) x11 x12 (wrap64 (x13 + 1)) x1000 x1001) else (none)) else (none)) else (some (x5,x1000,x1001))
def Zd.f (k : Nat) (s0_0 : ByteArray) (s0_1 : Bool) (a1 : Int) : Option (Int × ByteArray × Bool) := (ZG.f s0_0 s0_1 a1).bind fun bt383 => (if bt383.1.size ≤ 140737488355328 then ((some (bytesOf bt383.1 : List Int)).bind fun y386 => (Zd.l0 k 0 y386 (y386.length : Int) 0 bt383.2.1 bt383.2.2)) else (none))
theorem Zd.mono_l : ∀ k,(∀ y0 y1 y2 y3 y4 y5,LeO (Zd.l0 k y0 y1 y2 y3 y4 y5) (Zd.l0 (k + 1) y0 y1 y2 y3 y4 y5))
 | 0 => fun _ _ _ _ _ _ r h => by simp [Zd.l0] at h
 | k + 1 => by
  have ih0 := Zd.mono_l k
  ·intro y0 y1 y2 y3 y4 y5
   unfold Zd.l0
   repeat' (with_reducible first | exact ih0 _ _ _ _ _ _ | exact LeO.refl _ | exact LeO.none _ | refine LeO.ite ?_ ?_ | refine LeO.bind ?_ (fun _ => ?_))
theorem Zd.mono : ∀ a0 a1 a2 k,LeO (Zd.f k a0 a1 a2) (Zd.f (k + 1) a0 a1 a2) := by
 intro a0 a1 a2 k
 have ih0 := Zd.mono_l k
 unfold Zd.f
 repeat' (with_reducible first | exact ih0 _ _ _ _ _ _ | exact LeO.refl _ | exact LeO.none _ | refine LeO.ite ?_ ?_ | refine LeO.bind ?_ (fun _ => ?_))
noncomputable def Zd.lv0 (x5 : Int) (x11 : List Int) (x12 : Int) (x13 : Int) (x1000 : ByteArray) (x1001 : Bool) : Option (Int × ByteArray × Bool) := lim (fun k_ => Zd.l0 k_ x5 x11 x12 x13 x1000 x1001)
noncomputable def Zd.v (s0_0 : ByteArray) (s0_1 : Bool) (a1 : Int) : Option (Int × ByteArray × Bool) := lim (fun k_ => Zd.f k_ s0_0 s0_1 a1)
theorem Zd.lv0_lim (x5 : Int) (x11 : List Int) (x12 : Int) (x13 : Int) (x1000 : ByteArray) (x1001 : Bool) : LimIs (fun k_ => Zd.l0 k_ x5 x11 x12 x13 x1000 x1001) (Zd.lv0 x5 x11 x12 x13 x1000 x1001) := lim_is (fun k_ => (Zd.mono_l k_) x5 x11 x12 x13 x1000 x1001)
theorem Zd.v_lim (s0_0 : ByteArray) (s0_1 : Bool) (a1 : Int) : LimIs (fun k_ => Zd.f k_ s0_0 s0_1 a1) (Zd.v s0_0 s0_1 a1) := lim_is (fun k_ => Zd.mono s0_0 s0_1 a1 k_)
theorem Zd.lv0_eq (x5 : Int) (x11 : List Int) (x12 : Int) (x13 : Int) (x1000 : ByteArray) (x1001 : Bool) : Zd.lv0 x5 x11 x12 x13 x1000 x1001 = (if x13 < x12 then (if 0 ≤ x13 then (if x13 < (x11.length : Int) then (Zd.lv0 (Go.bits .or .i64 (wrap64 (x5 * 256)) (wrap64 (rd x11 x13))) x11 x12 (wrap64 (x13 + 1)) x1000 x1001) else (none)) else (none)) else (some (x5,x1000,x1001)) : Option (Int × ByteArray × Bool)) := by
 refine LimIs.eq (Zd.lv0_lim x5 x11 x12 x13 x1000 x1001) ?_
 refine LimIs.step (fun k_ => (Zd.mono_l k_) x5 x11 x12 x13 x1000 x1001) ?_
 simp only [Zd.l0]
 repeat' (with_reducible first | exact Zd.lv0_lim _ _ _ _ _ _ | exact LimIs.const _ | refine LimIs.ite ?_ ?_ | refine LimIs.bind ?_ (fun _ => ?_))
theorem Zd.v_eq (s0_0 : ByteArray) (s0_1 : Bool) (a1 : Int) : Zd.v s0_0 s0_1 a1 = ((ZG.v s0_0 s0_1 a1).bind fun bt383 => (if bt383.1.size ≤ 140737488355328 then ((some (bytesOf bt383.1 : List Int)).bind fun y386 => (Zd.lv0 0 y386 (y386.length : Int) 0 bt383.2.1 bt383.2.2)) else (none)) : Option (Int × ByteArray × Bool)) := by
 refine LimIs.eq (Zd.v_lim s0_0 s0_1 a1) ?_
 simp only [Zd.f]
 repeat' (with_reducible first | exact Zd.lv0_lim _ _ _ _ _ _ | exact ZG.v_lim _ _ _ | exact LimIs.const _ | refine LimIs.ite ?_ ?_ | refine LimIs.bind ?_ (fun _ => ?_))
def ZI.f (k : Nat) (s0_0 : ByteArray) (s0_1 : Bool) (a1 : Int) : Option (ByteArray × ByteArray × Bool) := (Zd.f k s0_0 s0_1 a1).bind fun bt390 => ((ZG.f bt390.2.1 bt390.2.2 bt390.1).bind fun bt393 => (some (bt393.1,bt393.2.1,bt393.2.2)))
theorem ZI.mono : ∀ a0 a1 a2 k,LeO (ZI.f k a0 a1 a2) (ZI.f (k + 1) a0 a1 a2) := by
 intro a0 a1 a2 k
 unfold ZI.f
 repeat' (with_reducible first | exact Zd.mono _ _ _ _ | exact LeO.refl _ | exact LeO.none _ | refine LeO.ite ?_ ?_ | refine LeO.bind ?_ (fun _ => ?_))
noncomputable def ZI.v (s0_0 : ByteArray) (s0_1 : Bool) (a1 : Int) : Option (ByteArray × ByteArray × Bool) := lim (fun k_ => ZI.f k_ s0_0 s0_1 a1)
theorem ZI.v_lim (s0_0 : ByteArray) (s0_1 : Bool) (a1 : Int) : LimIs (fun k_ => ZI.f k_ s0_0 s0_1 a1) (ZI.v s0_0 s0_1 a1) := lim_is (fun k_ => ZI.mono s0_0 s0_1 a1 k_)
theorem ZI.v_eq (s0_0 : ByteArray) (s0_1 : Bool) (a1 : Int) : ZI.v s0_0 s0_1 a1 = ((Zd.v s0_0 s0_1 a1).bind fun bt390 => ((ZG.v bt390.2.1 bt390.2.2 bt390.1).bind fun bt393 => (some (bt393.1,bt393.2.1,bt393.2.2))) : Option (ByteArray × ByteArray × Bool)) := by
 refine LimIs.eq (ZI.v_lim s0_0 s0_1 a1) ?_
 simp only [ZI.f]
 repeat' (with_reducible first | exact Zd.v_lim _ _ _ | exact ZG.v_lim _ _ _ | exact LimIs.const _ | refine LimIs.ite ?_ ?_ | refine LimIs.bind ?_ (fun _ => ?_))
def ZE.f (k : Nat) (s0_0 : ByteArray) (s0_1 : Bool) : Option (Int × Int × Int × Int × ByteArray × ByteArray × Bool) := (Zd.f k s0_0 s0_1 1).bind fun bt397 => ((Zd.f k bt397.2.1 bt397.2.2 2).bind fun bt400 => ((Zd.f k bt400.2.1 bt400.2.2 1).bind fun bt403 => ((Zd.f k bt403.2.1 bt403.2.2 2).bind fun bt406 => ((ZI.f k bt406.2.1 bt406.2.2 1).bind fun bt409 => (some (bt397.1,bt400.1,bt403.1,bt406.1,bt409.1,bt409.2.1,bt409.2.2))))))
theorem ZE.mono : ∀ a0 a1 k,LeO (ZE.f k a0 a1) (ZE.f (k + 1) a0 a1) := by
 intro a0 a1 k
 unfold ZE.f
 repeat' (with_reducible first | exact Zd.mono _ _ _ _ | exact ZI.mono _ _ _ _ | exact LeO.refl _ | exact LeO.none _ | refine LeO.ite ?_ ?_ | refine LeO.bind ?_ (fun _ => ?_))
noncomputable def ZE.v (s0_0 : ByteArray) (s0_1 : Bool) : Option (Int × Int × Int × Int × ByteArray × ByteArray × Bool) := lim (fun k_ => ZE.f k_ s0_0 s0_1)
theorem ZE.v_lim (s0_0 : ByteArray) (s0_1 : Bool) : LimIs (fun k_ => ZE.f k_ s0_0 s0_1) (ZE.v s0_0 s0_1) := lim_is (fun k_ => ZE.mono s0_0 s0_1 k_)
theorem ZE.v_eq (s0_0 : ByteArray) (s0_1 : Bool) : ZE.v s0_0 s0_1 = ((Zd.v s0_0 s0_1 1).bind fun bt397 => ((Zd.v bt397.2.1 bt397.2.2 2).bind fun bt400 => ((Zd.v bt400.2.1 bt400.2.2 1).bind fun bt403 => ((Zd.v bt403.2.1 bt403.2.2 2).bind fun bt406 => ((ZI.v bt406.2.1 bt406.2.2 1).bind fun bt409 => (some (bt397.1,bt400.1,bt403.1,bt406.1,bt409.1,bt409.2.1,bt409.2.2)))))) : Option (Int × Int × Int × Int × ByteArray × ByteArray × Bool)) := by
 refine LimIs.eq (ZE.v_lim s0_0 s0_1) ?_
 simp only [ZE.f]
 repeat' (with_reducible first | exact Zd.v_lim _ _ _ | exact ZI.v_lim _ _ _ | exact LimIs.const _ | refine LimIs.ite ?_ ?_ | refine LimIs.bind ?_ (fun _ => ?_))
def Yb.f (s0_0 : ByteArray) (s0_1 : Bool) : Option (Bool × ByteArray × Bool) := if s0_1 = true then (some (false,s0_0,s0_1)) else (some ((s0_0.toList == ([] : List UInt8)),s0_0,s0_1))
def Yb.v (s0_0 : ByteArray) (s0_1 : Bool) : Option (Bool × ByteArray × Bool) := Yb.f s0_0 s0_1
theorem Yb.v_lim (s0_0 : ByteArray) (s0_1 : Bool) : LimIs (fun _ => Yb.f s0_0 s0_1) (Yb.v s0_0 s0_1) := LimIs.const _
theorem Yb.v_eq (s0_0 : ByteArray) (s0_1 : Bool) : Yb.v s0_0 s0_1 = (if s0_1 = true then (some (false,s0_0,s0_1)) else (some ((s0_0.toList == ([] : List UInt8)),s0_0,s0_1)) : Option (Bool × ByteArray × Bool)) := rfl
def ZB.f (a0 : Int) (a1 : Int) (a2 : Int) : Option (Bool) := if a0 ≥ a1 then (some (decide (a0 ≤ a2))) else (some false)
def ZB.v (a0 : Int) (a1 : Int) (a2 : Int) : Option (Bool) := ZB.f a0 a1 a2
theorem ZB.v_lim (a0 : Int) (a1 : Int) (a2 : Int) : LimIs (fun _ => ZB.f a0 a1 a2) (ZB.v a0 a1 a2) := LimIs.const _
theorem ZB.v_eq (a0 : Int) (a1 : Int) (a2 : Int) : ZB.v a0 a1 a2 = (if a0 ≥ a1 then (some (decide (a0 ≤ a2))) else (some false) : Option (Bool)) := rfl
def ZU.f (a0_0 : Int) (a0_1 : Int) (a0_2 : ByteArray) : Option (Bool) := (ZB.f a0_0 0 6).bind fun t413 => (if t413 = true then ((ZB.f a0_1 0 1000000000).bind fun t414 => (if t414 = true then (some ((a0_2.size : Int) == 8)) else (some false))) else (some false))
def ZU.v (a0_0 : Int) (a0_1 : Int) (a0_2 : ByteArray) : Option (Bool) := ZU.f a0_0 a0_1 a0_2
theorem ZU.v_lim (a0_0 : Int) (a0_1 : Int) (a0_2 : ByteArray) : LimIs (fun _ => ZU.f a0_0 a0_1 a0_2) (ZU.v a0_0 a0_1 a0_2) := LimIs.const _
theorem ZU.v_eq (a0_0 : Int) (a0_1 : Int) (a0_2 : ByteArray) : ZU.v a0_0 a0_1 a0_2 = ((ZB.v a0_0 0 6).bind fun t413 => (if t413 = true then ((ZB.v a0_1 0 1000000000).bind fun t414 => (if t414 = true then (some ((a0_2.size : Int) == 8)) else (some false))) else (some false)) : Option (Bool)) := rfl
def Yd.f (a0 : Int) : Option (Bool) := if a0 ≥ 97 then (if a0 ≤ 122 then (some true) else (if a0 ≥ 65 then (if a0 ≤ 90 then (some true) else (some (a0 == 95))) else (some (a0 == 95)))) else (if a0 ≥ 65 then (if a0 ≤ 90 then (some true) else (some (a0 == 95))) else (some (a0 == 95)))
def Yd.v (a0 : Int) : Option (Bool) := Yd.f a0
theorem Yd.v_lim (a0 : Int) : LimIs (fun _ => Yd.f a0) (Yd.v a0) := LimIs.const _
theorem Yd.v_eq (a0 : Int) : Yd.v a0 = (if a0 ≥ 97 then (if a0 ≤ 122 then (some true) else (if a0 ≥ 65 then (if a0 ≤ 90 then (some true) else (some (a0 == 95))) else (some (a0 == 95)))) else (if a0 ≥ 65 then (if a0 ≤ 90 then (some true) else (some (a0 == 95))) else (some (a0 == 95))) : Option (Bool)) := rfl
mutual
def Zu.j0 : Nat → ByteArray → Bool → Option (Bool)
 | 0,_,_ => none
 | k + 1,x0,x17 => if x17 = true then (some false) else (Zu.l0 k x0 (x0.size : Int) 0)
def Zu.l0 : Nat → ByteArray → Int → Int → Option (Bool)
 | 0,_,_,_ => none
 | k + 1,x0,x19,x20 => if x20 < x19 then (if 0 ≤ x20 then (if x20 < (x0.size : Int) then ((Yd.f (bt x0 x20)).bind fun t416 => (if t416 = true then (Zu.l0 k x0 x19 (wrap64 (x20 + 1))) else (if (bt x0 x20) < 48 then (some false) else (if (bt x0 x20) > 57 then (some false) else (Zu.l0 k x0 x19 (wrap64 (x20 + 1))))))) else (none)) else (none)) else (some true)
end
def Zu.f (k : Nat) (a0 : ByteArray) : Option (Bool) := if (a0.size : Int) < 1 then (Zu.j0 k a0 true) else (if (a0.size : Int) > 40 then (Zu.j0 k a0 true) else (if 0 < (a0.size : Int) then ((Yd.f (bt a0 0)).bind fun t415 => (Zu.j0 k a0 (!t415))) else (none)))
theorem Zu.mono_l : ∀ k,(∀ y0 y1,LeO (Zu.j0 k y0 y1) (Zu.j0 (k + 1) y0 y1)) ∧ (∀ y0 y1 y2,LeO (Zu.l0 k y0 y1 y2) (Zu.l0 (k + 1) y0 y1 y2))
 | 0 => ⟨fun _ _ r h => by simp [Zu.j0] at h,fun _ _ _ r h => by simp [Zu.l0] at h⟩
 | k + 1 => by
  obtain ⟨ih0,ih1⟩ := Zu.mono_l k
  refine ⟨?_,?_⟩
  ·intro y0 y1
   unfold Zu.j0
   repeat' (with_reducible first | exact ih0 _ _ | exact ih1 _ _ _ | exact LeO.refl _ | exact LeO.none _ | refine LeO.ite ?_ ?_ | refine LeO.bind ?_ (fun _ => ?_))
  ·intro y0 y1 y2
   unfold Zu.l0
   repeat' (with_reducible first | exact ih0 _ _ | exact ih1 _ _ _ | exact LeO.refl _ | exact LeO.none _ | refine LeO.ite ?_ ?_ | refine LeO.bind ?_ (fun _ => ?_))
theorem Zu.mono : ∀ a0 k,LeO (Zu.f k a0) (Zu.f (k + 1) a0) := by
 intro a0 k
 obtain ⟨ih0,ih1⟩ := Zu.mono_l k
 unfold Zu.f
 repeat' (with_reducible first | exact ih0 _ _ | exact ih1 _ _ _ | exact LeO.refl _ | exact LeO.none _ | refine LeO.ite ?_ ?_ | refine LeO.bind ?_ (fun _ => ?_))
noncomputable def Zu.jv0 (x0 : ByteArray) (x17 : Bool) : Option (Bool) := lim (fun k_ => Zu.j0 k_ x0 x17)
noncomputable def Zu.lv0 (x0 : ByteArray) (x19 : Int) (x20 : Int) : Option (Bool) := lim (fun k_ => Zu.l0 k_ x0 x19 x20)
noncomputable def Zu.v (a0 : ByteArray) : Option (Bool) := lim (fun k_ => Zu.f k_ a0)
theorem Zu.jv0_lim (x0 : ByteArray) (x17 : Bool) : LimIs (fun k_ => Zu.j0 k_ x0 x17) (Zu.jv0 x0 x17) := lim_is (fun k_ => (Zu.mono_l k_).1 x0 x17)
theorem Zu.lv0_lim (x0 : ByteArray) (x19 : Int) (x20 : Int) : LimIs (fun k_ => Zu.l0 k_ x0 x19 x20) (Zu.lv0 x0 x19 x20) := lim_is (fun k_ => (Zu.mono_l k_).2 x0 x19 x20)
theorem Zu.v_lim (a0 : ByteArray) : LimIs (fun k_ => Zu.f k_ a0) (Zu.v a0) := lim_is (fun k_ => Zu.mono a0 k_)
theorem Zu.jv0_eq (x0 : ByteArray) (x17 : Bool) : Zu.jv0 x0 x17 = (if x17 = true then (some false) else (Zu.lv0 x0 (x0.size : Int) 0) : Option (Bool)) := by
 refine LimIs.eq (Zu.jv0_lim x0 x17) ?_
 refine LimIs.step (fun k_ => (Zu.mono_l k_).1 x0 x17) ?_
 simp only [Zu.j0]
 repeat' (with_reducible first | exact Zu.lv0_lim _ _ _ | exact LimIs.const _ | refine LimIs.ite ?_ ?_ | refine LimIs.bind ?_ (fun _ => ?_))
theorem Zu.lv0_eq (x0 : ByteArray) (x19 : Int) (x20 : Int) : Zu.lv0 x0 x19 x20 = (if x20 < x19 then (if 0 ≤ x20 then (if x20 < (x0.size : Int) then ((Yd.v (bt x0 x20)).bind fun t416 => (if t416 = true then (Zu.lv0 x0 x19 (wrap64 (x20 + 1))) else (if (bt x0 x20) < 48 then (some false) else (if (bt x0 x20) > 57 then (some false) else (Zu.lv0 x0 x19 (wrap64 (x20 + 1))))))) else (none)) else (none)) else (some true) : Option (Bool)) := by
 refine LimIs.eq (Zu.lv0_lim x0 x19 x20) ?_
 refine LimIs.step (fun k_ => (Zu.mono_l k_).2 x0 x19 x20) ?_
 simp only [Zu.l0]
 repeat' (with_reducible first | exact Zu.lv0_lim _ _ _ | exact Yd.v_lim _ | exact LimIs.const _ | refine LimIs.ite ?_ ?_ | refine LimIs.bind ?_ (fun _ => ?_))
theorem Zu.v_eq (a0 : ByteArray) : Zu.v a0 = (if (a0.size : Int) < 1 then (Zu.jv0 a0 true) else (if (a0.size : Int) > 40 then (Zu.jv0 a0 true) else (if 0 < (a0.size : Int) then ((Yd.v (bt a0 0)).bind fun t415 => (Zu.jv0 a0 (!t415))) else (none))) : Option (Bool)) := by
 refine LimIs.eq (Zu.v_lim a0) ?_
 simp only [Zu.f]
 repeat' (with_reducible first | exact Zu.jv0_lim _ _ | exact Yd.v_lim _ | exact LimIs.const _ | refine LimIs.ite ?_ ?_ | refine LimIs.bind ?_ (fun _ => ?_))
def ZW.f (k : Nat) (a0 : ByteArray) : Option (Bool) := if (a0.size : Int) ≤ 12 then ((Zu.f k a0).bind fun t417 => (some t417)) else (some false)
theorem ZW.mono : ∀ a0 k,LeO (ZW.f k a0) (ZW.f (k + 1) a0) := by
 intro a0 k
 unfold ZW.f
 repeat' (with_reducible first | exact Zu.mono _ _ | exact LeO.refl _ | exact LeO.none _ | refine LeO.ite ?_ ?_ | refine LeO.bind ?_ (fun _ => ?_))
noncomputable def ZW.v (a0 : ByteArray) : Option (Bool) := lim (fun k_ => ZW.f k_ a0)
theorem ZW.v_lim (a0 : ByteArray) : LimIs (fun k_ => ZW.f k_ a0) (ZW.v a0) := lim_is (fun k_ => ZW.mono a0 k_)
theorem ZW.v_eq (a0 : ByteArray) : ZW.v a0 = (if (a0.size : Int) ≤ 12 then ((Zu.v a0).bind fun t417 => (some t417)) else (some false) : Option (Bool)) := by
 refine LimIs.eq (ZW.v_lim a0) ?_
 simp only [ZW.f]
 repeat' (with_reducible first | exact Zu.v_lim _ | exact LimIs.const _ | refine LimIs.ite ?_ ?_ | refine LimIs.bind ?_ (fun _ => ?_))
mutual
def Zo.j0 : Nat → Int → Int → Bool → Int → Int → Int → Int → ByteArray → Option (Bool)
 | 0,_,_,_,_,_,_,_,_ => none
 | k + 1,x3,x4,x12,x419000,x419001,x419002,x419003,x419004 => if x12 = true then (Zo.j1 k 1 1000 x419000 x419001 x419002 x419003 x419004) else (Zo.j1 k x3 x4 x419000 x419001 x419002 x419003 x419004)
def Zo.j1 : Nat → Int → Int → Int → Int → Int → Int → ByteArray → Option (Bool)
 | 0,_,_,_,_,_,_,_ => none
 | k + 1,x3,x4,x419000,x419001,x419002,x419003,x419004 => (ZB.f x419000 0 255).bind fun t419 => (if t419 = true then ((ZB.f x419001 1 65535).bind fun t420 => (if t420 = true then ((ZB.f x419002 1 4).bind fun t421 => (if t421 = true then ((ZB.f x419003 x3 x4).bind fun t422 => (if t422 = true then ((ZW.f k x419004).bind fun t423 => (some t423)) else (some false))) else (some false))) else (some false))) else (some false))
end
def Zo.f (k : Nat) (a0_0 : Int) (a0_1 : Int) (a0_2 : Int) (a0_3 : Int) (a0_4 : ByteArray) : Option (Bool) := if a0_2 = 1 then (Zo.j0 k 0 0 true a0_0 a0_1 a0_2 a0_3 a0_4) else (Zo.j0 k 0 0 (a0_2 == 3) a0_0 a0_1 a0_2 a0_3 a0_4)
theorem Zo.mono_l : ∀ k,(∀ y0 y1 y2 y3 y4 y5 y6 y7,LeO (Zo.j0 k y0 y1 y2 y3 y4 y5 y6 y7) (Zo.j0 (k + 1) y0 y1 y2 y3 y4 y5 y6 y7)) ∧ (∀ y0 y1 y2 y3 y4 y5 y6,LeO (Zo.j1 k y0 y1 y2 y3 y4 y5 y6) (Zo.j1 (k + 1) y0 y1 y2 y3 y4 y5 y6))
 | 0 => ⟨fun _ _ _ _ _ _ _ _ r h => by simp [Zo.j0] at h,fun _ _ _ _ _ _ _ r h => by simp [Zo.j1] at h⟩
 | k + 1 => by
  obtain ⟨ih0,ih1⟩ := Zo.mono_l k
  refine ⟨?_,?_⟩
  ·intro y0 y1 y2 y3 y4 y5 y6 y7
   unfold Zo.j0
   repeat' (with_reducible first | exact ih0 _ _ _ _ _ _ _ _ | exact ih1 _ _ _ _ _ _ _ | exact ZW.mono _ _ | exact LeO.refl _ | exact LeO.none _ | refine LeO.ite ?_ ?_ | refine LeO.bind ?_ (fun _ => ?_))
  ·intro y0 y1 y2 y3 y4 y5 y6
   unfold Zo.j1
   repeat' (with_reducible first | exact ih0 _ _ _ _ _ _ _ _ | exact ih1 _ _ _ _ _ _ _ | exact ZW.mono _ _ | exact LeO.refl _ | exact LeO.none _ | refine LeO.ite ?_ ?_ | refine LeO.bind ?_ (fun _ => ?_))
theorem Zo.mono : ∀ a0 a1 a2 a3 a4 k,LeO (Zo.f k a0 a1 a2 a3 a4) (Zo.f (k + 1) a0 a1 a2 a3 a4) := by
 intro a0 a1 a2 a3 a4 k
 obtain ⟨ih0,ih1⟩ := Zo.mono_l k
 unfold Zo.f
 repeat' (with_reducible first | exact ih0 _ _ _ _ _ _ _ _ | exact ih1 _ _ _ _ _ _ _ | exact ZW.mono _ _ | exact LeO.refl _ | exact LeO.none _ | refine LeO.ite ?_ ?_ | refine LeO.bind ?_ (fun _ => ?_))
noncomputable def Zo.jv0 (x3 : Int) (x4 : Int) (x12 : Bool) (x419000 : Int) (x419001 : Int) (x419002 : Int) (x419003 : Int) (x419004 : ByteArray) : Option (Bool) := lim (fun k_ => Zo.j0 k_ x3 x4 x12 x419000 x419001 x419002 x419003 x419004)
noncomputable def Zo.jv1 (x3 : Int) (x4 : Int) (x419000 : Int) (x419001 : Int) (x419002 : Int) (x419003 : Int) (x419004 : ByteArray) : Option (Bool) := lim (fun k_ => Zo.j1 k_ x3 x4 x419000 x419001 x419002 x419003 x419004)
noncomputable def Zo.v (a0_0 : Int) (a0_1 : Int) (a0_2 : Int) (a0_3 : Int) (a0_4 : ByteArray) : Option (Bool) := lim (fun k_ => Zo.f k_ a0_0 a0_1 a0_2 a0_3 a0_4)
theorem Zo.jv0_lim (x3 : Int) (x4 : Int) (x12 : Bool) (x419000 : Int) (x419001 : Int) (x419002 : Int) (x419003 : Int) (x419004 : ByteArray) : LimIs (fun k_ => Zo.j0 k_ x3 x4 x12 x419000 x419001 x419002 x419003 x419004) (Zo.jv0 x3 x4 x12 x419000 x419001 x419002 x419003 x419004) := lim_is (fun k_ => (Zo.mono_l k_).1 x3 x4 x12 x419000 x419001 x419002 x419003 x419004)
theorem Zo.jv1_lim (x3 : Int) (x4 : Int) (x419000 : Int) (x419001 : Int) (x419002 : Int) (x419003 : Int) (x419004 : ByteArray) : LimIs (fun k_ => Zo.j1 k_ x3 x4 x419000 x419001 x419002 x419003 x419004) (Zo.jv1 x3 x4 x419000 x419001 x419002 x419003 x419004) := lim_is (fun k_ => (Zo.mono_l k_).2 x3 x4 x419000 x419001 x419002 x419003 x419004)
theorem Zo.v_lim (a0_0 : Int) (a0_1 : Int) (a0_2 : Int) (a0_3 : Int) (a0_4 : ByteArray) : LimIs (fun k_ => Zo.f k_ a0_0 a0_1 a0_2 a0_3 a0_4) (Zo.v a0_0 a0_1 a0_2 a0_3 a0_4) := lim_is (fun k_ => Zo.mono a0_0 a0_1 a0_2 a0_3 a0_4 k_)
theorem Zo.jv0_eq (x3 : Int) (x4 : Int) (x12 : Bool) (x419000 : Int) (x419001 : Int) (x419002 : Int) (x419003 : Int) (x419004 : ByteArray) : Zo.jv0 x3 x4 x12 x419000 x419001 x419002 x419003 x419004 = (if x12 = true then (Zo.jv1 1 1000 x419000 x419001 x419002 x419003 x419004) else (Zo.jv1 x3 x4 x419000 x419001 x419002 x419003 x419004) : Option (Bool)) := by
 refine LimIs.eq (Zo.jv0_lim x3 x4 x12 x419000 x419001 x419002 x419003 x419004) ?_
 refine LimIs.step (fun k_ => (Zo.mono_l k_).1 x3 x4 x12 x419000 x419001 x419002 x419003 x419004) ?_
 simp only [Zo.j0]
 repeat' (with_reducible first | exact Zo.jv1_lim _ _ _ _ _ _ _ | exact LimIs.const _ | refine LimIs.ite ?_ ?_ | refine LimIs.bind ?_ (fun _ => ?_))
theorem Zo.jv1_eq (x3 : Int) (x4 : Int) (x419000 : Int) (x419001 : Int) (x419002 : Int) (x419003 : Int) (x419004 : ByteArray) : Zo.jv1 x3 x4 x419000 x419001 x419002 x419003 x419004 = ((ZB.v x419000 0 255).bind fun t419 => (if t419 = true then ((ZB.v x419001 1 65535).bind fun t420 => (if t420 = true then ((ZB.v x419002 1 4).bind fun t421 => (if t421 = true then ((ZB.v x419003 x3 x4).bind fun t422 => (if t422 = true then ((ZW.v x419004).bind fun t423 => (some t423)) else (some false))) else (some false))) else (some false))) else (some false)) : Option (Bool)) := by
 refine LimIs.eq (Zo.jv1_lim x3 x4 x419000 x419001 x419002 x419003 x419004) ?_
 refine LimIs.step (fun k_ => (Zo.mono_l k_).2 x3 x4 x419000 x419001 x419002 x419003 x419004) ?_
 simp only [Zo.j1]
 repeat' (with_reducible first | exact ZW.v_lim _ | exact ZB.v_lim _ _ _ | exact LimIs.const _ | refine LimIs.ite ?_ ?_ | refine LimIs.bind ?_ (fun _ => ?_))
theorem Zo.v_eq (a0_0 : Int) (a0_1 : Int) (a0_2 : Int) (a0_3 : Int) (a0_4 : ByteArray) : Zo.v a0_0 a0_1 a0_2 a0_3 a0_4 = (if a0_2 = 1 then (Zo.jv0 0 0 true a0_0 a0_1 a0_2 a0_3 a0_4) else (Zo.jv0 0 0 (a0_2 == 3) a0_0 a0_1 a0_2 a0_3 a0_4) : Option (Bool)) := by
 refine LimIs.eq (Zo.v_lim a0_0 a0_1 a0_2 a0_3 a0_4) ?_
 simp only [Zo.f]
 repeat' (with_reducible first | exact Zo.jv0_lim _ _ _ _ _ _ _ _ | exact LimIs.const _ | refine LimIs.ite ?_ ?_ | refine LimIs.bind ?_ (fun _ => ?_))
mutual
def Zj.j0 : Nat → Bool → Bool → Int → Int → Int → Int → ByteArray → List (S76) → Option (Bool)
 | 0,_,_,_,_,_,_,_,_ => none
 | k + 1,x26,x425000,x425001,x425002,x425003,x425004,x425005,x425006 => if x26 = true then (some false) else (Zj.l0 k x425006 (x425006.length : Int) 0 x425000 x425001 x425002 x425003 x425004 x425005 x425006)
def Zj.l0 : Nat → List (S76) → Int → Int → Bool → Int → Int → Int → Int → ByteArray → List (S76) → Option (Bool)
 | 0,_,_,_,_,_,_,_,_,_,_ => none
 | k + 1,x28,x29,x30,x425000,x425001,x425002,x425003,x425004,x425005,x425006 => if x30 < x29 then (if 0 ≤ x30 then (if x30 < (x28.length : Int) then ((ZU.f ((rd_T76 x28 x30).f0) ((rd_T76 x28 x30).f1) ((rd_T76 x28 x30).f2)).bind fun t428 => (if t428 = true then (if x30 > 0 then (if 0 ≤ (wrap64 (x30 - 1)) then (if (wrap64 (x30 - 1)) < (x425006.length : Int) then (if ((rd_T76 x425006 (wrap64 (x30 - 1))).f0) ≥ ((rd_T76 x28 x30).f0) then (some false) else (Zj.l0 k x28 x29 (wrap64 (x30 + 1)) x425000 x425001 x425002 x425003 x425004 x425005 x425006)) else (none)) else (none)) else (Zj.l0 k x28 x29 (wrap64 (x30 + 1)) x425000 x425001 x425002 x425003 x425004 x425005 x425006)) else (some false))) else (none)) else (none)) else (some true)
end
def Zj.f (k : Nat) (a0_0 : Bool) (a0_1 : Int) (a0_2 : Int) (a0_3 : Int) (a0_4 : Int) (a0_5 : ByteArray) (l0_6 : List (S76)) : Option (Bool) := if a0_0 = true then (if (a0_1 == 0 && (a0_2 == 0 && (a0_3 == 0 && (a0_4 == 0 && (a0_5.toList == ([] : List UInt8)))))) = true then (some ((l0_6.length : Int) == 0)) else (some false)) else ((Zo.f k a0_1 a0_2 a0_3 a0_4 a0_5).bind fun t425 => (if t425 = true then (Zj.j0 k (decide ((l0_6.length : Int) > 7)) a0_0 a0_1 a0_2 a0_3 a0_4 a0_5 l0_6) else (Zj.j0 k true a0_0 a0_1 a0_2 a0_3 a0_4 a0_5 l0_6)))
theorem Zj.mono_l : ∀ k,(∀ y0 y1 y2 y3 y4 y5 y6 y7,LeO (Zj.j0 k y0 y1 y2 y3 y4 y5 y6 y7) (Zj.j0 (k + 1) y0 y1 y2 y3 y4 y5 y6 y7)) ∧ (∀ y0 y1 y2 y3 y4 y5 y6 y7 y8 y9,LeO (Zj.l0 k y0 y1 y2 y3 y4 y5 y6 y7 y8 y9) (Zj.l0 (k + 1) y0 y1 y2 y3 y4 y5 y6 y7 y8 y9))
 | 0 => ⟨fun _ _ _ _ _ _ _ _ r h => by simp [Zj.j0] at h,fun _ _ _ _ _ _ _ _ _ _ r h => by simp [Zj.l0] at h⟩
 | k + 1 => by
  obtain ⟨ih0,ih1⟩ := Zj.mono_l k
  refine ⟨?_,?_⟩
  ·intro y0 y1 y2 y3 y4 y5 y6 y7
   unfold Zj.j0
   repeat' (with_reducible first | exact ih0 _ _ _ _ _ _ _ _ | exact ih1 _ _ _ _ _ _ _ _ _ _ | exact Zo.mono _ _ _ _ _ _ | exact LeO.refl _ | exact LeO.none _ | refine LeO.ite ?_ ?_ | refine LeO.bind ?_ (fun _ => ?_))
  ·intro y0 y1 y2 y3 y4 y5 y6 y7 y8 y9
   unfold Zj.l0
   repeat' (with_reducible first | exact ih0 _ _ _ _ _ _ _ _ | exact ih1 _ _ _ _ _ _ _ _ _ _ | exact Zo.mono _ _ _ _ _ _ | exact LeO.refl _ | exact LeO.none _ | refine LeO.ite ?_ ?_ | refine LeO.bind ?_ (fun _ => ?_))
theorem Zj.mono : ∀ a0 a1 a2 a3 a4 a5 a6 k,LeO (Zj.f k a0 a1 a2 a3 a4 a5 a6) (Zj.f (k + 1) a0 a1 a2 a3 a4 a5 a6) := by
 intro a0 a1 a2 a3 a4 a5 a6 k
 obtain ⟨ih0,ih1⟩ := Zj.mono_l k
 unfold Zj.f
 repeat' (with_reducible first | exact ih0 _ _ _ _ _ _ _ _ | exact ih1 _ _ _ _ _ _ _ _ _ _ | exact Zo.mono _ _ _ _ _ _ | exact LeO.refl _ | exact LeO.none _ | refine LeO.ite ?_ ?_ | refine LeO.bind ?_ (fun _ => ?_))
noncomputable def Zj.jv0 (x26 : Bool) (x425000 : Bool) (x425001 : Int) (x425002 : Int) (x425003 : Int) (x425004 : Int) (x425005 : ByteArray) (x425006 : List (S76)) : Option (Bool) := lim (fun k_ => Zj.j0 k_ x26 x425000 x425001 x425002 x425003 x425004 x425005 x425006)
noncomputable def Zj.lv0 (x28 : List (S76)) (x29 : Int) (x30 : Int) (x425000 : Bool) (x425001 : Int) (x425002 : Int) (x425003 : Int) (x425004 : Int) (x425005 : ByteArray) (x425006 : List (S76)) : Option (Bool) := lim (fun k_ => Zj.l0 k_ x28 x29 x30 x425000 x425001 x425002 x425003 x425004 x425005 x425006)
noncomputable def Zj.v (a0_0 : Bool) (a0_1 : Int) (a0_2 : Int) (a0_3 : Int) (a0_4 : Int) (a0_5 : ByteArray) (l0_6 : List (S76)) : Option (Bool) := lim (fun k_ => Zj.f k_ a0_0 a0_1 a0_2 a0_3 a0_4 a0_5 l0_6)
theorem Zj.jv0_lim (x26 : Bool) (x425000 : Bool) (x425001 : Int) (x425002 : Int) (x425003 : Int) (x425004 : Int) (x425005 : ByteArray) (x425006 : List (S76)) : LimIs (fun k_ => Zj.j0 k_ x26 x425000 x425001 x425002 x425003 x425004 x425005 x425006) (Zj.jv0 x26 x425000 x425001 x425002 x425003 x425004 x425005 x425006) := lim_is (fun k_ => (Zj.mono_l k_).1 x26 x425000 x425001 x425002 x425003 x425004 x425005 x425006)
theorem Zj.lv0_lim (x28 : List (S76)) (x29 : Int) (x30 : Int) (x425000 : Bool) (x425001 : Int) (x425002 : Int) (x425003 : Int) (x425004 : Int) (x425005 : ByteArray) (x425006 : List (S76)) : LimIs (fun k_ => Zj.l0 k_ x28 x29 x30 x425000 x425001 x425002 x425003 x425004 x425005 x425006) (Zj.lv0 x28 x29 x30 x425000 x425001 x425002 x425003 x425004 x425005 x425006) := lim_is (fun k_ => (Zj.mono_l k_).2 x28 x29 x30 x425000 x425001 x425002 x425003 x425004 x425005 x425006)
theorem Zj.v_lim (a0_0 : Bool) (a0_1 : Int) (a0_2 : Int) (a0_3 : Int) (a0_4 : Int) (a0_5 : ByteArray) (l0_6 : List (S76)) : LimIs (fun k_ => Zj.f k_ a0_0 a0_1 a0_2 a0_3 a0_4 a0_5 l0_6) (Zj.v a0_0 a0_1 a0_2 a0_3 a0_4 a0_5 l0_6) := lim_is (fun k_ => Zj.mono a0_0 a0_1 a0_2 a0_3 a0_4 a0_5 l0_6 k_)
theorem Zj.jv0_eq (x26 : Bool) (x425000 : Bool) (x425001 : Int) (x425002 : Int) (x425003 : Int) (x425004 : Int) (x425005 : ByteArray) (x425006 : List (S76)) : Zj.jv0 x26 x425000 x425001 x425002 x425003 x425004 x425005 x425006 = (if x26 = true then (some false) else (Zj.lv0 x425006 (x425006.length : Int) 0 x425000 x425001 x425002 x425003 x425004 x425005 x425006) : Option (Bool)) := by
 refine LimIs.eq (Zj.jv0_lim x26 x425000 x425001 x425002 x425003 x425004 x425005 x425006) ?_
 refine LimIs.step (fun k_ => (Zj.mono_l k_).1 x26 x425000 x425001 x425002 x425003 x425004 x425005 x425006) ?_
 simp only [Zj.j0]
 repeat' (with_reducible first | exact Zj.lv0_lim _ _ _ _ _ _ _ _ _ _ | exact LimIs.const _ | refine LimIs.ite ?_ ?_ | refine LimIs.bind ?_ (fun _ => ?_))
theorem Zj.lv0_eq (x28 : List (S76)) (x29 : Int) (x30 : Int) (x425000 : Bool) (x425001 : Int) (x425002 : Int) (x425003 : Int) (x425004 : Int) (x425005 : ByteArray) (x425006 : List (S76)) : Zj.lv0 x28 x29 x30 x425000 x425001 x425002 x425003 x425004 x425005 x425006 = (if x30 < x29 then (if 0 ≤ x30 then (if x30 < (x28.length : Int) then ((ZU.v ((rd_T76 x28 x30).f0) ((rd_T76 x28 x30).f1) ((rd_T76 x28 x30).f2)).bind fun t428 => (if t428 = true then (if x30 > 0 then (if 0 ≤ (wrap64 (x30 - 1)) then (if (wrap64 (x30 - 1)) < (x425006.length : Int) then (if ((rd_T76 x425006 (wrap64 (x30 - 1))).f0) ≥ ((rd_T76 x28 x30).f0) then (some false) else (Zj.lv0 x28 x29 (wrap64 (x30 + 1)) x425000 x425001 x425002 x425003 x425004 x425005 x425006)) else (none)) else (none)) else (Zj.lv0 x28 x29 (wrap64 (x30 + 1)) x425000 x425001 x425002 x425003 x425004 x425005 x425006)) else (some false))) else (none)) else (none)) else (some true) : Option (Bool)) := by
 refine LimIs.eq (Zj.lv0_lim x28 x29 x30 x425000 x425001 x425002 x425003 x425004 x425005 x425006) ?_
 refine LimIs.step (fun k_ => (Zj.mono_l k_).2 x28 x29 x30 x425000 x425001 x425002 x425003 x425004 x425005 x425006) ?_
 simp only [Zj.l0]
 repeat' (with_reducible first | exact Zj.lv0_lim _ _ _ _ _ _ _ _ _ _ | exact ZU.v_lim _ _ _ | exact LimIs.const _ | refine LimIs.ite ?_ ?_ | refine LimIs.bind ?_ (fun _ => ?_))
theorem Zj.v_eq (a0_0 : Bool) (a0_1 : Int) (a0_2 : Int) (a0_3 : Int) (a0_4 : Int) (a0_5 : ByteArray) (l0_6 : List (S76)) : Zj.v a0_0 a0_1 a0_2 a0_3 a0_4 a0_5 l0_6 = (if a0_0 = true then (if (a0_1 == 0 && (a0_2 == 0 && (a0_3 == 0 && (a0_4 == 0 && (a0_5.toList == ([] : List UInt8)))))) = true then (some ((l0_6.length : Int) == 0)) else (some false)) else ((Zo.v a0_1 a0_2 a0_3 a0_4 a0_5).bind fun t425 => (if t425 = true then (Zj.jv0 (decide ((l0_6.length : Int) > 7)) a0_0 a0_1 a0_2 a0_3 a0_4 a0_5 l0_6) else (Zj.jv0 true a0_0 a0_1 a0_2 a0_3 a0_4 a0_5 l0_6))) : Option (Bool)) := by
 refine LimIs.eq (Zj.v_lim a0_0 a0_1 a0_2 a0_3 a0_4 a0_5 l0_6) ?_
 simp only [Zj.f]
 repeat' (with_reducible first | exact Zo.v_lim _ _ _ _ _ | exact Zj.jv0_lim _ _ _ _ _ _ _ _ | exact LimIs.const _ | refine LimIs.ite ?_ ?_ | refine LimIs.bind ?_ (fun _ => ?_))
def Zm.l0 : Nat → Int → Int → Int → ByteArray → Bool → Bool → Int → Int → Int → Int → ByteArray → List (S76) → Option (Bool × Int × Int × Int × Int × ByteArray × (List (S76)) × Bool)
 | 0,_,_,_,_,_,_,_,_,_,_,_,_ => none
 | k + 1,x5,x20,x21,x432000,x432001,x436000,x436001,x436002,x436003,x436004,x436005,x436006 => if x21 < x20 then ((Zd.f k x432000 x432001 1).bind fun bt436 => ((Zd.f k bt436.2.1 bt436.2.2 4).bind fun bt439 => ((ZG.f bt439.2.1 bt439.2.2 8).bind fun bt442 => (if x436006.length < 4398046511104 then (Zm.l0 k x5 x20 (wrap64 (x21 + 1)) bt442.2.1 bt442.2.2 x436000 x436001 x436002 x436003 x436004 x436005 (x436006 ++ [(⟨bt436.1,bt439.1,bt442.1⟩ : S76)])) else (none))))) else ((ZE.f k x432000 x432001).bind fun bt448 => (if x5 < 0 then (some (false,0,0,0,0,(⟨#[]⟩ : ByteArray),([] : List (S76)),false)) else ((Yb.f bt448.2.2.2.2.2.1 bt448.2.2.2.2.2.2).bind fun bt455 => (if bt455.1 = true then ((Zj.f k x436000 bt448.1 bt448.2.1 bt448.2.2.1 bt448.2.2.2.1 bt448.2.2.2.2.1 x436006).bind fun t458 => (if t458 = true then (some (x436000,bt448.1,bt448.2.1,bt448.2.2.1,bt448.2.2.2.1,bt448.2.2.2.2.1,x436006,true)) else (some (false,0,0,0,0,(⟨#[]⟩ : ByteArray),([] : List (S76)),false)))) else (some (false,0,0,0,0,(⟨#[]⟩ : ByteArray),([] : List (S76)),false))))))
def Zm.f (k : Nat) (a0 : ByteArray) : Option (Bool × Int × Int × Int × Int × ByteArray × (List (S76)) × Bool) := if a0.toList = ([0] : List UInt8) then (some (true,0,0,0,0,(⟨#[]⟩ : ByteArray),([] : List (S76)),true)) else ((Zd.f k a0 false 1).bind fun bt432 => (if (wrap64 (bt432.1 - 1)) > 7 then (some (false,0,0,0,0,(⟨#[]⟩ : ByteArray),([] : List (S76)),false)) else (Zm.l0 k (wrap64 (bt432.1 - 1)) (mx (wrap64 (bt432.1 - 1)) 0) 0 bt432.2.1 bt432.2.2 false 0 0 0 0 (⟨#[]⟩ : ByteArray) ([] : List (S76)))))
theorem Zm.mono_l : ∀ k,(∀ y0 y1 y2 y3 y4 y5 y6 y7 y8 y9 y10 y11,LeO (Zm.l0 k y0 y1 y2 y3 y4 y5 y6 y7 y8 y9 y10 y11) (Zm.l0 (k + 1) y0 y1 y2 y3 y4 y5 y6 y7 y8 y9 y10 y11))
 | 0 => fun _ _ _ _ _ _ _ _ _ _ _ _ r h => by simp [Zm.l0] at h
 | k + 1 => by
  have ih0 := Zm.mono_l k
  ·intro y0 y1 y2 y3 y4 y5 y6 y7 y8 y9 y10 y11
   unfold Zm.l0
   repeat' (with_reducible first | exact ih0 _ _ _ _ _ _ _ _ _ _ _ _ | exact Zj.mono _ _ _ _ _ _ _ _ | exact Zd.mono _ _ _ _ | exact ZE.mono _ _ _ | exact LeO.refl _ | exact LeO.none _ | refine LeO.ite ?_ ?_ | refine LeO.bind ?_ (fun _ => ?_))
theorem Zm.mono : ∀ a0 k,LeO (Zm.f k a0) (Zm.f (k + 1) a0) := by
 intro a0 k
 have ih0 := Zm.mono_l k
 unfold Zm.f
 repeat' (with_reducible first | exact ih0 _ _ _ _ _ _ _ _ _ _ _ _ | exact Zj.mono _ _ _ _ _ _ _ _ | exact Zd.mono _ _ _ _ | exact ZE.mono _ _ _ | exact LeO.refl _ | exact LeO.none _ | refine LeO.ite ?_ ?_ | refine LeO.bind ?_ (fun _ => ?_))
noncomputable def Zm.lv0 (x5 : Int) (x20 : Int) (x21 : Int) (x432000 : ByteArray) (x432001 : Bool) (x436000 : Bool) (x436001 : Int) (x436002 : Int) (x436003 : Int) (x436004 : Int) (x436005 : ByteArray) (x436006 : List (S76)) : Option (Bool × Int × Int × Int × Int × ByteArray × (List (S76)) × Bool) := lim (fun k_ => Zm.l0 k_ x5 x20 x21 x432000 x432001 x436000 x436001 x436002 x436003 x436004 x436005 x436006)
noncomputable def Zm.v (a0 : ByteArray) : Option (Bool × Int × Int × Int × Int × ByteArray × (List (S76)) × Bool) := lim (fun k_ => Zm.f k_ a0)
theorem Zm.lv0_lim (x5 : Int) (x20 : Int) (x21 : Int) (x432000 : ByteArray) (x432001 : Bool) (x436000 : Bool) (x436001 : Int) (x436002 : Int) (x436003 : Int) (x436004 : Int) (x436005 : ByteArray) (x436006 : List (S76)) : LimIs (fun k_ => Zm.l0 k_ x5 x20 x21 x432000 x432001 x436000 x436001 x436002 x436003 x436004 x436005 x436006) (Zm.lv0 x5 x20 x21 x432000 x432001 x436000 x436001 x436002 x436003 x436004 x436005 x436006) := lim_is (fun k_ => (Zm.mono_l k_) x5 x20 x21 x432000 x432001 x436000 x436001 x436002 x436003 x436004 x436005 x436006)
theorem Zm.v_lim (a0 : ByteArray) : LimIs (fun k_ => Zm.f k_ a0) (Zm.v a0) := lim_is (fun k_ => Zm.mono a0 k_)
theorem Zm.lv0_eq (x5 : Int) (x20 : Int) (x21 : Int) (x432000 : ByteArray) (x432001 : Bool) (x436000 : Bool) (x436001 : Int) (x436002 : Int) (x436003 : Int) (x436004 : Int) (x436005 : ByteArray) (x436006 : List (S76)) : Zm.lv0 x5 x20 x21 x432000 x432001 x436000 x436001 x436002 x436003 x436004 x436005 x436006 = (if x21 < x20 then ((Zd.v x432000 x432001 1).bind fun bt436 => ((Zd.v bt436.2.1 bt436.2.2 4).bind fun bt439 => ((ZG.v bt439.2.1 bt439.2.2 8).bind fun bt442 => (if x436006.length < 4398046511104 then (Zm.lv0 x5 x20 (wrap64 (x21 + 1)) bt442.2.1 bt442.2.2 x436000 x436001 x436002 x436003 x436004 x436005 (x436006 ++ [(⟨bt436.1,bt439.1,bt442.1⟩ : S76)])) else (none))))) else ((ZE.v x432000 x432001).bind fun bt448 => (if x5 < 0 then (some (false,0,0,0,0,(⟨#[]⟩ : ByteArray),([] : List (S76)),false)) else ((Yb.v bt448.2.2.2.2.2.1 bt448.2.2.2.2.2.2).bind fun bt455 => (if bt455.1 = true then ((Zj.v x436000 bt448.1 bt448.2.1 bt448.2.2.1 bt448.2.2.2.1 bt448.2.2.2.2.1 x436006).bind fun t458 => (if t458 = true then (some (x436000,bt448.1,bt448.2.1,bt448.2.2.1,bt448.2.2.2.1,bt448.2.2.2.2.1,x436006,true)) else (some (false,0,0,0,0,(⟨#[]⟩ : ByteArray),([] : List (S76)),false)))) else (some (false,0,0,0,0,(⟨#[]⟩ : ByteArray),([] : List (S76)),false)))))) : Option (Bool × Int × Int × Int × Int × ByteArray × (List (S76)) × Bool)) := by
 refine LimIs.eq (Zm.lv0_lim x5 x20 x21 x432000 x432001 x436000 x436001 x436002 x436003 x436004 x436005 x436006) ?_
 refine LimIs.step (fun k_ => (Zm.mono_l k_) x5 x20 x21 x432000 x432001 x436000 x436001 x436002 x436003 x436004 x436005 x436006) ?_
 simp only [Zm.l0]
 repeat' (with_reducible first | exact Zj.v_lim _ _ _ _ _ _ _ | exact Zm.lv0_lim _ _ _ _ _ _ _ _ _ _ _ _ | exact Yb.v_lim _ _ | exact Zd.v_lim _ _ _ | exact ZE.v_lim _ _ | exact ZG.v_lim _ _ _ | exact LimIs.const _ | refine LimIs.ite ?_ ?_ | refine LimIs.bind ?_ (fun _ => ?_))
theorem Zm.v_eq (a0 : ByteArray) : Zm.v a0 = (if a0.toList = ([0] : List UInt8) then (some (true,0,0,0,0,(⟨#[]⟩ : ByteArray),([] : List (S76)),true)) else ((Zd.v a0 false 1).bind fun bt432 => (if (wrap64 (bt432.1 - 1)) > 7 then (some (false,0,0,0,0,(⟨#[]⟩ : ByteArray),([] : List (S76)),false)) else (Zm.lv0 (wrap64 (bt432.1 - 1)) (mx (wrap64 (bt432.1 - 1)) 0) 0 bt432.2.1 bt432.2.2 false 0 0 0 0 (⟨#[]⟩ : ByteArray) ([] : List (S76))))) : Option (Bool × Int × Int × Int × Int × ByteArray × (List (S76)) × Bool)) := by
 refine LimIs.eq (Zm.v_lim a0) ?_
 simp only [Zm.f]
 repeat' (with_reducible first | exact Zm.lv0_lim _ _ _ _ _ _ _ _ _ _ _ _ | exact Zd.v_lim _ _ _ | exact LimIs.const _ | refine LimIs.ite ?_ ?_ | refine LimIs.bind ?_ (fun _ => ?_))
def Yi.f (a0 : Int) : Option (Int) := some (wrap64 ((wrap64 ((wrap64 (Int.tdiv (wrap64 (a0 - 1)) 3)) * 2)) + 1))
def Yi.v (a0 : Int) : Option (Int) := Yi.f a0
theorem Yi.v_lim (a0 : Int) : LimIs (fun _ => Yi.f a0) (Yi.v a0) := LimIs.const _
theorem Yi.v_eq (a0 : Int) : Yi.v a0 = (some (wrap64 ((wrap64 ((wrap64 (Int.tdiv (wrap64 (a0 - 1)) 3)) * 2)) + 1)) : Option (Int)) := rfl
def Zh.l0 : Nat → Int → List Int → Int → Option (ByteArray)
 | 0,_,_,_ => none
 | k + 1,x0,x5,x6 => if x6 ≥ 0 then (if 0 ≤ x6 then (if x6 < (x5.length : Int) then (Zh.l0 k (x0 / 256) (x5.set (x6 : Int).toNat ((x0) % 256)) (wrap64 (x6 - 1))) else (none)) else (none)) else (some (strOfNums x5))
def Zh.f (k : Nat) (a0 : Int) (a1 : Int) : Option (ByteArray) := if 0 ≤ a1 then (if (a1 : Int).toNat ≤ 281474976710656 then (Zh.l0 k a0 (List.replicate (a1 : Int).toNat 0) (wrap64 (a1 - 1))) else (none)) else (none)
theorem Zh.mono_l : ∀ k,(∀ y0 y1 y2,LeO (Zh.l0 k y0 y1 y2) (Zh.l0 (k + 1) y0 y1 y2))
 | 0 => fun _ _ _ r h => by simp [Zh.l0] at h
 | k + 1 => by
  have ih0 := Zh.mono_l k
  ·intro y0 y1 y2
   unfold Zh.l0
   repeat' (with_reducible first | exact ih0 _ _ _ | exact LeO.refl _ | exact LeO.none _ | refine LeO.ite ?_ ?_ | refine LeO.bind ?_ (fun _ => ?_))
theorem Zh.mono : ∀ a0 a1 k,LeO (Zh.f k a0 a1) (Zh.f (k + 1) a0 a1) := by
 intro a0 a1 k
 have ih0 := Zh.mono_l k
 unfold Zh.f
 repeat' (with_reducible first | exact ih0 _ _ _ | exact LeO.refl _ | exact LeO.none _ | refine LeO.ite ?_ ?_ | refine LeO.bind ?_ (fun _ => ?_))
noncomputable def Zh.lv0 (x0 : Int) (x5 : List Int) (x6 : Int) : Option (ByteArray) := lim (fun k_ => Zh.l0 k_ x0 x5 x6)
noncomputable def Zh.v (a0 : Int) (a1 : Int) : Option (ByteArray) := lim (fun k_ => Zh.f k_ a0 a1)
theorem Zh.lv0_lim (x0 : Int) (x5 : List Int) (x6 : Int) : LimIs (fun k_ => Zh.l0 k_ x0 x5 x6) (Zh.lv0 x0 x5 x6) := lim_is (fun k_ => (Zh.mono_l k_) x0 x5 x6)
theorem Zh.v_lim (a0 : Int) (a1 : Int) : LimIs (fun k_ => Zh.f k_ a0 a1) (Zh.v a0 a1) := lim_is (fun k_ => Zh.mono a0 a1 k_)
theorem Zh.lv0_eq (x0 : Int) (x5 : List Int) (x6 : Int) : Zh.lv0 x0 x5 x6 = (if x6 ≥ 0 then (if 0 ≤ x6 then (if x6 < (x5.length : Int) then (Zh.lv0 (x0 / 256) (x5.set (x6 : Int).toNat ((x0) % 256)) (wrap64 (x6 - 1))) else (none)) else (none)) else (some (strOfNums x5)) : Option (ByteArray)) := by
 refine LimIs.eq (Zh.lv0_lim x0 x5 x6) ?_
 refine LimIs.step (fun k_ => (Zh.mono_l k_) x0 x5 x6) ?_
 simp only [Zh.l0]
 repeat' (with_reducible first | exact Zh.lv0_lim _ _ _ | exact LimIs.const _ | refine LimIs.ite ?_ ?_ | refine LimIs.bind ?_ (fun _ => ?_))
theorem Zh.v_eq (a0 : Int) (a1 : Int) : Zh.v a0 a1 = (if 0 ≤ a1 then (if (a1 : Int).toNat ≤ 281474976710656 then (Zh.lv0 a0 (List.replicate (a1 : Int).toNat 0) (wrap64 (a1 - 1))) else (none)) else (none) : Option (ByteArray)) := by
 refine LimIs.eq (Zh.v_lim a0 a1) ?_
 simp only [Zh.f]
 repeat' (with_reducible first | exact Zh.lv0_lim _ _ _ | exact LimIs.const _ | refine LimIs.ite ?_ ?_ | refine LimIs.bind ?_ (fun _ => ?_))
def Yy.f (a0 : Int) (a1 : Int) : Option (Int) := if 0 ≤ (Go.bits .and .u64 (IntKind.u64.wrap (a1)) 31) then (if 0 ≤ (IntKind.u64.wrap (32 - (Go.bits .and .u64 (IntKind.u64.wrap (a1)) 31))) then (some (Go.bits .or .u32 (shl .u32 a0 (Go.bits .and .u64 (IntKind.u64.wrap (a1)) 31)) (shr .u32 a0 (IntKind.u64.wrap (32 - (Go.bits .and .u64 (IntKind.u64.wrap (a1)) 31)))))) else (none)) else (none)
def Yz.f (a0 : Int) (a1 : Int) : Option (Int) := (Yy.f a0 (wrap64 (-a1))).bind fun t463 => (some t463)
def ZV.f (k : Nat) (a0 : ByteArray) : Option (ByteArray) := if a0.size ≤ 40000000 then (Zb.f k (bytesOf a0)) else (none)
theorem ZV.mono : ∀ a0 k,LeO (ZV.f k a0) (ZV.f (k + 1) a0) := by
 intro a0 k
 unfold ZV.f
 repeat' (with_reducible first | exact Zb.mono _ _ | exact LeO.refl _ | refine LeO.ite ?_ ?_)
noncomputable def ZV.v (a0 : ByteArray) : Option (ByteArray) := lim (fun k_ => ZV.f k_ a0)
theorem ZV.v_lim (a0 : ByteArray) : LimIs (fun k_ => ZV.f k_ a0) (ZV.v a0) := lim_is (fun k_ => ZV.mono a0 k_)
theorem ZV.v_eq (a0 : ByteArray) : ZV.v a0 = (if a0.size ≤ 40000000 then (Zb.v (bytesOf a0)) else (none) : Option (ByteArray)) := by
 refine LimIs.eq (ZV.v_lim a0) ?_
 simp only [ZV.f]
 repeat' (with_reducible first | exact Zb.v_lim _ | exact LimIs.const _ | refine LimIs.ite ?_ ?_ | refine LimIs.bind ?_ (fun _ => ?_))
def Yg.f (k : Nat) (a0 : Int) (a1 : ByteArray) : Option (ByteArray) := (Zh.f k a0 1).bind fun t464 => (if 8 + t464.size ≤ 9223372036854775807 then ((ZV.f k ((⟨#[110,111,100,101,32,107,101,121]⟩ : ByteArray) ++ t464)).bind fun t465 => (if t465.size + a1.size ≤ 9223372036854775807 then ((ZV.f k (t465 ++ a1)).bind fun t466 => (if 0 ≤ 8 then (if 8 ≤ (t466.size : Int) then (some (t466.extract 0 8)) else (none)) else (none))) else (none))) else (none))
theorem Yg.mono : ∀ a0 a1 k,LeO (Yg.f k a0 a1) (Yg.f (k + 1) a0 a1) := by
 intro a0 a1 k
 unfold Yg.f
 repeat' (with_reducible first | exact ZV.mono _ _ | exact Zh.mono _ _ _ | exact LeO.refl _ | exact LeO.none _ | refine LeO.ite ?_ ?_ | refine LeO.bind ?_ (fun _ => ?_))
noncomputable def Yg.v (a0 : Int) (a1 : ByteArray) : Option (ByteArray) := lim (fun k_ => Yg.f k_ a0 a1)
theorem Yg.v_lim (a0 : Int) (a1 : ByteArray) : LimIs (fun k_ => Yg.f k_ a0 a1) (Yg.v a0 a1) := lim_is (fun k_ => Yg.mono a0 a1 k_)
theorem Yg.v_eq (a0 : Int) (a1 : ByteArray) : Yg.v a0 a1 = ((Zh.v a0 1).bind fun t464 => (if 8 + t464.size ≤ 9223372036854775807 then ((ZV.v ((⟨#[110,111,100,101,32,107,101,121]⟩ : ByteArray) ++ t464)).bind fun t465 => (if t465.size + a1.size ≤ 9223372036854775807 then ((ZV.v (t465 ++ a1)).bind fun t466 => (if 0 ≤ 8 then (if 8 ≤ (t466.size : Int) then (some (t466.extract 0 8)) else (none)) else (none))) else (none))) else (none)) : Option (ByteArray)) := by
 refine LimIs.eq (Yg.v_lim a0 a1) ?_
 simp only [Yg.f]
 repeat' (with_reducible first | exact ZV.v_lim _ | exact Zh.v_lim _ _ | exact LimIs.const _ | refine LimIs.ite ?_ ?_ | refine LimIs.bind ?_ (fun _ => ?_))
def ZM.f (k : Nat) (a0 : Int) (a1 : Int) : Option (ByteArray) := (Zh.f k a1 4).bind fun t467 => (if 5 + t467.size ≤ 9223372036854775807 then ((Yg.f k a0 ((⟨#[99,108,111,99,107]⟩ : ByteArray) ++ t467)).bind fun t468 => (some t468)) else (none))
theorem ZM.mono : ∀ a0 a1 k,LeO (ZM.f k a0 a1) (ZM.f (k + 1) a0 a1) := by
 intro a0 a1 k
 unfold ZM.f
 repeat' (with_reducible first | exact Yg.mono _ _ _ | exact Zh.mono _ _ _ | exact LeO.refl _ | exact LeO.none _ | refine LeO.ite ?_ ?_ | refine LeO.bind ?_ (fun _ => ?_))
noncomputable def ZM.v (a0 : Int) (a1 : Int) : Option (ByteArray) := lim (fun k_ => ZM.f k_ a0 a1)
theorem ZM.v_lim (a0 : Int) (a1 : Int) : LimIs (fun k_ => ZM.f k_ a0 a1) (ZM.v a0 a1) := lim_is (fun k_ => ZM.mono a0 a1 k_)
theorem ZM.v_eq (a0 : Int) (a1 : Int) : ZM.v a0 a1 = ((Zh.v a1 4).bind fun t467 => (if 5 + t467.size ≤ 9223372036854775807 then ((Yg.v a0 ((⟨#[99,108,111,99,107]⟩ : ByteArray) ++ t467)).bind fun t468 => (some t468)) else (none)) : Option (ByteArray)) := by
 refine LimIs.eq (ZM.v_lim a0 a1) ?_
 simp only [ZM.f]
 repeat' (with_reducible first | exact Yg.v_lim _ _ | exact Zh.v_lim _ _ | exact LimIs.const _ | refine LimIs.ite ?_ ?_ | refine LimIs.bind ?_ (fun _ => ?_))
def Yo.f (a0 : Int) : Option (Bool) := some (a0 != a0)
def Yo.v (a0 : Int) : Option (Bool) := Yo.f a0
theorem Yo.v_eq (a0 : Int) : Yo.v a0 = (some (a0 != a0) : Option (Bool)) := rfl
def Yu.f (a0 : Int) (a1 : Int) : Option (Bool) := (Yo.f a0).bind fun t469 => (if t469 = true then ((Yo.f a1).bind fun t470 => (if t470 = true then (some (decide (a0 < a1))) else (some true))) else (some (decide (a0 < a1))))
def Yu.v (a0 : Int) (a1 : Int) : Option (Bool) := Yu.f a0 a1
theorem Yu.v_lim (a0 : Int) (a1 : Int) : LimIs (fun _ => Yu.f a0 a1) (Yu.v a0 a1) := LimIs.const _
theorem Yu.v_eq (a0 : Int) (a1 : Int) : Yu.v a0 a1 = ((Yo.v a0).bind fun t469 => (if t469 = true then ((Yo.v a1).bind fun t470 => (if t470 = true then (some (decide (a0 < a1))) else (some true))) else (some (decide (a0 < a1)))) : Option (Bool)) := rfl
mutual
def Za.l0 : Nat → List Int → Int → Int → Int → Option (List Int)
 | 0,_,_,_,_ => none
 | k + 1,x0,x1,x2,x6 => if x6 < x2 then (Za.l1 k x0 x1 x2 x6 x6) else (some x0)
def Za.l1 : Nat → List Int → Int → Int → Int → Int → Option (List Int)
 | 0,_,_,_,_,_ => none
 | k + 1,x0,x1,x2,x6,x7 => if x7 > x1 then (if 0 ≤ x7 then (if x7 < (x0.length : Int) then (if 0 ≤ (wrap64 (x7 - 1)) then (if (wrap64 (x7 - 1)) < (x0.length : Int) then ((Yu.f (rd x0 x7) (rd x0 (wrap64 (x7 - 1)))).bind fun t473 => (if t473 = true then (Za.l1 k ((x0.set (x7 : Int).toNat (rd x0 (wrap64 (x7 - 1)))).set ((wrap64 (x7 - 1)) : Int).toNat (rd x0 x7)) x1 x2 x6 (wrap64 (x7 - 1))) else (Za.l0 k x0 x1 x2 (wrap64 (x6 + 1))))) else (none)) else (none)) else (none)) else (none)) else (Za.l0 k x0 x1 x2 (wrap64 (x6 + 1)))
end
def Za.f (k : Nat) (l0 : List Int) (a1 : Int) (a2 : Int) : Option (List Int) := Za.l0 k l0 a1 a2 (wrap64 (a1 + 1))
theorem Za.mono_l : ∀ k,(∀ y0 y1 y2 y3,LeO (Za.l0 k y0 y1 y2 y3) (Za.l0 (k + 1) y0 y1 y2 y3)) ∧ (∀ y0 y1 y2 y3 y4,LeO (Za.l1 k y0 y1 y2 y3 y4) (Za.l1 (k + 1) y0 y1 y2 y3 y4))
 | 0 => ⟨fun _ _ _ _ r h => by simp [Za.l0] at h,fun _ _ _ _ _ r h => by simp [Za.l1] at h⟩
 | k + 1 => by
  obtain ⟨ih0,ih1⟩ := Za.mono_l k
  refine ⟨?_,?_⟩
  ·intro y0 y1 y2 y3
   unfold Za.l0
   repeat' (with_reducible first | exact ih0 _ _ _ _ | exact ih1 _ _ _ _ _ | exact LeO.refl _ | exact LeO.none _ | refine LeO.ite ?_ ?_ | refine LeO.bind ?_ (fun _ => ?_))
  ·intro y0 y1 y2 y3 y4
   unfold Za.l1
   repeat' (with_reducible first | exact ih0 _ _ _ _ | exact ih1 _ _ _ _ _ | exact LeO.refl _ | exact LeO.none _ | refine LeO.ite ?_ ?_ | refine LeO.bind ?_ (fun _ => ?_))
theorem Za.mono : ∀ a0 a1 a2 k,LeO (Za.f k a0 a1 a2) (Za.f (k + 1) a0 a1 a2) := by
 intro a0 a1 a2 k
 obtain ⟨ih0,ih1⟩ := Za.mono_l k
 unfold Za.f
 repeat' (with_reducible first | exact ih0 _ _ _ _ | exact ih1 _ _ _ _ _ | exact LeO.refl _ | exact LeO.none _ | refine LeO.ite ?_ ?_ | refine LeO.bind ?_ (fun _ => ?_))
noncomputable def Za.lv0 (x0 : List Int) (x1 : Int) (x2 : Int) (x6 : Int) : Option (List Int) := lim (fun k_ => Za.l0 k_ x0 x1 x2 x6)
noncomputable def Za.lv1 (x0 : List Int) (x1 : Int) (x2 : Int) (x6 : Int) (x7 : Int) : Option (List Int) := lim (fun k_ => Za.l1 k_ x0 x1 x2 x6 x7)
noncomputable def Za.v (l0 : List Int) (a1 : Int) (a2 : Int) : Option (List Int) := lim (fun k_ => Za.f k_ l0 a1 a2)
theorem Za.lv0_lim (x0 : List Int) (x1 : Int) (x2 : Int) (x6 : Int) : LimIs (fun k_ => Za.l0 k_ x0 x1 x2 x6) (Za.lv0 x0 x1 x2 x6) := lim_is (fun k_ => (Za.mono_l k_).1 x0 x1 x2 x6)
theorem Za.lv1_lim (x0 : List Int) (x1 : Int) (x2 : Int) (x6 : Int) (x7 : Int) : LimIs (fun k_ => Za.l1 k_ x0 x1 x2 x6 x7) (Za.lv1 x0 x1 x2 x6 x7) := lim_is (fun k_ => (Za.mono_l k_).2 x0 x1 x2 x6 x7)
theorem Za.v_lim (l0 : List Int) (a1 : Int) (a2 : Int) : LimIs (fun k_ => Za.f k_ l0 a1 a2) (Za.v l0 a1 a2) := lim_is (fun k_ => Za.mono l0 a1 a2 k_)
theorem Za.lv0_eq (x0 : List Int) (x1 : Int) (x2 : Int) (x6 : Int) : Za.lv0 x0 x1 x2 x6 = (if x6 < x2 then (Za.lv1 x0 x1 x2 x6 x6) else (some x0) : Option (List Int)) := by
 refine LimIs.eq (Za.lv0_lim x0 x1 x2 x6) ?_
 refine LimIs.step (fun k_ => (Za.mono_l k_).1 x0 x1 x2 x6) ?_
 simp only [Za.l0]
 repeat' (with_reducible first | exact Za.lv1_lim _ _ _ _ _ | exact LimIs.const _ | refine LimIs.ite ?_ ?_ | refine LimIs.bind ?_ (fun _ => ?_))
theorem Za.lv1_eq (x0 : List Int) (x1 : Int) (x2 : Int) (x6 : Int) (x7 : Int) : Za.lv1 x0 x1 x2 x6 x7 = (if x7 > x1 then (if 0 ≤ x7 then (if x7 < (x0.length : Int) then (if 0 ≤ (wrap64 (x7 - 1)) then (if (wrap64 (x7 - 1)) < (x0.length : Int) then ((Yu.v (rd x0 x7) (rd x0 (wrap64 (x7 - 1)))).bind fun t473 => (if t473 = true then (Za.lv1 ((x0.set (x7 : Int).toNat (rd x0 (wrap64 (x7 - 1)))).set ((wrap64 (x7 - 1)) : Int).toNat (rd x0 x7)) x1 x2 x6 (wrap64 (x7 - 1))) else (Za.lv0 x0 x1 x2 (wrap64 (x6 + 1))))) else (none)) else (none)) else (none)) else (none)) else (Za.lv0 x0 x1 x2 (wrap64 (x6 + 1))) : Option (List Int)) := by
 refine LimIs.eq (Za.lv1_lim x0 x1 x2 x6 x7) ?_
 refine LimIs.step (fun k_ => (Za.mono_l k_).2 x0 x1 x2 x6 x7) ?_
 simp only [Za.l1]
 repeat' (with_reducible first | exact Yu.v_lim _ _ | exact Za.lv0_lim _ _ _ _ | exact Za.lv1_lim _ _ _ _ _ | exact LimIs.const _ | refine LimIs.ite ?_ ?_ | refine LimIs.bind ?_ (fun _ => ?_))
theorem Za.v_eq (l0 : List Int) (a1 : Int) (a2 : Int) : Za.v l0 a1 a2 = (Za.lv0 l0 a1 a2 (wrap64 (a1 + 1)) : Option (List Int)) := by
 refine LimIs.eq (Za.v_lim l0 a1 a2) ?_
 simp only [Za.f]
 repeat' (with_reducible first | exact Za.lv0_lim _ _ _ _ | exact LimIs.const _ | refine LimIs.ite ?_ ?_ | refine LimIs.bind ?_ (fun _ => ?_))
def Yl.f (k : Nat) (l0 : List Int) : Option (Int) := if l0.length = 1 ∨ l0.length = 3 ∨ l0.length = 5 then ((Za.f k l0 0 (l0.length : Int)).bind fun t1 => (some (rd t1 (Int.tdiv (l0.length : Int) 2)))) else (none)
theorem Yl.mono : ∀ l0 k,LeO (Yl.f k l0) (Yl.f (k + 1) l0) := by
 intro l0 k
 unfold Yl.f
 repeat' (with_reducible first | exact Za.mono _ _ _ _ | exact LeO.refl _ | refine LeO.ite ?_ ?_ | refine LeO.bind ?_ (fun _ => ?_))
noncomputable def Yl.v (l0 : List Int) : Option (Int) := lim (fun k_ => Yl.f k_ l0)
theorem Yl.v_lim (l0 : List Int) : LimIs (fun k_ => Yl.f k_ l0) (Yl.v l0) := lim_is (fun k_ => Yl.mono l0 k_)
theorem Yl.v_eq (l0 : List Int) : Yl.v l0 = (if l0.length = 1 ∨ l0.length = 3 ∨ l0.length = 5 then ((Za.v l0 0 (l0.length : Int)).bind fun t1 => (some (rd t1 (Int.tdiv (l0.length : Int) 2)))) else (none) : Option (Int)) := by
 refine LimIs.eq (Yl.v_lim l0) ?_
 simp only [Yl.f]
 repeat' (with_reducible first | exact Za.v_lim _ _ _ | exact LimIs.const _ | refine LimIs.ite ?_ ?_ | refine LimIs.bind ?_ (fun _ => ?_))
def Zi.l0 : Nat → Int → List (S76) → List Int → List (S76) → Int → Int → Option (Int × Bool)
 | 0,_,_,_,_,_,_ => none
 | k + 1,x0,x1,x6,x14,x15,x16 => if x16 < x15 then (if 0 ≤ x16 then (if x16 < (x14.length : Int) then ((ZU.f ((rd_T76 x14 x16).f0) ((rd_T76 x14 x16).f1) ((rd_T76 x14 x16).f2)).bind fun t482 => (if t482 = true then (if ((rd_T76 x14 x16).f0) ≥ x0 then (some (0,false)) else (if x16 > 0 then (if 0 ≤ (wrap64 (x16 - 1)) then (if (wrap64 (x16 - 1)) < (x1.length : Int) then (if ((rd_T76 x1 (wrap64 (x16 - 1))).f0) ≥ ((rd_T76 x14 x16).f0) then (some (0,false)) else ((ZM.f k ((rd_T76 x14 x16).f0) ((rd_T76 x14 x16).f1)).bind fun t484 => (if ((rd_T76 x14 x16).f2).toList = t484.toList then (if x6.length < 17592186044416 then (Zi.l0 k x0 x1 (x6 ++ [(rd_T76 x14 x16).f1]) x14 x15 (wrap64 (x16 + 1))) else (none)) else (some (0,false))))) else (none)) else (none)) else ((ZM.f k ((rd_T76 x14 x16).f0) ((rd_T76 x14 x16).f1)).bind fun t488 => (if ((rd_T76 x14 x16).f2).toList = t488.toList then (if x6.length < 17592186044416 then (Zi.l0 k x0 x1 (x6 ++ [(rd_T76 x14 x16).f1]) x14 x15 (wrap64 (x16 + 1))) else (none)) else (some (0,false)))))) else (some (0,false)))) else (none)) else (none)) else ((Yl.f k x6).bind fun t479 => (some (t479,true)))
def Zi.f (k : Nat) (a0 : Int) (l1 : List (S76)) : Option (Int × Bool) := (Yi.f a0).bind fun t478 => (if (l1.length : Int) = t478 then (Zi.l0 k a0 l1 ([] : List Int) l1 (l1.length : Int) 0) else (some (0,false)))
theorem Zi.mono_l : ∀ k,(∀ y0 y1 y2 y3 y4 y5,LeO (Zi.l0 k y0 y1 y2 y3 y4 y5) (Zi.l0 (k + 1) y0 y1 y2 y3 y4 y5))
 | 0 => fun _ _ _ _ _ _ r h => by simp [Zi.l0] at h
 | k + 1 => by
  have ih0 := Zi.mono_l k
  ·intro y0 y1 y2 y3 y4 y5
   unfold Zi.l0
   repeat' (with_reducible first | exact ih0 _ _ _ _ _ _ | exact Yl.mono _ _ | exact ZM.mono _ _ _ | exact LeO.refl _ | exact LeO.none _ | refine LeO.ite ?_ ?_ | refine LeO.bind ?_ (fun _ => ?_))
theorem Zi.mono : ∀ a0 a1 k,LeO (Zi.f k a0 a1) (Zi.f (k + 1) a0 a1) := by
 intro a0 a1 k
 have ih0 := Zi.mono_l k
 unfold Zi.f
 repeat' (with_reducible first | exact ih0 _ _ _ _ _ _ | exact Yl.mono _ _ | exact ZM.mono _ _ _ | exact LeO.refl _ | exact LeO.none _ | refine LeO.ite ?_ ?_ | refine LeO.bind ?_ (fun _ => ?_))
noncomputable def Zi.lv0 (x0 : Int) (x1 : List (S76)) (x6 : List Int) (x14 : List (S76)) (x15 : Int) (x16 : Int) : Option (Int × Bool) := lim (fun k_ => Zi.l0 k_ x0 x1 x6 x14 x15 x16)
noncomputable def Zi.v (a0 : Int) (l1 : List (S76)) : Option (Int × Bool) := lim (fun k_ => Zi.f k_ a0 l1)
theorem Zi.lv0_lim (x0 : Int) (x1 : List (S76)) (x6 : List Int) (x14 : List (S76)) (x15 : Int) (x16 : Int) : LimIs (fun k_ => Zi.l0 k_ x0 x1 x6 x14 x15 x16) (Zi.lv0 x0 x1 x6 x14 x15 x16) := lim_is (fun k_ => (Zi.mono_l k_) x0 x1 x6 x14 x15 x16)
theorem Zi.v_lim (a0 : Int) (l1 : List (S76)) : LimIs (fun k_ => Zi.f k_ a0 l1) (Zi.v a0 l1) := lim_is (fun k_ => Zi.mono a0 l1 k_)
theorem Zi.lv0_eq (x0 : Int) (x1 : List (S76)) (x6 : List Int) (x14 : List (S76)) (x15 : Int) (x16 : Int) : Zi.lv0 x0 x1 x6 x14 x15 x16 = (if x16 < x15 then (if 0 ≤ x16 then (if x16 < (x14.length : Int) then ((ZU.v ((rd_T76 x14 x16).f0) ((rd_T76 x14 x16).f1) ((rd_T76 x14 x16).f2)).bind fun t482 => (if t482 = true then (if ((rd_T76 x14 x16).f0) ≥ x0 then (some (0,false)) else (if x16 > 0 then (if 0 ≤ (wrap64 (x16 - 1)) then (if (wrap64 (x16 - 1)) < (x1.length : Int) then (if ((rd_T76 x1 (wrap64 (x16 - 1))).f0) ≥ ((rd_T76 x14 x16).f0) then (some (0,false)) else ((ZM.v ((rd_T76 x14 x16).f0) ((rd_T76 x14 x16).f1)).bind fun t484 => (if ((rd_T76 x14 x16).f2).toList = t484.toList then (if x6.length < 17592186044416 then (Zi.lv0 x0 x1 (x6 ++ [(rd_T76 x14 x16).f1]) x14 x15 (wrap64 (x16 + 1))) else (none)) else (some (0,false))))) else (none)) else (none)) else ((ZM.v ((rd_T76 x14 x16).f0) ((rd_T76 x14 x16).f1)).bind fun t488 => (if ((rd_T76 x14 x16).f2).toList = t488.toList then (if x6.length < 17592186044416 then (Zi.lv0 x0 x1 (x6 ++ [(rd_T76 x14 x16).f1]) x14 x15 (wrap64 (x16 + 1))) else (none)) else (some (0,false)))))) else (some (0,false)))) else (none)) else (none)) else ((Yl.v x6).bind fun t479 => (some (t479,true))) : Option (Int × Bool)) := by
 refine LimIs.eq (Zi.lv0_lim x0 x1 x6 x14 x15 x16) ?_
 refine LimIs.step (fun k_ => (Zi.mono_l k_) x0 x1 x6 x14 x15 x16) ?_
 simp only [Zi.l0]
 repeat' (with_reducible first | exact ZU.v_lim _ _ _ | exact Yl.v_lim _ | exact ZM.v_lim _ _ | exact Zi.lv0_lim _ _ _ _ _ _ | exact LimIs.const _ | refine LimIs.ite ?_ ?_ | refine LimIs.bind ?_ (fun _ => ?_))
theorem Zi.v_eq (a0 : Int) (l1 : List (S76)) : Zi.v a0 l1 = ((Yi.v a0).bind fun t478 => (if (l1.length : Int) = t478 then (Zi.lv0 a0 l1 ([] : List Int) l1 (l1.length : Int) 0) else (some (0,false))) : Option (Int × Bool)) := by
 refine LimIs.eq (Zi.v_lim a0 l1) ?_
 simp only [Zi.f]
 repeat' (with_reducible first | exact Yi.v_lim _ | exact Zi.lv0_lim _ _ _ _ _ _ | exact LimIs.const _ | refine LimIs.ite ?_ ?_ | refine LimIs.bind ?_ (fun _ => ?_))
def Ye.f (k : Nat) (a0 : Int) (a1 : ByteArray) : Option (Bool × Int × Int × Int × Int × ByteArray × (List (S76)) × Int × Bool) := (Zm.f k a1).bind fun bt493 => (if bt493.2.2.2.2.2.2.2 = true then (if bt493.1 = true then (some (bt493.1,bt493.2.1,bt493.2.2.1,bt493.2.2.2.1,bt493.2.2.2.2.1,bt493.2.2.2.2.2.1,bt493.2.2.2.2.2.2.1,0,bt493.2.2.2.2.2.2.2)) else ((Zi.f k a0 bt493.2.2.2.2.2.2.1).bind fun bt504 => (some (bt493.1,bt493.2.1,bt493.2.2.1,bt493.2.2.2.1,bt493.2.2.2.2.1,bt493.2.2.2.2.2.1,bt493.2.2.2.2.2.2.1,bt504.1,bt504.2)))) else (some (bt493.1,bt493.2.1,bt493.2.2.1,bt493.2.2.2.1,bt493.2.2.2.2.1,bt493.2.2.2.2.2.1,bt493.2.2.2.2.2.2.1,0,bt493.2.2.2.2.2.2.2)))
theorem Ye.mono : ∀ a0 a1 k,LeO (Ye.f k a0 a1) (Ye.f (k + 1) a0 a1) := by
 intro a0 a1 k
 unfold Ye.f
 repeat' (with_reducible first | exact Zm.mono _ _ | exact Zi.mono _ _ _ | exact LeO.refl _ | exact LeO.none _ | refine LeO.ite ?_ ?_ | refine LeO.bind ?_ (fun _ => ?_))
noncomputable def Ye.v (a0 : Int) (a1 : ByteArray) : Option (Bool × Int × Int × Int × Int × ByteArray × (List (S76)) × Int × Bool) := lim (fun k_ => Ye.f k_ a0 a1)
theorem Ye.v_lim (a0 : Int) (a1 : ByteArray) : LimIs (fun k_ => Ye.f k_ a0 a1) (Ye.v a0 a1) := lim_is (fun k_ => Ye.mono a0 a1 k_)
theorem Ye.v_eq (a0 : Int) (a1 : ByteArray) : Ye.v a0 a1 = ((Zm.v a1).bind fun bt493 => (if bt493.2.2.2.2.2.2.2 = true then (if bt493.1 = true then (some (bt493.1,bt493.2.1,bt493.2.2.1,bt493.2.2.2.1,bt493.2.2.2.2.1,bt493.2.2.2.2.2.1,bt493.2.2.2.2.2.2.1,0,bt493.2.2.2.2.2.2.2)) else ((Zi.v a0 bt493.2.2.2.2.2.2.1).bind fun bt504 => (some (bt493.1,bt493.2.1,bt493.2.2.1,bt493.2.2.2.1,bt493.2.2.2.2.1,bt493.2.2.2.2.2.1,bt493.2.2.2.2.2.2.1,bt504.1,bt504.2)))) else (some (bt493.1,bt493.2.1,bt493.2.2.1,bt493.2.2.2.1,bt493.2.2.2.2.1,bt493.2.2.2.2.2.1,bt493.2.2.2.2.2.2.1,0,bt493.2.2.2.2.2.2.2))) : Option (Bool × Int × Int × Int × Int × ByteArray × (List (S76)) × Int × Bool)) := by
 refine LimIs.eq (Ye.v_lim a0 a1) ?_
 simp only [Ye.f]
 repeat' (with_reducible first | exact Zm.v_lim _ | exact Zi.v_lim _ _ | exact LimIs.const _ | refine LimIs.ite ?_ ?_ | refine LimIs.bind ?_ (fun _ => ?_))
def Yj.f (k : Nat) (a0 : Int) (a1 : ByteArray) : Option (Bool) := (Ye.f k a0 a1).bind fun bt506 => (some bt506.2.2.2.2.2.2.2.2)
theorem Yj.mono : ∀ a0 a1 k,LeO (Yj.f k a0 a1) (Yj.f (k + 1) a0 a1) := by
 intro a0 a1 k
 unfold Yj.f
 repeat' (with_reducible first | exact Ye.mono _ _ _ | exact LeO.refl _ | exact LeO.none _ | refine LeO.ite ?_ ?_ | refine LeO.bind ?_ (fun _ => ?_))
noncomputable def Yj.v (a0 : Int) (a1 : ByteArray) : Option (Bool) := lim (fun k_ => Yj.f k_ a0 a1)
theorem Yj.v_lim (a0 : Int) (a1 : ByteArray) : LimIs (fun k_ => Yj.f k_ a0 a1) (Yj.v a0 a1) := lim_is (fun k_ => Yj.mono a0 a1 k_)
theorem Yj.v_eq (a0 : Int) (a1 : ByteArray) : Yj.v a0 a1 = ((Ye.v a0 a1).bind fun bt506 => (some bt506.2.2.2.2.2.2.2.2) : Option (Bool)) := by
 refine LimIs.eq (Yj.v_lim a0 a1) ?_
 simp only [Yj.f]
 repeat' (with_reducible first | exact Ye.v_lim _ _ | exact LimIs.const _ | refine LimIs.ite ?_ ?_ | refine LimIs.bind ?_ (fun _ => ?_))
def ZO.f (k : Nat) (a0 : ByteArray) : Option (ByteArray) := if 5 + a0.size ≤ 9223372036854775807 then ((ZV.f k ((⟨#[98,97,116,99,104]⟩ : ByteArray) ++ a0)).bind fun t518 => (some t518)) else (none)
theorem ZO.mono : ∀ a0 k,LeO (ZO.f k a0) (ZO.f (k + 1) a0) := by
 intro a0 k
 unfold ZO.f
 repeat' (with_reducible first | exact ZV.mono _ _ | exact LeO.refl _ | exact LeO.none _ | refine LeO.ite ?_ ?_ | refine LeO.bind ?_ (fun _ => ?_))
noncomputable def ZO.v (a0 : ByteArray) : Option (ByteArray) := lim (fun k_ => ZO.f k_ a0)
theorem ZO.v_lim (a0 : ByteArray) : LimIs (fun k_ => ZO.f k_ a0) (ZO.v a0) := lim_is (fun k_ => ZO.mono a0 k_)
theorem ZO.v_eq (a0 : ByteArray) : ZO.v a0 = (if 5 + a0.size ≤ 9223372036854775807 then ((ZV.v ((⟨#[98,97,116,99,104]⟩ : ByteArray) ++ a0)).bind fun t518 => (some t518)) else (none) : Option (ByteArray)) := by
 refine LimIs.eq (ZO.v_lim a0) ?_
 simp only [ZO.f]
 repeat' (with_reducible first | exact ZV.v_lim _ | exact LimIs.const _ | refine LimIs.ite ?_ ?_ | refine LimIs.bind ?_ (fun _ => ?_))
def Yv.f (a0 : ByteArray) : Option (Bool) := some ((a0.size : Int) == 32)
def Yv.v (a0 : ByteArray) : Option (Bool) := Yv.f a0
theorem Yv.v_lim (a0 : ByteArray) : LimIs (fun _ => Yv.f a0) (Yv.v a0) := LimIs.const _
theorem Yv.v_eq (a0 : ByteArray) : Yv.v a0 = (some ((a0.size : Int) == 32) : Option (Bool)) := rfl
mutual
def Zn.j0 : Nat → Bool → Int → Int → Int → Int → ByteArray → ByteArray → ByteArray → Option (Bool)
 | 0,_,_,_,_,_,_,_,_ => none
 | k + 1,x24,x520000,x520001,x520002,x520003,x520004,x520005,x520006 => if x24 = true then (some false) else (if x520000 = 1 then (Zn.j1 k x520000 (x520000 == 1) x520000 x520001 x520002 x520003 x520004 x520005 x520006) else (if x520000 = 2 then (Zn.j1 k x520000 (x520000 == 2) x520000 x520001 x520002 x520003 x520004 x520005 x520006) else (Zn.j1 k x520000 (x520000 == 3) x520000 x520001 x520002 x520003 x520004 x520005 x520006)))
def Zn.j1 : Nat → Int → Bool → Int → Int → Int → Int → ByteArray → ByteArray → ByteArray → Option (Bool)
 | 0,_,_,_,_,_,_,_,_,_ => none
 | k + 1,x26,x27,x520000,x520001,x520002,x520003,x520004,x520005,x520006 => if x27 = true then ((ZB.f x520002 1 8).bind fun t522 => (if t522 = true then ((Yv.f x520004).bind fun t523 => (if t523 = true then (some ((x520005.toList != ([] : List UInt8)) == (x520000 == 1))) else (some false))) else (some false))) else (if x26 = 4 then (if x520002 = 0 then (some (x520004.toList == ([] : List UInt8))) else (some false)) else (if x26 = 5 then (if x520002 = 0 then (some (x520004.toList == ([] : List UInt8))) else (some false)) else (some false)))
end
def Zn.f (k : Nat) (a0_0 : Int) (a0_1 : Int) (a0_2 : Int) (a0_3 : Int) (a0_4 : ByteArray) (a0_5 : ByteArray) (a0_6 : ByteArray) : Option (Bool) := (ZB.f a0_1 0 20).bind fun t520 => (if t520 = true then ((ZB.f a0_3 0 6).bind fun t521 => (if t521 = true then (if (a0_6.size : Int) = 8 then (Zn.j0 k (decide ((a0_5.size : Int) > 20000)) a0_0 a0_1 a0_2 a0_3 a0_4 a0_5 a0_6) else (Zn.j0 k true a0_0 a0_1 a0_2 a0_3 a0_4 a0_5 a0_6)) else (Zn.j0 k true a0_0 a0_1 a0_2 a0_3 a0_4 a0_5 a0_6))) else (Zn.j0 k true a0_0 a0_1 a0_2 a0_3 a0_4 a0_5 a0_6))
theorem Zn.mono_l : ∀ k,(∀ y0 y1 y2 y3 y4 y5 y6 y7,LeO (Zn.j0 k y0 y1 y2 y3 y4 y5 y6 y7) (Zn.j0 (k + 1) y0 y1 y2 y3 y4 y5 y6 y7)) ∧ (∀ y0 y1 y2 y3 y4 y5 y6 y7 y8,LeO (Zn.j1 k y0 y1 y2 y3 y4 y5 y6 y7 y8) (Zn.j1 (k + 1) y0 y1 y2 y3 y4 y5 y6 y7 y8))
 | 0 => ⟨fun _ _ _ _ _ _ _ _ r h => by simp [Zn.j0] at h,fun _ _ _ _ _ _ _ _ _ r h => by simp [Zn.j1] at h⟩
 | k + 1 => by
  obtain ⟨ih0,ih1⟩ := Zn.mono_l k
  refine ⟨?_,?_⟩
  ·intro y0 y1 y2 y3 y4 y5 y6 y7
   unfold Zn.j0
   repeat' (with_reducible first | exact ih0 _ _ _ _ _ _ _ _ | exact ih1 _ _ _ _ _ _ _ _ _ | exact LeO.refl _ | exact LeO.none _ | refine LeO.ite ?_ ?_ | refine LeO.bind ?_ (fun _ => ?_))
  ·intro y0 y1 y2 y3 y4 y5 y6 y7 y8
   unfold Zn.j1
   repeat' (with_reducible first | exact ih0 _ _ _ _ _ _ _ _ | exact ih1 _ _ _ _ _ _ _ _ _ | exact LeO.refl _ | exact LeO.none _ | refine LeO.ite ?_ ?_ | refine LeO.bind ?_ (fun _ => ?_))
theorem Zn.mono : ∀ a0 a1 a2 a3 a4 a5 a6 k,LeO (Zn.f k a0 a1 a2 a3 a4 a5 a6) (Zn.f (k + 1) a0 a1 a2 a3 a4 a5 a6) := by
 intro a0 a1 a2 a3 a4 a5 a6 k
 obtain ⟨ih0,ih1⟩ := Zn.mono_l k
 unfold Zn.f
 repeat' (with_reducible first | exact ih0 _ _ _ _ _ _ _ _ | exact ih1 _ _ _ _ _ _ _ _ _ | exact LeO.refl _ | exact LeO.none _ | refine LeO.ite ?_ ?_ | refine LeO.bind ?_ (fun _ => ?_))
noncomputable def Zn.jv0 (x24 : Bool) (x520000 : Int) (x520001 : Int) (x520002 : Int) (x520003 : Int) (x520004 : ByteArray) (x520005 : ByteArray) (x520006 : ByteArray) : Option (Bool) := lim (fun k_ => Zn.j0 k_ x24 x520000 x520001 x520002 x520003 x520004 x520005 x520006)
noncomputable def Zn.jv1 (x26 : Int) (x27 : Bool) (x520000 : Int) (x520001 : Int) (x520002 : Int) (x520003 : Int) (x520004 : ByteArray) (x520005 : ByteArray) (x520006 : ByteArray) : Option (Bool) := lim (fun k_ => Zn.j1 k_ x26 x27 x520000 x520001 x520002 x520003 x520004 x520005 x520006)
noncomputable def Zn.v (a0_0 : Int) (a0_1 : Int) (a0_2 : Int) (a0_3 : Int) (a0_4 : ByteArray) (a0_5 : ByteArray) (a0_6 : ByteArray) : Option (Bool) := lim (fun k_ => Zn.f k_ a0_0 a0_1 a0_2 a0_3 a0_4 a0_5 a0_6)
theorem Zn.jv0_lim (x24 : Bool) (x520000 : Int) (x520001 : Int) (x520002 : Int) (x520003 : Int) (x520004 : ByteArray) (x520005 : ByteArray) (x520006 : ByteArray) : LimIs (fun k_ => Zn.j0 k_ x24 x520000 x520001 x520002 x520003 x520004 x520005 x520006) (Zn.jv0 x24 x520000 x520001 x520002 x520003 x520004 x520005 x520006) := lim_is (fun k_ => (Zn.mono_l k_).1 x24 x520000 x520001 x520002 x520003 x520004 x520005 x520006)
theorem Zn.jv1_lim (x26 : Int) (x27 : Bool) (x520000 : Int) (x520001 : Int) (x520002 : Int) (x520003 : Int) (x520004 : ByteArray) (x520005 : ByteArray) (x520006 : ByteArray) : LimIs (fun k_ => Zn.j1 k_ x26 x27 x520000 x520001 x520002 x520003 x520004 x520005 x520006) (Zn.jv1 x26 x27 x520000 x520001 x520002 x520003 x520004 x520005 x520006) := lim_is (fun k_ => (Zn.mono_l k_).2 x26 x27 x520000 x520001 x520002 x520003 x520004 x520005 x520006)
theorem Zn.v_lim (a0_0 : Int) (a0_1 : Int) (a0_2 : Int) (a0_3 : Int) (a0_4 : ByteArray) (a0_5 : ByteArray) (a0_6 : ByteArray) : LimIs (fun k_ => Zn.f k_ a0_0 a0_1 a0_2 a0_3 a0_4 a0_5 a0_6) (Zn.v a0_0 a0_1 a0_2 a0_3 a0_4 a0_5 a0_6) := lim_is (fun k_ => Zn.mono a0_0 a0_1 a0_2 a0_3 a0_4 a0_5 a0_6 k_)
theorem Zn.jv0_eq (x24 : Bool) (x520000 : Int) (x520001 : Int) (x520002 : Int) (x520003 : Int) (x520004 : ByteArray) (x520005 : ByteArray) (x520006 : ByteArray) : Zn.jv0 x24 x520000 x520001 x520002 x520003 x520004 x520005 x520006 = (if x24 = true then (some false) else (if x520000 = 1 then (Zn.jv1 x520000 (x520000 == 1) x520000 x520001 x520002 x520003 x520004 x520005 x520006) else (if x520000 = 2 then (Zn.jv1 x520000 (x520000 == 2) x520000 x520001 x520002 x520003 x520004 x520005 x520006) else (Zn.jv1 x520000 (x520000 == 3) x520000 x520001 x520002 x520003 x520004 x520005 x520006))) : Option (Bool)) := by
 refine LimIs.eq (Zn.jv0_lim x24 x520000 x520001 x520002 x520003 x520004 x520005 x520006) ?_
 refine LimIs.step (fun k_ => (Zn.mono_l k_).1 x24 x520000 x520001 x520002 x520003 x520004 x520005 x520006) ?_
 simp only [Zn.j0]
 repeat' (with_reducible first | exact Zn.jv1_lim _ _ _ _ _ _ _ _ _ | exact LimIs.const _ | refine LimIs.ite ?_ ?_ | refine LimIs.bind ?_ (fun _ => ?_))
theorem Zn.jv1_eq (x26 : Int) (x27 : Bool) (x520000 : Int) (x520001 : Int) (x520002 : Int) (x520003 : Int) (x520004 : ByteArray) (x520005 : ByteArray) (x520006 : ByteArray) : Zn.jv1 x26 x27 x520000 x520001 x520002 x520003 x520004 x520005 x520006 = (if x27 = true then ((ZB.v x520002 1 8).bind fun t522 => (if t522 = true then ((Yv.v x520004).bind fun t523 => (if t523 = true then (some ((x520005.toList != ([] : List UInt8)) == (x520000 == 1))) else (some false))) else (some false))) else (if x26 = 4 then (if x520002 = 0 then (some (x520004.toList == ([] : List UInt8))) else (some false)) else (if x26 = 5 then (if x520002 = 0 then (some (x520004.toList == ([] : List UInt8))) else (some false)) else (some false))) : Option (Bool)) := by
 refine LimIs.eq (Zn.jv1_lim x26 x27 x520000 x520001 x520002 x520003 x520004 x520005 x520006) ?_
 refine LimIs.step (fun k_ => (Zn.mono_l k_).2 x26 x27 x520000 x520001 x520002 x520003 x520004 x520005 x520006) ?_
 simp only [Zn.j1]
 repeat' (with_reducible first | exact Yv.v_lim _ | exact ZB.v_lim _ _ _ | exact LimIs.const _ | refine LimIs.ite ?_ ?_ | refine LimIs.bind ?_ (fun _ => ?_))
theorem Zn.v_eq (a0_0 : Int) (a0_1 : Int) (a0_2 : Int) (a0_3 : Int) (a0_4 : ByteArray) (a0_5 : ByteArray) (a0_6 : ByteArray) : Zn.v a0_0 a0_1 a0_2 a0_3 a0_4 a0_5 a0_6 = ((ZB.v a0_1 0 20).bind fun t520 => (if t520 = true then ((ZB.v a0_3 0 6).bind fun t521 => (if t521 = true then (if (a0_6.size : Int) = 8 then (Zn.jv0 (decide ((a0_5.size : Int) > 20000)) a0_0 a0_1 a0_2 a0_3 a0_4 a0_5 a0_6) else (Zn.jv0 true a0_0 a0_1 a0_2 a0_3 a0_4 a0_5 a0_6)) else (Zn.jv0 true a0_0 a0_1 a0_2 a0_3 a0_4 a0_5 a0_6))) else (Zn.jv0 true a0_0 a0_1 a0_2 a0_3 a0_4 a0_5 a0_6)) : Option (Bool)) := by
 refine LimIs.eq (Zn.v_lim a0_0 a0_1 a0_2 a0_3 a0_4 a0_5 a0_6) ?_
 simp only [Zn.f]
 repeat' (with_reducible first | exact Zn.jv0_lim _ _ _ _ _ _ _ _ | exact ZB.v_lim _ _ _ | exact LimIs.const _ | refine LimIs.ite ?_ ?_ | refine LimIs.bind ?_ (fun _ => ?_))
def ZK.f (k : Nat) (a0_0 : Int) (a0_1 : Int) (a0_2 : Int) (a0_3 : Int) (a0_4 : ByteArray) (a0_5 : ByteArray) (a0_6 : ByteArray) : Option (ByteArray) := (Zh.f k a0_0 1).bind fun t525 => ((Zh.f k a0_1 1).bind fun t526 => (if t525.size + t526.size ≤ 9223372036854775807 then ((Zh.f k a0_2 1).bind fun t527 => (if (t525 ++ t526).size + t527.size ≤ 9223372036854775807 then ((Zh.f k a0_3 1).bind fun t528 => (if ((t525 ++ t526) ++ t527).size + t528.size ≤ 9223372036854775807 then ((Zh.f k (a0_4.size : Int) 1).bind fun t529 => (if (((t525 ++ t526) ++ t527) ++ t528).size + t529.size ≤ 9223372036854775807 then (if ((((t525 ++ t526) ++ t527) ++ t528) ++ t529).size + a0_4.size ≤ 9223372036854775807 then ((Zh.f k (a0_5.size : Int) 2).bind fun t530 => (if (((((t525 ++ t526) ++ t527) ++ t528) ++ t529) ++ a0_4).size + t530.size ≤ 9223372036854775807 then (if ((((((t525 ++ t526) ++ t527) ++ t528) ++ t529) ++ a0_4) ++ t530).size + a0_5.size ≤ 9223372036854775807 then (some (((((((t525 ++ t526) ++ t527) ++ t528) ++ t529) ++ a0_4) ++ t530) ++ a0_5)) else (none)) else (none))) else (none)) else (none))) else (none))) else (none))) else (none)))
theorem ZK.mono : ∀ a0 a1 a2 a3 a4 a5 a6 k,LeO (ZK.f k a0 a1 a2 a3 a4 a5 a6) (ZK.f (k + 1) a0 a1 a2 a3 a4 a5 a6) := by
 intro a0 a1 a2 a3 a4 a5 a6 k
 unfold ZK.f
 repeat' (with_reducible first | exact Zh.mono _ _ _ | exact LeO.refl _ | exact LeO.none _ | refine LeO.ite ?_ ?_ | refine LeO.bind ?_ (fun _ => ?_))
noncomputable def ZK.v (a0_0 : Int) (a0_1 : Int) (a0_2 : Int) (a0_3 : Int) (a0_4 : ByteArray) (a0_5 : ByteArray) (a0_6 : ByteArray) : Option (ByteArray) := lim (fun k_ => ZK.f k_ a0_0 a0_1 a0_2 a0_3 a0_4 a0_5 a0_6)
theorem ZK.v_lim (a0_0 : Int) (a0_1 : Int) (a0_2 : Int) (a0_3 : Int) (a0_4 : ByteArray) (a0_5 : ByteArray) (a0_6 : ByteArray) : LimIs (fun k_ => ZK.f k_ a0_0 a0_1 a0_2 a0_3 a0_4 a0_5 a0_6) (ZK.v a0_0 a0_1 a0_2 a0_3 a0_4 a0_5 a0_6) := lim_is (fun k_ => ZK.mono a0_0 a0_1 a0_2 a0_3 a0_4 a0_5 a0_6 k_)
theorem ZK.v_eq (a0_0 : Int) (a0_1 : Int) (a0_2 : Int) (a0_3 : Int) (a0_4 : ByteArray) (a0_5 : ByteArray) (a0_6 : ByteArray) : ZK.v a0_0 a0_1 a0_2 a0_3 a0_4 a0_5 a0_6 = ((Zh.v a0_0 1).bind fun t525 => ((Zh.v a0_1 1).bind fun t526 => (if t525.size + t526.size ≤ 9223372036854775807 then ((Zh.v a0_2 1).bind fun t527 => (if (t525 ++ t526).size + t527.size ≤ 9223372036854775807 then ((Zh.v a0_3 1).bind fun t528 => (if ((t525 ++ t526) ++ t527).size + t528.size ≤ 9223372036854775807 then ((Zh.v (a0_4.size : Int) 1).bind fun t529 => (if (((t525 ++ t526) ++ t527) ++ t528).size + t529.size ≤ 9223372036854775807 then (if ((((t525 ++ t526) ++ t527) ++ t528) ++ t529).size + a0_4.size ≤ 9223372036854775807 then ((Zh.v (a0_5.size : Int) 2).bind fun t530 => (if (((((t525 ++ t526) ++ t527) ++ t528) ++ t529) ++ a0_4).size + t530.size ≤ 9223372036854775807 then (if ((((((t525 ++ t526) ++ t527) ++ t528) ++ t529) ++ a0_4) ++ t530).size + a0_5.size ≤ 9223372036854775807 then (some (((((((t525 ++ t526) ++ t527) ++ t528) ++ t529) ++ a0_4) ++ t530) ++ a0_5)) else (none)) else (none))) else (none)) else (none))) else (none))) else (none))) else (none))) : Option (ByteArray)) := by
 refine LimIs.eq (ZK.v_lim a0_0 a0_1 a0_2 a0_3 a0_4 a0_5 a0_6) ?_
 simp only [ZK.f]
 repeat' (with_reducible first | exact Zh.v_lim _ _ | exact LimIs.const _ | refine LimIs.ite ?_ ?_ | refine LimIs.bind ?_ (fun _ => ?_))
def ZD.f (k : Nat) (a0 : Int) (a1_0 : Int) (a1_1 : Int) (a1_2 : Int) (a1_3 : Int) (a1_4 : ByteArray) (a1_5 : ByteArray) (a1_6 : ByteArray) : Option (Bool) := (ZX.f a0).bind fun t532 => (if t532 = true then ((Zn.f k a1_0 a1_1 a1_2 a1_3 a1_4 a1_5 a1_6).bind fun t533 => (if t533 = true then (if a1_3 < a0 then ((ZK.f k a1_0 a1_1 a1_2 a1_3 a1_4 a1_5 a1_6).bind fun t534 => ((Yg.f k a1_3 t534).bind fun t535 => (some (a1_6.toList == t535.toList)))) else (some false)) else (some false))) else (some false))
theorem ZD.mono : ∀ a0 a1 a2 a3 a4 a5 a6 a7 k,LeO (ZD.f k a0 a1 a2 a3 a4 a5 a6 a7) (ZD.f (k + 1) a0 a1 a2 a3 a4 a5 a6 a7) := by
 intro a0 a1 a2 a3 a4 a5 a6 a7 k
 unfold ZD.f
 repeat' (with_reducible first | exact Zn.mono _ _ _ _ _ _ _ _ | exact ZK.mono _ _ _ _ _ _ _ _ | exact Yg.mono _ _ _ | exact LeO.refl _ | exact LeO.none _ | refine LeO.ite ?_ ?_ | refine LeO.bind ?_ (fun _ => ?_))
noncomputable def ZD.v (a0 : Int) (a1_0 : Int) (a1_1 : Int) (a1_2 : Int) (a1_3 : Int) (a1_4 : ByteArray) (a1_5 : ByteArray) (a1_6 : ByteArray) : Option (Bool) := lim (fun k_ => ZD.f k_ a0 a1_0 a1_1 a1_2 a1_3 a1_4 a1_5 a1_6)
theorem ZD.v_lim (a0 : Int) (a1_0 : Int) (a1_1 : Int) (a1_2 : Int) (a1_3 : Int) (a1_4 : ByteArray) (a1_5 : ByteArray) (a1_6 : ByteArray) : LimIs (fun k_ => ZD.f k_ a0 a1_0 a1_1 a1_2 a1_3 a1_4 a1_5 a1_6) (ZD.v a0 a1_0 a1_1 a1_2 a1_3 a1_4 a1_5 a1_6) := lim_is (fun k_ => ZD.mono a0 a1_0 a1_1 a1_2 a1_3 a1_4 a1_5 a1_6 k_)
theorem ZD.v_eq (a0 : Int) (a1_0 : Int) (a1_1 : Int) (a1_2 : Int) (a1_3 : Int) (a1_4 : ByteArray) (a1_5 : ByteArray) (a1_6 : ByteArray) : ZD.v a0 a1_0 a1_1 a1_2 a1_3 a1_4 a1_5 a1_6 = ((ZX.v a0).bind fun t532 => (if t532 = true then ((Zn.v a1_0 a1_1 a1_2 a1_3 a1_4 a1_5 a1_6).bind fun t533 => (if t533 = true then (if a1_3 < a0 then ((ZK.v a1_0 a1_1 a1_2 a1_3 a1_4 a1_5 a1_6).bind fun t534 => ((Yg.v a1_3 t534).bind fun t535 => (some (a1_6.toList == t535.toList)))) else (some false)) else (some false))) else (some false)) : Option (Bool)) := by
 refine LimIs.eq (ZD.v_lim a0 a1_0 a1_1 a1_2 a1_3 a1_4 a1_5 a1_6) ?_
 simp only [ZD.f]
 repeat' (with_reducible first | exact Zn.v_lim _ _ _ _ _ _ _ | exact ZX.v_lim _ | exact ZK.v_lim _ _ _ _ _ _ _ | exact Yg.v_lim _ _ | exact LimIs.const _ | refine LimIs.ite ?_ ?_ | refine LimIs.bind ?_ (fun _ => ?_))
def Zp.l0 : Nat → Int → List (S40) → Int → Int → Int → List (S40) → Int → Int → Option (Bool)
 | 0,_,_,_,_,_,_,_,_ => none
 | k + 1,x0,x1,x2,x3,x4,x13,x14,x15 => if x15 < x14 then (if 0 ≤ x15 then (if x15 < (x13.length : Int) then (if ((rd_T40 x13 x15).f0) = x2 then (if ((rd_T40 x13 x15).f1) = x3 then (if ((rd_T40 x13 x15).f2) = x4 then ((ZD.f k x0 ((rd_T40 x13 x15).f0) ((rd_T40 x13 x15).f1) ((rd_T40 x13 x15).f2) ((rd_T40 x13 x15).f3) ((rd_T40 x13 x15).f4) ((rd_T40 x13 x15).f5) ((rd_T40 x13 x15).f6)).bind fun t538 => (if t538 = true then (if x15 > 0 then (if 0 ≤ (wrap64 (x15 - 1)) then (if (wrap64 (x15 - 1)) < (x1.length : Int) then (if ((rd_T40 x1 (wrap64 (x15 - 1))).f3) ≥ ((rd_T40 x13 x15).f3) then (some false) else (Zp.l0 k x0 x1 x2 x3 x4 x13 x14 (wrap64 (x15 + 1)))) else (none)) else (none)) else (Zp.l0 k x0 x1 x2 x3 x4 x13 x14 (wrap64 (x15 + 1)))) else (some false))) else (some false)) else (some false)) else (some false)) else (none)) else (none)) else (some true)
def Zp.f (k : Nat) (a0 : Int) (l1 : List (S40)) (a2 : Int) (a3 : Int) (a4 : Int) : Option (Bool) := Zp.l0 k a0 l1 a2 a3 a4 l1 (l1.length : Int) 0
theorem Zp.mono_l : ∀ k,(∀ y0 y1 y2 y3 y4 y5 y6 y7,LeO (Zp.l0 k y0 y1 y2 y3 y4 y5 y6 y7) (Zp.l0 (k + 1) y0 y1 y2 y3 y4 y5 y6 y7))
 | 0 => fun _ _ _ _ _ _ _ _ r h => by simp [Zp.l0] at h
 | k + 1 => by
  have ih0 := Zp.mono_l k
  ·intro y0 y1 y2 y3 y4 y5 y6 y7
   unfold Zp.l0
   repeat' (with_reducible first | exact ih0 _ _ _ _ _ _ _ _ | exact ZD.mono _ _ _ _ _ _ _ _ _ | exact LeO.refl _ | exact LeO.none _ | refine LeO.ite ?_ ?_ | refine LeO.bind ?_ (fun _ => ?_))
theorem Zp.mono : ∀ a0 a1 a2 a3 a4 k,LeO (Zp.f k a0 a1 a2 a3 a4) (Zp.f (k + 1) a0 a1 a2 a3 a4) := by
 intro a0 a1 a2 a3 a4 k
 have ih0 := Zp.mono_l k
 unfold Zp.f
 repeat' (with_reducible first | exact ih0 _ _ _ _ _ _ _ _ | exact ZD.mono _ _ _ _ _ _ _ _ _ | exact LeO.refl _ | exact LeO.none _ | refine LeO.ite ?_ ?_ | refine LeO.bind ?_ (fun _ => ?_))
noncomputable def Zp.lv0 (x0 : Int) (x1 : List (S40)) (x2 : Int) (x3 : Int) (x4 : Int) (x13 : List (S40)) (x14 : Int) (x15 : Int) : Option (Bool) := lim (fun k_ => Zp.l0 k_ x0 x1 x2 x3 x4 x13 x14 x15)
noncomputable def Zp.v (a0 : Int) (l1 : List (S40)) (a2 : Int) (a3 : Int) (a4 : Int) : Option (Bool) := lim (fun k_ => Zp.f k_ a0 l1 a2 a3 a4)
theorem Zp.lv0_lim (x0 : Int) (x1 : List (S40)) (x2 : Int) (x3 : Int) (x4 : Int) (x13 : List (S40)) (x14 : Int) (x15 : Int) : LimIs (fun k_ => Zp.l0 k_ x0 x1 x2 x3 x4 x13 x14 x15) (Zp.lv0 x0 x1 x2 x3 x4 x13 x14 x15) := lim_is (fun k_ => (Zp.mono_l k_) x0 x1 x2 x3 x4 x13 x14 x15)
theorem Zp.v_lim (a0 : Int) (l1 : List (S40)) (a2 : Int) (a3 : Int) (a4 : Int) : LimIs (fun k_ => Zp.f k_ a0 l1 a2 a3 a4) (Zp.v a0 l1 a2 a3 a4) := lim_is (fun k_ => Zp.mono a0 l1 a2 a3 a4 k_)
theorem Zp.lv0_eq (x0 : Int) (x1 : List (S40)) (x2 : Int) (x3 : Int) (x4 : Int) (x13 : List (S40)) (x14 : Int) (x15 : Int) : Zp.lv0 x0 x1 x2 x3 x4 x13 x14 x15 = (if x15 < x14 then (if 0 ≤ x15 then (if x15 < (x13.length : Int) then (if ((rd_T40 x13 x15).f0) = x2 then (if ((rd_T40 x13 x15).f1) = x3 then (if ((rd_T40 x13 x15).f2) = x4 then ((ZD.v x0 ((rd_T40 x13 x15).f0) ((rd_T40 x13 x15).f1) ((rd_T40 x13 x15).f2) ((rd_T40 x13 x15).f3) ((rd_T40 x13 x15).f4) ((rd_T40 x13 x15).f5) ((rd_T40 x13 x15).f6)).bind fun t538 => (if t538 = true then (if x15 > 0 then (if 0 ≤ (wrap64 (x15 - 1)) then (if (wrap64 (x15 - 1)) < (x1.length : Int) then (if ((rd_T40 x1 (wrap64 (x15 - 1))).f3) ≥ ((rd_T40 x13 x15).f3) then (some false) else (Zp.lv0 x0 x1 x2 x3 x4 x13 x14 (wrap64 (x15 + 1)))) else (none)) else (none)) else (Zp.lv0 x0 x1 x2 x3 x4 x13 x14 (wrap64 (x15 + 1)))) else (some false))) else (some false)) else (some false)) else (some false)) else (none)) else (none)) else (some true) : Option (Bool)) := by
 refine LimIs.eq (Zp.lv0_lim x0 x1 x2 x3 x4 x13 x14 x15) ?_
 refine LimIs.step (fun k_ => (Zp.mono_l k_) x0 x1 x2 x3 x4 x13 x14 x15) ?_
 simp only [Zp.l0]
 repeat' (with_reducible first | exact ZD.v_lim _ _ _ _ _ _ _ _ | exact Zp.lv0_lim _ _ _ _ _ _ _ _ | exact LimIs.const _ | refine LimIs.ite ?_ ?_ | refine LimIs.bind ?_ (fun _ => ?_))
theorem Zp.v_eq (a0 : Int) (l1 : List (S40)) (a2 : Int) (a3 : Int) (a4 : Int) : Zp.v a0 l1 a2 a3 a4 = (Zp.lv0 a0 l1 a2 a3 a4 l1 (l1.length : Int) 0 : Option (Bool)) := by
 refine LimIs.eq (Zp.v_lim a0 l1 a2 a3 a4) ?_
 simp only [Zp.f]
 repeat' (with_reducible first | exact Zp.lv0_lim _ _ _ _ _ _ _ _ | exact LimIs.const _ | refine LimIs.ite ?_ ?_ | refine LimIs.bind ?_ (fun _ => ?_))
def Yw.f (l0 : List S40) (a1 : ByteArray) : Option (Bool) := some (l0.any fun y => !(y.f4.toList == a1.toList))
def Yw.v (l0 : List S40) (a1 : ByteArray) : Option (Bool) := Yw.f l0 a1
theorem Yw.v_lim (l0 : List S40) (a1 : ByteArray) : LimIs (fun _ => Yw.f l0 a1) (Yw.v l0 a1) := LimIs.const _
theorem Yw.v_eq (l0 : List S40) (a1 : ByteArray) : Yw.v l0 a1 = (some (l0.any fun y => !(y.f4.toList == a1.toList)) : Option (Bool)) := rfl
def Zw.j0 : Nat → Int → Bool → ByteArray → List (S40) → Option (Bool)
 | 0,_,_,_,_ => none
 | k + 1,x0,x30,x542000,x542001 => if x30 = true then (some false) else ((ZO.f k x542000).bind fun t545 => (if 0 < (x542001.length : Int) then ((Zp.f k x0 x542001 2 ((rd_T40 x542001 0).f1) ((rd_T40 x542001 0).f2)).bind fun t549 => (if t549 = true then ((Yw.f x542001 t545).bind fun t550 => (some (!t550))) else (some false))) else (none)))
def Zw.f (k : Nat) (a0 : Int) (a1_0 : ByteArray) (l1_1 : List (S40)) : Option (Bool) := (ZX.f a0).bind fun t542 => (if t542 = true then (if (a1_0.size : Int) > 20000 then (Zw.j0 k a0 true a1_0 l1_1) else ((Yj.f k a0 a1_0).bind fun t543 => (if t543 = true then ((Yi.f a0).bind fun t544 => (Zw.j0 k a0 ((l1_1.length : Int) != t544) a1_0 l1_1)) else (Zw.j0 k a0 true a1_0 l1_1)))) else (Zw.j0 k a0 true a1_0 l1_1))
theorem Zw.mono_l : ∀ k,(∀ y0 y1 y2 y3,LeO (Zw.j0 k y0 y1 y2 y3) (Zw.j0 (k + 1) y0 y1 y2 y3))
 | 0 => fun _ _ _ _ r h => by simp [Zw.j0] at h
 | k + 1 => by
  have ih0 := Zw.mono_l k
  ·intro y0 y1 y2 y3
   unfold Zw.j0
   repeat' (with_reducible first | exact ih0 _ _ _ _ | exact Zp.mono _ _ _ _ _ _ | exact ZO.mono _ _ | exact Yj.mono _ _ _ | exact LeO.refl _ | exact LeO.none _ | refine LeO.ite ?_ ?_ | refine LeO.bind ?_ (fun _ => ?_))
theorem Zw.mono : ∀ a0 a1 a2 k,LeO (Zw.f k a0 a1 a2) (Zw.f (k + 1) a0 a1 a2) := by
 intro a0 a1 a2 k
 have ih0 := Zw.mono_l k
 unfold Zw.f
 repeat' (with_reducible first | exact ih0 _ _ _ _ | exact Zp.mono _ _ _ _ _ _ | exact ZO.mono _ _ | exact Yj.mono _ _ _ | exact LeO.refl _ | exact LeO.none _ | refine LeO.ite ?_ ?_ | refine LeO.bind ?_ (fun _ => ?_))
noncomputable def Zw.jv0 (x0 : Int) (x30 : Bool) (x542000 : ByteArray) (x542001 : List (S40)) : Option (Bool) := lim (fun k_ => Zw.j0 k_ x0 x30 x542000 x542001)
noncomputable def Zw.v (a0 : Int) (a1_0 : ByteArray) (l1_1 : List (S40)) : Option (Bool) := lim (fun k_ => Zw.f k_ a0 a1_0 l1_1)
theorem Zw.jv0_lim (x0 : Int) (x30 : Bool) (x542000 : ByteArray) (x542001 : List (S40)) : LimIs (fun k_ => Zw.j0 k_ x0 x30 x542000 x542001) (Zw.jv0 x0 x30 x542000 x542001) := lim_is (fun k_ => (Zw.mono_l k_) x0 x30 x542000 x542001)
theorem Zw.v_lim (a0 : Int) (a1_0 : ByteArray) (l1_1 : List (S40)) : LimIs (fun k_ => Zw.f k_ a0 a1_0 l1_1) (Zw.v a0 a1_0 l1_1) := lim_is (fun k_ => Zw.mono a0 a1_0 l1_1 k_)
theorem Zw.jv0_eq (x0 : Int) (x30 : Bool) (x542000 : ByteArray) (x542001 : List (S40)) : Zw.jv0 x0 x30 x542000 x542001 = (if x30 = true then (some false) else ((ZO.v x542000).bind fun t545 => (if 0 < (x542001.length : Int) then ((Zp.v x0 x542001 2 ((rd_T40 x542001 0).f1) ((rd_T40 x542001 0).f2)).bind fun t549 => (if t549 = true then ((Yw.v x542001 t545).bind fun t550 => (some (!t550))) else (some false))) else (none))) : Option (Bool)) := by
 refine LimIs.eq (Zw.jv0_lim x0 x30 x542000 x542001) ?_
 refine LimIs.step (fun k_ => (Zw.mono_l k_) x0 x30 x542000 x542001) ?_
 simp only [Zw.j0]
 repeat' (with_reducible first | exact Yw.v_lim _ _ | exact Zp.v_lim _ _ _ _ _ | exact ZO.v_lim _ | exact LimIs.const _ | refine LimIs.ite ?_ ?_ | refine LimIs.bind ?_ (fun _ => ?_))
theorem Zw.v_eq (a0 : Int) (a1_0 : ByteArray) (l1_1 : List (S40)) : Zw.v a0 a1_0 l1_1 = ((ZX.v a0).bind fun t542 => (if t542 = true then (if (a1_0.size : Int) > 20000 then (Zw.jv0 a0 true a1_0 l1_1) else ((Yj.v a0 a1_0).bind fun t543 => (if t543 = true then ((Yi.v a0).bind fun t544 => (Zw.jv0 a0 ((l1_1.length : Int) != t544) a1_0 l1_1)) else (Zw.jv0 a0 true a1_0 l1_1)))) else (Zw.jv0 a0 true a1_0 l1_1)) : Option (Bool)) := by
 refine LimIs.eq (Zw.v_lim a0 a1_0 l1_1) ?_
 simp only [Zw.f]
 repeat' (with_reducible first | exact Zw.jv0_lim _ _ _ _ | exact ZX.v_lim _ | exact Yj.v_lim _ _ | exact Yi.v_lim _ | exact LimIs.const _ | refine LimIs.ite ?_ ?_ | refine LimIs.bind ?_ (fun _ => ?_))
def Yt.f (a0_0 : Int) (a0_1 : Int) (a0_2 : Int) (a0_3 : Int) (a0_4 : ByteArray) (a0_5 : ByteArray) (a0_6 : ByteArray) (a1_0 : Int) (a1_1 : Int) (a1_2 : Int) (a1_3 : Int) (a1_4 : ByteArray) (a1_5 : ByteArray) (a1_6 : ByteArray) : Option (Bool) := if a0_0 = a1_0 then (if a0_1 = a1_1 then (if a0_2 = a1_2 then (if a0_3 = a1_3 then (if a0_4.toList = a1_4.toList then (if a0_5.toList = a1_5.toList then (if a0_6.toList = a1_6.toList then (some true) else (some false)) else (some false)) else (some false)) else (some false)) else (some false)) else (some false)) else (some false)
def Yt.v (a0_0 : Int) (a0_1 : Int) (a0_2 : Int) (a0_3 : Int) (a0_4 : ByteArray) (a0_5 : ByteArray) (a0_6 : ByteArray) (a1_0 : Int) (a1_1 : Int) (a1_2 : Int) (a1_3 : Int) (a1_4 : ByteArray) (a1_5 : ByteArray) (a1_6 : ByteArray) : Option (Bool) := Yt.f a0_0 a0_1 a0_2 a0_3 a0_4 a0_5 a0_6 a1_0 a1_1 a1_2 a1_3 a1_4 a1_5 a1_6
theorem Yt.v_lim (a0_0 : Int) (a0_1 : Int) (a0_2 : Int) (a0_3 : Int) (a0_4 : ByteArray) (a0_5 : ByteArray) (a0_6 : ByteArray) (a1_0 : Int) (a1_1 : Int) (a1_2 : Int) (a1_3 : Int) (a1_4 : ByteArray) (a1_5 : ByteArray) (a1_6 : ByteArray) : LimIs (fun _ => Yt.f a0_0 a0_1 a0_2 a0_3 a0_4 a0_5 a0_6 a1_0 a1_1 a1_2 a1_3 a1_4 a1_5 a1_6) (Yt.v a0_0 a0_1 a0_2 a0_3 a0_4 a0_5 a0_6 a1_0 a1_1 a1_2 a1_3 a1_4 a1_5 a1_6) := LimIs.const _
theorem Yt.v_eq (a0_0 : Int) (a0_1 : Int) (a0_2 : Int) (a0_3 : Int) (a0_4 : ByteArray) (a0_5 : ByteArray) (a0_6 : ByteArray) (a1_0 : Int) (a1_1 : Int) (a1_2 : Int) (a1_3 : Int) (a1_4 : ByteArray) (a1_5 : ByteArray) (a1_6 : ByteArray) : Yt.v a0_0 a0_1 a0_2 a0_3 a0_4 a0_5 a0_6 a1_0 a1_1 a1_2 a1_3 a1_4 a1_5 a1_6 = (if a0_0 = a1_0 then (if a0_1 = a1_1 then (if a0_2 = a1_2 then (if a0_3 = a1_3 then (if a0_4.toList = a1_4.toList then (if a0_5.toList = a1_5.toList then (if a0_6.toList = a1_6.toList then (some true) else (some false)) else (some false)) else (some false)) else (some false)) else (some false)) else (some false)) else (some false) : Option (Bool)) := rfl
def Zr.l0 : Nat → List (S40) → List (S40) → Int → Option (Bool)
 | 0,_,_,_ => none
 | k + 1,x0,x1,x5 => if x5 < (x0.length : Int) then (if 0 ≤ x5 then (if x5 < (x1.length : Int) then ((Yt.f ((rd_T40 x0 x5).f0) ((rd_T40 x0 x5).f1) ((rd_T40 x0 x5).f2) ((rd_T40 x0 x5).f3) ((rd_T40 x0 x5).f4) ((rd_T40 x0 x5).f5) ((rd_T40 x0 x5).f6) ((rd_T40 x1 x5).f0) ((rd_T40 x1 x5).f1) ((rd_T40 x1 x5).f2) ((rd_T40 x1 x5).f3) ((rd_T40 x1 x5).f4) ((rd_T40 x1 x5).f5) ((rd_T40 x1 x5).f6)).bind fun t555 => (if t555 = true then (Zr.l0 k x0 x1 (wrap64 (x5 + 1))) else (some false))) else (none)) else (none)) else (some true)
def Zr.f (k : Nat) (l0 : List (S40)) (l1 : List (S40)) : Option (Bool) := if (l0.length : Int) = (l1.length : Int) then (Zr.l0 k l0 l1 0) else (some false)
theorem Zr.mono_l : ∀ k,(∀ y0 y1 y2,LeO (Zr.l0 k y0 y1 y2) (Zr.l0 (k + 1) y0 y1 y2))
 | 0 => fun _ _ _ r h => by simp [Zr.l0] at h
 | k + 1 => by
  have ih0 := Zr.mono_l k
  ·intro y0 y1 y2
   unfold Zr.l0
   repeat' (with_reducible first | exact ih0 _ _ _ | exact LeO.refl _ | exact LeO.none _ | refine LeO.ite ?_ ?_ | refine LeO.bind ?_ (fun _ => ?_))
theorem Zr.mono : ∀ a0 a1 k,LeO (Zr.f k a0 a1) (Zr.f (k + 1) a0 a1) := by
 intro a0 a1 k
 have ih0 := Zr.mono_l k
 unfold Zr.f
 repeat' (with_reducible first | exact ih0 _ _ _ | exact LeO.refl _ | exact LeO.none _ | refine LeO.ite ?_ ?_ | refine LeO.bind ?_ (fun _ => ?_))
noncomputable def Zr.lv0 (x0 : List (S40)) (x1 : List (S40)) (x5 : Int) : Option (Bool) := lim (fun k_ => Zr.l0 k_ x0 x1 x5)
noncomputable def Zr.v (l0 : List (S40)) (l1 : List (S40)) : Option (Bool) := lim (fun k_ => Zr.f k_ l0 l1)
theorem Zr.lv0_lim (x0 : List (S40)) (x1 : List (S40)) (x5 : Int) : LimIs (fun k_ => Zr.l0 k_ x0 x1 x5) (Zr.lv0 x0 x1 x5) := lim_is (fun k_ => (Zr.mono_l k_) x0 x1 x5)
theorem Zr.v_lim (l0 : List (S40)) (l1 : List (S40)) : LimIs (fun k_ => Zr.f k_ l0 l1) (Zr.v l0 l1) := lim_is (fun k_ => Zr.mono l0 l1 k_)
theorem Zr.lv0_eq (x0 : List (S40)) (x1 : List (S40)) (x5 : Int) : Zr.lv0 x0 x1 x5 = (if x5 < (x0.length : Int) then (if 0 ≤ x5 then (if x5 < (x1.length : Int) then ((Yt.v ((rd_T40 x0 x5).f0) ((rd_T40 x0 x5).f1) ((rd_T40 x0 x5).f2) ((rd_T40 x0 x5).f3) ((rd_T40 x0 x5).f4) ((rd_T40 x0 x5).f5) ((rd_T40 x0 x5).f6) ((rd_T40 x1 x5).f0) ((rd_T40 x1 x5).f1) ((rd_T40 x1 x5).f2) ((rd_T40 x1 x5).f3) ((rd_T40 x1 x5).f4) ((rd_T40 x1 x5).f5) ((rd_T40 x1 x5).f6)).bind fun t555 => (if t555 = true then (Zr.lv0 x0 x1 (wrap64 (x5 + 1))) else (some false))) else (none)) else (none)) else (some true) : Option (Bool)) := by
 refine LimIs.eq (Zr.lv0_lim x0 x1 x5) ?_
 refine LimIs.step (fun k_ => (Zr.mono_l k_) x0 x1 x5) ?_
 simp only [Zr.l0]
 repeat' (with_reducible first | exact Yt.v_lim _ _ _ _ _ _ _ _ _ _ _ _ _ _ | exact Zr.lv0_lim _ _ _ | exact LimIs.const _ | refine LimIs.ite ?_ ?_ | refine LimIs.bind ?_ (fun _ => ?_))
theorem Zr.v_eq (l0 : List (S40)) (l1 : List (S40)) : Zr.v l0 l1 = (if (l0.length : Int) = (l1.length : Int) then (Zr.lv0 l0 l1 0) else (some false) : Option (Bool)) := by
 refine LimIs.eq (Zr.v_lim l0 l1) ?_
 simp only [Zr.f]
 repeat' (with_reducible first | exact Zr.lv0_lim _ _ _ | exact LimIs.const _ | refine LimIs.ite ?_ ?_ | refine LimIs.bind ?_ (fun _ => ?_))
def Ym.f (k : Nat) (a0_0 : ByteArray) (l0_1 : List (S40)) (a1_0 : ByteArray) (l1_1 : List (S40)) : Option (Bool) := if a0_0.toList = a1_0.toList then ((Zr.f k l0_1 l1_1).bind fun t558 => (if t558 = true then (some true) else (some false))) else (some false)
theorem Ym.mono : ∀ a0 a1 a2 a3 k,LeO (Ym.f k a0 a1 a2 a3) (Ym.f (k + 1) a0 a1 a2 a3) := by
 intro a0 a1 a2 a3 k
 unfold Ym.f
 repeat' (with_reducible first | exact Zr.mono _ _ _ | exact LeO.refl _ | exact LeO.none _ | refine LeO.ite ?_ ?_ | refine LeO.bind ?_ (fun _ => ?_))
noncomputable def Ym.v (a0_0 : ByteArray) (l0_1 : List (S40)) (a1_0 : ByteArray) (l1_1 : List (S40)) : Option (Bool) := lim (fun k_ => Ym.f k_ a0_0 l0_1 a1_0 l1_1)
theorem Ym.v_lim (a0_0 : ByteArray) (l0_1 : List (S40)) (a1_0 : ByteArray) (l1_1 : List (S40)) : LimIs (fun k_ => Ym.f k_ a0_0 l0_1 a1_0 l1_1) (Ym.v a0_0 l0_1 a1_0 l1_1) := lim_is (fun k_ => Ym.mono a0_0 l0_1 a1_0 l1_1 k_)
theorem Ym.v_eq (a0_0 : ByteArray) (l0_1 : List (S40)) (a1_0 : ByteArray) (l1_1 : List (S40)) : Ym.v a0_0 l0_1 a1_0 l1_1 = (if a0_0.toList = a1_0.toList then ((Zr.v l0_1 l1_1).bind fun t558 => (if t558 = true then (some true) else (some false))) else (some false) : Option (Bool)) := by
 refine LimIs.eq (Ym.v_lim a0_0 l0_1 a1_0 l1_1) ?_
 simp only [Ym.f]
 repeat' (with_reducible first | exact Zr.v_lim _ _ | exact LimIs.const _ | refine LimIs.ite ?_ ?_ | refine LimIs.bind ?_ (fun _ => ?_))
def ZQ.f (k : Nat) (a0 : Int) (a1_0 : ByteArray) (l1_1 : List (S46)) : Option (Bool) := (Yf.f k a1_0 l1_1 1048576).bind fun t560 => (if t560 < 0 then (some true) else ((ZP.f k a1_0 l1_1).bind fun bt561 => ((Yh.f k a0 bt561.1 bt561.2).bind fun t565 => ((ZP.f k a1_0 l1_1).bind fun bt566 => ((Zw.f k a0 bt566.1 bt566.2).bind fun t571 => (if (t571 != t565) = true then (some false) else ((ZP.f k a1_0 l1_1).bind fun bt572 => ((Ym.f k bt566.1 bt566.2 bt572.1 bt572.2).bind fun t576 => (if t576 = true then (some true) else (some false))))))))))
theorem ZQ.mono : ∀ a0 a1 a2 k,LeO (ZQ.f k a0 a1 a2) (ZQ.f (k + 1) a0 a1 a2) := by
 intro a0 a1 a2 k
 unfold ZQ.f
 repeat' (with_reducible first | exact Zw.mono _ _ _ _ | exact Ym.mono _ _ _ _ _ | exact Yf.mono _ _ _ _ | exact ZP.mono _ _ _ | exact Yh.mono _ _ _ _ | exact LeO.refl _ | exact LeO.none _ | refine LeO.ite ?_ ?_ | refine LeO.bind ?_ (fun _ => ?_))
noncomputable def ZQ.v (a0 : Int) (a1_0 : ByteArray) (l1_1 : List (S46)) : Option (Bool) := lim (fun k_ => ZQ.f k_ a0 a1_0 l1_1)
theorem ZQ.v_lim (a0 : Int) (a1_0 : ByteArray) (l1_1 : List (S46)) : LimIs (fun k_ => ZQ.f k_ a0 a1_0 l1_1) (ZQ.v a0 a1_0 l1_1) := lim_is (fun k_ => ZQ.mono a0 a1_0 l1_1 k_)
theorem ZQ.v_eq (a0 : Int) (a1_0 : ByteArray) (l1_1 : List (S46)) : ZQ.v a0 a1_0 l1_1 = ((Yf.v a1_0 l1_1 1048576).bind fun t560 => (if t560 < 0 then (some true) else ((ZP.v a1_0 l1_1).bind fun bt561 => ((Yh.v a0 bt561.1 bt561.2).bind fun t565 => ((ZP.v a1_0 l1_1).bind fun bt566 => ((Zw.v a0 bt566.1 bt566.2).bind fun t571 => (if (t571 != t565) = true then (some false) else ((ZP.v a1_0 l1_1).bind fun bt572 => ((Ym.v bt566.1 bt566.2 bt572.1 bt572.2).bind fun t576 => (if t576 = true then (some true) else (some false)))))))))) : Option (Bool)) := by
 refine LimIs.eq (ZQ.v_lim a0 a1_0 l1_1) ?_
 simp only [ZQ.f]
 repeat' (with_reducible first | exact Zw.v_lim _ _ _ | exact Ym.v_lim _ _ _ _ | exact Yf.v_lim _ _ _ | exact ZP.v_lim _ _ | exact Yh.v_lim _ _ _ | exact LimIs.const _ | refine LimIs.ite ?_ ?_ | refine LimIs.bind ?_ (fun _ => ?_))
end Go.Proofs.YtbhegbhdenngbaaGreatDoor.A
end

section
namespace Go.Proofs.YtbhegbhdenngbaaGreatDoorW.PrintMore
open Go.RowKit Go.Proofs.YtbhegbhdenngbaaGreatDoorW.PrintWords Go.Proofs.YtbhegbhdenngbaaGreatDoorW.PrintLast
section
variable {P : Program} {md : Region.Mode} {ops : Array Oper} {Q : Exit → Act → World → Prop} {S : World → Prop} {ds : List Nat}
theorem pu_ {T : Bool × List (List Nat × List Nat)} (i N : Nat) {oi : Oper} {v : Value} {fuel : Nat} {l : Array Bool} {a : Act} {w : World} {l' : Array Bool} (HT : Aside0 (rtab md ops = T)) {a' : Act}
  (h : wpAnyLast P md ops Q S ds fuel l' a' w) (hl : l.setIfInBounds i true = l' := by simp only [List.setIfInBounds_toArray,List.set_cons_zero,List.set_cons_succ];rfl) (hi : ops[i]? = some oi := by rfl) (hN : oi.dst = some N := by rfl) (hc : anyT T l.toList l'.toList i = true := by kernel_rfl)
  (hQ : ∀ c a w,Q (.panic c) (a.put oi.dst v) w → Q (.panic c) a w := by exact fun _ _ _ h => h)
  (hy : Yields P ops oi v a := by refine Or.inl ⟨by rfl,?_⟩;intro w';go_simp;with_reducible rfl)
  (ha : a.put (some N) v = a' := by simp only [Act.put,List.setIfInBounds_toArray,List.set_cons_zero,List.set_cons_succ,i64_w,i32_w];rfl) : wpAnyLast P md ops Q S ds (fuel + 1) l a w := pure_ l' hi hN (any_of HT.out hc) hQ hy ha h
theorem px_ {T : Bool × List (List Nat × List Nat)} (i N : Nat) {oi : Oper} {fuel : Nat} {l : Array Bool} {a : Act} {w : World} {l' : Array Bool} (HT : Aside0 (rtab md ops = T)) {a' : Act}
  (h : wpAnyLast P md ops Q S ds fuel l' a' w) (hl : l.setIfInBounds i true = l' := by simp only [List.setIfInBounds_toArray,List.set_cons_zero,List.set_cons_succ];rfl) (hi : ops[i]? = some oi := by rfl) (hN : oi.dst = some N := by rfl) (hc : anyT T l.toList l'.toList i = true := by kernel_rfl)
  (hQ : ∀ c a w,Q (.panic c) (a.put oi.dst undef) w → Q (.panic c) a w := by exact fun _ _ _ h => h)
  (hy : Yields P ops oi undef a := by exact Or.inr ⟨by rfl,rfl⟩)
  (ha : a.put (some N) undef = a' := by simp only [Act.put,List.setIfInBounds_toArray,List.set_cons_zero,List.set_cons_succ,i64_w,i32_w];rfl) : wpAnyLast P md ops Q S ds (fuel + 1) l a w := pure_ l' hi hN (any_of HT.out hc) hQ hy ha h
theorem tk_ {T : Bool × List (List Nat × List Nat)} {B : List Nat} (i N : Nat) {oi : Oper} {v : Value} {fuel : Nat} {l : Array Bool} {a : Act} {w : World} {l' : Array Bool} (HT : Aside0 (rtab md ops = T)) (HW : Aside0 (waitsOk T.2 B = true)) (hS : S w) {a' : Act}
  (h : wpAnyLast P md ops Q S ds fuel l' a' w) (hl : l.setIfInBounds i true = l' := by simp only [List.setIfInBounds_toArray,List.set_cons_zero,List.set_cons_succ];rfl) (hi : ops[i]? = some oi := by rfl) (hN : oi.dst = some N := by rfl) (hc : takeW T B ds l.toList l'.toList i = true := by kernel_rfl)
  (hQ : ∀ c a w,Q (.panic c) (a.put oi.dst v) w → Q (.panic c) a w := by exact fun _ _ _ h => h)
  (hy : YieldsIf P ops S oi v a := by refine Or.inl ⟨by rfl,?_⟩;intro w' hS_;repeat (obtain ⟨s_,hS_⟩ := hS_);go_simp;with_reducible rfl)
  (ha : a.put (some N) v = a' := by simp only [Act.put,List.setIfInBounds_toArray,List.set_cons_zero,List.set_cons_succ,i64_w,i32_w];rfl) : wpAnyLast P md ops Q S ds (fuel + 1) l a w := take_ l' hi hN (take_ofW HT.out HW.out hc) hQ hy hS ha h
theorem nm_ {fuel : Nat} {l : Array Bool} {a a' : Act} {w : World} (h : wpAnyLast P md ops Q S ds fuel l a' w) (ha : a = a' := by (show Act.put _ (some _) _ = _);simp only [Act.put,List.setIfInBounds_toArray,List.set_cons_zero,List.set_cons_succ,i64_w,i32_w];rfl) : wpAnyLast P md ops Q S ds fuel l a w := norm_ ha h
end
end Go.Proofs.YtbhegbhdenngbaaGreatDoorW.PrintMore
end

section
namespace Go.Proofs.YtbhegbhdenngbaaGreatDoorW.PrintWords
open Go.RowKit
theorem add0 (g j : Nat) : (⟨g,0,none⟩ : Addr).add j = ⟨g,j,none⟩ := by rw [add_plain];first | done | rw [Nat.zero_add]
structure Bm (W : World) (g cap : Nat) (l : List Int) : Prop where
 cell : ∀ j,j < l.length → W.cell? ⟨g,j,none⟩ = some (.int .u8 (l.getD j 0))
 there : ∀ j,j < cap → (W.cell? ⟨g,j,none⟩).isSome = true
 free : ∀ j,j < cap → W.frozen? ⟨g,j,none⟩ = false
 room : l.length ≤ cap
theorem Bm.at {W W' : World} {g cap : Nat} {l : List Int} (h : Bm W g cap l) (e : W'.heap[g]? = W.heap[g]?) : Bm W' g cap l :=
 ⟨fun j hj => (World.cell?_of_block (a := ⟨g,j,none⟩) e).trans (h.cell j hj),fun j hj => by rw [World.cell?_of_block (a := ⟨g,j,none⟩) e];exact h.there j hj,fun j hj => (World.frozen?_of_block (a := ⟨g,j,none⟩) e).trans (h.free j hj),h.room⟩
theorem Bm.conv (W : World) (e : Nat) (s : ByteArray) : Bm (Lib.bytesWorld W e s) W.heap.size (grownCap W s.size 0 e) (bytesOf s) := by
 have hc : s.size ≤ grownCap W s.size 0 e := grownCap_ge _ _ _ _
 have hsz : (Lib.bytesCells W e s).size = grownCap W s.size 0 e := by simp [Lib.bytesCells];omega
 refine ⟨fun j hj => ?_,fun j hj => ?_,fun j hj => ?_,by rw [bytesOf_length];exact hc⟩
 ·rw [bytesOf_length] at hj
  rw [Lib.bytesWorld_cell W e s j hj]
  simp [bytesOf,List.getD,hj]
 ·unfold World.cell?
  rw [Lib.bytesWorld_at_new]
  simp [hsz,hj]
 ·unfold World.frozen?
  rw [Lib.bytesWorld_at_new]
  simp [hsz]
  omega
section
variable {P : Program} {ops : Array Oper} {rest : List Oper} {o : Oper} {a : Act} {Q : Exit → Act → World → Prop}
theorem Bm.grown {W : World} {g cap : Nat} {l ys : List Int} {e : Nat} {n : Nat} {fill : List Value} (h : Bm W g cap l) (hn : n = l.length + ys.length) :
  ∀ w1,w1.heap[W.heap.size]? = some (.cells (((nums .u8 l) ++ (nums .u8 ys) ++ fill).toArray) e (0,0)) → Bm w1 W.heap.size (n + fill.length) (l ++ ys) := by
 intro w1 hw
 have hl : (nums .u8 l ++ nums .u8 ys ++ fill).length = n + fill.length := by simp [nums];omega
 refine ⟨fun j hj => ?_,fun j hj => ?_,fun j hj => ?_,by simp;omega⟩
 ·unfold World.cell?
  rw [hw]
  rw [List.length_append] at hj
  simp only [Option.isSome_none,Bool.false_eq_true,if_false,List.getElem?_toArray]
  rw [← nums_append,List.getElem?_append_left (by simp [nums];omega)]
  have hjl : j < (l ++ ys).length := by rw [List.length_append];exact hj
  simp only [nums,List.getElem?_map,List.getElem?_eq_getElem hjl,Option.map_some,List.getD,Option.getD_some]
 ·unfold World.cell?
  rw [hw]
  simp only [Option.isSome_none,Bool.false_eq_true,if_false,List.getElem?_toArray]
  rw [List.getElem?_eq_getElem (by omega)]
  rfl
 ·unfold World.frozen?
  rw [hw]
  simp
theorem Bm.set {W : World} {g cap : Nat} {l ys : List Int} (h : Bm W g cap l) (hr : l.length + ys.length ≤ cap) : Bm (W.setCells g l.length (nums .u8 ys)) g cap (l ++ ys) := by
 have hlen : (nums .u8 ys).length = ys.length := nums_length _ _
 refine ⟨fun j hj => ?_,fun j hj => ?_,fun j hj => ?_,by simp;omega⟩
 ·rw [List.length_append] at hj
  by_cases c : j < l.length
  ·rw [World.cell?_setCells_out g _ _ _ _ (fun _ _ => by dsimp only;omega),h.cell j c]
   simp [List.getD,List.getElem?_append_left c]
  ·have := World.cell?_setCells_in g (nums .u8 ys) l.length W (fun i hi => h.there _ (by omega)) (j - l.length) (by omega)
   rw [show l.length + (j - l.length) = j by omega] at this
   rw [this]
   simp [nums,List.getD,List.getElem?_append_right (show l.length ≤ j by omega),List.getElem?_eq_getElem (show j - l.length < ys.length by omega)]
 ·by_cases c : l.length ≤ j ∧ j < l.length + ys.length
  ·have := World.cell?_setCells_in g (nums .u8 ys) l.length W (fun i hi => h.there _ (by omega)) (j - l.length) (by omega)
   rw [show l.length + (j - l.length) = j by omega] at this
   rw [this]
   rfl
  ·rw [World.cell?_setCells_out g _ _ _ _ (fun _ _ => by dsimp only;omega)]
   exact h.there j hj
 ·rw [World.frozen?_setCells]
  exact h.free j hj
theorem setCells_old (b : Nat) : ∀ (vs : List Value) (o : Nat) (w : World),(w.setCells b o vs).os = w.os ∧ (w.setCells b o vs).tape = w.tape ∧ (w.setCells b o vs).output = w.output ∧ (w.setCells b o vs).heap.size = w.heap.size ∧ ∀ k,k ≠ b → (w.setCells b o vs).heap[k]? = w.heap[k]?
 | [],_,w => ⟨rfl,rfl,rfl,rfl,fun _ _ => rfl⟩
 | v :: r,o,w => by
  obtain ⟨h1,h2,h3,h4,h5⟩ := setCells_old b r (o + 1) (w.setCell ⟨b,o,none⟩ v)
  refine ⟨h1,h2,h3,?_,fun k hk => ?_⟩
  ·rw [World.setCells,h4];simp [World.setCell]
  ·rw [World.setCells,h5 k hk]
   simp [World.setCell,Array.getElem?_modify,Ne.symm hk]
theorem run_append_bm {W : World} {g cap : Nat} {l : List Int} (t u ty e : TypeId) (ht : P.underlying t = some (.slice e)) (hu : P.underlying u = some .string ∨ P.underlying u = some (.slice e)) (hinfo : (P.info? e).map (fun i => (i.zero,i.size,i.bytes)) = some (some (.int .u8 0),1,1))
  (x : Value) (ys : List Int) (hlen : ∀ W',(Builtin.lenOf x).run P W' = .ok ys.length W') (hf : ∀ W',W'.heap = W.heap → (Builtin.firstCells 1 ys.length x).run P W' = .ok (nums .u8 ys).toArray W')
  (HB : Bm W g cap l) (hl : l.length + ys.length ≤ 140737488355328) :
  ∃ g' cap' w1,(Builtin.append_ #[t,u] ty #[.slice (some ⟨g,0,none⟩) l.length cap,x]).run P W = .ok (.slice (some ⟨g',0,none⟩) (l.length + ys.length) cap') w1 ∧ Bm w1 g' cap' (l ++ ys) ∧ W.grownBy w1 (some g) ∧ (g' = g ∨ W.heap.size ≤ g') := by
 obtain ⟨i,hi,hzz⟩ := Option.map_eq_some_iff.1 hinfo
 simp only [Prod.mk.injEq] at hzz
 obtain ⟨hz,hs1,hb1⟩ := hzz
 have hnl : (nums .u8 ys).length = ys.length := nums_length _ _
 have hnl2 : (nums .u8 l).length = l.length := nums_length _ _
 by_cases hroom : l.length + ys.length ≤ cap
 ·have hst := run_storeCells_cells (P := P) g l.length (nums .u8 ys) 0 W (fun j hj => HB.there _ (by omega)) (fun j hj => HB.free _ (by omega)) (fun v hv => by
   obtain ⟨z,_,rfl⟩ := List.mem_map.1 hv;rfl)
  simp only [Nat.add_zero] at hst
  refine ⟨g,cap,W.setCells g l.length (nums .u8 ys),?_,HB.set hroom,?_,Or.inl rfl⟩
  ·rcases hu with hu | hu <;> simp [Builtin.append_,run_underlying ht,run_underlying hu,sizeOf,typeInfo,hi,hs1,hlen,hroom,hf W rfl,add0,hst]
  ·obtain ⟨h1,h2,h3,h4,h5⟩ := setCells_old g (nums .u8 ys) l.length W
   exact ⟨h1,h2,h3,by omega,fun k hk hn => h5 k (by intro e;exact hn (by rw [e]))⟩
 ·have h63' : ¬ (9223372036854775807 < ((l.length : Int) + (ys.length : Int))) := by omega
  have hfit : Builtin.nextslicecap (l.length + ys.length) cap * i.bytes ≤ 281474976710656 := by rw [hb1];exact growslice_fits (by omega) (by omega)
  have h48' : ¬ (281474976710656 < Builtin.nextslicecap (l.length + ys.length) cap * i.bytes) := by omega
  have hfo := run_firstCells_some (P := P) W.drew 1 l.length ⟨g,0,none⟩ l.length cap (nums .u8 l) (by omega) (fun j v hj => by
   rw [add0]
   have hjl : j < l.length := by
    have := (List.getElem?_eq_some_iff.1 hj).1
    omega
   have := HB.cell j hjl
   simp only [nums,List.getElem?_map,List.getElem?_eq_getElem hjl,Option.map_some,Option.some.injEq] at hj
   subst hj
   simpa [List.getD,hjl] using this)
  have hfs := hf W.drew rfl
  have hr : (Builtin.append_ #[t,u] ty #[.slice (some ⟨g,0,none⟩) l.length cap,x]).run P W = .ok (.slice (some ⟨W.heap.size,0,none⟩) (l.length + ys.length) (grownCap W (l.length + ys.length) cap e))
    (W.drew.alloc (.cells ((nums .u8 l).toArray ++ (nums .u8 ys).toArray ++ Builtin.zeroCells #[.int .u8 0] (grownCap W (l.length + ys.length) cap e - (l.length + ys.length))) e)) := by
   rw [← hs1] at hfo hfs
   have hzc : (Value.int .u8 0).cells = #[.int .u8 0] := rfl
   rcases hu with hu | hu <;> simp [Builtin.append_,run_underlying ht,run_underlying hu,sizeOf,typeInfo,zeroValue,hi,hz,hlen,hroom,h63',h48',Question.forced,hfs,hfo,newRow,grownCap,hzc]
   all_goals (congr 2;apply Array.ext';simp [List.append_assoc])
  have hge : l.length + ys.length ≤ grownCap W (l.length + ys.length) cap e := grownCap_ge _ _ _ _
  refine ⟨W.heap.size,_,_,hr,?_,?_,Or.inr (Nat.le_refl _)⟩
  ·have := HB.grown (e := e) (ys := ys) (n := l.length + ys.length) (fill := (Builtin.zeroCells #[.int .u8 0] (grownCap W (l.length + ys.length) cap e - (l.length + ys.length))).toList) rfl (W.drew.alloc (.cells ((nums .u8 l).toArray ++ (nums .u8 ys).toArray ++ Builtin.zeroCells #[.int .u8 0] (grownCap W (l.length + ys.length) cap e - (l.length + ys.length))) e)) (by
    simp [World.alloc,World.drew,-World.alloc_eq,-World.drew_eq])
   have hz2 : (Builtin.zeroCells #[.int .u8 0] (grownCap W (l.length + ys.length) cap e - (l.length + ys.length))).toList.length = grownCap W (l.length + ys.length) cap e - (l.length + ys.length) := by simp [Builtin.zeroCells]
   rw [hz2,show l.length + ys.length + (grownCap W (l.length + ys.length) cap e - (l.length + ys.length)) = grownCap W (l.length + ys.length) cap e by omega] at this
   exact this
  ·exact ⟨rfl,rfl,rfl,by simp [World.alloc,World.drew,-World.alloc_eq,-World.drew_eq],fun k hk hn => by
    have : W.heap.size ≠ k := by omega
    simp [World.alloc,World.drew,-World.alloc_eq,-World.drew_eq,Array.getElem?_push,Ne.symm this]⟩
end
end Go.Proofs.YtbhegbhdenngbaaGreatDoorW.PrintWords
end

section
namespace Go.Proofs.YtbhegbhdenngbaaGreatDoorW.PrintWords
open Go.RowKit
structure Hs (w W : World) (n g cap : Nat) (l : List Int) : Prop where
 row : Bm W g cap l
 mine : n ≤ g
 lt : g < W.heap.size
 below : Below n w W
theorem Hs.alloc {w W : World} {n g cap : Nat} {l : List Int} (h : Hs w W n g cap l) (o : Obj) : Hs w (W.alloc o) n g cap l := by
 have hs : (W.alloc o).heap.size = W.heap.size + 1 := by simp [World.alloc,-World.alloc_eq]
 have e : ∀ k,k < W.heap.size → (W.alloc o).heap[k]? = W.heap[k]? := fun k hk => by
  have : W.heap.size ≠ k := by omega
  simp [World.alloc,-World.alloc_eq,Array.getElem?_push,Ne.symm this]
 refine ⟨h.row.at (e _ h.lt),h.mine,by rw [hs];have := h.lt;omega,⟨h.below.os,h.below.tape,h.below.output,by rw [hs];have := h.below.size;omega,fun k hk => ?_⟩⟩
 rw [e k (by have := h.mine;have := h.lt;omega)]
 exact h.below.block k hk
theorem Hs.on {w W W' : World} {n g cap : Nat} {l : List Int} (h : Hs w W n g cap l) (b : Below W.heap.size W W') : Hs w W' n g cap l := by
 have := h.lt
 have := h.mine
 exact ⟨h.row.at (b.block g h.lt),h.mine,by have := b.size;omega,⟨b.os.trans h.below.os,b.tape.trans h.below.tape,b.output.trans h.below.output,Nat.le_trans h.below.size b.size,fun k hk => (b.block k (by omega)).trans (h.below.block k hk)⟩⟩
section
variable {P : Program} {ops : Array Oper} {rest : List Oper} {o : Oper} {a : Act} {Q : Exit → Act → World → Prop}
theorem conv_hs {w : World} (e : Nat) (hgd : o.guard = none) (src dst : TypeId) (x : Operand) (ho : o.op = .convert src dst x) (s : ByteArray) (hx : a.eval x = .string s)
  (hs : P.underlying src = some .string) (ht : P.underlying dst = some (.slice e)) (he : P.underlying e = some (.int .u8))
  (h : ∀ g cap w1,Hs w w1 w.heap.size g cap (bytesOf s) → wpList P ops Q rest (a.put o.dst (.slice (some ⟨g,0,none⟩) s.size cap)) w1) : wpList P ops Q (o :: rest) a w := by
 have hrun : (execOp a.eval o).run P w = .ok (.value (.slice (some ⟨w.heap.size,0,none⟩) s.size (grownCap w s.size 0 e))) (Lib.bytesWorld w e s) := by
  simp [execOp,ho,hx,Lib.run_convert_string_bytes w src dst e s hs ht he]
 exact Kd.event_run hgd hrun (h _ _ _ ⟨Bm.conv w e s,Nat.le_refl _,by rw [Lib.bytesWorld_size];omega,⟨rfl,rfl,rfl,by rw [Lib.bytesWorld_size];omega,fun i hi => Lib.bytesWorld_at_old w e s i (by omega)⟩⟩)
theorem Hs.after {w W w1 : World} {n g g' cap cap' : Nat} {l l' : List Int} (h : Hs w W n g cap l) (hb : Bm w1 g' cap' l') (hc : 0 < cap') (hg : W.grownBy w1 (some g)) (hat : g' = g ∨ W.heap.size ≤ g') : Hs w w1 n g' cap' l' := by
 have h1 := h.lt
 have h2 := h.mine
 refine ⟨hb,by rcases hat with rfl | h3 <;> omega,?_,⟨hg.os.trans h.below.os,hg.tape.trans h.below.tape,hg.output.trans h.below.output,Nat.le_trans h.below.size hg.size,fun k hk => ?_⟩⟩
 ·obtain ⟨v,hv⟩ := Option.isSome_iff_exists.1 (hb.there 0 hc)
  exact World.block_lt_of_cell? w1 _ hv
 ·rw [hg.block k (by omega) (by intro e;injection e with e;omega)]
  exact h.below.block k hk
theorem append1_hs {w W : World} {n g cap : Nat} {l : List Int} (t e : TypeId) (hgd : o.guard = none) (s x : Operand) (ho : o.op = .call { callee := .builtin .append,args := #[s,x],argTypes := #[t,t] })
  (ht : P.underlying t = some (.slice e)) (hinfo : (P.info? e).map (fun i => (i.zero,i.size,i.bytes)) = some (some (.int .u8 0),1,1)) (z : Int)
  (hs : a.eval s = .slice (some ⟨g,0,none⟩) l.length cap) (hx : a.eval x = .slice (some ⟨W.heap.size,0,none⟩) 1 1) (HB : Hs w W n g cap l) (hl : l.length + 1 ≤ 140737488355328)
  (h : ∀ g' cap' w1,Hs w w1 n g' cap' (l ++ [z]) → wpList P ops Q rest (a.put o.dst (.slice (some ⟨g',0,none⟩) (l ++ [z]).length cap')) w1) :
  wpList P ops Q (o :: rest) a (W.alloc (.cells #[.int .u8 z] e)) := by
 have H2 := HB.alloc (.cells #[.int .u8 z] e)
 obtain ⟨g',cap',w1,hr,hb,hg,hat⟩ := run_append_bm (P := P) (W := W.alloc (.cells #[.int .u8 z] e)) t t o.type e ht (Or.inr ht) hinfo (.slice (some ⟨W.heap.size,0,none⟩) 1 1) [z] (fun W' => by simp [Builtin.lenOf]) (fun W' hW => by
  have hc : W'.cell? ⟨W.heap.size,0,none⟩ = some (.int .u8 z) := by
   unfold World.cell?
   rw [hW]
   simp [World.alloc,-World.alloc_eq]
  exact run_firstCells_some (P := P) W' 1 1 ⟨W.heap.size,0,none⟩ 1 1 (nums .u8 [z]) (by simp [nums]) (fun j v hj => by
   cases j with
   | zero => rw [add0];rw [hc];simpa [nums] using hj
   | succ j => simp [nums] at hj)) H2.row (by simpa using hl)
 refine wpList_plain hgd fun K hK => ?_
 unfold Oper.wp execOp
 simp only [ho,resolve,invoke,builtin,Sem.run_bind,Sem.run_pure,Result.andThen_ok,List.map_toArray,List.map_cons,List.map_nil,hs,hx,hr]
 refine hK _ _ ?_
 have := h g' cap' w1 (H2.after hb (by have := hb.room;rw [List.length_append,List.length_singleton] at this;omega) hg hat)
 rwa [List.length_append] at this
theorem appendS_hs {w W : World} {n g cap : Nat} {l : List Int} (t u e : TypeId) (hgd : o.guard = none) (s x : Operand) (ho : o.op = .call { callee := .builtin .append,args := #[s,x],argTypes := #[t,u] })
  (ht : P.underlying t = some (.slice e)) (hu : P.underlying u = some .string) (hinfo : (P.info? e).map (fun i => (i.zero,i.size,i.bytes)) = some (some (.int .u8 0),1,1)) (y : ByteArray)
  (hs : a.eval s = .slice (some ⟨g,0,none⟩) l.length cap) (hx : a.eval x = .string y) (hy : 0 < y.size) (HB : Hs w W n g cap l) (hl : l.length + y.size ≤ 140737488355328)
  (h : ∀ g' cap' w1,Hs w w1 n g' cap' (l ++ bytesOf y) → wpList P ops Q rest (a.put o.dst (.slice (some ⟨g',0,none⟩) (l ++ bytesOf y).length cap')) w1) :
  wpList P ops Q (o :: rest) a W := by
 have hyl : (bytesOf y).length = y.size := bytesOf_length y
 obtain ⟨g',cap',w1,hr,hb,hg,hat⟩ := run_append_bm (P := P) (W := W) t u o.type e ht (Or.inl hu) hinfo (.string y) (bytesOf y) (fun W' => by simp [Builtin.lenOf,hyl]) (fun W' hW => by
  rw [hyl,Lib.run_firstCells_string (P := P) W' 1 y]
  congr 1
  simp [nums,bytesOf,Lib.strCells]) HB.row (by omega)
 refine wpList_plain hgd fun K hK => ?_
 unfold Oper.wp execOp
 simp only [ho,resolve,invoke,builtin,Sem.run_bind,Sem.run_pure,Result.andThen_ok,List.map_toArray,List.map_cons,List.map_nil,hs,hx,hr]
 refine hK _ _ ?_
 have := h g' cap' w1 (HB.after hb (by have := hb.room;rw [List.length_append] at this;omega) hg hat)
 rwa [List.length_append] at this
end
end Go.Proofs.YtbhegbhdenngbaaGreatDoorW.PrintWords
end

section
namespace Go.Proofs.YtbhegbhdenngbaaGreatDoorW.PrintWords
open Go.RowKit
section
variable {P : Program} {ops : Array Oper} {rest : List Oper} {o : Oper} {a : Act} {Q : Exit → Act → World → Prop}
theorem lit_at (w : World) (o : Obj) : (w.alloc o).heap[w.heap.size]? = some o := by simp [World.alloc,-World.alloc_eq]
theorem lit_old (w : World) (o : Obj) {k : Nat} (hk : k < w.heap.size) : (w.alloc o).heap[k]? = w.heap[k]? := by
 have : w.heap.size ≠ k := by omega
 simp [World.alloc,-World.alloc_eq,Array.getElem?_push,Ne.symm this]
theorem lit_size (w : World) (o : Obj) : (w.alloc o).heap.size = w.heap.size + 1 := by simp [World.alloc,-World.alloc_eq]
theorem lit_bm (w : World) (e : TypeId) (l : List Int) (p : Nat × Nat) (hp : l.length ≤ p.1) : Bm (w.alloc (.cells (nums .u8 l).toArray e p)) w.heap.size l.length l := by
 have hn : (nums .u8 l).length = l.length := nums_length _ _
 refine ⟨fun j hj => ?_,fun j hj => ?_,fun j hj => ?_,Nat.le_refl _⟩
 ·unfold World.cell?
  rw [lit_at]
  simp [nums,List.getD,hj]
 ·unfold World.cell?
  rw [lit_at]
  simp [nums,hj]
 ·unfold World.frozen?
  rw [lit_at]
  obtain ⟨p1,p2⟩ := p
  simp
  intro h
  omega
theorem conv_lit {w : World} (t e : TypeId) {C : Array Value} {n : Nat} (hgd : o.guard = none) (x : Operand) (ho : o.op = .convert t t x)
  (ht : P.underlying t = some (.slice e)) (he : P.underlying e = some (.int .u8)) (hx : a.eval x = .slice (some ⟨w.heap.size,0,none⟩) n n)
  (h : wpList P ops Q rest (a.put o.dst (.slice (some ⟨w.heap.size,0,none⟩) n n)) (w.alloc (.cells C e (C.size,C.size + 1)))) : wpList P ops Q (o :: rest) a (w.alloc (.cells C e)) := by
 have hrun : (execOp a.eval o).run P (w.alloc (.cells C e)) = .ok (.value (.slice (some ⟨w.heap.size,0,none⟩) n n)) (w.alloc (.cells C e (C.size,C.size + 1))) := by
  have h1 := Lib.run_convert_bytes_const (P := P) w t e C n n ht he
  simp only [execOp,ho,hx,Sem.run_bind,h1,Result.andThen_ok,Sem.run_pure]
 exact Kd.event_run hgd hrun h
theorem convlit_hs {w : World} (t e : TypeId) (l : List Int) {C : Array Value} {n : Nat} (hgd : o.guard = none) (x : Operand) (ho : o.op = .convert t t x)
  (ht : P.underlying t = some (.slice e)) (he : P.underlying e = some (.int .u8)) (hC : C = (nums .u8 l).toArray) (hn : n = l.length) (h0 : 0 < l.length) (hx : a.eval x = .slice (some ⟨w.heap.size,0,none⟩) n n)
  (h : ∀ g cap w1,Hs w w1 w.heap.size g cap l → wpList P ops Q rest (a.put o.dst (.slice (some ⟨g,0,none⟩) l.length cap)) w1) : wpList P ops Q (o :: rest) a (w.alloc (.cells C e)) := by
 subst hC hn
 refine conv_lit t e hgd x ho ht he hx (h _ _ _ ⟨lit_bm w e l _ (by simp [nums]),Nat.le_refl _,by rw [lit_size];omega,⟨rfl,rfl,rfl,by rw [lit_size];omega,fun k hk => lit_old w _ hk⟩⟩)
theorem bmC {W : World} {g cap : Nat} {l : List Int} (h : Bm W g cap l) (hl : l.length ≤ 140737488355328) : Kd.C (Kd.int .u8) W (some ⟨g,0,none⟩) l.length l :=
 Kd.C_of_reads (enc := Value.int .u8) (d := (0 : Int)) (h1 := fun _ => rfl) ⟨rfl,by omega,fun hn => ⟨⟨g,0,none⟩,rfl,fun j hj => by rw [add0];exact h.cell j hj⟩⟩
end
end Go.Proofs.YtbhegbhdenngbaaGreatDoorW.PrintWords
end

section
namespace Go.Proofs.YtbhegbhdenngbaaGreatDoor.A
open Go.RowKit Go.Proofs.YtbhegbhdenngbaaGreatDoorW.PrintWords Go.Proofs.YtbhegbhdenngbaaGreatDoorW.PrintLast Go.Proofs.YtbhegbhdenngbaaGreatDoorW.PrintMore
attribute [local go_sem] max2_int min2_int max_two min_two max_three min_three max_four min_four
def good46 (y : S46) : Prop := (Lit.int .i64 y.f0).wf = true ∧ (Lit.int .i64 y.f1).wf = true ∧ (Lit.int .i64 y.f2).wf = true ∧ (Lit.int .i64 y.f3).wf = true ∧ y.f4.size ≤ 9223372036854775807 ∧ y.f5.size ≤ 9223372036854775807 ∧ y.f6.size ≤ 9223372036854775807
def good24 (y : S24) : Prop := y.f0.size ≤ 9223372036854775807 ∧ (y.f1.length ≤ 9223372036854775807 ∧ ∀ y_ ∈ y.f1,good46 y_)
end Go.Proofs.YtbhegbhdenngbaaGreatDoor.A
end

section
namespace Go.Proofs.YtbhegbhdenngbaaGreatDoorW.PrintWords
open Go.RowKit
theorem wrap_id {x : Int} (h0 : -9223372036854775808 ≤ x) (h1 : x ≤ 9223372036854775807) : wrap64 x = x := by unfold wrap64;omega
def allB (p : Int → Bool) : Nat → Int → Bool
 | 0,_ => true
 | d + 1,i => p i && allB p d (i + 1)
def allI (p : Int → Bool) (i n : Int) : Bool := allB p (n - i).toNat i
theorem allI_step {p : Int → Bool} {i n : Int} (h : i < n) : allI p i n = (p i && allI p (i + 1) n) := by
 unfold allI
 obtain ⟨d,hd⟩ : ∃ d : Nat,(n - i).toNat = d + 1 := ⟨(n - i).toNat - 1,by omega⟩
 rw [hd,show (n - (i + 1)).toNat = d by omega]
 rfl
theorem allI_end {p : Int → Bool} {i n : Int} (h : n ≤ i) : allI p i n = true := by
 unfold allI
 rw [show (n - i).toNat = 0 by omega]
 rfl
theorem allI_iff (p : Int → Bool) (n : Int) : ∀ (d : Nat) (i : Int),(n - i).toNat = d → (allI p i n = true ↔ ∀ j,i ≤ j → j < n → p j = true)
 | 0,i,h => by
  rw [allI_end (by omega)]
  exact ⟨fun _ j h1 h2 => by omega,fun _ => rfl⟩
 | d + 1,i,h => by
  rw [allI_step (by omega),Bool.and_eq_true,allI_iff p n d (i + 1) (by omega)]
  refine ⟨fun ⟨h1,h2⟩ j h3 h4 => ?_,fun h1 => ⟨h1 i (by omega) (by omega),fun j h3 h4 => h1 j (by omega) h4⟩⟩
  by_cases e : j = i
  ·rw [e];exact h1
  ·exact h2 j (by omega) h4
theorem loop_all {L : Int → Option Bool} (p : Int → Bool) (n : Int) (hn : n ≤ 9223372036854775807) (hL : ∀ i,0 ≤ i → i < n → L i = if p i = true then L (wrap64 (i + 1)) else some false) (hE : ∀ i,0 ≤ i → n ≤ i → L i = some true) :
  ∀ (d : Nat) (i : Int),(n - i).toNat = d → 0 ≤ i → L i = some (allI p i n)
 | 0,i,h,h0 => by rw [hE i h0 (by omega),allI_end (by omega)]
 | d + 1,i,h,h0 => by
  rw [hL i h0 (by omega),allI_step (by omega),wrap_id (by omega) (by omega),loop_all p n hn hL hE d (i + 1) (by omega) (by omega)]
  cases p i <;> simp
def letterB (c : Int) : Bool := decide ((97 ≤ c ∧ c ≤ 122) ∨ (65 ≤ c ∧ c ≤ 90) ∨ c = 95)
def digitB (c : Int) : Bool := decide (48 ≤ c ∧ c ≤ 57)
def inB (n low high : Int) : Bool := decide (low ≤ n ∧ n ≤ high)
def nameB (s : ByteArray) : Bool := decide (1 ≤ s.size ∧ s.size ≤ 40) && (letterB (bt s 0) && allI (fun j => letterB (bt s j) || digitB (bt s j)) 1 s.size)
theorem ba_toList (a : ByteArray) : a.toList = a.data.toList := ByteArray.toList_eq a
theorem ba_inj {a b : ByteArray} : a.toList = b.toList ↔ a = b := by
 rw [ba_toList,ba_toList]
 refine ⟨fun h => ?_,fun h => by rw [h]⟩
 cases a;cases b
 simp only [ByteArray.mk.injEq]
 exact Array.toList_inj.1 h
theorem strOf_size (l : List Int) : (strOfNums l).size = l.length := by
 show (strOfNums l).data.size = _
 simp [strOfNums]
theorem copy_loop {α β : Type} (d : α) (g : α → β) (l : List α) (hn : l.length ≤ 9223372036854775806) (L : List β → Int → Option (List β))
  (hL : ∀ acc i,0 ≤ i → i < (l.length : Int) → acc.length = l.length → L acc i = L (acc.set i.toNat (g (l.getD i.toNat d))) (wrap64 (i + 1))) (hE : ∀ acc i,(l.length : Int) ≤ i → L acc i = some acc) :
  ∀ (n : Nat) (acc : List β) (i : Int),((l.length : Int) - i).toNat = n → 0 ≤ i → i ≤ l.length → acc.length = l.length → (∀ j : Nat,j < i.toNat → acc[j]? = (l.map g)[j]?) → L acc i = some (l.map g)
 | 0,acc,i,h,h0,h1,ha,hj => by
  rw [hE acc i (by omega)]
  congr 1
  apply List.ext_getElem?
  intro j
  by_cases hjl : j < l.length
  ·exact hj j (by omega)
  ·rw [List.getElem?_eq_none (by omega),List.getElem?_eq_none (by simp;omega)]
 | n + 1,acc,i,h,h0,h1,ha,hj => by
  have hlt : i < (l.length : Int) := by omega
  rw [hL acc i h0 hlt ha,wrap_id (by omega) (by omega)]
  refine copy_loop d g l hn L hL hE n _ (i + 1) (by omega) (by omega) (by omega) (by simp [ha]) (fun j hj2 => ?_)
  by_cases e : j = i.toNat
  ·subst e
   rw [List.getElem?_set_self (by omega),List.getElem?_map,List.getElem?_eq_getElem (by omega : i.toNat < l.length)]
   simp [List.getD,List.getElem?_eq_getElem (by omega : i.toNat < l.length)]
  ·rw [List.getElem?_set_ne (by omega)]
   exact hj j (by omega)
end Go.Proofs.YtbhegbhdenngbaaGreatDoorW.PrintWords
end

section
namespace Go.Proofs.YtbhegbhdenngbaaGreatDoor.A
open Go.RowKit Go.Proofs.YtbhegbhdenngbaaGreatDoorW.PrintWords
def numL (l : List Int) : Int := l.foldl (fun n c => n * 256 + c) 0
def numM (s : ByteArray) : Int := numL (bytesOf s)
theorem or_byte (n c : Int) (h0 : 0 ≤ n) (h1 : n < 4503599627370496) (h2 : 0 ≤ c) (h3 : c < 256) : Go.bits .or .i64 (wrap64 (n * 256)) (wrap64 c) = n * 256 + c := by
 rw [wrap_id (by omega) (by omega),wrap_id (by omega) (by omega)]
 exact Go.bits_join .i64 62 (by decide) (fun n h0 h1 => by rw [IntKind.wrap_i64];omega) 8 (n * 256) c (by omega) (by omega) (by omega) (by omega) (by omega) (by omega)
theorem bytesOf_rd (s : ByteArray) (i : Int) (h0 : 0 ≤ i) (h1 : i < s.size) : rd (bytesOf s) i = bt s i := by
 unfold rd bt
 rw [dif_pos (by omega)]
 unfold bytesOf
 rw [List.getD,List.getElem?_map,List.getElem?_eq_getElem (by rw [Array.length_toList];show _ < s.size;omega)]
 simp
 rfl
theorem bytesOf_range (s : ByteArray) : ∀ c ∈ bytesOf s,0 ≤ c ∧ c ≤ 255 := by
 intro c hc
 unfold bytesOf at hc
 obtain ⟨b,_,rfl⟩ := List.mem_map.1 hc
 have := b.toNat_lt
 omega
theorem foldl_range (l : List Int) : ∀ (n : Int),(∀ c ∈ l,0 ≤ c ∧ c ≤ 255) → 0 ≤ n → 0 ≤ l.foldl (fun n c => n * 256 + c) n ∧ l.foldl (fun n c => n * 256 + c) n < (n + 1) * 256 ^ l.length := by
 induction l with
 | nil => intro n _ hn;simp;omega
 | cons c l ih =>
  intro n h hn
  have h1 := h c (by simp)
  obtain ⟨h2,h3⟩ := ih (n * 256 + c) (fun x hx => h x (by simp [hx])) (by omega)
  refine ⟨h2,?_⟩
  simp only [List.foldl_cons,List.length_cons]
  refine Int.lt_of_lt_of_le h3 ?_
  rw [Int.pow_succ,Int.mul_comm (256 ^ l.length) 256,← Int.mul_assoc]
  exact Int.mul_le_mul_of_nonneg_right (by omega) (Int.pow_nonneg (by omega))
theorem at_zero (x : ByteArray) : x = x.extract 0 x.size := by
 apply ByteArray.ext
 rw [ByteArray.data_extract]
 show x.data = x.data.extract 0 x.data.size
 rw [Array.extract_size]
theorem numM_one (x : ByteArray) (p : Nat) (h : p < x.size) : numM (x.extract p (p + 1)) = bt x p := by
 unfold numM numL bytesOf
 rw [ByteArray.data_extract,Array.toList_extract]
 have h2 : (x.data.toList.extract p (p + 1)) = [x[p]] := by
  rw [List.extract_eq_take_drop,show p + 1 - p = 1 by omega,List.drop_eq_getElem_cons (by rw [Array.length_toList];exact h)]
  rfl
 rw [h2,bt,dif_pos (by omega)]
 simp
theorem extract_sub (x : ByteArray) (a b c d : Nat) (h : a + d ≤ b) : (x.extract a b).extract c d = x.extract (a + c) (a + d) := by
 apply ByteArray.ext
 simp only [ByteArray.data_extract,Array.extract_extract]
 congr 1;omega
def byteL (l : List Int) : Prop := ∀ y ∈ l,0 ≤ y ∧ y ≤ 255
theorem byteL_nil : byteL [] := fun y h => by cases h
theorem byteL_cons {a : Int} {l : List Int} (h0 : 0 ≤ a) (h1 : a ≤ 255) (h : byteL l) : byteL (a :: l) := by
 intro y hy
 rcases List.mem_cons.1 hy with rfl | hy
 ·exact ⟨h0,h1⟩
 ·exact h y hy
theorem byteL_append {a b : List Int} (ha : byteL a) (hb : byteL b) : byteL (a ++ b) := by
 intro y hy
 rcases List.mem_append.1 hy with hy | hy
 ·exact ha y hy
 ·exact hb y hy
theorem bytes_str (l : List Int) (h : byteL l) : bytesOf (strOfNums l) = l := by
 unfold bytesOf
 rw [strOfNums_data,List.map_map]
 conv => rhs;rw [← List.map_id l]
 apply List.map_congr_left
 intro y hy
 have := h y hy
 simp only [Function.comp,id]
 rw [UInt8.toNat_ofNat']
 omega
theorem str_bytes (s : ByteArray) : strOfNums (bytesOf s) = s := by
 apply ByteArray.ext
 apply Array.toList_inj.1
 rw [strOfNums_data]
 unfold bytesOf
 rw [List.map_map]
 conv => rhs;rw [← List.map_id s.data.toList]
 apply List.map_congr_left
 intro y _
 simp only [Function.comp,id]
 rw [Int.toNat_natCast]
 exact UInt8.ofNat_toNat
theorem byteL_bytes (s : ByteArray) : byteL (bytesOf s) := bytesOf_range s
theorem bytes_append (a b : ByteArray) : bytesOf (a ++ b) = bytesOf a ++ bytesOf b := by
 unfold bytesOf
 rw [ByteArray.data_append,Array.toList_append,List.map_append]
theorem str_append (a b : List Int) : strOfNums (a ++ b) = strOfNums a ++ strOfNums b := by
 apply ByteArray.ext
 apply Array.toList_inj.1
 rw [ByteArray.data_append,Array.toList_append,strOfNums_data,strOfNums_data,strOfNums_data,List.map_append]
theorem bytes_extract (x : ByteArray) (a b : Nat) : bytesOf (x.extract a b) = ((bytesOf x).take b).drop a := by
 unfold bytesOf
 rw [ByteArray.data_extract,Array.toList_extract,List.extract_eq_take_drop,List.map_take,List.map_drop,List.drop_take]
def beL (n : Int) : Nat → List Int
 | 0 => []
 | k + 1 => beL (n / 256) k ++ [n % 256]
theorem beL_len (n : Int) (k : Nat) : (beL n k).length = k := by
 induction k generalizing n with
 | zero => rfl
 | succ k ih => simp [beL,ih]
theorem byteL_be (n : Int) (k : Nat) : byteL (beL n k) := by
 induction k generalizing n with
 | zero => exact byteL_nil
 | succ k ih => exact byteL_append (ih _) (byteL_cons (by omega) (by omega) byteL_nil)
theorem numL_append (l : List Int) (a : Int) : numL (l ++ [a]) = numL l * 256 + a := by unfold numL;rw [List.foldl_append];rfl
theorem be_numL : ∀ (k : Nat) (l : List Int),l.length = k → byteL l → beL (numL l) k = l
 | 0,l,h,hb => by rw [List.length_eq_zero_iff.1 h];rfl
 | k + 1,l,h,hb => by
  have hne : l ≠ [] := by intro e;rw [e] at h;cases h
  have e := (List.dropLast_concat_getLast hne).symm
  generalize l.dropLast = d at e
  generalize l.getLast hne = a at e
  subst e
  have h2 : d.length = k := by simpa using h
  have ha := hb a (by simp)
  have ih := be_numL k d h2 (fun y hy => hb y (List.mem_append.2 (.inl hy)))
  rw [numL_append,beL,show (numL d * 256 + a) / 256 = numL d by omega,show (numL d * 256 + a) % 256 = a by omega,ih]
theorem impl_number1 (n : Int) : Zh.v n 1 = some (strOfNums (beL n 1)) := by
 have w0 : wrap64 (1 - 1) = 0 := by rw [wrap_id (by omega) (by omega)];rfl
 have w1 : wrap64 (0 - 1) = -1 := by rw [wrap_id (by omega) (by omega)];rfl
 rw [Zh.v_eq,if_pos (by omega),if_pos (by simp),w0,Zh.lv0_eq,if_pos (by omega),if_pos (by omega),if_pos (by simp),w1,Zh.lv0_eq,if_neg (by omega)]
 rfl
theorem impl_number2 (n : Int) : Zh.v n 2 = some (strOfNums (beL n 2)) := by
 have w2 : wrap64 (2 - 1) = 1 := by rw [wrap_id (by omega) (by omega)];rfl
 have w0 : wrap64 (1 - 1) = 0 := by rw [wrap_id (by omega) (by omega)];rfl
 have w1 : wrap64 (0 - 1) = -1 := by rw [wrap_id (by omega) (by omega)];rfl
 rw [Zh.v_eq,if_pos (by omega),if_pos (by simp),w2,Zh.lv0_eq,if_pos (by omega),if_pos (by omega),if_pos (by simp),w0,Zh.lv0_eq,if_pos (by omega),if_pos (by omega),if_pos (by simp),w1,Zh.lv0_eq,if_neg (by omega)]
 rfl
theorem impl_number4 (n : Int) : Zh.v n 4 = some (strOfNums (beL n 4)) := by
 have w4 : wrap64 (4 - 1) = 3 := by rw [wrap_id (by omega) (by omega)];rfl
 have w3 : wrap64 (3 - 1) = 2 := by rw [wrap_id (by omega) (by omega)];rfl
 have w2 : wrap64 (2 - 1) = 1 := by rw [wrap_id (by omega) (by omega)];rfl
 have w0 : wrap64 (1 - 1) = 0 := by rw [wrap_id (by omega) (by omega)];rfl
 have w1 : wrap64 (0 - 1) = -1 := by rw [wrap_id (by omega) (by omega)];rfl
 rw [Zh.v_eq,if_pos (by omega),if_pos (by simp),w4,Zh.lv0_eq,if_pos (by omega),if_pos (by omega),if_pos (by simp),w3,Zh.lv0_eq,if_pos (by omega),if_pos (by omega),if_pos (by simp),w2,Zh.lv0_eq,if_pos (by omega),if_pos (by omega),if_pos (by simp),w0,Zh.lv0_eq,if_pos (by omega),if_pos (by omega),if_pos (by simp),w1,Zh.lv0_eq,if_neg (by omega)]
 rfl
theorem be_front (j : Nat) : ∀ n : Int,beL n (j + 1) = (n / 256 ^ j % 256) :: beL n j := by
 induction j with
 | zero => intro n;simp [beL]
 | succ j ih =>
  intro n
  have h : beL n (j + 1 + 1) = beL (n / 256) (j + 1) ++ [n % 256] := rfl
  have h2 : n / 256 / 256 ^ j = n / 256 ^ (j + 1) := by
   rw [Int.ediv_ediv_of_nonneg (by omega),Int.pow_succ,Int.mul_comm]
  rw [h,ih,h2]
  rfl
theorem shr_be (n : Int) (j : Nat) (hj : j ≤ 7) : shr .i64 n (IntKind.u64.wrap (wrap64 (8 * (j : Int)))) = n / 256 ^ j := by
 have w : wrap64 (8 * (j : Int)) = ((8 * j : Nat) : Int) := by rw [wrap_id (by omega) (by omega)];omega
 have w2 : IntKind.u64.wrap ((8 * j : Nat) : Int) = ((8 * j : Nat) : Int) := by
  have : 8 * j < 18446744073709551616 := by omega
  unfold IntKind.wrap
  simp [IntKind.bits,IntKind.signed]
  omega
 rw [w,w2]
 clear w w2
 unfold shr
 rw [Int.toNat_natCast,Nat.min_eq_left (by show 8 * j ≤ 64;omega),Int.pow_mul]
 rfl
theorem spec_number_l (n : Int) : ∀ (j : Nat) (acc : List Int),j ≤ 8 → acc.length + j ≤ 1000000 → Zt.lv0 n acc ((j : Int) - 1) = some (acc ++ beL n j)
 | 0,acc,hj,ha => by rw [Zt.lv0_eq,if_neg (by omega)];simp [beL]
 | j + 1,acc,hj,ha => by
  have ih := spec_number_l n j (acc ++ [n / 256 ^ j % 256]) (by omega) (by rw [List.length_append];show acc.length + 1 + j ≤ _;omega)
  have e : (((j + 1 : Nat) : Int) - 1) = (j : Int) := by omega
  have hs := shr_be n j (by omega)
  have h0 : 0 ≤ IntKind.u64.wrap (wrap64 (8 * (j : Int))) := by
   have w : wrap64 (8 * (j : Int)) = ((8 * j : Nat) : Int) := by rw [wrap_id (by omega) (by omega)];omega
   rw [w]
   clear w hs
   unfold IntKind.wrap
   simp [IntKind.bits,IntKind.signed]
   omega
  have w : wrap64 ((j : Int) - 1) = (j : Int) - 1 := wrap_id (by omega) (by omega)
  have c1 : (j : Int) ≥ 0 := by omega
  have c2 : acc.length < 140737488355328 := by omega
  rw [e,Zt.lv0_eq,if_pos c1,if_pos h0,if_pos c2,hs,w,ih,be_front,List.append_assoc]
  rfl
theorem spec_number_v (n : Int) (k : Nat) (hk : k ≤ 8) : Zt.v n k = some (beL n k) := by
 have w : wrap64 ((k : Int) - 1) = (k : Int) - 1 := wrap_id (by omega) (by omega)
 rw [Zt.v_eq,w,spec_number_l n k [] hk (by simp;omega)]
 rfl
theorem impl_number_l (s : ByteArray) (hs : s.size ≤ 6) (t : ByteArray) (b : Bool) : ∀ (d i : Nat),s.size - i = d → i ≤ s.size → ∀ n : Int,n = numL ((bytesOf s).take i) → Zd.lv0 n (bytesOf s) ((bytesOf s).length : Int) i t b = some (numM s,t,b)
 | 0,i,h,hi,n,hn => by
  rw [Zd.lv0_eq,if_neg (by rw [bytesOf_length];omega),hn,List.take_of_length_le (by rw [bytesOf_length];omega)];rfl
 | d + 1,i,h,hi,n,hn => by
  have hlt : i < s.size := by omega
  have hr := foldl_range ((bytesOf s).take i) 0 (fun c hc => bytesOf_range s c (List.mem_of_mem_take hc)) (by omega)
  have hlen : ((bytesOf s).take i).length = i := by rw [List.length_take,bytesOf_length];omega
  rw [hlen] at hr
  have hp : (256 : Int) ^ i ≤ 256 ^ 5 := by
   have h5 : i = 0 ∨ i = 1 ∨ i = 2 ∨ i = 3 ∨ i = 4 ∨ i = 5 := by omega
   rcases h5 with rfl | rfl | rfl | rfl | rfl | rfl <;> decide
  have hn2 : 0 ≤ n ∧ n < 256 ^ 5 := by rw [hn];unfold numL;omega
  have hb := bt_range s i
  rw [Zd.lv0_eq,if_pos (by rw [bytesOf_length];omega),if_pos (by omega),if_pos (by rw [bytesOf_length];omega),bytesOf_rd s i (by omega) (by omega),or_byte n _ hn2.1 (by omega) hb.1 (by omega),wrap_id (x := (i : Int) + 1) (by omega) (by omega)]
  refine impl_number_l s hs t b d (i + 1) (by omega) (by omega) _ ?_
  rw [List.take_succ_eq_append_getElem (by rw [bytesOf_length];omega)]
  unfold numL
  rw [List.foldl_append]
  simp only [List.foldl_cons,List.foldl_nil]
  have h1 : (bytesOf s)[i]'(by rw [bytesOf_length];omega) = bt s i := by
   rw [← bytesOf_rd s i (by omega) (by omega)]
   unfold rd
   rw [Int.toNat_natCast,List.getD,List.getElem?_eq_getElem (by rw [bytesOf_length];omega)]
   rfl
  rw [h1,hn]
  rfl
theorem take_ok (x : ByteArray) (p n : Nat) (h : p + n ≤ x.size) : ZG.v (x.extract p x.size) false n = some (x.extract p (p + n),x.extract (p + n) x.size,false) := by
 have hs : (x.extract p x.size).size = x.size - p := by rw [ByteArray.size_extract];omega
 rw [ZG.v_eq,if_neg (by simp),if_neg (by omega),if_pos (by omega),if_pos (by omega),Int.toNat_natCast,hs]
 congr 1
 refine Prod.ext ?_ (Prod.ext ?_ rfl)
 ·apply ByteArray.ext
  simp only [ByteArray.data_extract,Array.extract_extract]
  congr 1;omega
 ·apply ByteArray.ext
  simp only [ByteArray.data_extract,Array.extract_extract]
  congr 1;omega
theorem take_short (x : ByteArray) (p n : Nat) (hp : p ≤ x.size) (h : x.size < p + n) : ZG.v (x.extract p x.size) false n = some (⟨#[]⟩,x.extract p x.size,true) := by
 have hs : (x.extract p x.size).size = x.size - p := by rw [ByteArray.size_extract];omega
 rw [ZG.v_eq,if_neg (by simp),if_pos (by omega)]
theorem take_bad (t : ByteArray) (n : Int) : ZG.v t true n = some (⟨#[]⟩,t,true) := by rw [ZG.v_eq,if_pos rfl]
theorem number_of (t u v : ByteArray) (b c : Bool) (n : Int) (h : ZG.v t b n = some (u,v,c)) (hu : u.size ≤ 6) : Zd.v t b n = some (numM u,v,c) := by
 rw [Zd.v_eq,h]
 simp only [Option.bind_some]
 rw [if_pos (by omega)]
 exact impl_number_l u hu v c u.size 0 rfl (by omega) 0 rfl
theorem number_ok (x : ByteArray) (p n : Nat) (h : p + n ≤ x.size) (hn : n ≤ 6) : Zd.v (x.extract p x.size) false n = some (numM (x.extract p (p + n)),x.extract (p + n) x.size,false) :=
 number_of _ _ _ _ _ _ (take_ok x p n h) (by rw [ByteArray.size_extract];omega)
theorem number_short (x : ByteArray) (p n : Nat) (hp : p ≤ x.size) (h : x.size < p + n) : Zd.v (x.extract p x.size) false n = some (0,x.extract p x.size,true) :=
 number_of _ _ _ _ _ _ (take_short x p n hp h) (by show 0 ≤ 6;omega)
theorem number_bad (t : ByteArray) (n : Int) : Zd.v t true n = some (0,t,true) := number_of _ _ _ _ _ _ (take_bad t n) (by show 0 ≤ 6;omega)
theorem done_bad (t : ByteArray) : Yb.v t true = some (false,t,true) := by rw [Yb.v_eq,if_pos rfl]
theorem ba_nil' (s : ByteArray) : (s.toList == ([] : List UInt8)) = decide (s.size = 0) := by
 rw [Bool.eq_iff_iff]
 simp only [beq_iff_eq,decide_eq_true_eq]
 rw [ba_toList]
 constructor
 ·intro h;show s.data.size = 0;rw [← Array.length_toList,h];rfl
 ·intro h;have h2 : s.data.toList.length = 0 := by rw [Array.length_toList];exact h
  exact List.eq_nil_of_length_eq_zero h2
theorem ba_ne' (s : ByteArray) : (s.toList != ([] : List UInt8)) = decide (s.size ≠ 0) := by
 rw [bne,ba_nil'];simp
theorem done_at (x : ByteArray) (p : Nat) (h : p ≤ x.size) : Yb.v (x.extract p x.size) false = some (decide (p = x.size),x.extract p x.size,false) := by
 rw [Yb.v_eq,if_neg (by simp),ba_nil',ByteArray.size_extract]
 congr 2
 by_cases h2 : p = x.size
 ·simp [h2]
 ·simp [h2];omega
theorem spec_l01In_v (n low high : Int) : Zs.v n low high = some (inB n low high) := by
 rw [Zs.v_eq];unfold inB;split <;> simp <;> omega
theorem impl_within_v (n low high : Int) : ZB.v n low high = some (inB n low high) := by
 rw [ZB.v_eq];unfold inB;split <;> simp <;> omega
def msgB (k v s f : Int) (d b m : ByteArray) : Bool :=
 inB k 1 5 && inB v 0 20 && inB f 0 6 && decide (m.size = 8) && decide (b.size ≤ 20000) && (if k ≤ 3 then inB s 1 8 && decide (d.size = 32) && (decide (b.size ≠ 0) == decide (k = 1)) else decide (s = 0) && decide (d.size = 0))
theorem spec_MessageOK_v (k v s f : Int) (d b m : ByteArray) : Zy.v k v s f d b m = some (msgB k v s f d b m) := by
 rw [Zy.v_eq]
 simp only [spec_l01In_v,Option.bind_some,Zy.jv0_eq,ba_nil',ba_ne',msgB]
 have e4 : ((m.size : Int) = 8) = (m.size = 8) := propext ⟨by omega,by omega⟩
 have e5 : ((b.size : Int) > 20000) = ¬ (b.size ≤ 20000) := propext ⟨by omega,by omega⟩
 have e6 : ((d.size : Int) = 32) = (d.size = 32) := propext ⟨by omega,by omega⟩
 simp only [e4,e5,e6]
 generalize inB v 0 20 = q1
 generalize inB f 0 6 = q2
 generalize inB s 1 8 = q3
 by_cases hk : 1 ≤ k ∧ k ≤ 5
 ·have hk2 : inB k 1 5 = true := by simp [inB,hk]
  rw [hk2]
  cases q1
  ·simp
  cases q2
  ·simp
  by_cases h4 : m.size = 8
  ·by_cases h5 : b.size ≤ 20000
   ·simp only [h4,h5,if_true,not_true_eq_false,decide_false,decide_true,Bool.false_eq_true,if_false,Bool.true_and,Bool.and_true]
    have hk3 : k = 1 ∨ k = 2 ∨ k = 3 ∨ k = 4 ∨ k = 5 := by omega
    rcases hk3 with rfl | rfl | rfl | rfl | rfl <;> cases q3 <;> by_cases h6 : d.size = 32 <;> by_cases h7 : b.size = 0 <;> by_cases h8 : s = 0 <;> simp [h6,h7,h8]
   ·simp [h4,h5]
  ·simp [h4]
 ·have hk2 : inB k 1 5 = false := by simp only [inB,decide_eq_false_iff_not];exact hk
  rw [hk2];simp
theorem impl_MessageOK_v (k v s f : Int) (d b m : ByteArray) : Zn.v k v s f d b m = some (msgB k v s f d b m) := by
 rw [Zn.v_eq]
 simp only [impl_within_v,Option.bind_some,Zn.jv0_eq,Zn.jv1_eq,Yv.v_eq,ba_nil',ba_ne',msgB]
 have e4 : ((m.size : Int) = 8) = (m.size = 8) := propext ⟨by omega,by omega⟩
 have e5 : ((b.size : Int) > 20000) = ¬ (b.size ≤ 20000) := propext ⟨by omega,by omega⟩
 have e6 : ((d.size : Int) == 32) = decide (d.size = 32) := by rw [Bool.eq_iff_iff];simp;omega
 simp only [e4,e5,e6]
 generalize inB v 0 20 = q1
 generalize inB f 0 6 = q2
 generalize inB s 1 8 = q3
 cases q1
 ·simp
 cases q2
 ·simp
 by_cases h4 : m.size = 8
 ·by_cases h5 : b.size ≤ 20000
  ·simp only [h4,h5,if_true,not_true_eq_false,decide_false,decide_true,Bool.false_eq_true,if_false,Bool.true_and,Bool.and_true]
   by_cases hk : 1 ≤ k ∧ k ≤ 5
   ·have hk2 : inB k 1 5 = true := by simp [inB,hk]
    rw [hk2]
    have hk3 : k = 1 ∨ k = 2 ∨ k = 3 ∨ k = 4 ∨ k = 5 := by omega
    rcases hk3 with rfl | rfl | rfl | rfl | rfl <;> cases q3 <;> by_cases h6 : d.size = 32 <;> by_cases h7 : b.size = 0 <;> by_cases h8 : s = 0 <;> simp [h6,h7,h8]
   ·have hk2 : inB k 1 5 = false := by simp only [inB,decide_eq_false_iff_not];exact hk
    rw [hk2]
    have h1 : ¬ k = 1 := by omega
    have h2 : ¬ k = 2 := by omega
    have h3 : ¬ k = 3 := by omega
    have h44 : ¬ k = 4 := by omega
    have h55 : ¬ k = 5 := by omega
    simp [h1,h2,h3,h44,h55]
  ·simp [h4,h5]
 ·simp [h4]
theorem spec_l02Of_l (s : ByteArray) (hs : s.size ≤ 6) : ∀ (d i : Nat),s.size - i = d → i ≤ s.size → ∀ n : Int,n = numL ((bytesOf s).take i) → ZC.lv0 s n i = some (numM s)
 | 0,i,h,hi,n,hn => by
  rw [ZC.lv0_eq,if_neg (by omega),hn,List.take_of_length_le (by rw [bytesOf_length];omega)];rfl
 | d + 1,i,h,hi,n,hn => by
  have hlt : i < s.size := by omega
  have hr := foldl_range ((bytesOf s).take i) 0 (fun c hc => bytesOf_range s c (List.mem_of_mem_take hc)) (by omega)
  have hlen : ((bytesOf s).take i).length = i := by rw [List.length_take,bytesOf_length];omega
  rw [hlen] at hr
  have hp : (256 : Int) ^ i ≤ 256 ^ 5 := by
   have h5 : i = 0 ∨ i = 1 ∨ i = 2 ∨ i = 3 ∨ i = 4 ∨ i = 5 := by omega
   rcases h5 with rfl | rfl | rfl | rfl | rfl | rfl <;> decide
  have hn2 : 0 ≤ n ∧ n < 256 ^ 5 := by rw [hn];unfold numL;omega
  have hb := bt_range s i
  rw [ZC.lv0_eq,if_pos (by omega),if_pos (by omega),wrap_id (x := n * 256) (by omega) (by omega),wrap_id (x := bt s i) (by omega) (by omega),wrap_id (x := n * 256 + bt s i) (by omega) (by omega),wrap_id (x := (i : Int) + 1) (by omega) (by omega)]
  refine spec_l02Of_l s hs d (i + 1) (by omega) (by omega) _ ?_
  rw [List.take_succ_eq_append_getElem (by rw [bytesOf_length];omega)]
  unfold numL
  rw [List.foldl_append]
  simp only [List.foldl_cons,List.foldl_nil]
  have h1 : (bytesOf s)[i]'(by rw [bytesOf_length];omega) = bt s i := by
   rw [← bytesOf_rd s i (by omega) (by omega)]
   unfold rd
   rw [Int.toNat_natCast,List.getD,List.getElem?_eq_getElem (by rw [bytesOf_length];omega)]
   rfl
  rw [h1,hn]
  rfl
theorem spec_l02Of_v (s : ByteArray) (hs : s.size ≤ 6) : ZC.v s = some (numM s) := by
 rw [ZC.v_eq]
 exact spec_l02Of_l s hs s.size 0 rfl (by omega) 0 rfl
theorem wrap_bt (x : ByteArray) (i : Int) : wrap64 (bt x i) = bt x i := by
 have := bt_range x i
 exact wrap_id (by omega) (by omega)
def plainL (k v s f : Int) (d b : ByteArray) : List Int := [k % 256,v % 256,s % 256,f % 256,(d.size : Int) % 256] ++ (bytesOf d ++ (beL b.size 2 ++ bytesOf b))
theorem byteL_plain (k v s f : Int) (d b : ByteArray) : byteL (plainL k v s f d b) :=
 byteL_append (byteL_cons (by omega) (by omega) (byteL_cons (by omega) (by omega) (byteL_cons (by omega) (by omega) (byteL_cons (by omega) (by omega) (byteL_cons (by omega) (by omega) byteL_nil))))) (byteL_append (byteL_bytes d) (byteL_append (byteL_be _ _) (byteL_bytes b)))
theorem plainL_len (k v s f : Int) (d b : ByteArray) : (plainL k v s f d b).length = 7 + d.size + b.size := by
 unfold plainL
 simp only [List.length_append,List.length_cons,List.length_nil,beL_len,bytesOf_length]
 omega
theorem impl_bareText_v (k v s f : Int) (d b m : ByteArray) (hd : d.size ≤ 1000000) (hb : b.size ≤ 1000000) : ZK.v k v s f d b m = some (strOfNums (plainL k v s f d b)) := by
 have e : plainL k v s f d b = beL k 1 ++ beL v 1 ++ beL s 1 ++ beL f 1 ++ beL (d.size : Int) 1 ++ bytesOf d ++ beL (b.size : Int) 2 ++ bytesOf b := by simp [plainL,beL,List.append_assoc]
 rw [ZK.v_eq]
 simp only [impl_number1,impl_number2,Option.bind_some,ByteArray.size_append,strOf_size,beL_len]
 rw [if_pos (by omega),if_pos (by omega),if_pos (by omega),if_pos (by omega),if_pos (by omega),if_pos (by omega),if_pos (by omega),e,str_append,str_append,str_append,str_append,str_append,str_append,str_append,str_bytes,str_bytes]
theorem spec_l02Plain_v (k v s f : Int) (d b m : ByteArray) (hd : d.size ≤ 1000000) (hb : b.size ≤ 1000000) : ZJ.v k v s f d b m = some (plainL k v s f d b) := by
 have hn : Zt.v (b.size : Int) 2 = some (beL (b.size : Int) 2) := spec_number_v _ 2 (by omega)
 rw [ZJ.v_eq,Option.bind_some,if_pos (by simp;omega),Option.bind_some,hn,Option.bind_some]
 rw [if_pos (by simp [beL_len,bytesOf_length];omega),Option.bind_some,if_pos (by simp [beL_len,bytesOf_length];omega)]
 simp [plainL,List.append_assoc]
theorem msgB_sizes {k v s f : Int} {d b m : ByteArray} (h : msgB k v s f d b m = true) : 1 ≤ k ∧ k ≤ 5 ∧ 0 ≤ v ∧ v ≤ 20 ∧ 0 ≤ f ∧ f ≤ 6 ∧ 0 ≤ s ∧ s ≤ 8 ∧ m.size = 8 ∧ b.size ≤ 20000 ∧ d.size ≤ 32 := by
 unfold msgB inB at h
 simp only [Bool.and_eq_true,decide_eq_true_eq] at h
 obtain ⟨⟨⟨⟨⟨h1,h2⟩,h3⟩,h4⟩,h5⟩,h6⟩ := h
 by_cases hk : k ≤ 3
 ·rw [if_pos hk] at h6
  simp only [Bool.and_eq_true,decide_eq_true_eq] at h6
  omega
 ·rw [if_neg hk] at h6
  simp only [Bool.and_eq_true,decide_eq_true_eq] at h6
  omega
def turnF (x n : Int) : Int := Go.bits .or .u32 (shr .u32 x n) (shl .u32 x (32 - n))
theorem u64_small (n : Int) (h0 : 0 ≤ n) (h1 : n < 18446744073709551616) : IntKind.u64.wrap n = n := by
 unfold IntKind.wrap
 simp [IntKind.bits,IntKind.signed]
 omega
theorem turn_v (x n : Int) (h0 : 0 ≤ n) (h1 : n ≤ 32) : ZA.v x n = some (turnF x n) := by
 rw [ZA.v_eq,if_pos h0,u64_small (32 - n) (by omega) (by omega),if_pos (by omega)]
 rfl
theorem block_l3 (v : List Int) (hv : v.length = 8) : ∀ (k i : Nat) (h : List Int),8 - i = k → i ≤ 8 → h.length = 8 → ∃ r,Zc.lv3 h v i = some r ∧ r.length = 8
 | 0,i,h,hk,hi,hh => by
  rw [Zc.lv3_eq,if_neg (by omega)]
  exact ⟨h,rfl,hh⟩
 | k + 1,i,h,hk,hi,hh => by
  obtain ⟨r,e,hr⟩ := block_l3 v hv k (i + 1) (h.set (i : Int).toNat (((rd h i) + (rd v i)) % 4294967296)) (by omega) (by omega) (by rw [List.length_set];exact hh)
  have w : wrap64 ((i : Int) + 1) = ((i + 1 : Nat) : Int) := by rw [wrap_id (by omega) (by omega)];omega
  rw [Zc.lv3_eq,w,e]
  clear w
  rw [if_pos (by omega),if_pos (by omega),if_pos (by omega),if_pos (by omega)]
  exact ⟨r,rfl,hr⟩
theorem block_l2 (h ks ws : List Int) (hh : h.length = 8) (hk : ks.length = 64) (hw : ws.length = 64) : ∀ (k i : Nat) (v : List Int),64 - i = k → i ≤ 64 → v.length = 8 → ∃ r,Zc.lv2 h ks ws v i = some r ∧ r.length = 8
 | 0,i,v,hi0,hi,hv => by
  rw [Zc.lv2_eq,if_neg (by omega)]
  exact block_l3 v hv 8 0 h rfl (by omega) hh
 | k + 1,i,v,hi0,hi,hv => by
  have ih := fun v' => block_l2 h ks ws hh hk hw k (i + 1) v' (by omega) (by omega)
  have w : wrap64 ((i : Int) + 1) = ((i + 1 : Nat) : Int) := by rw [wrap_id (by omega) (by omega)];omega
  rw [Zc.lv2_eq,w]
  clear w
  have c1 : (i : Int) < 64 := by omega
  have c2 : (4 : Int) < (v.length : Int) := by omega
  have c3 : (0 : Int) < (v.length : Int) := by omega
  have c4 : (7 : Int) < (v.length : Int) := by omega
  have c5 : (5 : Int) < (v.length : Int) := by omega
  have c6 : (6 : Int) < (v.length : Int) := by omega
  have c7 : (0 : Int) ≤ (i : Int) := by omega
  have c8 : (i : Int) < (ks.length : Int) := by omega
  have c9 : (i : Int) < (ws.length : Int) := by omega
  have d1 : (1 : Int) < (v.length : Int) := by omega
  have d2 : (2 : Int) < (v.length : Int) := by omega
  have d3 : (3 : Int) < (v.length : Int) := by omega
  have t1 : ∀ x,ZA.v x 6 = some (turnF x 6) := fun x => turn_v x 6 (by omega) (by omega)
  have t2 : ∀ x,ZA.v x 11 = some (turnF x 11) := fun x => turn_v x 11 (by omega) (by omega)
  have t3 : ∀ x,ZA.v x 25 = some (turnF x 25) := fun x => turn_v x 25 (by omega) (by omega)
  have t4 : ∀ x,ZA.v x 2 = some (turnF x 2) := fun x => turn_v x 2 (by omega) (by omega)
  have t5 : ∀ x,ZA.v x 13 = some (turnF x 13) := fun x => turn_v x 13 (by omega) (by omega)
  have t6 : ∀ x,ZA.v x 22 = some (turnF x 22) := fun x => turn_v x 22 (by omega) (by omega)
  simp only [if_pos c1,if_pos c2,if_pos c3,if_pos c4,if_pos c5,if_pos c6,if_pos c7,if_pos c8,if_pos c9,if_pos d1,if_pos d2,if_pos d3,t1,t2,t3,t4,t5,t6,Option.bind_some]
  exact ih _ rfl
theorem block_l1 (h ks : List Int) (hh : h.length = 8) (hk : ks.length = 64) : ∀ (k i : Nat) (ws : List Int),64 - i = k → 16 ≤ i → i ≤ 64 → ws.length = 64 → ∃ r,Zc.lv1 h ks ws i = some r ∧ r.length = 8
 | 0,i,ws,hi0,h16,hi,hw => by
  rw [Zc.lv1_eq,if_neg (by omega),Option.bind_some,if_pos (by simp;omega)]
  exact block_l2 h ks ws hh hk hw 64 0 _ rfl (by omega) (by simpa using hh)
 | k + 1,i,ws,hi0,h16,hi,hw => by
  have ih := fun ws' => block_l1 h ks hh hk k (i + 1) ws' (by omega) (by omega) (by omega)
  have c1 : (i : Int) < 64 := by omega
  have c2 : (0 : Int) ≤ (i : Int) - 15 := by omega
  have c3 : (i : Int) - 15 < (ws.length : Int) := by omega
  have c4 : (0 : Int) ≤ (i : Int) - 2 := by omega
  have c5 : (i : Int) - 2 < (ws.length : Int) := by omega
  have c6 : (0 : Int) ≤ (i : Int) - 16 := by omega
  have c7 : (i : Int) - 16 < (ws.length : Int) := by omega
  have c8 : (0 : Int) ≤ (i : Int) - 7 := by omega
  have c9 : (i : Int) - 7 < (ws.length : Int) := by omega
  have d1 : (0 : Int) ≤ (i : Int) := by omega
  have d2 : (i : Int) < (ws.length : Int) := by omega
  have t1 : ∀ x,ZA.v x 7 = some (turnF x 7) := fun x => turn_v x 7 (by omega) (by omega)
  have t2 : ∀ x,ZA.v x 18 = some (turnF x 18) := fun x => turn_v x 18 (by omega) (by omega)
  have t3 : ∀ x,ZA.v x 17 = some (turnF x 17) := fun x => turn_v x 17 (by omega) (by omega)
  have t4 : ∀ x,ZA.v x 19 = some (turnF x 19) := fun x => turn_v x 19 (by omega) (by omega)
  have w : wrap64 ((i : Int) + 1) = ((i + 1 : Nat) : Int) := by rw [wrap_id (by omega) (by omega)];omega
  have w1 : wrap64 ((i : Int) - 15) = (i : Int) - 15 := wrap_id (by omega) (by omega)
  have w2 : wrap64 ((i : Int) - 2) = (i : Int) - 2 := wrap_id (by omega) (by omega)
  have w3 : wrap64 ((i : Int) - 16) = (i : Int) - 16 := wrap_id (by omega) (by omega)
  have w4 : wrap64 ((i : Int) - 7) = (i : Int) - 7 := wrap_id (by omega) (by omega)
  rw [Zc.lv1_eq]
  simp only [w,w1,w2,w3,w4,if_pos c1,if_pos c2,if_pos c3,if_pos c4,if_pos c5,if_pos c6,if_pos c7,if_pos c8,if_pos c9,if_pos d1,if_pos d2,t1,t2,t3,t4,Option.bind_some]
  clear w w1 w2 w3 w4
  exact ih _ (by rw [List.length_set];exact hw)
theorem block_l0 (h b ks : List Int) (hh : h.length = 8) (hb : b.length = 64) (hk : ks.length = 64) : ∀ (k i : Nat) (ws : List Int),16 - i = k → i ≤ 16 → ws.length = 64 → ∃ r,Zc.lv0 h b ks ws i = some r ∧ r.length = 8
 | 0,i,ws,hi0,hi,hw => by
  rw [Zc.lv0_eq,if_neg (by omega)]
  exact block_l1 h ks hh hk 48 16 ws rfl (by omega) (by omega) hw
 | k + 1,i,ws,hi0,hi,hw => by
  have ih := fun ws' => block_l0 h b ks hh hb hk k (i + 1) ws' (by omega) (by omega)
  have c1 : (i : Int) < 16 := by omega
  have c2 : (0 : Int) ≤ 4 * (i : Int) := by omega
  have c3 : 4 * (i : Int) < (b.length : Int) := by omega
  have c4 : (0 : Int) ≤ 4 * (i : Int) + 1 := by omega
  have c5 : 4 * (i : Int) + 1 < (b.length : Int) := by omega
  have c6 : (0 : Int) ≤ 4 * (i : Int) + 2 := by omega
  have c7 : 4 * (i : Int) + 2 < (b.length : Int) := by omega
  have c8 : (0 : Int) ≤ 4 * (i : Int) + 3 := by omega
  have c9 : 4 * (i : Int) + 3 < (b.length : Int) := by omega
  have d1 : (0 : Int) ≤ (i : Int) := by omega
  have d2 : (i : Int) < (ws.length : Int) := by omega
  have w : wrap64 ((i : Int) + 1) = ((i + 1 : Nat) : Int) := by rw [wrap_id (by omega) (by omega)];omega
  have w0 : wrap64 (4 * (i : Int)) = 4 * (i : Int) := wrap_id (by omega) (by omega)
  have w1 : wrap64 (4 * (i : Int) + 1) = 4 * (i : Int) + 1 := wrap_id (by omega) (by omega)
  have w2 : wrap64 (4 * (i : Int) + 2) = 4 * (i : Int) + 2 := wrap_id (by omega) (by omega)
  have w3 : wrap64 (4 * (i : Int) + 3) = 4 * (i : Int) + 3 := wrap_id (by omega) (by omega)
  rw [Zc.lv0_eq]
  simp only [w,w0,w1,w2,w3,if_pos c1,if_pos c2,if_pos c3,if_pos c4,if_pos c5,if_pos c6,if_pos c7,if_pos c8,if_pos c9,if_pos d1,if_pos d2]
  clear w w0 w1 w2 w3
  exact ih _ (by rw [List.length_set];exact hw)
theorem block_v (h b ks : List Int) (hh : h.length = 8) (hb : b.length = 64) (hk : ks.length = 64) : ∃ r,Zc.v h b ks = some r ∧ r.length = 8 := by
 rw [Zc.v_eq,if_pos ⟨hh,hb,hk⟩,if_pos (by omega)]
 exact block_l0 h b ks hh hb hk 16 0 _ rfl (by omega) (by simp)
theorem hash_l3 (h : List Int) (hh : h.length = 8) : ∀ (k i : Nat) (out : List Int),8 - i = k → i ≤ 8 → out.length = 4 * i → ∃ t,Zb.lv3 h out i = some t ∧ t.size = 32
 | 0,i,out,hi0,hi,ho => by
  rw [Zb.lv3_eq,if_neg (by omega)]
  exact ⟨_,rfl,by rw [strOf_size];omega⟩
 | k + 1,i,out,hi0,hi,ho => by
  have ih := fun out' => hash_l3 h hh k (i + 1) out' (by omega) (by omega)
  have w : wrap64 ((i : Int) + 1) = ((i + 1 : Nat) : Int) := by rw [wrap_id (by omega) (by omega)];omega
  rw [Zb.lv3_eq,w]
  clear w
  rw [if_pos (by omega),if_pos (by omega),if_pos (by omega),Option.bind_some,if_pos (by simp;omega)]
  exact ih _ (by simp;omega)
theorem hash_l2 (all ks : List Int) (hk : ks.length = 64) (n : Nat) (ha : all.length = 64 * n) (hn : n ≤ 1000000) : ∀ (k i : Nat) (h : List Int),n - i = k → i ≤ n → h.length = 8 → ∃ t,Zb.lv2 h all ks ((64 * i : Nat) : Int) = some t ∧ t.size = 32
 | 0,i,h,hi0,hi,hh => by
  rw [Zb.lv2_eq,if_neg (by omega)]
  exact hash_l3 h hh 8 0 [] rfl (by omega) rfl
 | k + 1,i,h,hi0,hi,hh => by
  have ih := fun h' => hash_l2 all ks hk n ha hn k (i + 1) h' (by omega) (by omega)
  obtain ⟨r,e,hr⟩ := block_v h ((all.take (64 * (i + 1))).drop (64 * i)) ks hh (by rw [List.length_drop,List.length_take];omega) hk
  have w : wrap64 (((64 * i : Nat) : Int) + 64) = ((64 * (i + 1) : Nat) : Int) := by rw [wrap_id (by omega) (by omega)];omega
  rw [Zb.lv2_eq,w]
  clear w
  simp only [Int.toNat_natCast]
  rw [if_pos (by omega),if_pos (by omega),if_pos (by omega),if_pos (by omega),e,Option.bind_some]
  exact ih _ hr
theorem hash_l1 (x h : List Int) (hh : h.length = 8) : ∀ (k : Nat) (all : List Int),k ≤ 8 → all.length + k ≤ 60000000 → (all.length + k) % 64 = 0 → ∃ t,Zb.lv1 x h all ((k : Int) - 1) = some t ∧ t.size = 32
 | 0,all,hk,ha,hm => by
  rw [Zb.lv1_eq,if_neg (by omega),Yq.v_eq,Option.bind_some]
  exact hash_l2 all _ rfl (all.length / 64) (by omega) (by omega) (all.length / 64) 0 h rfl (by omega) hh
 | k + 1,all,hk,ha,hm => by
  have ih := fun a => hash_l1 x h hh k (all ++ [a]) (by omega) (by simp;omega) (by simp;omega)
  have e : (((k + 1 : Nat) : Int) - 1) = (k : Int) := by omega
  have c1 : (k : Int) ≥ 0 := by omega
  have c2 : all.length < 140737488355328 := by omega
  have w : wrap64 ((k : Int) - 1) = (k : Int) - 1 := wrap_id (by omega) (by omega)
  have w1 : IntKind.u64.wrap (wrap64 (8 * (k : Int))) = 8 * (k : Int) := by
   rw [show wrap64 (8 * (k : Int)) = 8 * (k : Int) from wrap_id (by omega) (by omega),u64_small _ (by omega) (by omega)]
  have c3 : (0 : Int) ≤ 8 * (k : Int) := by clear w w1;omega
  rw [e,Zb.lv1_eq,w,w1]
  clear w w1
  rw [if_pos c1,if_pos c3,if_pos c2]
  exact ih _
theorem hash_l0 (x h : List Int) (hh : h.length = 8) : ∀ (k : Nat) (all : List Int),(all.length + k) % 64 = 56 → k ≤ 64 → all.length + k ≤ 50000000 → ∃ t,Zb.lv0 x h all = some t ∧ t.size = 32
 | 0,all,hm,hk,ha => by
  rw [Zb.lv0_eq,if_pos (by omega)]
  exact hash_l1 x h hh 8 all (by omega) (by omega) (by omega)
 | k + 1,all,hm,hk,ha => by
  rw [Zb.lv0_eq]
  by_cases c : ((all.length : Int) % 64) = 56
  ·rw [if_pos c]
   exact hash_l1 x h hh 8 all (by omega) (by omega) (by omega)
  ·rw [if_neg c,if_pos (by omega)]
   exact hash_l0 x h hh k (all ++ [0]) (by simp;omega) (by omega) (by simp;omega)
theorem hash_v (x : List Int) (hx : x.length ≤ 40000000) : ∃ t,Zb.v x = some t ∧ t.size = 32 := by
 rw [Zb.v_eq,Option.bind_some,if_pos (by simp;omega),Option.bind_some,if_pos (by simp;omega)]
 refine hash_l0 x _ rfl ((56 + 64 - (x.length + 1) % 64) % 64) _ ?_ (by omega) ?_
 ·simp;omega
 ·simp;omega
theorem be1 (n : Int) : beL n 1 = [n % 256] := rfl
theorem secret_v (n : Int) : ∃ t,ZT.v n = some t ∧ ZV.v ((⟨#[110,111,100,101,32,107,101,121]⟩ : ByteArray) ++ strOfNums [n % 256]) = some t ∧ t.size = 32 := by
 have h1 : (strOfNums [n % 256]).size = 1 := by rw [strOf_size];rfl
 have h8 : (⟨#[110,111,100,101,32,107,101,121]⟩ : ByteArray).size = 8 := rfl
 obtain ⟨s,hs⟩ : ∃ s,s = (⟨#[110,111,100,101,32,107,101,121]⟩ : ByteArray) ++ strOfNums [n % 256] := ⟨_,rfl⟩
 have hz : s.size = 9 := by rw [hs,ByteArray.size_append,h1,h8]
 obtain ⟨t,ht,h32⟩ := hash_v (bytesOf s) (by rw [bytesOf_length,hz];decide)
 refine ⟨t,?_,?_,h32⟩
 ·rw [ZT.v_eq,Option.bind_some,← hs,h1,hz,if_pos (by decide),if_pos (by decide),ht,Option.bind_some]
 ·rw [← hs,ZV.v_eq,hz,if_pos (by decide),ht]
theorem mac_both (n : Int) (S : ByteArray) (hS : S.size ≤ 30000000) : ∃ t,ZS.v n (bytesOf S) = some t ∧ Yg.v n S = some t ∧ t.size = 8 := by
 obtain ⟨t1,h1,h2,hz⟩ := secret_v n
 obtain ⟨t2,ht,h32⟩ := hash_v (bytesOf (t1 ++ S)) (by rw [bytesOf_length,ByteArray.size_append];omega)
 have hb : bytesOf t1 ++ bytesOf S = bytesOf (t1 ++ S) := (bytes_append t1 S).symm
 have hn : (strOfNums (beL n 1)).size = 1 := by rw [strOf_size];rfl
 have c1 : t1.size + (bytesOf S).length < 140737488355328 ∧ 0 < t1.size := by rw [bytesOf_length];omega
 have c2 : t1.size + S.size ≤ 9223372036854775807 := by omega
 have c3 : (t1 ++ S).size ≤ 40000000 := by rw [ByteArray.size_append];omega
 have c4 : (8 : Int) ≤ (t2.size : Int) := by omega
 refine ⟨t2.extract 0 8,?_,?_,by rw [ByteArray.size_extract];omega⟩
 ·rw [ZS.v_eq,h1,Option.bind_some,if_pos c1,hb,ht,Option.bind_some,if_pos (by omega)]
 ·rw [Yg.v_eq,impl_number1,Option.bind_some,hn,if_pos (by decide),be1,h2,Option.bind_some,if_pos c2,ZV.v_eq,if_pos c3,ht,Option.bind_some,if_pos (by decide),if_pos c4]
theorem nodes_one (a : Int) : ∃ r,Yc.v a = some r ∧ ZX.v a = some r := by
 rw [Yc.v_eq,ZX.v_eq,Yx.v_eq]
 by_cases h1 : a = 1
 ·rw [if_pos h1,if_pos h1,Option.bind_some];exact ⟨_,rfl,rfl⟩
 by_cases h4 : a = 4
 ·rw [if_neg h1,if_neg h1,if_pos h4,if_pos h4,Option.bind_some];exact ⟨_,rfl,rfl⟩
 by_cases h7 : a = 7
 ·rw [if_neg h1,if_neg h1,if_neg h4,if_neg h4,if_pos h7,Option.bind_some,h7];exact ⟨_,rfl,rfl⟩
 ·rw [if_neg h1,if_neg h1,if_neg h4,if_neg h4,if_neg h7,Option.bind_some]
  exact ⟨false,by simp [h7],rfl⟩
theorem plain_both (k v s f : Int) (d b m : ByteArray) (hd : d.size ≤ 1000000) (hb : b.size ≤ 1000000) (i : Int) : ∃ t,(ZJ.v k v s f d b m).bind (fun x => ZS.v i x) = some t ∧ (ZK.v k v s f d b m).bind (fun x => Yg.v i x) = some t ∧ t.size = 8 := by
 obtain ⟨t,h1,h2,h3⟩ := mac_both i (strOfNums (plainL k v s f d b)) (by rw [strOf_size,plainL_len];omega)
 rw [bytes_str _ (byteL_plain k v s f d b)] at h1
 refine ⟨t,?_,?_,h3⟩
 ·rw [spec_l02Plain_v k v s f d b m hd hb,Option.bind_some,h1]
 ·rw [impl_bareText_v k v s f d b m hd hb,Option.bind_some,h2]
theorem spec_l00Letter_v (c : Int) : Ya.v c = some (letterB c) := by
 rw [Ya.v_eq];unfold letterB;repeat' split
 all_goals (congr 1;rw [Bool.eq_iff_iff];simp <;> omega)
theorem impl_isLetter_v (c : Int) : Yd.v c = some (letterB c) := by
 rw [Yd.v_eq];unfold letterB;repeat' split
 all_goals (congr 1;rw [Bool.eq_iff_iff];simp <;> omega)
theorem spec_l00Digit_v (c : Int) : Yr.v c = some (digitB c) := by
 rw [Yr.v_eq];unfold digitB;split <;> simp <;> omega
theorem spec_l00Word_l (s : ByteArray) (hs : s.size ≤ 9223372036854775807) (i : Int) (h : 0 ≤ i) : Zq.lv0 s i = some (allI (fun j => letterB (bt s j) || digitB (bt s j)) i s.size) := by
 refine loop_all _ s.size (by omega) (fun i h0 h1 => ?_) (fun i h0 h1 => ?_) _ i rfl h
 ·rw [Zq.lv0_eq,if_pos h1,if_pos h0,spec_l00Letter_v,spec_l00Digit_v]
  simp only [Option.bind_some]
  cases letterB (bt s i) <;> cases digitB (bt s i) <;> simp
 ·rw [Zq.lv0_eq,if_neg (by omega)]
theorem impl_NameOK_l (s : ByteArray) (hs : s.size ≤ 9223372036854775807) (i : Int) (h : 0 ≤ i) : Zu.lv0 s s.size i = some (allI (fun j => letterB (bt s j) || digitB (bt s j)) i s.size) := by
 refine loop_all (L := fun i => Zu.lv0 s s.size i) _ s.size (by omega) (fun i h0 h1 => ?_) (fun i h0 h1 => ?_) _ i rfl h
 ·rw [Zu.lv0_eq,if_pos h1,if_pos h0,if_pos h1,impl_isLetter_v]
  simp only [Option.bind_some]
  cases letterB (bt s i) <;> simp [digitB]
  by_cases h2 : bt s i < 48
  ·simp [h2,show ¬ 48 ≤ bt s i by omega]
  ·by_cases h3 : 57 < bt s i
   ·simp [h2,h3,show ¬ bt s i ≤ 57 by omega]
   ·simp [h2,h3,show 48 ≤ bt s i by omega,show bt s i ≤ 57 by omega]
 ·rw [Zu.lv0_eq,if_neg (by omega)]
theorem spec_NameOK_v (s : ByteArray) (hs : s.size ≤ 9223372036854775807) : Yk.v s = some (nameB s) := by
 rw [Yk.v_eq,Zq.v_eq]
 simp only [spec_l00Letter_v,Zq.jv0_eq,spec_l00Word_l s hs 1 (by omega),Option.bind_some,nameB]
 by_cases h1 : (s.size : Int) < 1
 ·simp [h1];omega
 ·by_cases h2 : (s.size : Int) > 40
  ·simp [h1,h2];omega
  ·simp only [if_neg h1,if_neg h2,if_pos (show 0 < (s.size : Int) by omega),Option.bind_some,show (1 ≤ s.size ∧ s.size ≤ 40) = True by simp;omega]
   cases letterB (bt s 0) <;> simp
theorem impl_NameOK_v (s : ByteArray) (hs : s.size ≤ 9223372036854775807) : Zu.v s = some (nameB s) := by
 rw [Zu.v_eq]
 simp only [impl_isLetter_v,Zu.jv0_eq,impl_NameOK_l s hs 0 (by omega),Option.bind_some,nameB]
 by_cases h1 : (s.size : Int) < 1
 ·simp [h1];omega
 ·by_cases h2 : (s.size : Int) > 40
  ·simp [h1,h2];omega
  ·simp only [if_neg h1,if_neg h2,if_pos (show 0 < (s.size : Int) by omega),Option.bind_some,show (1 ≤ s.size ∧ s.size ≤ 40) = True by simp;omega]
   rw [allI_step (i := 0) (by omega)]
   cases letterB (bt s 0) <;> simp
theorem spec_l02Text_v (s : ByteArray) (n : Int) (hs : s.size ≤ 9223372036854775807) : ZY.v s n = some (decide ((s.size : Int) ≤ n) && nameB s) := by
 rw [ZY.v_eq,spec_l01In_v,spec_NameOK_v s hs]
 simp only [Option.bind_some,inB]
 by_cases h : (1 : Int) ≤ s.size ∧ (s.size : Int) ≤ n
 ·simp [h]
 ·by_cases h2 : (s.size : Int) ≤ n
  ·simp [h,h2,nameB,show ¬ (1 ≤ s.size) by omega]
  ·simp [h,h2]
theorem impl_isOpName_v (s : ByteArray) (hs : s.size ≤ 9223372036854775807) : ZW.v s = some (decide ((s.size : Int) ≤ 12) && nameB s) := by
 rw [ZW.v_eq,impl_NameOK_v s hs]
 by_cases h : (s.size : Int) ≤ 12 <;> simp [h]
def reqB (c st k ls : Int) (nm : ByteArray) : Bool :=
 inB c 0 255 && inB st 1 65535 && inB k 1 4 && inB ls 0 1000 && (decide ((nm.size : Int) ≤ 12) && nameB nm) && (decide (ls > 0) == decide (k = 1 ∨ k = 3))
theorem spec_RequestOK_v (c st k ls : Int) (nm : ByteArray) (h : nm.size ≤ 9223372036854775807) : ZH.v c st k ls nm = some (reqB c st k ls nm) := by
 rw [ZH.v_eq]
 simp only [spec_l01In_v,Option.bind_some,spec_l02Text_v nm 12 h,reqB]
 generalize (decide ((nm.size : Int) ≤ 12) && nameB nm) = q
 cases inB c 0 255 <;> cases inB st 1 65535 <;> cases inB k 1 4 <;> cases inB ls 0 1000 <;> cases q <;> simp
 by_cases h1 : k = 1
 ·simp [h1]
 ·by_cases h2 : k = 3
  ·simp [h2]
  ·simp [h1,h2,show (k == 3) = false by simpa using h2]
theorem impl_RequestOK_v (c st k ls : Int) (nm : ByteArray) (h : nm.size ≤ 9223372036854775807) : Zo.v c st k ls nm = some (reqB c st k ls nm) := by
 have e : Zo.v c st k ls nm = Zo.jv1 (if k = 1 ∨ k = 3 then 1 else 0) (if k = 1 ∨ k = 3 then 1000 else 0) c st k ls nm := by
  rw [Zo.v_eq]
  by_cases h1 : k = 1
  ·simp [h1,Zo.jv0_eq]
  ·by_cases h2 : k = 3
   ·simp [h2,Zo.jv0_eq]
   ·simp [h1,h2,Zo.jv0_eq,show (k == 3) = false by simpa using h2]
 rw [e,Zo.jv1_eq]
 simp only [impl_within_v,Option.bind_some,impl_isOpName_v nm h,reqB]
 generalize (decide ((nm.size : Int) ≤ 12) && nameB nm) = q
 by_cases hk : k = 1 ∨ k = 3
 ·have e2 : inB ls 1 1000 = (inB ls 0 1000 && decide (ls > 0)) := by unfold inB;rw [Bool.eq_iff_iff];simp;omega
  simp only [if_pos hk,e2,decide_eq_true hk]
  cases inB c 0 255 <;> cases inB st 1 65535 <;> cases inB k 1 4 <;> cases inB ls 0 1000 <;> cases q <;> cases decide (ls > 0) <;> simp
 ·have e2 : inB ls 0 0 = (inB ls 0 1000 && !decide (ls > 0)) := by unfold inB;rw [Bool.eq_iff_iff];simp;omega
  simp only [if_neg hk,e2,decide_eq_false hk]
  cases inB c 0 255 <;> cases inB st 1 65535 <;> cases inB k 1 4 <;> cases inB ls 0 1000 <;> cases q <;> cases decide (ls > 0) <;> simp
def rN (x : ByteArray) (p : Nat) : Nat := (bt x (p + 6 : Nat)).toNat
def rB (x : ByteArray) (p : Nat) : Bool := reqB (bt x p) (numM (x.extract (p + 1) (p + 3))) (bt x (p + 3 : Nat)) (numM (x.extract (p + 4) (p + 6))) (x.extract (p + 7) (p + 7 + rN x p))
abbrev Req7 := Int × Int × Int × Int × ByteArray × ByteArray × Bool
theorem impl_request_ok (x : ByteArray) (p : Nat) (h : p + 7 + rN x p ≤ x.size) : ZE.v (x.extract p x.size) false =
  some (bt x p,numM (x.extract (p + 1) (p + 3)),bt x (p + 3 : Nat),numM (x.extract (p + 4) (p + 6)),x.extract (p + 7) (p + 7 + rN x p),x.extract (p + 7 + rN x p) x.size,false) := by
 rw [ZE.v_eq]
 rw [show (1 : Int) = ((1 : Nat) : Int) from rfl,show (2 : Int) = ((2 : Nat) : Int) from rfl]
 rw [number_ok x p 1 (by omega) (by omega),Option.bind_some]
 simp only
 rw [number_ok x (p + 1) 2 (by omega) (by omega),Option.bind_some]
 simp only
 rw [number_ok x (p + 1 + 2) 1 (by omega) (by omega),Option.bind_some]
 simp only
 rw [number_ok x (p + 1 + 2 + 1) 2 (by omega) (by omega),Option.bind_some]
 simp only
 rw [ZI.v_eq,number_ok x (p + 1 + 2 + 1 + 2) 1 (by omega) (by omega),Option.bind_some]
 simp only
 have hb := bt_range x (p + 6 : Nat)
 have e6 : numM (x.extract (p + 1 + 2 + 1 + 2) (p + 1 + 2 + 1 + 2 + 1)) = ((rN x p : Nat) : Int) := by
  rw [numM_one x _ (by omega)]
  unfold rN
  rw [Int.toNat_of_nonneg hb.1]
 rw [e6,take_ok x (p + 1 + 2 + 1 + 2 + 1) (rN x p) (by omega),Option.bind_some,Option.bind_some]
 rw [numM_one x p (by omega),numM_one x (p + 1 + 2) (by omega)]
theorem impl_request_bad (t : ByteArray) : ZE.v t true = some (0,0,0,0,⟨#[]⟩,t,true) := by
 rw [ZE.v_eq]
 simp [number_bad,ZI.v_eq,take_bad]
theorem impl_request_short (x : ByteArray) (p : Nat) (hp : p ≤ x.size) (h : x.size < p + 7 ∨ x.size < p + 7 + rN x p) : ∃ r : Req7,ZE.v (x.extract p x.size) false = some r ∧ r.2.2.2.2.2.2 = true := by
 rw [ZE.v_eq]
 have sized : ∀ (t : ByteArray) (b : Bool) (n : Int),ZI.v t b n = (Zd.v t b n).bind fun r => (ZG.v r.2.1 r.2.2 r.1).bind fun q => some (q.1,q.2.1,q.2.2) := fun t b n => ZI.v_eq t b n
 rw [show (1 : Int) = ((1 : Nat) : Int) from rfl,show (2 : Int) = ((2 : Nat) : Int) from rfl]
 rcases Nat.lt_or_ge x.size (p + 1) with h0 | h0
 ·rw [number_short x p 1 hp h0]
  exact ⟨_,by simp [number_bad,sized,take_bad];rfl,rfl⟩
 rw [number_ok x p 1 (by omega) (by omega),Option.bind_some]
 simp only
 rcases Nat.lt_or_ge x.size (p + 1 + 2) with h1 | h1
 ·rw [number_short x (p + 1) 2 h0 h1]
  exact ⟨_,by simp [number_bad,sized,take_bad];rfl,rfl⟩
 rw [number_ok x (p + 1) 2 (by omega) (by omega),Option.bind_some]
 simp only
 rcases Nat.lt_or_ge x.size (p + 1 + 2 + 1) with h2 | h2
 ·rw [number_short x (p + 1 + 2) 1 h1 h2]
  exact ⟨_,by simp [number_bad,sized,take_bad];rfl,rfl⟩
 rw [number_ok x (p + 1 + 2) 1 (by omega) (by omega),Option.bind_some]
 simp only
 rcases Nat.lt_or_ge x.size (p + 1 + 2 + 1 + 2) with h3 | h3
 ·rw [number_short x (p + 1 + 2 + 1) 2 h2 h3]
  exact ⟨_,by simp [number_bad,sized,take_bad];rfl,rfl⟩
 rw [number_ok x (p + 1 + 2 + 1) 2 (by omega) (by omega),Option.bind_some]
 simp only
 rcases Nat.lt_or_ge x.size (p + 1 + 2 + 1 + 2 + 1) with h4 | h4
 ·rw [sized,number_short x (p + 1 + 2 + 1 + 2) 1 h3 h4]
  exact ⟨_,by simp [take_bad];rfl,rfl⟩
 rw [sized,number_ok x (p + 1 + 2 + 1 + 2) 1 (by omega) (by omega),Option.bind_some]
 simp only
 have hb := bt_range x (p + 6 : Nat)
 have e6 : numM (x.extract (p + 1 + 2 + 1 + 2) (p + 1 + 2 + 1 + 2 + 1)) = ((rN x p : Nat) : Int) := by
  rw [numM_one x _ (by omega)]
  unfold rN
  rw [Int.toNat_of_nonneg hb.1]
 rw [e6,take_short x (p + 1 + 2 + 1 + 2 + 1) (rN x p) h4 (by omega)]
 exact ⟨_,rfl,rfl⟩
def rFits (x : ByteArray) (p : Nat) : Bool := decide (p + 7 + rN x p = x.size)
abbrev Req6 := Int × Int × Int × Int × ByteArray × Bool
def rYes (x : ByteArray) (p : Nat) : Req6 := (bt x p,numM (x.extract (p + 1) (p + 3)),bt x (p + 3 : Nat),numM (x.extract (p + 4) (p + 6)),x.extract (p + 7) (p + 7 + rN x p),true)
theorem spec_l02ReadRequest_v (x : ByteArray) (hx : x.size ≤ 9223372036854775000) : ∃ r : Req6,Zl.v x = some r ∧ (((rFits x 0 && rB x 0) = true ∧ r = rYes x 0) ∨ ((rFits x 0 && rB x 0) = false ∧ r.2.2.2.2.2 = false)) := by
 rw [Zl.v_eq]
 by_cases h7 : (x.size : Int) < 7
 ·rw [if_pos h7,Zl.jv0_eq,if_pos rfl]
  refine ⟨_,rfl,.inr ⟨?_,rfl⟩⟩
  have : rFits x 0 = false := by unfold rFits;simp;omega
  rw [this];rfl
 have hN : bt x 6 = ((rN x 0 : Nat) : Int) := by unfold rN;rw [Int.toNat_of_nonneg (bt_range x _).1];rfl
 have hNr : rN x 0 ≤ 255 := by have := bt_range x 6;omega
 have w1 : wrap64 (7 + ((rN x 0 : Nat) : Int)) = ((7 + rN x 0 : Nat) : Int) := by rw [wrap_id (by omega) (by omega)];omega
 rw [if_neg h7,if_pos (by omega),Zl.jv0_eq,wrap_bt,hN,w1]
 clear w1
 by_cases h8 : (x.size : Int) = ((7 + rN x 0 : Nat) : Int)
 ·have c1 : (0 : Int) < x.size := by omega
  have c2 : (3 : Int) ≤ x.size := by omega
  have c3 : (3 : Int) < x.size := by omega
  have c4 : (6 : Int) ≤ x.size := by omega
  have c5 : (7 : Int) ≤ x.size := by omega
  have d5 := spec_l02Of_v (x.extract 1 3) (by rw [ByteArray.size_extract];omega)
  have d6 := spec_l02Of_v (x.extract 4 6) (by rw [ByteArray.size_extract];omega)
  have hne : ((x.size : Int) != ((7 + rN x 0 : Nat) : Int)) = false := by simp [h8]
  simp only [hne,Bool.false_eq_true,if_false,if_pos c1,if_pos c2,if_pos c3,if_pos c4,if_pos c5,if_pos (show (1 : Int) ≤ 3 by omega),if_pos (show (4 : Int) ≤ 6 by omega),d5,d6,wrap_bt,Option.bind_some]
  rw [spec_RequestOK_v _ _ _ _ _ (by rw [ByteArray.size_extract];omega),Option.bind_some]
  have e7 : x.extract 7 x.size = x.extract (0 + 7) (0 + 7 + rN x 0) := by rw [show x.size = 0 + 7 + rN x 0 by omega]
  refine ⟨_,rfl,?_⟩
  have hf : rFits x 0 = true := by unfold rFits;simp;omega
  cases hq : rB x 0
  ·exact .inr ⟨by simp,by rw [e7];exact hq⟩
  ·refine .inl ⟨by rw [hf];rfl,?_⟩
   have hq2 : reqB (bt x 0) (numM (x.extract 1 3)) (bt x 3) (numM (x.extract 4 6)) (x.extract 7 x.size) = true := by rw [e7];exact hq
   rw [hq2,e7]
   rfl
 ·rw [if_pos (by simpa using h8)]
  refine ⟨_,rfl,.inr ⟨?_,rfl⟩⟩
  have : rFits x 0 = false := by unfold rFits;simp;omega
  rw [this];rfl
def readingB (f v : Int) (m : ByteArray) : Bool := inB f 0 6 && (inB v 0 1000000000 && decide (m.size = 8))
theorem size_beq (m : ByteArray) (n : Nat) : ((m.size : Int) == (n : Int)) = decide (m.size = n) := by
 rw [Bool.eq_iff_iff,beq_iff_eq,decide_eq_true_eq];omega
theorem impl_isReading_v (f v : Int) (m : ByteArray) : ZU.v f v m = some (readingB f v m) := by
 rw [ZU.v_eq,impl_within_v,impl_within_v];unfold readingB
 have := size_beq m 8
 cases inB f 0 6 <;> cases inB v 0 1000000000 <;> simp_all
theorem spec_l02Reading_v (f v : Int) (m : ByteArray) : ZR.v f v m = some (readingB f v m) := by
 rw [ZR.v_eq,spec_l01In_v,spec_l01In_v];unfold readingB
 have := size_beq m 8
 cases inB f 0 6 <;> cases inB v 0 1000000000 <;> simp_all
theorem batch_loop (n : Bool) (a b c d : Int) (e : ByteArray) (rs : List S76) (hl : rs.length ≤ 1000000) : ∀ k i : Nat,rs.length - i = k → i ≤ rs.length →
  ∃ r,Zj.lv0 rs rs.length i n a b c d e rs = some r ∧ Ze.lv0 i n a b c d e rs = some r
 | 0,i,h,hi => by
  refine ⟨true,?_,?_⟩
  ·rw [Zj.lv0_eq,if_neg (by omega)]
  ·rw [Ze.lv0_eq,if_neg (by omega)]
 | k + 1,i,h,hi => by
  obtain ⟨r,e1,e2⟩ := batch_loop n a b c d e rs hl k (i + 1) (by omega) (by omega)
  have hw : wrap64 ((i : Int) + 1) = ((i + 1 : Nat) : Int) := by rw [wrap_id (by omega) (by omega)];omega
  have c1 : (i : Int) < (rs.length : Int) := by omega
  have c2 : (0 : Int) ≤ (i : Int) := by omega
  rw [Zj.lv0_eq,Ze.lv0_eq]
  simp only [if_pos c1,if_pos c2,impl_isReading_v,spec_l02Reading_v,Option.bind_some,hw,e1,e2]
  clear hw
  cases readingB ((rd_T76 rs i).f0) ((rd_T76 rs i).f1) ((rd_T76 rs i).f2)
  ·exact ⟨false,rfl,rfl⟩
  ·simp only [if_true]
   by_cases h0 : (i : Int) > 0
   ·have hw : wrap64 ((i : Int) - 1) = (i : Int) - 1 := wrap_id (by omega) (by omega)
    have c3 : (0 : Int) ≤ (i : Int) - 1 := by omega
    have c4 : (i : Int) - 1 < (rs.length : Int) := by omega
    simp only [if_pos h0,hw,if_pos c3,if_pos c4]
    split
    ·exact ⟨false,rfl,rfl⟩
    ·exact ⟨r,rfl,rfl⟩
   ·simp only [if_neg h0]
    exact ⟨r,rfl,rfl⟩
theorem batch_both (n : Bool) (a b c d : Int) (e : ByteArray) (rs : List S76) (he : e.size ≤ 9223372036854775807) :
  ∃ r,Zj.v n a b c d e rs = some r ∧ Ze.v n a b c d e rs = some r ∧ (n = false → reqB a b c d e = false → r = false) ∧ (n = false → rs.length > 7 → r = false) := by
 rw [Zj.v_eq,Ze.v_eq]
 cases n
 ·rw [if_neg (by simp),if_neg (by simp),impl_RequestOK_v _ _ _ _ _ he,spec_RequestOK_v _ _ _ _ _ he,Option.bind_some,Option.bind_some]
  cases reqB a b c d e
  ·refine ⟨false,?_,?_,fun _ _ => rfl,fun _ _ => rfl⟩
   ·rw [if_neg (by simp),Zj.jv0_eq,if_pos rfl]
   ·rw [if_neg (by simp),Ze.jv0_eq,if_pos rfl]
  ·rw [if_pos rfl,if_pos rfl,Zj.jv0_eq,Ze.jv0_eq]
   by_cases h7 : (rs.length : Int) > 7
   ·rw [if_pos (decide_eq_true h7),if_pos (decide_eq_true h7)]
    exact ⟨false,rfl,rfl,fun _ _ => rfl,fun _ _ => rfl⟩
   ·rw [if_neg (by simpa using h7),if_neg (by simpa using h7)]
    obtain ⟨r,e1,e2⟩ := batch_loop false a b c d e rs (by omega) rs.length 0 (by omega) (by omega)
    exact ⟨r,e1,e2,(fun _ h => by cases h),fun _ h => by omega⟩
 ·rw [if_pos rfl,if_pos rfl]
  split
  ·exact ⟨_,rfl,rfl,(fun h => by cases h),fun h => by cases h⟩
  ·exact ⟨_,rfl,rfl,(fun h => by cases h),fun h => by cases h⟩
abbrev Batch8 := Bool × Int × Int × Int × Int × ByteArray × List S76 × Bool
def bNo : Batch8 := (false,0,0,0,0,⟨#[]⟩,[],false)
def bAgree (r s : Batch8) : Prop := (r = s ∧ r.2.2.2.2.2.2.2 = true) ∨ (r = bNo ∧ s.2.2.2.2.2.2.2 = false)
theorem batch_end (y : ByteArray) (hy : y.size ≤ 1048576) (m n : Int) (hm : 0 ≤ m) (acc : List S76) :
  ∃ r s : Batch8,Zm.lv0 m n n y false false 0 0 0 0 ⟨#[]⟩ acc = some r ∧
   ((Zl.v y).bind fun q => if q.2.2.2.2.2 = true then ((Ze.v false q.1 q.2.1 q.2.2.1 q.2.2.2.1 q.2.2.2.2.1 acc).bind fun t => (some (false,q.1,q.2.1,q.2.2.1,q.2.2.2.1,q.2.2.2.2.1,acc,t) : Option Batch8)) else some (false,q.1,q.2.1,q.2.2.1,q.2.2.2.1,q.2.2.2.2.1,acc,false)) = some s ∧ bAgree r s ∧ (r.2.2.2.2.2.2.1 = acc ∨ r = bNo) := by
 obtain ⟨q,e,h2⟩ := spec_l02ReadRequest_v y (by omega)
 rw [Zm.lv0_eq,if_neg (by omega),e,Option.bind_some]
 clear e
 rcases Decidable.em (0 + 7 + rN y 0 ≤ y.size) with h3 | h3
 ·have hi := impl_request_ok y 0 h3
  rw [← at_zero y] at hi
  rw [hi,Option.bind_some]
  clear hi
  simp only
  rw [if_neg (by omega),done_at y _ h3,Option.bind_some]
  simp only
  by_cases h4 : 0 + 7 + rN y 0 = y.size
  ·rw [if_pos (decide_eq_true h4)]
   obtain ⟨b,b1,b2,b3,_⟩ := batch_both false (bt y ((0 : Nat) : Int)) (numM (y.extract (0 + 1) (0 + 3))) (bt y ((0 + 3 : Nat) : Int)) (numM (y.extract (0 + 4) (0 + 6))) (y.extract (0 + 7) (0 + 7 + rN y 0)) acc (by rw [ByteArray.size_extract];omega)
   rw [b1,Option.bind_some]
   have hf : rFits y 0 = true := by unfold rFits;exact decide_eq_true h4
   rcases h2 with ⟨h2,rfl⟩ | ⟨h2,h5⟩
   ·have e3 : (rYes y 0).2.2.2.2.2 = true := rfl
    have e4 : Ze.v false (rYes y 0).1 (rYes y 0).2.1 (rYes y 0).2.2.1 (rYes y 0).2.2.2.1 (rYes y 0).2.2.2.2.1 acc = some b := b2
    rw [if_pos e3,e4,Option.bind_some]
    cases b
    ·exact ⟨_,_,rfl,rfl,.inr ⟨rfl,rfl⟩,.inr rfl⟩
    ·exact ⟨_,_,rfl,rfl,.inl ⟨rfl,rfl⟩,.inl rfl⟩
   ·have hb : rB y 0 = false := by rw [hf] at h2;exact h2
    have hb2 : b = false := b3 rfl hb
    subst hb2
    rw [h5]
    exact ⟨_,_,rfl,rfl,.inr ⟨rfl,rfl⟩,.inr rfl⟩
  ·rw [if_neg (show ¬ decide (0 + 7 + rN y 0 = y.size) = true by rw [decide_eq_false h4];simp)]
   have hf : rFits y 0 = false := by unfold rFits;exact decide_eq_false h4
   rcases h2 with ⟨h2,_⟩ | ⟨h2,h5⟩
   ·rw [hf] at h2;cases h2
   ·rw [h5];exact ⟨_,_,rfl,rfl,.inr ⟨rfl,rfl⟩,.inr rfl⟩
 ·obtain ⟨w,e2,e3⟩ := impl_request_short y 0 (by omega) (.inr (by omega))
  rw [← at_zero y] at e2
  rw [e2,Option.bind_some,if_neg (by omega),e3,done_bad,Option.bind_some]
  have hf : rFits y 0 = false := by unfold rFits;exact decide_eq_false (by omega)
  rcases h2 with ⟨h2,_⟩ | ⟨h2,h5⟩
  ·rw [hf] at h2;cases h2
  ·rw [h5];exact ⟨_,_,rfl,rfl,.inr ⟨rfl,rfl⟩,.inr rfl⟩
theorem batch_many (y : ByteArray) (hy : y.size ≤ 1048576) (acc : List S76) (ha : acc.length > 7) :
  ∃ s : Batch8,((Zl.v y).bind fun q => if q.2.2.2.2.2 = true then ((Ze.v false q.1 q.2.1 q.2.2.1 q.2.2.2.1 q.2.2.2.2.1 acc).bind fun t => (some (false,q.1,q.2.1,q.2.2.1,q.2.2.2.1,q.2.2.2.2.1,acc,t) : Option Batch8)) else some (false,q.1,q.2.1,q.2.2.1,q.2.2.2.1,q.2.2.2.2.1,acc,false)) = some s ∧ s.2.2.2.2.2.2.2 = false := by
 obtain ⟨q,e,h2⟩ := spec_l02ReadRequest_v y (by omega)
 rw [e,Option.bind_some]
 rcases h2 with ⟨h2,rfl⟩ | ⟨h2,h5⟩
 ·obtain ⟨b,b1,b2,b3,b4⟩ := batch_both false (rYes y 0).1 (rYes y 0).2.1 (rYes y 0).2.2.1 (rYes y 0).2.2.2.1 (rYes y 0).2.2.2.2.1 acc (by show (y.extract (0 + 7) (0 + 7 + rN y 0)).size ≤ _;rw [ByteArray.size_extract];omega)
  have e3 : (rYes y 0).2.2.2.2.2 = true := rfl
  rw [if_pos e3,b2,b4 rfl ha,Option.bind_some]
  exact ⟨_,rfl,rfl⟩
 ·rw [h5];exact ⟨_,rfl,rfl⟩
def rdL (x : ByteArray) : Nat → Nat → List S76
 | _,0 => []
 | p,c + 1 => ⟨bt x p,numM (x.extract (p + 1) (p + 5)),x.extract (p + 5) (p + 13)⟩ :: rdL x (p + 13) c
theorem rdL_len (x : ByteArray) : ∀ (c p : Nat),(rdL x p c).length = c
 | 0,p => rfl
 | c + 1,p => by simp [rdL,rdL_len x c]
theorem batch_impl (x : ByteArray) (m n : Int) (hn : n ≤ 1000) : ∀ (c p i : Nat) (acc : List S76),n - i = c → i ≤ 1000 → acc.length = i → p + 13 * c ≤ x.size →
  Zm.lv0 m n i (x.extract p x.size) false false 0 0 0 0 ⟨#[]⟩ acc = Zm.lv0 m n n (x.extract (p + 13 * c) x.size) false false 0 0 0 0 ⟨#[]⟩ (acc ++ rdL x p c)
 | 0,p,i,acc,h,hi,ha,hp => by
  have : n = i := by omega
  subst this
  simp [rdL]
 | c + 1,p,i,acc,h,hi,ha,hp => by
  have ih := batch_impl x m n hn c (p + 13) (i + 1) (acc ++ [⟨bt x p,numM (x.extract (p + 1) (p + 5)),x.extract (p + 5) (p + 13)⟩]) (by omega) (by omega) (by simp [ha]) (by omega)
  have hw : wrap64 ((i : Int) + 1) = ((i + 1 : Nat) : Int) := by rw [wrap_id (by omega) (by omega)];omega
  rw [Zm.lv0_eq,if_pos (by omega),hw]
  clear hw
  rw [show (1 : Int) = ((1 : Nat) : Int) from rfl,show (4 : Int) = ((4 : Nat) : Int) from rfl,show (8 : Int) = ((8 : Nat) : Int) from rfl]
  rw [number_ok x p 1 (by omega) (by omega),Option.bind_some]
  simp only
  rw [number_ok x (p + 1) 4 (by omega) (by omega),Option.bind_some]
  simp only
  rw [take_ok x (p + 1 + 4) 8 (by omega),Option.bind_some]
  simp only
  rw [if_pos (by omega),numM_one x p (by omega)]
  rw [show p + 13 * (c + 1) = p + 13 + 13 * c by omega]
  show _ = Zm.lv0 m n n (x.extract (p + 13 + 13 * c) x.size) false false 0 0 0 0 ⟨#[]⟩ (acc ++ (⟨bt x p,numM (x.extract (p + 1) (p + 5)),x.extract (p + 5) (p + 13)⟩ :: rdL x (p + 13) c))
  rw [List.append_assoc] at ih
  exact ih
theorem batch_bad (m n : Int) (hn : n ≤ 1000) : ∀ (c i : Nat) (t : ByteArray) (acc : List S76),n - i = c → i ≤ 1000 → acc.length ≤ i →
  Zm.lv0 m n i t true false 0 0 0 0 ⟨#[]⟩ acc = some bNo
 | 0,i,t,acc,h,hi,ha => by
  rw [Zm.lv0_eq,if_neg (by omega),impl_request_bad,Option.bind_some]
  simp only [done_bad,Option.bind_some]
  split <;> rfl
 | c + 1,i,t,acc,h,hi,ha => by
  have ih := batch_bad m n hn c (i + 1)
  have hw : wrap64 ((i : Int) + 1) = ((i + 1 : Nat) : Int) := by rw [wrap_id (by omega) (by omega)];omega
  rw [Zm.lv0_eq,if_pos (by omega),hw]
  clear hw
  rw [number_bad,Option.bind_some]
  simp only
  rw [number_bad,Option.bind_some]
  simp only
  rw [take_bad,Option.bind_some]
  simp only
  rw [if_pos (by omega)]
  exact ih _ _ (by omega) (by omega) (by simp;omega)
theorem batch_short (x : ByteArray) (m n : Int) (hn : n ≤ 1000) : ∀ (c p i : Nat) (acc : List S76),n - i = c → i ≤ 1000 → acc.length ≤ i → p ≤ x.size → x.size < p + 13 * c →
  Zm.lv0 m n i (x.extract p x.size) false false 0 0 0 0 ⟨#[]⟩ acc = some bNo
 | 0,p,i,acc,h,hi,ha,hp,hs => by omega
 | c + 1,p,i,acc,h,hi,ha,hp,hs => by
  have ih := batch_short x m n hn c (p + 1 + 4 + 8) (i + 1)
  have hb := batch_bad m n hn c (i + 1)
  have hw : wrap64 ((i : Int) + 1) = ((i + 1 : Nat) : Int) := by rw [wrap_id (by omega) (by omega)];omega
  rw [Zm.lv0_eq,if_pos (by omega),hw]
  clear hw
  rw [show (1 : Int) = ((1 : Nat) : Int) from rfl,show (4 : Int) = ((4 : Nat) : Int) from rfl,show (8 : Int) = ((8 : Nat) : Int) from rfl]
  rcases Nat.lt_or_ge x.size (p + 1) with h0 | h0
  ·rw [number_short x p 1 hp h0,Option.bind_some]
   simp only
   rw [number_bad,Option.bind_some]
   simp only
   rw [take_bad,Option.bind_some]
   simp only
   rw [if_pos (by omega)]
   exact hb _ _ (by omega) (by omega) (by simp;omega)
  rw [number_ok x p 1 (by omega) (by omega),Option.bind_some]
  simp only
  rcases Nat.lt_or_ge x.size (p + 1 + 4) with h1 | h1
  ·rw [number_short x (p + 1) 4 h0 h1,Option.bind_some]
   simp only
   rw [take_bad,Option.bind_some]
   simp only
   rw [if_pos (by omega)]
   exact hb _ _ (by omega) (by omega) (by simp;omega)
  rw [number_ok x (p + 1) 4 (by omega) (by omega),Option.bind_some]
  simp only
  rcases Nat.lt_or_ge x.size (p + 1 + 4 + 8) with h2 | h2
  ·rw [take_short x (p + 1 + 4) 8 h1 h2,Option.bind_some]
   simp only
   rw [if_pos (by omega)]
   exact hb _ _ (by omega) (by omega) (by simp;omega)
  rw [take_ok x (p + 1 + 4) 8 (by omega),Option.bind_some]
  simp only
  rw [if_pos (by omega)]
  exact ih _ (by omega) (by omega) (by simp;omega) (by omega) (by omega)
theorem bt_extract (x : ByteArray) (a b i : Nat) (h : i < b - a) (h2 : b ≤ x.size) : bt (x.extract a b) i = bt x (a + i : Nat) := by
 have h3 : i < (x.extract a b).size := by rw [ByteArray.size_extract];omega
 unfold bt
 rw [dif_pos (by rw [Int.toNat_natCast];exact h3),dif_pos (by rw [Int.toNat_natCast];omega)]
 simp only [Int.toNat_natCast,ByteArray.getElem_extract]
theorem batch_spec (x : ByteArray) (hx : x.size ≤ 1048576) (n : Nat) (h1 : 1 ≤ n) (hn : n ≤ 255) (hs : 1 + 13 * (n - 1) ≤ x.size) : ∀ (c i : Nat) (acc : List S76),n - 1 - i = c → i ≤ n - 1 → acc.length = i →
  Zg.lv0 x n i false 0 0 0 0 ⟨#[]⟩ acc = Zg.lv0 x n (n - 1 : Nat) false 0 0 0 0 ⟨#[]⟩ (acc ++ rdL x (1 + 13 * i) c)
 | 0,i,acc,h,hi,ha => by
  have : i = n - 1 := by omega
  subst this
  simp [rdL]
 | c + 1,i,acc,h,hi,ha => by
  have ih := batch_spec x hx n h1 hn hs c (i + 1) (acc ++ [⟨bt x (1 + 13 * i : Nat),numM (x.extract (1 + 13 * i + 1) (1 + 13 * i + 5)),x.extract (1 + 13 * i + 5) (1 + 13 * i + 13)⟩]) (by omega) (by omega) (by simp [ha])
  have w1 : wrap64 ((i : Int) + 1) = ((i + 1 : Nat) : Int) := by rw [wrap_id (by omega) (by omega)];omega
  have w2 : wrap64 ((n : Int) - 1) = ((n - 1 : Nat) : Int) := by rw [wrap_id (by omega) (by omega)];omega
  have w3 : wrap64 (13 * (i : Int)) = ((13 * i : Nat) : Int) := by rw [wrap_id (by omega) (by omega)];omega
  have w4 : wrap64 (1 + ((13 * i : Nat) : Int)) = ((1 + 13 * i : Nat) : Int) := by rw [wrap_id (by omega) (by omega)];omega
  have w5 : wrap64 (14 + ((13 * i : Nat) : Int)) = ((14 + 13 * i : Nat) : Int) := by rw [wrap_id (by omega) (by omega)];omega
  rw [Zg.lv0_eq]
  simp only [w1,w2,w3,w4,w5,Int.toNat_natCast]
  clear w1 w2 w3 w4 w5
  have c1 : ((i : Int) < ((n - 1 : Nat) : Int)) := by omega
  have c2 : (0 : Int) ≤ ((1 + 13 * i : Nat) : Int) := by omega
  have c3 : ((1 + 13 * i : Nat) : Int) ≤ ((14 + 13 * i : Nat) : Int) := by omega
  have c4 : ((14 + 13 * i : Nat) : Int) ≤ (x.size : Int) := by omega
  have sz : (x.extract (1 + 13 * i) (14 + 13 * i)).size = 13 := by rw [ByteArray.size_extract];omega
  have d13 : 14 + 13 * i - (1 + 13 * i) = 13 := by omega
  simp only [if_pos c1,if_pos c2,if_pos c3,if_pos c4,sz,d13]
  rw [if_pos (by omega),if_pos (by omega),if_pos (by omega)]
  rw [extract_sub x _ _ 1 5 (by omega),extract_sub x _ _ 5 13 (by omega),spec_l02Of_v _ (by rw [ByteArray.size_extract];omega),Option.bind_some,if_pos (by omega),wrap_bt,show bt (x.extract (1 + 13 * i) (14 + 13 * i)) 0 = bt x (1 + 13 * i : Nat) from bt_extract x (1 + 13 * i) (14 + 13 * i) 0 (by omega) (by omega)]
  rw [show 1 + 13 * (i + 1) = 1 + 13 * i + 13 by omega] at ih
  show _ = Zg.lv0 x n (n - 1 : Nat) false 0 0 0 0 ⟨#[]⟩ (acc ++ (⟨bt x (1 + 13 * i : Nat),numM (x.extract (1 + 13 * i + 1) (1 + 13 * i + 5)),x.extract (1 + 13 * i + 5) (1 + 13 * i + 13)⟩ :: rdL x (1 + 13 * i + 13) c))
  rw [List.append_assoc] at ih
  exact ih
theorem readBatch_nil (x : ByteArray) (h0 : x.size = 0) : Zm.v x = some bNo := by
 have e1 : x.toList = [] := by rw [ba_toList];exact List.length_eq_zero_iff.1 (by rw [Array.length_toList];exact h0)
 have hn : Zd.v x false 1 = some (0,x,true) := by
  have hn := number_short x 0 1 (by omega) (by omega)
  rwa [← at_zero x] at hn
 have w : wrap64 (0 - 1) = -1 := by rw [wrap_id (by omega) (by omega)];rfl
 rw [Zm.v_eq,if_neg (by rw [e1];simp),hn,Option.bind_some]
 simp only [w]
 rw [if_neg (by omega)]
 exact batch_bad (-1) 0 (by omega) 0 0 x [] (by omega) (by omega) (by simp)
theorem toList_nil (x : ByteArray) (h : x.toList = []) : x.size = 0 := by
 rw [ba_toList] at h
 have := congrArg List.length h
 rw [Array.length_toList] at this
 exact this
theorem toList_zero (x : ByteArray) : x.toList = [0] ↔ x.size = 1 ∧ bt x 0 = 0 := by
 rw [ba_toList]
 constructor
 ·intro h
  have h1 : x.size = 1 := by have := congrArg List.length h;rwa [Array.length_toList] at this
  refine ⟨h1,?_⟩
  have h2 : x.data.toList[0]? = some 0 := by rw [h];rfl
  unfold bt
  rw [dif_pos (by rw [h1];decide)]
  rw [Array.getElem?_toList,Array.getElem?_eq_getElem (by show 0 < x.size;omega)] at h2
  injection h2 with h2
  show (((x.data[0]'(by show 0 < x.size;omega)).toNat : Nat) : Int) = 0
  rw [h2];rfl
 ·rintro ⟨h1,h2⟩
  apply List.ext_getElem?
  intro i
  rcases Nat.lt_or_ge i 1 with h | h
  ·have : i = 0 := by omega
   subst this
   unfold bt at h2
   rw [dif_pos (by rw [h1];decide)] at h2
   rw [Array.getElem?_toList,Array.getElem?_eq_getElem (by show 0 < x.size;omega)]
   have h3 : (x.data[0]'(by show 0 < x.size;omega)).toNat = 0 := by
    have h4 : (((x.data[0]'(by show 0 < x.size;omega)).toNat : Nat) : Int) = 0 := h2
    omega
   have h5 : x.data[0]'(by show 0 < x.size;omega) = 0 := UInt8.toNat_inj.1 h3
   rw [h5];rfl
  ·rw [List.getElem?_eq_none (by rw [Array.length_toList];show x.size ≤ i;omega),List.getElem?_eq_none (by simp;omega)]
theorem readBatch_both (x : ByteArray) (hx : x.size ≤ 1048576) : ∃ r s : Batch8,Zm.v x = some r ∧ Zg.v x = some s ∧ bAgree r s ∧ r.2.2.2.2.2.2.1.length ≤ 1000 := by
 by_cases h0 : x.size = 0
 ·have e1 : x.toList = [] := by rw [ba_toList];exact List.length_eq_zero_iff.1 (by rw [Array.length_toList];exact h0)
  rw [readBatch_nil x h0,Zg.v_eq,if_pos e1]
  exact ⟨_,_,rfl,rfl,.inr ⟨rfl,rfl⟩,by simp [bNo]⟩
 ·have e1 : ¬ x.toList = [] := fun h => h0 (toList_nil x h)
  have hn : Zd.v x false 1 = some (bt x 0,x.extract (0 + 1) x.size,false) := by
   have hn := number_ok x 0 1 (by omega) (by omega)
   rw [← at_zero x,numM_one x 0 (by omega)] at hn
   exact hn
  have hr := bt_range x 0
  have hz := toList_zero x
  rw [Zg.v_eq,if_neg e1,if_pos (by omega)]
  simp only [wrap_bt]
  rw [Zm.v_eq,hn,Option.bind_some]
  clear hn
  obtain ⟨n,hb⟩ : ∃ n : Nat,bt x 0 = n := ⟨(bt x 0).toNat,by omega⟩
  rw [hb] at hr hz
  simp only [hb]
  by_cases h1 : n = 0
  ·subst h1
   rw [if_pos (show ((0 : Nat) : Int) = 0 from rfl)]
   by_cases h2 : x.size = 1
   ·rw [if_pos (hz.2 ⟨h2,rfl⟩)]
    refine ⟨_,_,rfl,rfl,.inl ⟨?_,rfl⟩,by simp⟩
    rw [h2];rfl
   ·rw [if_neg (fun h => h2 (hz.1 h).1)]
    have w : wrap64 (((0 : Nat) : Int) - 1) = -1 := by rw [wrap_id (by omega) (by omega)];rfl
    rw [w,if_neg (by omega)]
    have hm : mx (-1) 0 = 0 := rfl
    have h3 : ((x.size : Int) == 1) = false := by rw [beq_eq_false_iff_ne];omega
    rw [hm,h3,Zm.lv0_eq,if_neg (by omega)]
    have hsz : ∃ q : Req7,ZE.v (x.extract (0 + 1) x.size) false = some q := by
     rcases Decidable.em (1 + 7 + rN x 1 ≤ x.size) with h4 | h4
     ·exact ⟨_,impl_request_ok x 1 h4⟩
     ·obtain ⟨w,e2,_⟩ := impl_request_short x 1 (by omega) (.inr (by omega))
      exact ⟨w,e2⟩
    obtain ⟨q,e2⟩ := hsz
    rw [e2,Option.bind_some,if_pos (by omega)]
    exact ⟨_,_,rfl,rfl,.inr ⟨rfl,rfl⟩,by simp [bNo]⟩
  ·have h2 : ¬ x.toList = [0] := fun h => h1 (by have := (hz.1 h).2;omega)
   have w1 : wrap64 ((n : Int) - 1) = ((n - 1 : Nat) : Int) := by rw [wrap_id (by omega) (by omega)];omega
   have w2 : wrap64 (13 * ((n - 1 : Nat) : Int)) = ((13 * (n - 1) : Nat) : Int) := by rw [wrap_id (by omega) (by omega)];omega
   have w3 : wrap64 (1 + ((13 * (n - 1) : Nat) : Int)) = ((1 + 13 * (n - 1) : Nat) : Int) := by rw [wrap_id (by omega) (by omega)];omega
   rw [if_neg h2,if_neg (show ¬ ((n : Int) = 0) by omega)]
   simp only [w1,w2,w3]
   have hm : mx ((n - 1 : Nat) : Int) 0 = ((n - 1 : Nat) : Int) := by unfold mx;split <;> omega
   rw [hm]
   by_cases h3 : (x.size : Int) < ((1 + 13 * (n - 1) : Nat) : Int)
   ·rw [if_pos h3]
    split
    ·exact ⟨_,_,rfl,rfl,.inr ⟨rfl,rfl⟩,by simp [bNo]⟩
    ·clear w1 w2 w3
     have h5 := batch_short x ((n - 1 : Nat) : Int) ((n - 1 : Nat) : Int) (by omega) (n - 1) 1 0 [] (by omega) (by omega) (by simp) (by omega) (by omega)
     exact ⟨_,_,h5,rfl,.inr ⟨rfl,rfl⟩,by simp [bNo]⟩
   ·rw [if_neg h3]
    have h6 := batch_spec x hx n (by omega) (by omega) (by clear w1 w2 w3;omega) (n - 1) 0 [] (by omega) (by omega) rfl
    have h6' : Zg.lv0 x (n : Int) 0 false 0 0 0 0 ⟨#[]⟩ [] = Zg.lv0 x n (n - 1 : Nat) false 0 0 0 0 ⟨#[]⟩ (rdL x 1 (n - 1)) := h6
    rw [h6',Zg.lv0_eq]
    simp only [w1,w2,w3,Int.toNat_natCast]
    clear w1 w2 w3
    have c1 : ¬ (((n - 1 : Nat) : Int) < ((n - 1 : Nat) : Int)) := by omega
    have c2 : (0 : Int) ≤ ((1 + 13 * (n - 1) : Nat) : Int) := by omega
    have c3 : ((1 + 13 * (n - 1) : Nat) : Int) ≤ (x.size : Int) := by omega
    simp only [if_neg c1,if_pos c2,if_pos c3]
    have hy : (x.extract (1 + 13 * (n - 1)) x.size).size ≤ 1048576 := by rw [ByteArray.size_extract];omega
    by_cases h7 : ((n - 1 : Nat) : Int) > 7
    ·obtain ⟨s,e6,e7⟩ := batch_many _ hy (rdL x 1 (n - 1)) (by rw [rdL_len];omega)
     rw [e6,if_pos h7]
     exact ⟨_,_,rfl,rfl,.inr ⟨rfl,e7⟩,by simp [bNo]⟩
    obtain ⟨r,s,e5,e6,e7,e8⟩ := batch_end (x.extract (1 + 13 * (n - 1)) x.size) hy ((n - 1 : Nat) : Int) ((n - 1 : Nat) : Int) (by omega) (rdL x 1 (n - 1))
    rw [e6]
    ·rw [if_neg h7]
     have h8 := batch_impl x ((n - 1 : Nat) : Int) ((n - 1 : Nat) : Int) (by omega) (n - 1) 1 0 [] (by omega) (by omega) rfl (by omega)
     have h8' : Zm.lv0 ((n - 1 : Nat) : Int) ((n - 1 : Nat) : Int) 0 (x.extract (0 + 1) x.size) false false 0 0 0 0 ⟨#[]⟩ [] = Zm.lv0 ((n - 1 : Nat) : Int) ((n - 1 : Nat) : Int) ((n - 1 : Nat) : Int) (x.extract (1 + 13 * (n - 1)) x.size) false false 0 0 0 0 ⟨#[]⟩ (rdL x 1 (n - 1)) := h8
     rw [h8']
     refine ⟨r,s,e5,rfl,e7,?_⟩
     rcases e8 with e8 | rfl
     ·rw [e8,rdL_len];omega
     ·simp [bNo]
def reqL (c st k ls : Int) (nm : ByteArray) : List Int := beL c 1 ++ (beL st 2 ++ (beL k 1 ++ (beL ls 2 ++ (beL nm.size 1 ++ bytesOf nm))))
theorem reqL_len (c st k ls : Int) (nm : ByteArray) : (reqL c st k ls nm).length = 7 + nm.size := by
 unfold reqL
 simp only [List.length_append,beL_len,bytesOf_length]
 omega
theorem reqB_facts {c st k ls : Int} {nm : ByteArray} (h : reqB c st k ls nm = true) : 0 ≤ c ∧ c ≤ 255 ∧ 1 ≤ st ∧ st ≤ 65535 ∧ 1 ≤ k ∧ k ≤ 4 ∧ 0 ≤ ls ∧ ls ≤ 1000 ∧ nm.size ≤ 12 := by
 unfold reqB inB at h
 simp only [Bool.and_eq_true,decide_eq_true_eq] at h
 obtain ⟨⟨⟨⟨⟨h1,h2⟩,h3⟩,h4⟩,h5,_⟩,_⟩ := h
 omega
theorem drop_piece (x : ByteArray) (p k : Nat) (h : p + k ≤ x.size) : (bytesOf x).drop p = bytesOf (x.extract p (p + k)) ++ (bytesOf x).drop (p + k) := by
 rw [bytes_extract,← List.drop_drop,List.drop_take,show p + k - p = k by omega,List.take_append_drop]
theorem num_back (x : ByteArray) (p k : Nat) (h : p + k ≤ x.size) : beL (numM (x.extract p (p + k))) k = bytesOf (x.extract p (p + k)) := by
 unfold numM
 exact be_numL k _ (by rw [bytesOf_length,ByteArray.size_extract];omega) (byteL_bytes _)
theorem req_back (x : ByteArray) (p : Nat) (h : p + 7 + rN x p ≤ x.size) :
  (bytesOf x).drop p = reqL (bt x p) (numM (x.extract (p + 1) (p + 3))) (bt x (p + 3 : Nat)) (numM (x.extract (p + 4) (p + 6))) (x.extract (p + 7) (p + 7 + rN x p)) ++ (bytesOf x).drop (p + 7 + rN x p) := by
 have b1 := num_back x p 1 (by omega)
 have b2 := num_back x (p + 1) 2 (by omega)
 have b3 := num_back x (p + 3) 1 (by omega)
 have b4 := num_back x (p + 4) 2 (by omega)
 have b5 := num_back x (p + 6) 1 (by omega)
 rw [numM_one x p (by omega)] at b1
 rw [numM_one x (p + 3) (by omega)] at b3
 rw [numM_one x (p + 6) (by omega)] at b5
 have hr := bt_range x (p + 6 : Nat)
 have hN : ((x.extract (p + 7) (p + 7 + rN x p)).size : Int) = bt x (p + 6 : Nat) := by
  rw [ByteArray.size_extract]
  have : ((rN x p : Nat) : Int) = bt x (p + 6 : Nat) := by unfold rN;omega
  omega
 unfold reqL
 rw [hN,b1,b2,b3,b4,b5]
 rw [drop_piece x p 1 (by omega),drop_piece x (p + 1) 2 (by omega),drop_piece x (p + 1 + 2) 1 (by omega),drop_piece x (p + 1 + 2 + 1) 2 (by omega),drop_piece x (p + 1 + 2 + 1 + 2) 1 (by omega),drop_piece x (p + 1 + 2 + 1 + 2 + 1) (rN x p) (by omega)]
 simp only [List.append_assoc]
def rdT (r : S76) : List Int := beL r.f0 1 ++ (beL r.f1 4 ++ bytesOf r.f2)
def rdsL : List S76 → List Int
 | [] => []
 | r :: t => rdT r ++ rdsL t
theorem rdT_len (r : S76) : (rdT r).length = 5 + r.f2.size := by
 unfold rdT
 simp only [List.length_append,beL_len,bytesOf_length]
 omega
theorem rdsL_len : ∀ (rs : List S76),(∀ r ∈ rs,r.f2.size = 8) → (rdsL rs).length = 13 * rs.length
 | [],_ => rfl
 | r :: t,h => by
  show (rdT r ++ rdsL t).length = 13 * (t.length + 1)
  rw [List.length_append,rdT_len,rdsL_len t (fun q hq => h q (List.mem_cons_of_mem _ hq)),h r List.mem_cons_self]
  omega
def batL (n : Bool) (c st k ls : Int) (nm : ByteArray) (rs : List S76) : List Int :=
 if n = true then [0] else beL (1 + rs.length) 1 ++ (rdsL rs ++ reqL c st k ls nm)
theorem batL_len (c st k ls : Int) (nm : ByteArray) (rs : List S76) (h8 : ∀ r ∈ rs,r.f2.size = 8) : (batL false c st k ls nm rs).length = 8 + 13 * rs.length + nm.size := by
 unfold batL
 rw [if_neg (by simp)]
 simp only [List.length_append,beL_len,reqL_len,rdsL_len rs h8]
 omega
theorem batL_le (n : Bool) (c st k ls : Int) (nm : ByteArray) (rs : List S76) (h8 : ∀ r ∈ rs,r.f2.size = 8) : (batL n c st k ls nm rs).length ≤ 8 + 13 * rs.length + nm.size := by
 cases n
 ·rw [batL_len _ _ _ _ _ _ h8];omega
 ·show 1 ≤ _;omega
theorem rdT_get (rs : List S76) (i : Nat) (h : i < rs.length) : rd_T76 rs i = rs[i] := by
 unfold rd_T76
 rw [Int.toNat_natCast,List.getD_eq_getElem?_getD,List.getElem?_eq_getElem h]
 rfl
def rdOK (r : S76) : Prop := 0 ≤ r.f0 ∧ r.f0 ≤ 255 ∧ 0 ≤ r.f1 ∧ r.f1 ≤ 4294967295 ∧ r.f2.size = 8
theorem rds_back (x : ByteArray) : ∀ (c p : Nat),p + 13 * c ≤ x.size → (bytesOf x).drop p = rdsL (rdL x p c) ++ (bytesOf x).drop (p + 13 * c)
 | 0,p,h => rfl
 | c + 1,p,h => by
  have ih := rds_back x c (p + 13) (by omega)
  have b1 := num_back x p 1 (by omega)
  have b2 := num_back x (p + 1) 4 (by omega)
  rw [numM_one x p (by omega)] at b1
  have e : rdsL (rdL x p (c + 1)) = (beL (bt x p) 1 ++ (beL (numM (x.extract (p + 1) (p + 5))) 4 ++ bytesOf (x.extract (p + 5) (p + 13)))) ++ rdsL (rdL x (p + 13) c) := rfl
  rw [e,b1,show p + 5 = p + 1 + 4 by omega,b2]
  rw [drop_piece x p 1 (by omega),drop_piece x (p + 1) 4 (by omega),drop_piece x (p + 1 + 4) 8 (by omega),show p + 1 + 4 + 8 = p + 13 by omega,ih,show p + 13 + 13 * c = p + 13 * (c + 1) by omega]
  simp only [List.append_assoc]
def batOK (n : Bool) (c st k ls : Int) (nm : ByteArray) (rs : List S76) : Prop := Zj.v n c st k ls nm rs = some true
theorem isBatch_l (n : Bool) (c st k ls : Int) (nm : ByteArray) (rs : List S76) (hl : rs.length ≤ 1000) : ∀ (j i : Nat),rs.length - i = j → i ≤ rs.length → Zj.lv0 rs rs.length i n c st k ls nm rs = some true →
  ∀ r ∈ rs.drop i,readingB r.f0 r.f1 r.f2 = true
 | 0,i,hj,hi,h,r,hr => by rw [List.drop_eq_nil_of_le (by omega)] at hr;cases hr
 | j + 1,i,hj,hi,h,r,hr => by
  have hi2 : i < rs.length := by omega
  have w : wrap64 ((i : Int) + 1) = ((i + 1 : Nat) : Int) := by rw [wrap_id (by omega) (by omega)];omega
  rw [Zj.lv0_eq,w] at h
  clear w
  rw [if_pos (by omega),if_pos (by omega),if_pos (by omega),rdT_get rs i hi2,impl_isReading_v,Option.bind_some] at h
  cases hb : readingB rs[i].f0 rs[i].f1 rs[i].f2 with
  | false => rw [hb] at h;cases h
  | true =>
   rw [hb,if_pos rfl] at h
   have hn : Zj.lv0 rs rs.length (i + 1 : Nat) n c st k ls nm rs = some true := by
    by_cases h0 : (i : Int) > 0
    ·rw [if_pos h0] at h
     split at h
     ·split at h
      ·split at h
       ·cases h
       ·exact h
      ·cases h
     ·cases h
    ·rw [if_neg h0] at h;exact h
   rw [List.drop_eq_getElem_cons hi2] at hr
   rcases List.mem_cons.1 hr with rfl | hr
   ·exact hb
   ·exact isBatch_l n c st k ls nm rs hl j (i + 1) (by omega) (by omega) hn r hr
theorem batOK_facts {c st k ls : Int} {nm : ByteArray} {rs : List S76} (he : nm.size ≤ 9223372036854775807) (h : batOK false c st k ls nm rs) : reqB c st k ls nm = true ∧ rs.length ≤ 7 ∧ ∀ r ∈ rs,rdOK r := by
 unfold batOK at h
 rw [Zj.v_eq,if_neg (by simp),impl_RequestOK_v _ _ _ _ _ he,Option.bind_some] at h
 cases hq : reqB c st k ls nm with
 | false => rw [hq,if_neg (by simp),Zj.jv0_eq,if_pos rfl] at h;cases h
 | true =>
  rw [hq,if_pos rfl,Zj.jv0_eq] at h
  by_cases h7 : (rs.length : Int) > 7
  ·rw [if_pos (decide_eq_true h7)] at h;cases h
  ·rw [if_neg (by simpa using h7)] at h
   refine ⟨rfl,by omega,fun r hr => ?_⟩
   have := isBatch_l false c st k ls nm rs (by omega) rs.length 0 rfl (by omega) h r hr
   unfold readingB inB at this
   simp only [Bool.and_eq_true,decide_eq_true_eq] at this
   exact ⟨by omega,by omega,by omega,by omega,this.2.2⟩
theorem null_facts {c st k ls : Int} {nm : ByteArray} {rs : List S76} (h : batOK true c st k ls nm rs) : c = 0 ∧ st = 0 ∧ k = 0 ∧ ls = 0 ∧ nm = ⟨#[]⟩ ∧ rs = [] := by
 unfold batOK at h
 rw [Zj.v_eq,if_pos rfl] at h
 split at h
 ·rename_i hc
  simp only [Bool.and_eq_true,beq_iff_eq] at hc
  obtain ⟨h1,h2,h3,h4,h5⟩ := hc
  have h6 := Option.some.inj h
  rw [beq_iff_eq] at h6
  refine ⟨h1,h2,h3,h4,?_,List.length_eq_zero_iff.1 (by omega)⟩
  exact ba_inj.1 (h5.trans (ba_toList ⟨#[]⟩).symm)
 ·cases h
theorem null_ok : batOK true 0 0 0 0 ⟨#[]⟩ [] := by unfold batOK;rw [Zj.v_eq,ba_toList];rfl
theorem readBatch_inv (x : ByteArray) (hx : x.size ≤ 1048576) : ∃ r : Batch8,Zm.v x = some r ∧ (r.2.2.2.2.2.2.2 = true → batOK r.1 r.2.1 r.2.2.1 r.2.2.2.1 r.2.2.2.2.1 r.2.2.2.2.2.1 r.2.2.2.2.2.2.1 ∧ r.2.2.2.2.2.1.size ≤ 1048576 ∧ bytesOf x = batL r.1 r.2.1 r.2.2.1 r.2.2.2.1 r.2.2.2.2.1 r.2.2.2.2.2.1 r.2.2.2.2.2.2.1) := by
 by_cases h0 : x.size = 0
 ·exact ⟨_,readBatch_nil x h0,fun h => by cases h⟩
 ·have hn : Zd.v x false 1 = some (bt x 0,x.extract (0 + 1) x.size,false) := by
   have hn := number_ok x 0 1 (by omega) (by omega)
   rw [← at_zero x,numM_one x 0 (by omega)] at hn
   exact hn
  have hr := bt_range x 0
  have hz := toList_zero x
  rw [Zm.v_eq,hn,Option.bind_some]
  clear hn
  obtain ⟨n,hb⟩ : ∃ n : Nat,bt x 0 = n := ⟨(bt x 0).toNat,by omega⟩
  rw [hb] at hr hz
  simp only [hb]
  by_cases h1 : n = 0
  ·subst h1
   by_cases h2 : x.size = 1
   ·rw [if_pos (hz.2 ⟨h2,rfl⟩)]
    refine ⟨_,rfl,fun _ => ⟨null_ok,by show 0 ≤ _;omega,?_⟩⟩
    have h3 := hz.2 ⟨h2,rfl⟩
    rw [ba_toList] at h3
    show bytesOf x = [0]
    unfold bytesOf
    rw [h3]
    rfl
   ·rw [if_neg (fun h => h2 (hz.1 h).1)]
    have w : wrap64 (((0 : Nat) : Int) - 1) = -1 := by rw [wrap_id (by omega) (by omega)];rfl
    rw [w,if_neg (by omega)]
    clear w
    have hm : mx (-1) 0 = 0 := rfl
    rw [hm,Zm.lv0_eq,if_neg (by omega)]
    have hsz : ∃ q : Req7,ZE.v (x.extract (0 + 1) x.size) false = some q := by
     rcases Decidable.em (1 + 7 + rN x 1 ≤ x.size) with h4 | h4
     ·exact ⟨_,impl_request_ok x 1 h4⟩
     ·obtain ⟨w,e2,_⟩ := impl_request_short x 1 (by omega) (.inr (by omega))
      exact ⟨w,e2⟩
    obtain ⟨q,e2⟩ := hsz
    rw [e2,Option.bind_some,if_pos (by omega)]
    exact ⟨_,rfl,fun h => by cases h⟩
  ·have h2 : ¬ x.toList = [0] := fun h => h1 (by have := (hz.1 h).2;omega)
   have w1 : wrap64 ((n : Int) - 1) = ((n - 1 : Nat) : Int) := by rw [wrap_id (by omega) (by omega)];omega
   rw [if_neg h2]
   simp only [w1]
   clear w1
   have hm : mx ((n - 1 : Nat) : Int) 0 = ((n - 1 : Nat) : Int) := by unfold mx;split <;> omega
   rw [hm]
   by_cases h7 : ((n - 1 : Nat) : Int) > 7
   ·rw [if_pos h7]
    exact ⟨_,rfl,fun h => by cases h⟩
   rw [if_neg h7]
   by_cases h3 : x.size < 1 + 13 * (n - 1)
   ·have h5 := batch_short x ((n - 1 : Nat) : Int) ((n - 1 : Nat) : Int) (by omega) (n - 1) 1 0 [] (by omega) (by omega) (by simp) (by omega) (by omega)
    exact ⟨_,h5,fun h => by cases h⟩
   ·have h8 := batch_impl x ((n - 1 : Nat) : Int) ((n - 1 : Nat) : Int) (by omega) (n - 1) 1 0 [] (by omega) (by omega) rfl (by omega)
    have h8' : Zm.lv0 ((n - 1 : Nat) : Int) ((n - 1 : Nat) : Int) 0 (x.extract (0 + 1) x.size) false false 0 0 0 0 ⟨#[]⟩ [] = Zm.lv0 ((n - 1 : Nat) : Int) ((n - 1 : Nat) : Int) ((n - 1 : Nat) : Int) (x.extract (1 + 13 * (n - 1)) x.size) false false 0 0 0 0 ⟨#[]⟩ (rdL x 1 (n - 1)) := h8
    rw [h8',Zm.lv0_eq,if_neg (by omega)]
    clear h8 h8'
    obtain ⟨p,hp⟩ : ∃ p,p = 1 + 13 * (n - 1) := ⟨_,rfl⟩
    rw [← hp] at h3 ⊢
    rcases Decidable.em (p + 7 + rN x p ≤ x.size) with h4 | h4
    ·rw [impl_request_ok x p h4,Option.bind_some]
     simp only
     rw [if_neg (by omega),done_at x _ h4,Option.bind_some]
     simp only
     by_cases h5 : p + 7 + rN x p = x.size
     ·rw [if_pos (decide_eq_true h5)]
      obtain ⟨b,b1,b2,b3,b4⟩ := batch_both false (bt x p) (numM (x.extract (p + 1) (p + 3))) (bt x (p + 3 : Nat)) (numM (x.extract (p + 4) (p + 6))) (x.extract (p + 7) (p + 7 + rN x p)) (rdL x 1 (n - 1)) (by rw [ByteArray.size_extract];omega)
      rw [b1,Option.bind_some]
      cases b
      ·exact ⟨_,rfl,fun h => by cases h⟩
      ·refine ⟨_,rfl,fun _ => ⟨b1,by show (x.extract (p + 7) (p + 7 + rN x p)).size ≤ _;rw [ByteArray.size_extract];omega,?_⟩⟩
       show bytesOf x = beL (1 + (rdL x 1 (n - 1)).length) 1 ++ (rdsL (rdL x 1 (n - 1)) ++ reqL _ _ _ _ _)
       have d1 := drop_piece x 0 1 (by omega)
       have d2 := rds_back x (n - 1) 1 (by omega)
       have d3 := req_back x p h4
       have d4 := num_back x 0 1 (by omega)
       rw [numM_one x 0 (by omega)] at d4
       have hlen : (1 + ((rdL x 1 (n - 1)).length : Int)) = bt x 0 := by rw [rdL_len,hb];omega
       have d5 : (bytesOf x).drop (p + 7 + rN x p) = [] := List.drop_eq_nil_of_le (by rw [bytesOf_length];omega)
       rw [← hp,d3,d5,List.append_nil] at d2
       have d1' : bytesOf x = bytesOf (x.extract 0 (0 + 1)) ++ (bytesOf x).drop 1 := d1
       rw [hlen,show (bt x 0) = bt x ((0 : Nat) : Int) from rfl,d4,← d2]
       exact d1'
     ·rw [if_neg (show ¬ decide (p + 7 + rN x p = x.size) = true by rw [decide_eq_false h5];simp)]
      exact ⟨_,rfl,fun h => by cases h⟩
    ·obtain ⟨w,e2,e3⟩ := impl_request_short x p (by omega) (.inr (by omega))
     rw [e2,Option.bind_some,if_neg (by omega),e3,done_bad,Option.bind_some]
     exact ⟨_,rfl,fun h => by cases h⟩
theorem bat_sizes {n : Bool} {c st k ls : Int} {nm : ByteArray} {rs : List S76} (he : nm.size ≤ 1048576) (h : batOK n c st k ls nm rs) : nm.size ≤ 12 ∧ rs.length ≤ 7 ∧ ∀ r ∈ rs,r.f2.size = 8 := by
 cases n
 ·obtain ⟨hq,hl,hr⟩ := batOK_facts (by omega) h
  obtain ⟨c0,c1,s0,s1,k0,k1,l0,l1,n1⟩ := reqB_facts hq
  exact ⟨n1,hl,fun r hr2 => (hr r hr2).2.2.2.2⟩
 ·obtain ⟨rfl,rfl,rfl,rfl,rfl,rfl⟩ := null_facts h
  exact ⟨by decide,by simp,fun r hr => by cases hr⟩
theorem less_v (a b : Int) : Yu.v a b = some (decide (a < b)) := by
 rw [Yu.v_eq,Yo.v_eq,Option.bind_some,bne_self_eq_false,if_neg (by decide)]
theorem wr_up (i : Nat) (h : i ≤ 1000000) : wrap64 ((i : Int) + 1) = ((i + 1 : Nat) : Int) := by rw [wrap_id (by omega) (by omega)];omega
theorem wr_dn (i : Nat) (h : i ≤ 1000000) : wrap64 (((i + 1 : Nat) : Int) - 1) = (i : Int) := by rw [wrap_id (by omega) (by omega)];omega
theorem sort_in (len i : Nat) (hlen : len ≤ 1000) (hi : i < len) (H : ∀ x : List Int,x.length = len → ∃ r,Zk.lv0 x ((i + 1 : Nat) : Int) = some r ∧ Za.lv0 x 0 (len : Int) ((i + 1 : Nat) : Int) = some r ∧ r.length = len) :
  ∀ (j : Nat) (x : List Int),x.length = len → j ≤ i → ∃ r,Zk.lv1 x (i : Int) (j : Int) = some r ∧ Za.lv1 x 0 (len : Int) (i : Int) (j : Int) = some r ∧ r.length = len
 | 0,x,hx,hj => by
  rw [Zk.lv1_eq,if_neg (by omega),Za.lv1_eq,if_neg (by omega),wr_up i (by omega)]
  exact H x hx
 | j + 1,x,hx,hj => by
  have a0 : ((j + 1 : Nat) : Int) > 0 := by omega
  rw [Zk.lv1_eq,Za.lv1_eq,if_pos a0,if_pos a0,wr_dn j (by omega),wr_up i (by omega)]
  have a1 : (0 : Int) ≤ (j : Int) := by omega
  have a2 : (j : Int) < (x.length : Int) := by omega
  have a3 : (0 : Int) ≤ ((j + 1 : Nat) : Int) := by omega
  have a4 : ((j + 1 : Nat) : Int) < (x.length : Int) := by omega
  rw [if_pos a1,if_pos a2,if_pos a3,if_pos a4,if_pos a3,if_pos a4,if_pos a1,if_pos a2,less_v,Option.bind_some]
  by_cases c : rd x ((j + 1 : Nat) : Int) < rd x (j : Int)
  ·rw [if_pos c,decide_eq_true c,if_pos rfl]
   exact sort_in len i hlen hi H j _ (by simpa using hx) (by omega)
  ·rw [if_neg c,decide_eq_false c,if_neg (by decide)]
   exact H x hx
theorem sort_out (len : Nat) (hlen : len ≤ 1000) : ∀ (d i : Nat) (x : List Int),x.length = len → len - i = d → ∃ r,Zk.lv0 x (i : Int) = some r ∧ Za.lv0 x 0 (len : Int) (i : Int) = some r ∧ r.length = len
 | 0,i,x,hx,h => by
  rw [Zk.lv0_eq,if_neg (by omega),Za.lv0_eq,if_neg (by omega)]
  exact ⟨x,rfl,rfl,hx⟩
 | d + 1,i,x,hx,h => by
  rw [Zk.lv0_eq,if_pos (by omega),Za.lv0_eq,if_pos (by omega)]
  exact sort_in len i hlen (by omega) (fun y hy => sort_out len hlen d (i + 1) y hy (by omega)) i x hx (Nat.le_refl _)
theorem sorted_one (l : List Int) (hl : l.length ≤ 1000) : ∃ r,Zk.v l = some r ∧ Za.v l 0 (l.length : Int) = some r ∧ r.length = l.length := by
 obtain ⟨r,h1,h2,h3⟩ := sort_out l.length hl _ 1 l rfl rfl
 refine ⟨r,?_,?_,h3⟩
 ·rw [Zk.v_eq,Option.bind_some,if_pos (by simp;omega),List.nil_append]
  exact h1
 ·rw [Za.v_eq,show wrap64 (0 + 1) = 1 from by rw [wrap_id (by omega) (by omega)];rfl]
  exact h2
theorem reading_both (f v : Int) : ∃ t,ZL.v f v = some t ∧ ZM.v f v = some t := by
 have zs : (strOfNums (beL v 4)).size = 4 := by rw [strOf_size,beL_len]
 have z5 : (⟨#[99,108,111,99,107]⟩ : ByteArray).size = 5 := rfl
 obtain ⟨t,h1,h2,-⟩ := mac_both f ((⟨#[99,108,111,99,107]⟩ : ByteArray) ++ strOfNums (beL v 4)) (by rw [ByteArray.size_append,zs,z5];omega)
 have hb : bytesOf ((⟨#[99,108,111,99,107]⟩ : ByteArray) ++ strOfNums (beL v 4)) = ([99,108,111,99,107] : List Int) ++ beL v 4 := by
  rw [bytes_append,bytes_str _ (byteL_be _ _)]
  rfl
 refine ⟨t,?_,?_⟩
 ·rw [ZL.v_eq,Option.bind_some,(show Zt.v v 4 = some (beL v 4) from spec_number_v v 4 (by decide)),Option.bind_some,if_pos (by simp [beL_len]),← hb,h1,Option.bind_some]
 ·rw [ZM.v_eq,impl_number4,Option.bind_some,if_pos (by rw [zs];decide),h2,Option.bind_some]
theorem rdt_nat (l : List S76) (i : Nat) (h : i < l.length) : rd_T76 l (i : Int) = l[i] := by
 unfold rd_T76
 rw [List.getD,Int.toNat_natCast,List.getElem?_eq_getElem h];rfl
theorem time_l (n F : Int) (l : List S76) (hF : F = 0 ∨ F = 1 ∨ F = 2) (hl : (l.length : Int) = 2 * F + 1) : ∀ (d i : Nat) (acc : List Int),l.length - i = d → i ≤ l.length → acc.length = i →
  ∃ r,Zv.lv0 n l F acc i = some r ∧ Zi.lv0 n l acc l (l.length : Int) i = some r
 | 0,i,acc,h,hi,ha => by
  obtain ⟨s,s1,s2,s3⟩ := sorted_one acc (by omega)
  rw [Zv.lv0_eq,if_neg (by omega),s1,Option.bind_some,if_pos (by omega),if_pos (by omega),Zi.lv0_eq,if_neg (by omega),Yl.v_eq,if_pos (by omega),s2,Option.bind_some,Option.bind_some]
  have hd : Int.tdiv (acc.length : Int) 2 = F := by
   rw [show (acc.length : Int) = 2 * F + 1 by omega]
   rcases hF with rfl | rfl | rfl <;> rfl
  rw [hd]
  exact ⟨_,rfl,rfl⟩
 | d + 1,i,acc,h,hi,ha => by
  have hlt : i < l.length := by omega
  obtain ⟨t,t1,t2⟩ := reading_both l[i].f0 l[i].f1
  have ih := time_l n F l hF hl d (i + 1) (acc ++ [l[i].f1]) (by omega) (by omega) (by simp;omega)
  have hc : (t.toList = l[i].f2.toList) = (l[i].f2.toList = t.toList) := propext eq_comm
  have mac : ∃ r,(if t.toList = l[i].f2.toList then (if acc.length < 17592186044416 then Zv.lv0 n l F (acc ++ [l[i].f1]) ((i + 1 : Nat) : Int) else none) else some ((0 : Int),false)) = some r ∧ (if l[i].f2.toList = t.toList then (if acc.length < 17592186044416 then Zi.lv0 n l (acc ++ [l[i].f1]) l (l.length : Int) ((i + 1 : Nat) : Int) else none) else some ((0 : Int),false)) = some r := by
   rw [if_pos (show acc.length < 17592186044416 by omega),if_pos (show acc.length < 17592186044416 by omega)]
   by_cases e : t.toList = l[i].f2.toList
   ·rw [if_pos e,if_pos e.symm]
    exact ih
   ·rw [if_neg e,if_neg (fun e' => e e'.symm)]
    exact ⟨_,rfl,rfl⟩
  have b0 : (i : Int) < (l.length : Int) := by omega
  have b1 : (0 : Int) ≤ (i : Int) := by omega
  rw [Zv.lv0_eq,Zi.lv0_eq,if_pos b0,if_pos b1,if_pos b0,if_pos b1,if_pos b0,rdt_nat l i hlt,spec_l02Reading_v,impl_isReading_v,Option.bind_some,Option.bind_some,wr_up i (by omega),t1,t2,Option.bind_some,Option.bind_some]
  cases readingB l[i].f0 l[i].f1 l[i].f2
  ·exact ⟨_,rfl,rfl⟩
  rw [if_pos rfl,if_pos rfl]
  by_cases c1 : l[i].f0 ≥ n
  ·rw [if_pos c1,if_pos c1]
   exact ⟨_,rfl,rfl⟩
  rw [if_neg c1,if_neg c1]
  by_cases c2 : (i : Int) > 0
  ·obtain ⟨j,rfl⟩ : ∃ j,i = j + 1 := ⟨i - 1,by omega⟩
   have b2 : (0 : Int) ≤ (j : Int) := by omega
   have b3 : (j : Int) < (l.length : Int) := by omega
   rw [if_pos c2,if_pos c2,wr_dn j (by omega),if_pos b2,if_pos b3,if_pos b2,if_pos b3,rdt_nat l j (by omega)]
   by_cases c3 : l[j].f0 ≥ l[j + 1].f0
   ·rw [if_pos c3,if_pos c3]
    exact ⟨_,rfl,rfl⟩
   ·rw [if_neg c3,if_neg c3]
    exact mac
  ·rw [if_neg c2,if_neg c2]
   exact mac
theorem nodes_F {n : Int} (hn : Yc.v n = some true) : ∃ F,wrap64 (Int.tdiv (wrap64 (n - 1)) 3) = F ∧ (F = 0 ∨ F = 1 ∨ F = 2) := by
 rw [Yc.v_eq] at hn
 by_cases e1 : n = 1
 ·subst e1;exact ⟨0,by simp [wrap64],by simp⟩
 ·rw [if_neg e1] at hn
  by_cases e4 : n = 4
  ·subst e4;exact ⟨1,by simp [wrap64],by simp⟩
  ·rw [if_neg e4] at hn
   have e7 : n = 7 := by simpa using hn
   subst e7;exact ⟨2,by simp [wrap64],by simp⟩
theorem time_one (n : Int) (l : List S76) (hl : l.length ≤ 1000) (hn : Yc.v n = some true) : ∃ r,Zv.v n l = some r ∧ Zi.v n l = some r := by
 obtain ⟨F,hF,hc⟩ := nodes_F hn
 rw [Zv.v_eq,Zi.v_eq,Yi.v_eq,Option.bind_some,hF]
 have w1 : wrap64 (wrap64 (2 * F) + 1) = 2 * F + 1 := by rw [wrap_id (x := 2 * F) (by omega) (by omega),wrap_id (by omega) (by omega)]
 have w2 : wrap64 (wrap64 (F * 2) + 1) = 2 * F + 1 := by rw [wrap_id (x := F * 2) (by omega) (by omega),wrap_id (by omega) (by omega)];omega
 rw [w1,w2]
 by_cases c : (l.length : Int) = 2 * F + 1
 ·rw [if_pos c,if_pos c]
  exact time_l n F l hc c _ 0 [] rfl (by omega) rfl
 ·rw [if_neg c,if_neg c]
  exact ⟨_,rfl,rfl⟩
theorem body_one (n : Int) (x : ByteArray) (hx : x.size ≤ 1048576) (hn : Yc.v n = some true) : ∃ b,ZZ.v n x = some b ∧ Yj.v n x = some b ∧ (b = true → x.size ≤ 200) := by
 obtain ⟨r,s,h1,h2,h3,h4⟩ := readBatch_both x hx
 obtain ⟨q,q1,q2⟩ := readBatch_inv x hx
 rw [h1] at q1
 obtain rfl := Option.some.inj q1
 have hsz : r.2.2.2.2.2.2.2 = true → x.size ≤ 200 := fun e => by
  obtain ⟨a1,a2,a3⟩ := q2 e
  obtain ⟨b1,b2,b3⟩ := bat_sizes a2 a1
  have hle := batL_le r.1 r.2.1 r.2.2.1 r.2.2.2.1 r.2.2.2.2.1 r.2.2.2.2.2.1 r.2.2.2.2.2.2.1 b3
  rw [← a3,bytesOf_length] at hle
  omega
 rw [ZZ.v_eq,Yj.v_eq,Ye.v_eq,h1,h2,Option.bind_some,Option.bind_some]
 rcases h3 with ⟨e,hb⟩ | ⟨e,hb⟩
 ·subst e
  rw [if_pos hb,if_pos hb]
  by_cases c : r.1 = true
  ·rw [if_pos c,if_pos c,Option.bind_some]
   exact ⟨true,rfl,by rw [hb],fun _ => hsz hb⟩
  ·obtain ⟨t,t1,t2⟩ := time_one n r.2.2.2.2.2.2.1 h4 hn
   rw [if_neg c,if_neg c,t1,t2,Option.bind_some,Option.bind_some,Option.bind_some]
   exact ⟨t.2,rfl,rfl,fun _ => hsz hb⟩
 ·have hr : r.2.2.2.2.2.2.2 = false := by rw [e];rfl
  rw [if_neg (by rw [hb];decide),if_neg (by rw [hr];decide),Option.bind_some]
  exact ⟨false,rfl,by rw [hr],fun h => by cases h⟩
theorem szMessage_v (k v s f : Int) (d b m : ByteArray) (x : Int) (h0 : 0 ≤ x) (h1 : x ≤ 1048576) (hd : d.size ≤ 9223372036854775807) (hb : b.size ≤ 9223372036854775807) (hm : m.size ≤ 9223372036854775807) : ∃ t,Yp.v k v s f d b m x = some t ∧ (t < 0 ∨ (0 ≤ t ∧ t ≤ 1048576)) := by
 rw [Yp.v_eq,wrap_id (x := x - (d.size : Int)) (by omega) (by omega)]
 by_cases c1 : x - (d.size : Int) < 0
 ·rw [if_pos c1];exact ⟨-1,rfl,Or.inl (by omega)⟩
 rw [if_neg c1,wrap_id (x := x - (d.size : Int) - (b.size : Int)) (by omega) (by omega)]
 by_cases c2 : x - (d.size : Int) - (b.size : Int) < 0
 ·rw [if_pos c2];exact ⟨-1,rfl,Or.inl (by omega)⟩
 rw [if_neg c2,wrap_id (x := x - (d.size : Int) - (b.size : Int) - (m.size : Int)) (by omega) (by omega)]
 by_cases c3 : x - (d.size : Int) - (b.size : Int) - (m.size : Int) < 0
 ·rw [if_pos c3];exact ⟨-1,rfl,Or.inl (by omega)⟩
 ·rw [if_neg c3];exact ⟨_,rfl,Or.inr (by omega)⟩
theorem szMessageS_l (l : List S46) (hl : l.length ≤ 9223372036854775806) (hg : ∀ y ∈ l,good46 y) : ∀ (d : Nat) (i x : Int),((l.length : Int) - i).toNat = d → 0 ≤ i → 0 ≤ x → x ≤ 1048576 → ∃ t,Zz.lv0 l x i = some t ∧ (t < 0 ∨ (0 ≤ t ∧ t ≤ 1048576))
 | 0,i,x,h,h0,hx,hx2 => ⟨x,by rw [Zz.lv0_eq,if_neg (by omega)],Or.inr ⟨hx,hx2⟩⟩
 | d + 1,i,x,h,h0,hx,hx2 => by
  have hlt : i < (l.length : Int) := by omega
  have hm : rd_T46 l i ∈ l := by
   unfold rd_T46
   rw [List.getD,List.getElem?_eq_getElem (by omega : i.toNat < l.length)]
   exact List.getElem_mem _
  obtain ⟨-,-,-,-,g1,g2,g3⟩ := hg _ hm
  obtain ⟨t,e,ht⟩ := szMessage_v (rd_T46 l i).f0 (rd_T46 l i).f1 (rd_T46 l i).f2 (rd_T46 l i).f3 (rd_T46 l i).f4 (rd_T46 l i).f5 (rd_T46 l i).f6 x hx hx2 g1 g2 g3
  rw [Zz.lv0_eq,if_pos hlt,if_pos h0,e,Option.bind_some,wrap_id (x := i + 1) (by omega) (by omega)]
  by_cases h2 : t < 0
  ·rw [if_pos h2];exact ⟨-1,rfl,Or.inl (by omega)⟩
  ·rw [if_neg h2]
   exact szMessageS_l l hl hg d (i + 1) t (by omega) (by omega) (by omega) (by omega)
theorem szMessageS_v (l : List S46) (x : Int) (h0 : 0 ≤ x) (h1 : x ≤ 1048576) (hl : l.length ≤ 9223372036854775807) (hg : ∀ y ∈ l,good46 y) : ∃ t,Zz.v l x = some t ∧ (¬ t < 0 → l.length ≤ 1048576) := by
 rw [Zz.v_eq,wrap_id (x := x - (l.length : Int)) (by omega) (by omega)]
 by_cases h2 : x - (l.length : Int) < 0
 ·rw [if_pos h2];exact ⟨-1,rfl,fun h => by omega⟩
 ·obtain ⟨t,e,-⟩ := szMessageS_l l (by omega) hg _ 0 (x - (l.length : Int)) rfl (by omega) (by omega) (by omega)
  rw [if_neg h2,e]
  exact ⟨t,rfl,fun _ => by omega⟩
def mTo (v : S46) : S40 := ⟨v.f0,v.f1,v.f2,v.f3,v.f4,v.f5,v.f6⟩
theorem toMessageS_v (l : List S46) (h : l.length ≤ 1048576) : Zx.v l = some (l.map mTo) := by
 rw [Zx.v_eq,if_pos (by omega),if_pos (by omega)]
 exact copy_loop z46 mTo l (by omega) (fun acc i => Zx.lv0 l acc i) (fun acc i h0 h1 h2 => by
  show Zx.lv0 l acc i = _
  rw [Zx.lv0_eq,if_pos h1,if_pos h0,Ys.v_eq,Option.bind_some,if_pos (by omega)];rfl) (fun acc i h0 => by
  show Zx.lv0 l acc i = _
  rw [Zx.lv0_eq,if_neg (by omega)]) l.length (List.replicate ((l.length : Int) : Int).toNat z40) 0 (by omega) (by omega) (by omega) (by simp) (fun j hj => by omega)
theorem eqMessageS_v (l : List S40) (h : l.length ≤ 281474976710656) : Zr.v l l = some true := by
 rw [Zr.v_eq,if_pos rfl,loop_all (L := fun i => Zr.lv0 l l i) (fun _ => true) l.length (by omega) (fun i h0 h1 => by
  show Zr.lv0 l l i = _
  rw [Zr.lv0_eq,if_pos h1,if_pos h0,if_pos h1,Yt.v_eq,if_pos rfl,if_pos rfl,if_pos rfl,if_pos rfl,if_pos rfl,if_pos rfl,if_pos rfl,Option.bind_some]) (fun i h0 h1 => by
  show Zr.lv0 l l i = _
  rw [Zr.lv0_eq,if_neg (by omega)]) _ 0 rfl (by omega),(allI_iff _ _ _ _ rfl).2 (fun _ _ _ => rfl)]
theorem sgn_one (n k v s f : Int) (d b m : ByteArray) (hn : Yc.v n = some true) : ∃ r,ZD.v n k v s f d b m = some r ∧ ZF.v n k v s f d b m = some r := by
 obtain ⟨q,q1,q2⟩ := nodes_one n
 rw [hn] at q1
 obtain rfl := Option.some.inj q1
 rw [ZD.v_eq,ZF.v_eq,q2,impl_MessageOK_v,spec_MessageOK_v]
 simp only [Option.bind_some]
 cases hB : msgB k v s f d b m
 ·exact ⟨_,rfl,rfl⟩
 obtain ⟨-,-,-,-,-,-,-,-,-,hb0,hd0⟩ := msgB_sizes hB
 have hd : d.size ≤ 1000000 := by omega
 have hb : b.size ≤ 1000000 := by omega
 obtain ⟨t,t1,t2,-⟩ := plain_both k v s f d b m hd hb f
 have hc : (t.toList == m.toList) = (m.toList == t.toList) := by rw [Bool.eq_iff_iff,beq_iff_eq,beq_iff_eq];exact eq_comm
 simp only [if_true]
 by_cases c : f < n
 ·rw [if_pos c,if_pos c]
  rw [spec_l02Plain_v k v s f d b m hd hb,Option.bind_some] at t1 ⊢
  rw [impl_bareText_v k v s f d b m hd hb,Option.bind_some] at t2 ⊢
  rw [t1,t2,Option.bind_some,Option.bind_some,hc]
  exact ⟨_,rfl,rfl⟩
 ·rw [if_neg c,if_neg c]
  exact ⟨_,rfl,rfl⟩
theorem digest_one (b : ByteArray) (h : b.size ≤ 1000000) : ∃ d,ZN.v b = some d ∧ ZO.v b = some d := by
 have h5 : (⟨#[98,97,116,99,104]⟩ : ByteArray).size = 5 := rfl
 obtain ⟨s,hs⟩ : ∃ s,s = (⟨#[98,97,116,99,104]⟩ : ByteArray) ++ b := ⟨_,rfl⟩
 have hz : s.size = 5 + b.size := by rw [hs,ByteArray.size_append,h5]
 obtain ⟨r,h1,h2⟩ := hash_v (bytesOf s) (by rw [bytesOf_length];omega)
 refine ⟨r,?_,?_⟩
 ·rw [ZN.v_eq,← hs,if_pos (by omega),if_pos (by omega),h1,Option.bind_some]
 ·rw [ZO.v_eq,← hs,if_pos (by omega),ZV.v_eq,if_pos (by omega),h1,Option.bind_some]
theorem rdm_nat (l : List S40) (i : Nat) (h : i < l.length) : rd_T40 l (i : Int) = l[i] := by
 unfold rd_T40
 rw [List.getD,Int.toNat_natCast,List.getElem?_eq_getElem h];rfl
theorem cert_l (n : Int) (b d : ByteArray) (V S : Int) (l : List S40) (hn : Yc.v n = some true) (hd : ZN.v b = some d) (hl : l.length ≤ 1048576) (hV : (rd_T40 l 0).f1 = V) (hS : (rd_T40 l 0).f2 = S) :
  ∀ (k i : Nat),l.length - i = k → i ≤ l.length → ∃ s,Zp.lv0 n l 2 V S l (l.length : Int) (i : Int) = some s ∧ Zf.lv0 n (i : Int) b l = some (s && (l.drop i).all fun y => y.f4.toList == d.toList)
 | 0,i,h,hi => ⟨true,by rw [Zp.lv0_eq,if_neg (by omega)],by rw [Zf.lv0_eq,if_neg (by omega),List.drop_eq_nil_of_le (by omega)];rfl⟩
 | k + 1,i,h,hi => by
  have hlt : i < l.length := by omega
  obtain ⟨s,e1,e2⟩ := cert_l n b d V S l hn hd hl hV hS k (i + 1) (by omega) (by omega)
  have w : wrap64 ((i : Int) + 1) = ((i + 1 : Nat) : Int) := by rw [wrap_id (by omega) (by omega)];omega
  obtain ⟨y,hy⟩ : ∃ y,y = l[i] := ⟨_,rfl⟩
  obtain ⟨r,r1,r2⟩ := sgn_one n y.f0 y.f1 y.f2 y.f3 y.f4 y.f5 y.f6 hn
  rw [Zp.lv0_eq,Zf.lv0_eq,w,e1,e2,rdm_nat l i hlt,List.drop_eq_getElem_cons hlt,List.all_cons,← hy,r1,r2,hd]
  clear w e1 e2
  have p1 : (i : Int) < (l.length : Int) := by omega
  have p2 : 0 ≤ (i : Int) := by omega
  have p3 : 0 < (l.length : Int) := by omega
  simp only [Option.bind_some,p1,p2,p3,if_true,hV,hS]
  by_cases c0 : y.f0 = 2
  ·by_cases c1 : y.f1 = V
   ·by_cases c2 : y.f2 = S
    ·cases r
     ·exact ⟨false,by simp [c0,c1,c2],by simp [c0]⟩
     ·by_cases c4 : y.f4.toList = d.toList
      ·by_cases ci : (i : Int) > 0
       ·have w2 : wrap64 ((i : Int) - 1) = (i : Int) - 1 := wrap_id (by omega) (by omega)
        have p4 : 0 ≤ (i : Int) - 1 := by omega
        have p5 : (i : Int) - 1 < (l.length : Int) := by omega
        rw [w2]
        by_cases co : (rd_T40 l ((i : Int) - 1)).f3 ≥ y.f3
        ·exact ⟨false,by simp only [c0,c1,c2,ci,p4,p5,co,if_true],by simp only [c0,c1,c2,c4,ci,p4,p5,co,if_true,Bool.false_and]⟩
        ·exact ⟨s,by simp only [c0,c1,c2,ci,p4,p5,co,if_true,if_false],by simp only [c0,c1,c2,c4,ci,p4,p5,co,if_true,if_false,beq_self_eq_true,Bool.true_and]⟩
       ·exact ⟨s,by simp only [c0,c1,c2,ci,if_true,if_false],by simp only [c0,c1,c2,c4,ci,if_true,if_false,beq_self_eq_true,Bool.true_and]⟩
      ·have c5 : (y.f4.toList == d.toList) = false := by simpa using c4
       have hend : ∃ q,(if (i : Int) > 0 then (if 0 ≤ (wrap64 ((i : Int) - 1)) then (if (wrap64 ((i : Int) - 1)) < (l.length : Int) then (if ((rd_T40 l (wrap64 ((i : Int) - 1))).f3) ≥ y.f3 then (some false) else (some s)) else (none)) else (none)) else (some s)) = some q := by
        by_cases ci : (i : Int) > 0
        ·rw [if_pos ci,wrap_id (x := (i : Int) - 1) (by omega) (by omega),if_pos (by omega),if_pos (by omega)]
         split <;> exact ⟨_,rfl⟩
        ·rw [if_neg ci];exact ⟨_,rfl⟩
       obtain ⟨q,hq⟩ := hend
       exact ⟨q,by simp only [c0,c1,c2,if_true];exact hq,by simp only [c0,c4,c5,if_true,if_false,Bool.false_and,Bool.and_false]⟩
    ·exact ⟨false,by simp only [c0,c1,c2,if_true,if_false],by simp only [c0,c1,c2,if_true,if_false,Bool.false_and];repeat (first | rfl | split)⟩
   ·exact ⟨false,by simp only [c0,c1,if_true,if_false],by simp only [c0,c1,if_true,if_false,Bool.false_and];repeat (first | rfl | split)⟩
  ·exact ⟨false,by simp only [c0,if_false],by simp only [c0,if_false,Bool.false_and]⟩
theorem quorum_both (a : Int) : Yn.v a = Yi.v a := by
 rw [Yn.v_eq,Yi.v_eq,Int.mul_comm]
theorem any_not {α : Type} (p : α → Bool) : ∀ l : List α,(!l.any fun y => !p y) = l.all p
 | [] => rfl
 | y :: l => by rw [List.any_cons,List.all_cons,← any_not p l,Bool.not_or,Bool.not_not]
theorem cert_one (n : Int) (b : ByteArray) (l : List S40) (hl : l.length ≤ 1048576) (hb : b.size ≤ 1048576) : ∃ r,Yh.v n b l = some r ∧ Zw.v n b l = some r := by
 obtain ⟨m,m1,m2⟩ := nodes_one n
 have j1 : ∀ c,Zf.jv0 n true b c = some false := fun c => by rw [Zf.jv0_eq,if_pos rfl]
 have j2 : ∀ c,Zw.jv0 n true b c = some false := fun c => by rw [Zw.jv0_eq,if_pos rfl]
 rw [Yh.v_eq,Zw.v_eq,m1,m2,Option.bind_some,Option.bind_some]
 cases m
 ·exact ⟨false,rfl,by rw [if_neg (by decide),j2]⟩
 rw [if_pos rfl,if_pos rfl,Zf.v_eq,quorum_both]
 obtain ⟨F,hF,hc⟩ := nodes_F m1
 have hq : Yi.v n = some (2 * F + 1) := by
  rw [Yi.v_eq,hF,wrap_id (x := F * 2) (by omega) (by omega),wrap_id (by omega) (by omega),Int.mul_comm]
 rw [hq]
 simp only [Option.bind_some]
 by_cases c2 : (b.size : Int) > 20000
 ·rw [if_pos c2,if_pos c2,j1,j2]
  exact ⟨false,by split <;> rfl,rfl⟩
 rw [if_neg c2,if_neg c2]
 obtain ⟨v,v1,v2,-⟩ := body_one n b hb m1
 rw [v1,v2]
 simp only [Option.bind_some]
 cases v
 ·exact ⟨false,by rw [show (!false) = true from rfl,j1];split <;> rfl,by rw [if_neg (by decide),j2]⟩
 rw [if_pos rfl]
 by_cases c3 : (l.length : Int) = 2 * F + 1
 ·obtain ⟨d,d1,d2⟩ := digest_one b (by omega)
  obtain ⟨s,s1,s2⟩ := cert_l n b d _ _ l m1 d1 hl rfl rfl _ 0 rfl (Nat.zero_le _)
  have p3 : 0 < (l.length : Int) := by omega
  rw [if_pos c3,show ((l.length : Int) != 2 * F + 1) = false by simpa using c3,Zf.jv0_eq,Zw.jv0_eq,if_neg (by decide),if_neg (by decide),d2,Option.bind_some,if_pos p3,Zp.v_eq]
  rw [show ((0 : Nat) : Int) = 0 from rfl] at s1 s2
  rw [s1,s2,Option.bind_some,Option.bind_some,List.drop_zero]
  refine ⟨_,rfl,?_⟩
  cases s
  ·rfl
  ·rw [if_pos rfl,Yw.v_eq,Option.bind_some,any_not,Bool.true_and]
 ·rw [if_neg c3,show ((l.length : Int) != 2 * F + 1) = true by simpa using c3,j1,j2]
  exact ⟨false,rfl,rfl⟩
theorem szCert_v (b : ByteArray) (l : List S46) (hb : b.size ≤ 9223372036854775807) (hl : l.length ≤ 9223372036854775807) (hg : ∀ y ∈ l,good46 y) : ∃ t,Yf.v b l 1048576 = some t ∧ (¬ t < 0 → b.size ≤ 1048576 ∧ l.length ≤ 1048576) := by
 rw [Yf.v_eq,wrap_id (by omega) (by omega)]
 by_cases h : (1048576 : Int) - (b.size : Int) < 0
 ·rw [if_pos h];exact ⟨-1,rfl,fun h => by omega⟩
 rw [if_neg h]
 obtain ⟨t,e,ht⟩ := szMessageS_v l (1048576 - (b.size : Int)) (by omega) (by omega) hl hg
 rw [e,Option.bind_some]
 by_cases h3 : t < 0
 ·rw [if_pos h3];exact ⟨-1,rfl,fun h => by omega⟩
 ·rw [if_neg h3];exact ⟨t,rfl,fun _ => ⟨by omega,ht h3⟩⟩
theorem FnExactCertOK_pure (a0 : Int) (y1 : S24) : (Lit.int .i64 a0).wf = true → good24 y1 → ZQ.v a0 y1.f0 y1.f1 = some true := by
 intro _ hy
 obtain ⟨hb,hl,hg⟩ := hy
 obtain ⟨t,e,ht⟩ := szCert_v y1.f0 y1.f1 hb hl hg
 rw [ZQ.v_eq,e,Option.bind_some]
 by_cases h : t < 0
 ·rw [if_pos h]
 obtain ⟨hb2,hl2⟩ := ht h
 obtain ⟨r,e1,e2⟩ := cert_one a0 y1.f0 (y1.f1.map mTo) (by rw [List.length_map];exact hl2) hb2
 have ho : ZP.v y1.f0 y1.f1 = some (y1.f0,y1.f1.map mTo) := by rw [ZP.v_eq,toMessageS_v _ hl2,Option.bind_some]
 rw [if_neg h,ho,Option.bind_some]
 simp only [Option.bind_some,e1,e2,Ym.v_eq,if_true,eqMessageS_v _ (show (y1.f1.map mTo).length ≤ 281474976710656 by rw [List.length_map];omega),bne_self_eq_false,Bool.false_eq_true,if_false]
end Go.Proofs.YtbhegbhdenngbaaGreatDoor.A
end
