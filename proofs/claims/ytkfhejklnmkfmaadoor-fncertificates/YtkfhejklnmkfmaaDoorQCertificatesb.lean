/- A part of the proof that FnCertificates returns true at every input: plain functions, contracts and lemmas. No conditions. -/
import Derived.Test.YtkfhejklnmkfmaaDoorQCertificatesa
set_option linter.unusedVariables false
set_option linter.unusedSimpArgs false
set_option linter.unusedSectionVars false
section
namespace Go.Proofs.YtkfhejklnmkfmaaDoor.A
open Go.RowKit Go.Proofs.YtkfhejklnmkfmaaDoorW.PrintWords Go.Proofs.YtkfhejklnmkfmaaDoorW.PrintLast Go.Proofs.YtkfhejklnmkfmaaDoorW.PrintMore
attribute [local go_sem] max2_int min2_int max_two min_two max_three min_three max_four min_four
mutual
def Zg.j0 : Nat → Int → List Int → Int → Bool → ByteArray → Int → Int → Int → Option (ByteArray × Int × Int × Int × List Int × (List (S37)) × Int)
 | 0,_,_,_,_,_,_,_,_ => none
 | k + 1,x0,x2,x3,x22,x331000,x331001,x331002,x331003 => if x22 = true then (some ((⟨#[]⟩ : ByteArray),0,0,0,([] : List Int),([] : List (S37)),4)) else ((ZL.f k x0 x2).bind fun t336 => (if t336 = true then ((Yd.f x2).bind fun t337 => (Zg.l0 k x3 x2 (x2.length : Int) 0 x331000 x331001 x331002 x331003 x331000 x331001 x331002 x331003 t337 ([] : List (S37)))) else (some ((⟨#[]⟩ : ByteArray),0,0,0,([] : List Int),([] : List (S37)),19))))
def Zg.l0 : Nat → Int → List Int → Int → Int → ByteArray → Int → Int → Int → ByteArray → Int → Int → Int → List Int → List (S37) → Option (ByteArray × Int × Int × Int × List Int × (List (S37)) × Int)
 | 0,_,_,_,_,_,_,_,_,_,_,_,_,_,_ => none
 | k + 1,x3,x42,x43,x44,x331000,x331001,x331002,x331003,x341000,x341001,x341002,x341003,x341004,x341005 => if x44 < x43 then (if 0 ≤ x44 then (if x44 < (x42.length : Int) then ((ZE.f k (rd x42 x44)).bind fun t342 => ((ZO.f x331000 x331001 x331002 x331003).bind fun t343 => ((Zj.f k t342 x3 t343).bind fun bt344 => (if x341005.length < 1759218604441 then (Zg.l0 k x3 x42 x43 (wrap64 (x44 + 1)) x331000 x331001 x331002 x331003 x341000 x341001 x341002 x341003 x341004 (x341005 ++ [(⟨bt344.1,bt344.2.1,bt344.2.2.1,bt344.2.2.2⟩ : S37)])) else (none))))) else (none)) else (none)) else (some (x341000,x341001,x341002,x341003,x341004,x341005,0))
end
def Zg.f (k : Nat) (a0 : Int) (a1_0 : ByteArray) (a1_1 : Int) (a1_2 : Int) (a1_3 : Int) (l2 : List Int) (a3 : Int) : Option (ByteArray × Int × Int × Int × List Int × (List (S37)) × Int) := (Yc.f l2).bind fun t332 => (if t332 = true then (some ((⟨#[]⟩ : ByteArray),0,0,0,([] : List Int),([] : List (S37)),2)) else ((ZI.f k a1_0 a1_1 a1_2 a1_3).bind fun t333 => (if t333 = true then ((ZX.f a0).bind fun t334 => (if t334 = true then ((ZW.f a3).bind fun t335 => (Zg.j0 k a0 l2 a3 (!t335) a1_0 a1_1 a1_2 a1_3)) else (Zg.j0 k a0 l2 a3 true a1_0 a1_1 a1_2 a1_3))) else (some ((⟨#[]⟩ : ByteArray),0,0,0,([] : List Int),([] : List (S37)),1)))))
theorem Zg.mono_l : ∀ k,(∀ y0 y1 y2 y3 y4 y5 y6 y7,LeO (Zg.j0 k y0 y1 y2 y3 y4 y5 y6 y7) (Zg.j0 (k + 1) y0 y1 y2 y3 y4 y5 y6 y7)) ∧ (∀ y0 y1 y2 y3 y4 y5 y6 y7 y8 y9 y10 y11 y12 y13,LeO (Zg.l0 k y0 y1 y2 y3 y4 y5 y6 y7 y8 y9 y10 y11 y12 y13) (Zg.l0 (k + 1) y0 y1 y2 y3 y4 y5 y6 y7 y8 y9 y10 y11 y12 y13))
 | 0 => ⟨fun _ _ _ _ _ _ _ _ r h => by simp [Zg.j0] at h,fun _ _ _ _ _ _ _ _ _ _ _ _ _ _ r h => by simp [Zg.l0] at h⟩
 | k + 1 => by
  obtain ⟨ih0,ih1⟩ := Zg.mono_l k
  refine ⟨?_,?_⟩
  ·intro y0 y1 y2 y3 y4 y5 y6 y7
   unfold Zg.j0
   repeat' (with_reducible first | exact ih0 _ _ _ _ _ _ _ _ | exact ih1 _ _ _ _ _ _ _ _ _ _ _ _ _ _ | exact ZI.mono _ _ _ _ _ | exact ZL.mono _ _ _ | exact ZE.mono _ _ | exact Zj.mono _ _ _ _ | exact LeO.refl _ | exact LeO.none _ | refine LeO.ite ?_ ?_ | refine LeO.bind ?_ (fun _ => ?_))
  ·intro y0 y1 y2 y3 y4 y5 y6 y7 y8 y9 y10 y11 y12 y13
   unfold Zg.l0
   repeat' (with_reducible first | exact ih0 _ _ _ _ _ _ _ _ | exact ih1 _ _ _ _ _ _ _ _ _ _ _ _ _ _ | exact ZI.mono _ _ _ _ _ | exact ZL.mono _ _ _ | exact ZE.mono _ _ | exact Zj.mono _ _ _ _ | exact LeO.refl _ | exact LeO.none _ | refine LeO.ite ?_ ?_ | refine LeO.bind ?_ (fun _ => ?_))
theorem Zg.mono : ∀ a0 a1 a2 a3 a4 a5 a6 k,LeO (Zg.f k a0 a1 a2 a3 a4 a5 a6) (Zg.f (k + 1) a0 a1 a2 a3 a4 a5 a6) := by
 intro a0 a1 a2 a3 a4 a5 a6 k
 obtain ⟨ih0,ih1⟩ := Zg.mono_l k
 unfold Zg.f
 repeat' (with_reducible first | exact ih0 _ _ _ _ _ _ _ _ | exact ih1 _ _ _ _ _ _ _ _ _ _ _ _ _ _ | exact ZI.mono _ _ _ _ _ | exact ZL.mono _ _ _ | exact ZE.mono _ _ | exact Zj.mono _ _ _ _ | exact LeO.refl _ | exact LeO.none _ | refine LeO.ite ?_ ?_ | refine LeO.bind ?_ (fun _ => ?_))
noncomputable def Zg.jv0 (x0 : Int) (x2 : List Int) (x3 : Int) (x22 : Bool) (x331000 : ByteArray) (x331001 : Int) (x331002 : Int) (x331003 : Int) : Option (ByteArray × Int × Int × Int × List Int × (List (S37)) × Int) := lim (fun k_ => Zg.j0 k_ x0 x2 x3 x22 x331000 x331001 x331002 x331003)
noncomputable def Zg.lv0 (x3 : Int) (x42 : List Int) (x43 : Int) (x44 : Int) (x331000 : ByteArray) (x331001 : Int) (x331002 : Int) (x331003 : Int) (x341000 : ByteArray) (x341001 : Int) (x341002 : Int) (x341003 : Int) (x341004 : List Int) (x341005 : List (S37)) : Option (ByteArray × Int × Int × Int × List Int × (List (S37)) × Int) := lim (fun k_ => Zg.l0 k_ x3 x42 x43 x44 x331000 x331001 x331002 x331003 x341000 x341001 x341002 x341003 x341004 x341005)
noncomputable def Zg.v (a0 : Int) (a1_0 : ByteArray) (a1_1 : Int) (a1_2 : Int) (a1_3 : Int) (l2 : List Int) (a3 : Int) : Option (ByteArray × Int × Int × Int × List Int × (List (S37)) × Int) := lim (fun k_ => Zg.f k_ a0 a1_0 a1_1 a1_2 a1_3 l2 a3)
theorem Zg.jv0_lim (x0 : Int) (x2 : List Int) (x3 : Int) (x22 : Bool) (x331000 : ByteArray) (x331001 : Int) (x331002 : Int) (x331003 : Int) : LimIs (fun k_ => Zg.j0 k_ x0 x2 x3 x22 x331000 x331001 x331002 x331003) (Zg.jv0 x0 x2 x3 x22 x331000 x331001 x331002 x331003) := lim_is (fun k_ => (Zg.mono_l k_).1 x0 x2 x3 x22 x331000 x331001 x331002 x331003)
theorem Zg.lv0_lim (x3 : Int) (x42 : List Int) (x43 : Int) (x44 : Int) (x331000 : ByteArray) (x331001 : Int) (x331002 : Int) (x331003 : Int) (x341000 : ByteArray) (x341001 : Int) (x341002 : Int) (x341003 : Int) (x341004 : List Int) (x341005 : List (S37)) : LimIs (fun k_ => Zg.l0 k_ x3 x42 x43 x44 x331000 x331001 x331002 x331003 x341000 x341001 x341002 x341003 x341004 x341005) (Zg.lv0 x3 x42 x43 x44 x331000 x331001 x331002 x331003 x341000 x341001 x341002 x341003 x341004 x341005) := lim_is (fun k_ => (Zg.mono_l k_).2 x3 x42 x43 x44 x331000 x331001 x331002 x331003 x341000 x341001 x341002 x341003 x341004 x341005)
theorem Zg.v_lim (a0 : Int) (a1_0 : ByteArray) (a1_1 : Int) (a1_2 : Int) (a1_3 : Int) (l2 : List Int) (a3 : Int) : LimIs (fun k_ => Zg.f k_ a0 a1_0 a1_1 a1_2 a1_3 l2 a3) (Zg.v a0 a1_0 a1_1 a1_2 a1_3 l2 a3) := lim_is (fun k_ => Zg.mono a0 a1_0 a1_1 a1_2 a1_3 l2 a3 k_)
theorem Zg.jv0_eq (x0 : Int) (x2 : List Int) (x3 : Int) (x22 : Bool) (x331000 : ByteArray) (x331001 : Int) (x331002 : Int) (x331003 : Int) : Zg.jv0 x0 x2 x3 x22 x331000 x331001 x331002 x331003 = (if x22 = true then (some ((⟨#[]⟩ : ByteArray),0,0,0,([] : List Int),([] : List (S37)),4)) else ((ZL.v x0 x2).bind fun t336 => (if t336 = true then ((Yd.v x2).bind fun t337 => (Zg.lv0 x3 x2 (x2.length : Int) 0 x331000 x331001 x331002 x331003 x331000 x331001 x331002 x331003 t337 ([] : List (S37)))) else (some ((⟨#[]⟩ : ByteArray),0,0,0,([] : List Int),([] : List (S37)),19)))) : Option (ByteArray × Int × Int × Int × List Int × (List (S37)) × Int)) := by
 refine LimIs.eq (Zg.jv0_lim x0 x2 x3 x22 x331000 x331001 x331002 x331003) ?_
 refine LimIs.step (fun k_ => (Zg.mono_l k_).1 x0 x2 x3 x22 x331000 x331001 x331002 x331003) ?_
 simp only [Zg.j0]
 repeat' (with_reducible first | exact Zg.lv0_lim _ _ _ _ _ _ _ _ _ _ _ _ _ _ | exact ZL.v_lim _ _ | exact Yd.v_lim _ | exact LimIs.const _ | refine LimIs.ite ?_ ?_ | refine LimIs.bind ?_ (fun _ => ?_))
theorem Zg.lv0_eq (x3 : Int) (x42 : List Int) (x43 : Int) (x44 : Int) (x331000 : ByteArray) (x331001 : Int) (x331002 : Int) (x331003 : Int) (x341000 : ByteArray) (x341001 : Int) (x341002 : Int) (x341003 : Int) (x341004 : List Int) (x341005 : List (S37)) : Zg.lv0 x3 x42 x43 x44 x331000 x331001 x331002 x331003 x341000 x341001 x341002 x341003 x341004 x341005 = (if x44 < x43 then (if 0 ≤ x44 then (if x44 < (x42.length : Int) then ((ZE.v (rd x42 x44)).bind fun t342 => ((ZO.v x331000 x331001 x331002 x331003).bind fun t343 => ((Zj.v t342 x3 t343).bind fun bt344 => (if x341005.length < 1759218604441 then (Zg.lv0 x3 x42 x43 (wrap64 (x44 + 1)) x331000 x331001 x331002 x331003 x341000 x341001 x341002 x341003 x341004 (x341005 ++ [(⟨bt344.1,bt344.2.1,bt344.2.2.1,bt344.2.2.2⟩ : S37)])) else (none))))) else (none)) else (none)) else (some (x341000,x341001,x341002,x341003,x341004,x341005,0)) : Option (ByteArray × Int × Int × Int × List Int × (List (S37)) × Int)) := by
 refine LimIs.eq (Zg.lv0_lim x3 x42 x43 x44 x331000 x331001 x331002 x331003 x341000 x341001 x341002 x341003 x341004 x341005) ?_
 refine LimIs.step (fun k_ => (Zg.mono_l k_).2 x3 x42 x43 x44 x331000 x331001 x331002 x331003 x341000 x341001 x341002 x341003 x341004 x341005) ?_
 simp only [Zg.l0]
 repeat' (with_reducible first | exact Zg.lv0_lim _ _ _ _ _ _ _ _ _ _ _ _ _ _ | exact ZO.v_lim _ _ _ _ | exact ZE.v_lim _ | exact Zj.v_lim _ _ _ | exact LimIs.const _ | refine LimIs.ite ?_ ?_ | refine LimIs.bind ?_ (fun _ => ?_))
theorem Zg.v_eq (a0 : Int) (a1_0 : ByteArray) (a1_1 : Int) (a1_2 : Int) (a1_3 : Int) (l2 : List Int) (a3 : Int) : Zg.v a0 a1_0 a1_1 a1_2 a1_3 l2 a3 = ((Yc.v l2).bind fun t332 => (if t332 = true then (some ((⟨#[]⟩ : ByteArray),0,0,0,([] : List Int),([] : List (S37)),2)) else ((ZI.v a1_0 a1_1 a1_2 a1_3).bind fun t333 => (if t333 = true then ((ZX.v a0).bind fun t334 => (if t334 = true then ((ZW.v a3).bind fun t335 => (Zg.jv0 a0 l2 a3 (!t335) a1_0 a1_1 a1_2 a1_3)) else (Zg.jv0 a0 l2 a3 true a1_0 a1_1 a1_2 a1_3))) else (some ((⟨#[]⟩ : ByteArray),0,0,0,([] : List Int),([] : List (S37)),1))))) : Option (ByteArray × Int × Int × Int × List Int × (List (S37)) × Int)) := by
 refine LimIs.eq (Zg.v_lim a0 a1_0 a1_1 a1_2 a1_3 l2 a3) ?_
 simp only [Zg.f]
 repeat' (with_reducible first | exact ZI.v_lim _ _ _ _ | exact Zg.jv0_lim _ _ _ _ _ _ _ _ | exact ZX.v_lim _ | exact ZW.v_lim _ | exact Yc.v_lim _ | exact LimIs.const _ | refine LimIs.ite ?_ ?_ | refine LimIs.bind ?_ (fun _ => ?_))
def Yl.f (a0 : ByteArray) : Option (Bool) := some (decide ((a0.size : Int) > 65536))
def Yl.v (a0 : ByteArray) : Option (Bool) := Yl.f a0
theorem Yl.v_eq (a0 : ByteArray) : Yl.v a0 = (some (decide ((a0.size : Int) > 65536)) : Option (Bool)) := rfl
def Ym.f (l0 : List ByteArray) : Option (Bool) := some (l0.any fun s => (Yl.f s).getD false)
def Ym.v (l0 : List ByteArray) : Option (Bool) := Ym.f l0
theorem Ym.v_eq (l0 : List ByteArray) : Ym.v l0 = (some (l0.any fun s => (Yl.v s).getD false) : Option (Bool)) := rfl
def Yq.f (l0 : List ByteArray) : Option (Bool) := (Ym.f l0).bind fun t357 => (some t357)
def Yq.v (l0 : List ByteArray) : Option (Bool) := Yq.f l0
theorem Yq.v_lim (l0 : List ByteArray) : LimIs (fun _ => Yq.f l0) (Yq.v l0) := LimIs.const _
theorem Yq.v_eq (l0 : List ByteArray) : Yq.v l0 = ((Ym.v l0).bind fun t357 => (some t357) : Option (Bool)) := rfl
def Yo.f (a0 : ByteArray) : Option (Bool) := some ((a0.size : Int) == 32)
def Yo.v (a0 : ByteArray) : Option (Bool) := Yo.f a0
theorem Yo.v_lim (a0 : ByteArray) : LimIs (fun _ => Yo.f a0) (Yo.v a0) := LimIs.const _
theorem Yo.v_eq (a0 : ByteArray) : Yo.v a0 = (some ((a0.size : Int) == 32) : Option (Bool)) := rfl
def Ye.f (a0 : ByteArray) : Option (Bool) := (Yo.f a0).bind fun t358 => (some (!t358))
def Ye.v (a0 : ByteArray) : Option (Bool) := Ye.f a0
theorem Ye.v_eq (a0 : ByteArray) : Ye.v a0 = ((Yo.v a0).bind fun t358 => (some (!t358)) : Option (Bool)) := rfl
def Yj.f (l0 : List ByteArray) : Option (Bool) := some (l0.any fun s => (Ye.f s).getD false)
def Yj.v (l0 : List ByteArray) : Option (Bool) := Yj.f l0
theorem Yj.v_eq (l0 : List ByteArray) : Yj.v l0 = (some (l0.any fun s => (Ye.v s).getD false) : Option (Bool)) := rfl
def Ya.f (l0 : List ByteArray) (a1 : Int) : Option (Bool) := if (l0.length : Int) = a1 then ((Yj.f l0).bind fun t359 => (some (!t359))) else (some false)
def Ya.v (l0 : List ByteArray) (a1 : Int) : Option (Bool) := Ya.f l0 a1
theorem Ya.v_lim (l0 : List ByteArray) (a1 : Int) : LimIs (fun _ => Ya.f l0 a1) (Ya.v l0 a1) := LimIs.const _
theorem Ya.v_eq (l0 : List ByteArray) (a1 : Int) : Ya.v l0 a1 = (if (l0.length : Int) = a1 then ((Yj.v l0).bind fun t359 => (some (!t359))) else (some false) : Option (Bool)) := rfl
mutual
def Zd.l0 : Nat → ByteArray → List Int → Int → Int → Int → List ByteArray → List ByteArray → List ByteArray → Option (ByteArray)
 | 0,_,_,_,_,_,_,_,_ => none
 | k + 1,x5,x14,x15,x16,x361000,x361001,x361002,x361003 => if x16 < x15 then (if 0 ≤ x16 then (if x16 < (x14.length : Int) then (if (rd x14 x16) = 48 then (if x16 < (x361001.length : Int) then ((ZD.f k (rdOf ByteArray.empty x361001 x16)).bind fun t367 => (if x16 < (x361002.length : Int) then (if t367.size + (rdOf ByteArray.empty x361002 x16).size ≤ 9223372036854775807 then (if x5.size + (t367 ++ (rdOf ByteArray.empty x361002 x16)).size ≤ 9223372036854775807 then (Zd.l0 k (x5 ++ (t367 ++ (rdOf ByteArray.empty x361002 x16))) x14 x15 (wrap64 (x16 + 1)) x361000 x361001 x361002 x361003) else (none)) else (none)) else (none))) else (none)) else (if x16 < (x361002.length : Int) then (if x16 < (x361001.length : Int) then ((ZD.f k (rdOf ByteArray.empty x361001 x16)).bind fun t371 => (if (rdOf ByteArray.empty x361002 x16).size + t371.size ≤ 9223372036854775807 then (if x5.size + ((rdOf ByteArray.empty x361002 x16) ++ t371).size ≤ 9223372036854775807 then (Zd.l0 k (x5 ++ ((rdOf ByteArray.empty x361002 x16) ++ t371)) x14 x15 (wrap64 (x16 + 1)) x361000 x361001 x361002 x361003) else (none)) else (none))) else (none)) else (none))) else (none)) else (none)) else ((ZD.f k x5).bind fun t372 => (Zd.l1 k t372 x361000 x361003 (x361003.length : Int) 0))
def Zd.l1 : Nat → ByteArray → Int → List ByteArray → Int → Int → Option (ByteArray)
 | 0,_,_,_,_,_ => none
 | k + 1,x8,x9,x57,x58,x59 => if x59 < x58 then (if 0 ≤ x59 then (if x59 < (x57.length : Int) then (if (Int.tmod x9 2) = 0 then ((ZT.f k x8 (rdOf ByteArray.empty x57 x59)).bind fun t374 => (Zd.l1 k t374 (wrap64 (Int.tdiv x9 2)) x57 x58 (wrap64 (x59 + 1)))) else ((ZT.f k (rdOf ByteArray.empty x57 x59) x8).bind fun t375 => (Zd.l1 k t375 (wrap64 (Int.tdiv x9 2)) x57 x58 (wrap64 (x59 + 1))))) else (none)) else (none)) else (some x8)
end
def Zd.f (k : Nat) (a0_0 : Int) (l0_1 : List ByteArray) (l0_2 : List ByteArray) (l0_3 : List ByteArray) (a1 : ByteArray) : Option (ByteArray) := (ZJ.f k a1).bind fun t361 => (if t361.size ≤ 140737488355328 then ((some (bytesOf t361 : List Int)).bind fun y362 => (Zd.l0 k (⟨#[107,101,121]⟩ : ByteArray) y362 (y362.length : Int) 0 a0_0 l0_1 l0_2 l0_3)) else (none))
theorem Zd.mono_l : ∀ k,(∀ y0 y1 y2 y3 y4 y5 y6 y7,LeO (Zd.l0 k y0 y1 y2 y3 y4 y5 y6 y7) (Zd.l0 (k + 1) y0 y1 y2 y3 y4 y5 y6 y7)) ∧ (∀ y0 y1 y2 y3 y4,LeO (Zd.l1 k y0 y1 y2 y3 y4) (Zd.l1 (k + 1) y0 y1 y2 y3 y4))
 | 0 => ⟨fun _ _ _ _ _ _ _ _ r h => by simp [Zd.l0] at h,fun _ _ _ _ _ r h => by simp [Zd.l1] at h⟩
 | k + 1 => by
  obtain ⟨ih0,ih1⟩ := Zd.mono_l k
  refine ⟨?_,?_⟩
  ·intro y0 y1 y2 y3 y4 y5 y6 y7
   unfold Zd.l0
   repeat' (with_reducible first | exact ih0 _ _ _ _ _ _ _ _ | exact ih1 _ _ _ _ _ | exact ZD.mono _ _ | exact ZJ.mono _ _ | exact ZT.mono _ _ _ | exact LeO.refl _ | exact LeO.none _ | refine LeO.ite ?_ ?_ | refine LeO.bind ?_ (fun _ => ?_))
  ·intro y0 y1 y2 y3 y4
   unfold Zd.l1
   repeat' (with_reducible first | exact ih0 _ _ _ _ _ _ _ _ | exact ih1 _ _ _ _ _ | exact ZD.mono _ _ | exact ZJ.mono _ _ | exact ZT.mono _ _ _ | exact LeO.refl _ | exact LeO.none _ | refine LeO.ite ?_ ?_ | refine LeO.bind ?_ (fun _ => ?_))
theorem Zd.mono : ∀ a0 a1 a2 a3 a4 k,LeO (Zd.f k a0 a1 a2 a3 a4) (Zd.f (k + 1) a0 a1 a2 a3 a4) := by
 intro a0 a1 a2 a3 a4 k
 obtain ⟨ih0,ih1⟩ := Zd.mono_l k
 unfold Zd.f
 repeat' (with_reducible first | exact ih0 _ _ _ _ _ _ _ _ | exact ih1 _ _ _ _ _ | exact ZD.mono _ _ | exact ZJ.mono _ _ | exact ZT.mono _ _ _ | exact LeO.refl _ | exact LeO.none _ | refine LeO.ite ?_ ?_ | refine LeO.bind ?_ (fun _ => ?_))
noncomputable def Zd.lv0 (x5 : ByteArray) (x14 : List Int) (x15 : Int) (x16 : Int) (x361000 : Int) (x361001 : List ByteArray) (x361002 : List ByteArray) (x361003 : List ByteArray) : Option (ByteArray) := lim (fun k_ => Zd.l0 k_ x5 x14 x15 x16 x361000 x361001 x361002 x361003)
noncomputable def Zd.lv1 (x8 : ByteArray) (x9 : Int) (x57 : List ByteArray) (x58 : Int) (x59 : Int) : Option (ByteArray) := lim (fun k_ => Zd.l1 k_ x8 x9 x57 x58 x59)
noncomputable def Zd.v (a0_0 : Int) (l0_1 : List ByteArray) (l0_2 : List ByteArray) (l0_3 : List ByteArray) (a1 : ByteArray) : Option (ByteArray) := lim (fun k_ => Zd.f k_ a0_0 l0_1 l0_2 l0_3 a1)
theorem Zd.lv0_lim (x5 : ByteArray) (x14 : List Int) (x15 : Int) (x16 : Int) (x361000 : Int) (x361001 : List ByteArray) (x361002 : List ByteArray) (x361003 : List ByteArray) : LimIs (fun k_ => Zd.l0 k_ x5 x14 x15 x16 x361000 x361001 x361002 x361003) (Zd.lv0 x5 x14 x15 x16 x361000 x361001 x361002 x361003) := lim_is (fun k_ => (Zd.mono_l k_).1 x5 x14 x15 x16 x361000 x361001 x361002 x361003)
theorem Zd.lv1_lim (x8 : ByteArray) (x9 : Int) (x57 : List ByteArray) (x58 : Int) (x59 : Int) : LimIs (fun k_ => Zd.l1 k_ x8 x9 x57 x58 x59) (Zd.lv1 x8 x9 x57 x58 x59) := lim_is (fun k_ => (Zd.mono_l k_).2 x8 x9 x57 x58 x59)
theorem Zd.v_lim (a0_0 : Int) (l0_1 : List ByteArray) (l0_2 : List ByteArray) (l0_3 : List ByteArray) (a1 : ByteArray) : LimIs (fun k_ => Zd.f k_ a0_0 l0_1 l0_2 l0_3 a1) (Zd.v a0_0 l0_1 l0_2 l0_3 a1) := lim_is (fun k_ => Zd.mono a0_0 l0_1 l0_2 l0_3 a1 k_)
theorem Zd.lv0_eq (x5 : ByteArray) (x14 : List Int) (x15 : Int) (x16 : Int) (x361000 : Int) (x361001 : List ByteArray) (x361002 : List ByteArray) (x361003 : List ByteArray) : Zd.lv0 x5 x14 x15 x16 x361000 x361001 x361002 x361003 = (if x16 < x15 then (if 0 ≤ x16 then (if x16 < (x14.length : Int) then (if (rd x14 x16) = 48 then (if x16 < (x361001.length : Int) then ((ZD.v (rdOf ByteArray.empty x361001 x16)).bind fun t367 => (if x16 < (x361002.length : Int) then (if t367.size + (rdOf ByteArray.empty x361002 x16).size ≤ 9223372036854775807 then (if x5.size + (t367 ++ (rdOf ByteArray.empty x361002 x16)).size ≤ 9223372036854775807 then (Zd.lv0 (x5 ++ (t367 ++ (rdOf ByteArray.empty x361002 x16))) x14 x15 (wrap64 (x16 + 1)) x361000 x361001 x361002 x361003) else (none)) else (none)) else (none))) else (none)) else (if x16 < (x361002.length : Int) then (if x16 < (x361001.length : Int) then ((ZD.v (rdOf ByteArray.empty x361001 x16)).bind fun t371 => (if (rdOf ByteArray.empty x361002 x16).size + t371.size ≤ 9223372036854775807 then (if x5.size + ((rdOf ByteArray.empty x361002 x16) ++ t371).size ≤ 9223372036854775807 then (Zd.lv0 (x5 ++ ((rdOf ByteArray.empty x361002 x16) ++ t371)) x14 x15 (wrap64 (x16 + 1)) x361000 x361001 x361002 x361003) else (none)) else (none))) else (none)) else (none))) else (none)) else (none)) else ((ZD.v x5).bind fun t372 => (Zd.lv1 t372 x361000 x361003 (x361003.length : Int) 0)) : Option (ByteArray)) := by
 refine LimIs.eq (Zd.lv0_lim x5 x14 x15 x16 x361000 x361001 x361002 x361003) ?_
 refine LimIs.step (fun k_ => (Zd.mono_l k_).1 x5 x14 x15 x16 x361000 x361001 x361002 x361003) ?_
 simp only [Zd.l0]
 repeat' (with_reducible first | exact Zd.lv0_lim _ _ _ _ _ _ _ _ | exact Zd.lv1_lim _ _ _ _ _ | exact ZD.v_lim _ | exact LimIs.const _ | refine LimIs.ite ?_ ?_ | refine LimIs.bind ?_ (fun _ => ?_))
theorem Zd.lv1_eq (x8 : ByteArray) (x9 : Int) (x57 : List ByteArray) (x58 : Int) (x59 : Int) : Zd.lv1 x8 x9 x57 x58 x59 = (if x59 < x58 then (if 0 ≤ x59 then (if x59 < (x57.length : Int) then (if (Int.tmod x9 2) = 0 then ((ZT.v x8 (rdOf ByteArray.empty x57 x59)).bind fun t374 => (Zd.lv1 t374 (wrap64 (Int.tdiv x9 2)) x57 x58 (wrap64 (x59 + 1)))) else ((ZT.v (rdOf ByteArray.empty x57 x59) x8).bind fun t375 => (Zd.lv1 t375 (wrap64 (Int.tdiv x9 2)) x57 x58 (wrap64 (x59 + 1))))) else (none)) else (none)) else (some x8) : Option (ByteArray)) := by
 refine LimIs.eq (Zd.lv1_lim x8 x9 x57 x58 x59) ?_
 refine LimIs.step (fun k_ => (Zd.mono_l k_).2 x8 x9 x57 x58 x59) ?_
 simp only [Zd.l1]
 repeat' (with_reducible first | exact Zd.lv1_lim _ _ _ _ _ | exact ZT.v_lim _ _ | exact LimIs.const _ | refine LimIs.ite ?_ ?_ | refine LimIs.bind ?_ (fun _ => ?_))
theorem Zd.v_eq (a0_0 : Int) (l0_1 : List ByteArray) (l0_2 : List ByteArray) (l0_3 : List ByteArray) (a1 : ByteArray) : Zd.v a0_0 l0_1 l0_2 l0_3 a1 = ((ZJ.v a1).bind fun t361 => (if t361.size ≤ 140737488355328 then ((some (bytesOf t361 : List Int)).bind fun y362 => (Zd.lv0 (⟨#[107,101,121]⟩ : ByteArray) y362 (y362.length : Int) 0 a0_0 l0_1 l0_2 l0_3)) else (none)) : Option (ByteArray)) := by
 refine LimIs.eq (Zd.v_lim a0_0 l0_1 l0_2 l0_3 a1) ?_
 simp only [Zd.f]
 repeat' (with_reducible first | exact Zd.lv0_lim _ _ _ _ _ _ _ _ | exact ZJ.v_lim _ | exact LimIs.const _ | refine LimIs.ite ?_ ?_ | refine LimIs.bind ?_ (fun _ => ?_))
mutual
def Zi.j0 : Nat → ByteArray → ByteArray → Bool → Int → List ByteArray → List ByteArray → List ByteArray → Option (Int)
 | 0,_,_,_,_,_,_,_ => none
 | k + 1,x0,x1,x7,x377000,x377001,x377002,x377003 => if x7 = true then (some 2) else ((Yo.f x0).bind fun t381 => (if t381 = true then ((Ya.f x377001 32).bind fun t382 => (if t382 = true then ((Ya.f x377002 32).bind fun t383 => (if t383 = true then ((Ya.f x377003 3).bind fun t384 => (Zi.j1 k x0 x1 (!t384) x377000 x377001 x377002 x377003)) else (Zi.j1 k x0 x1 true x377000 x377001 x377002 x377003))) else (Zi.j1 k x0 x1 true x377000 x377001 x377002 x377003))) else (Zi.j1 k x0 x1 true x377000 x377001 x377002 x377003)))
def Zi.j1 : Nat → ByteArray → ByteArray → Bool → Int → List ByteArray → List ByteArray → List ByteArray → Option (Int)
 | 0,_,_,_,_,_,_,_ => none
 | k + 1,x0,x1,x16,x377000,x377001,x377002,x377003 => if x16 = true then (some 1) else ((ZW.f x377000).bind fun t385 => (if t385 = true then ((Zd.f k x377000 x377001 x377002 x377003 x1).bind fun t386 => (if t386.toList = x0.toList then (some 0) else (some 12))) else (some 4)))
end
def Zi.f (k : Nat) (a0 : ByteArray) (a1 : ByteArray) (a2_0 : Int) (l2_1 : List ByteArray) (l2_2 : List ByteArray) (l2_3 : List ByteArray) : Option (Int) := (Yq.f (([a0] : List ByteArray))).bind fun t380 => (if t380 = true then (Zi.j0 k a0 a1 true a2_0 l2_1 l2_2 l2_3) else (Zi.j0 k a0 a1 (decide ((a1.size : Int) > 65530)) a2_0 l2_1 l2_2 l2_3))
theorem Zi.mono_l : ∀ k,(∀ y0 y1 y2 y3 y4 y5 y6,LeO (Zi.j0 k y0 y1 y2 y3 y4 y5 y6) (Zi.j0 (k + 1) y0 y1 y2 y3 y4 y5 y6)) ∧ (∀ y0 y1 y2 y3 y4 y5 y6,LeO (Zi.j1 k y0 y1 y2 y3 y4 y5 y6) (Zi.j1 (k + 1) y0 y1 y2 y3 y4 y5 y6))
 | 0 => ⟨fun _ _ _ _ _ _ _ r h => by simp [Zi.j0] at h,fun _ _ _ _ _ _ _ r h => by simp [Zi.j1] at h⟩
 | k + 1 => by
  obtain ⟨ih0,ih1⟩ := Zi.mono_l k
  refine ⟨?_,?_⟩
  ·intro y0 y1 y2 y3 y4 y5 y6
   unfold Zi.j0
   repeat' (with_reducible first | exact ih0 _ _ _ _ _ _ _ | exact ih1 _ _ _ _ _ _ _ | exact Zd.mono _ _ _ _ _ _ | exact LeO.refl _ | exact LeO.none _ | refine LeO.ite ?_ ?_ | refine LeO.bind ?_ (fun _ => ?_))
  ·intro y0 y1 y2 y3 y4 y5 y6
   unfold Zi.j1
   repeat' (with_reducible first | exact ih0 _ _ _ _ _ _ _ | exact ih1 _ _ _ _ _ _ _ | exact Zd.mono _ _ _ _ _ _ | exact LeO.refl _ | exact LeO.none _ | refine LeO.ite ?_ ?_ | refine LeO.bind ?_ (fun _ => ?_))
theorem Zi.mono : ∀ a0 a1 a2 a3 a4 a5 k,LeO (Zi.f k a0 a1 a2 a3 a4 a5) (Zi.f (k + 1) a0 a1 a2 a3 a4 a5) := by
 intro a0 a1 a2 a3 a4 a5 k
 obtain ⟨ih0,ih1⟩ := Zi.mono_l k
 unfold Zi.f
 repeat' (with_reducible first | exact ih0 _ _ _ _ _ _ _ | exact ih1 _ _ _ _ _ _ _ | exact Zd.mono _ _ _ _ _ _ | exact LeO.refl _ | exact LeO.none _ | refine LeO.ite ?_ ?_ | refine LeO.bind ?_ (fun _ => ?_))
noncomputable def Zi.jv0 (x0 : ByteArray) (x1 : ByteArray) (x7 : Bool) (x377000 : Int) (x377001 : List ByteArray) (x377002 : List ByteArray) (x377003 : List ByteArray) : Option (Int) := lim (fun k_ => Zi.j0 k_ x0 x1 x7 x377000 x377001 x377002 x377003)
noncomputable def Zi.jv1 (x0 : ByteArray) (x1 : ByteArray) (x16 : Bool) (x377000 : Int) (x377001 : List ByteArray) (x377002 : List ByteArray) (x377003 : List ByteArray) : Option (Int) := lim (fun k_ => Zi.j1 k_ x0 x1 x16 x377000 x377001 x377002 x377003)
noncomputable def Zi.v (a0 : ByteArray) (a1 : ByteArray) (a2_0 : Int) (l2_1 : List ByteArray) (l2_2 : List ByteArray) (l2_3 : List ByteArray) : Option (Int) := lim (fun k_ => Zi.f k_ a0 a1 a2_0 l2_1 l2_2 l2_3)
theorem Zi.jv0_lim (x0 : ByteArray) (x1 : ByteArray) (x7 : Bool) (x377000 : Int) (x377001 : List ByteArray) (x377002 : List ByteArray) (x377003 : List ByteArray) : LimIs (fun k_ => Zi.j0 k_ x0 x1 x7 x377000 x377001 x377002 x377003) (Zi.jv0 x0 x1 x7 x377000 x377001 x377002 x377003) := lim_is (fun k_ => (Zi.mono_l k_).1 x0 x1 x7 x377000 x377001 x377002 x377003)
theorem Zi.jv1_lim (x0 : ByteArray) (x1 : ByteArray) (x16 : Bool) (x377000 : Int) (x377001 : List ByteArray) (x377002 : List ByteArray) (x377003 : List ByteArray) : LimIs (fun k_ => Zi.j1 k_ x0 x1 x16 x377000 x377001 x377002 x377003) (Zi.jv1 x0 x1 x16 x377000 x377001 x377002 x377003) := lim_is (fun k_ => (Zi.mono_l k_).2 x0 x1 x16 x377000 x377001 x377002 x377003)
theorem Zi.v_lim (a0 : ByteArray) (a1 : ByteArray) (a2_0 : Int) (l2_1 : List ByteArray) (l2_2 : List ByteArray) (l2_3 : List ByteArray) : LimIs (fun k_ => Zi.f k_ a0 a1 a2_0 l2_1 l2_2 l2_3) (Zi.v a0 a1 a2_0 l2_1 l2_2 l2_3) := lim_is (fun k_ => Zi.mono a0 a1 a2_0 l2_1 l2_2 l2_3 k_)
theorem Zi.jv0_eq (x0 : ByteArray) (x1 : ByteArray) (x7 : Bool) (x377000 : Int) (x377001 : List ByteArray) (x377002 : List ByteArray) (x377003 : List ByteArray) : Zi.jv0 x0 x1 x7 x377000 x377001 x377002 x377003 = (if x7 = true then (some 2) else ((Yo.v x0).bind fun t381 => (if t381 = true then ((Ya.v x377001 32).bind fun t382 => (if t382 = true then ((Ya.v x377002 32).bind fun t383 => (if t383 = true then ((Ya.v x377003 3).bind fun t384 => (Zi.jv1 x0 x1 (!t384) x377000 x377001 x377002 x377003)) else (Zi.jv1 x0 x1 true x377000 x377001 x377002 x377003))) else (Zi.jv1 x0 x1 true x377000 x377001 x377002 x377003))) else (Zi.jv1 x0 x1 true x377000 x377001 x377002 x377003))) : Option (Int)) := by
 refine LimIs.eq (Zi.jv0_lim x0 x1 x7 x377000 x377001 x377002 x377003) ?_
 refine LimIs.step (fun k_ => (Zi.mono_l k_).1 x0 x1 x7 x377000 x377001 x377002 x377003) ?_
 simp only [Zi.j0]
 repeat' (with_reducible first | exact Zi.jv1_lim _ _ _ _ _ _ _ | exact Ya.v_lim _ _ | exact Yo.v_lim _ | exact LimIs.const _ | refine LimIs.ite ?_ ?_ | refine LimIs.bind ?_ (fun _ => ?_))
theorem Zi.jv1_eq (x0 : ByteArray) (x1 : ByteArray) (x16 : Bool) (x377000 : Int) (x377001 : List ByteArray) (x377002 : List ByteArray) (x377003 : List ByteArray) : Zi.jv1 x0 x1 x16 x377000 x377001 x377002 x377003 = (if x16 = true then (some 1) else ((ZW.v x377000).bind fun t385 => (if t385 = true then ((Zd.v x377000 x377001 x377002 x377003 x1).bind fun t386 => (if t386.toList = x0.toList then (some 0) else (some 12))) else (some 4))) : Option (Int)) := by
 refine LimIs.eq (Zi.jv1_lim x0 x1 x16 x377000 x377001 x377002 x377003) ?_
 refine LimIs.step (fun k_ => (Zi.mono_l k_).2 x0 x1 x16 x377000 x377001 x377002 x377003) ?_
 simp only [Zi.j1]
 repeat' (with_reducible first | exact Zd.v_lim _ _ _ _ _ | exact ZW.v_lim _ | exact LimIs.const _ | refine LimIs.ite ?_ ?_ | refine LimIs.bind ?_ (fun _ => ?_))
theorem Zi.v_eq (a0 : ByteArray) (a1 : ByteArray) (a2_0 : Int) (l2_1 : List ByteArray) (l2_2 : List ByteArray) (l2_3 : List ByteArray) : Zi.v a0 a1 a2_0 l2_1 l2_2 l2_3 = ((Yq.v (([a0] : List ByteArray))).bind fun t380 => (if t380 = true then (Zi.jv0 a0 a1 true a2_0 l2_1 l2_2 l2_3) else (Zi.jv0 a0 a1 (decide ((a1.size : Int) > 65530)) a2_0 l2_1 l2_2 l2_3)) : Option (Int)) := by
 refine LimIs.eq (Zi.v_lim a0 a1 a2_0 l2_1 l2_2 l2_3) ?_
 simp only [Zi.f]
 repeat' (with_reducible first | exact Zi.jv0_lim _ _ _ _ _ _ _ | exact Yq.v_lim _ | exact LimIs.const _ | refine LimIs.ite ?_ ?_ | refine LimIs.bind ?_ (fun _ => ?_))
def Zp.l0 : Nat → List ByteArray → Option (ByteArray)
 | 0,_ => none
 | k + 1,x3 => if (x3.length : Int) > 1 then ((Zy.f k x3).bind fun t390 => (Zp.l0 k t390)) else (if 0 < (x3.length : Int) then (some (rdOf ByteArray.empty x3 0)) else (none))
def Zp.f (k : Nat) (a0 : ByteArray) : Option (ByteArray) := (ZF.f k a0).bind fun t387 => (Zp.l0 k t387)
theorem Zp.mono_l : ∀ k,(∀ y0,LeO (Zp.l0 k y0) (Zp.l0 (k + 1) y0))
 | 0 => fun _ r h => by simp [Zp.l0] at h
 | k + 1 => by
  have ih0 := Zp.mono_l k
  ·intro y0
   unfold Zp.l0
   repeat' (with_reducible first | exact ih0 _ | exact Zy.mono _ _ | exact ZF.mono _ _ | exact LeO.refl _ | exact LeO.none _ | refine LeO.ite ?_ ?_ | refine LeO.bind ?_ (fun _ => ?_))
theorem Zp.mono : ∀ a0 k,LeO (Zp.f k a0) (Zp.f (k + 1) a0) := by
 intro a0 k
 have ih0 := Zp.mono_l k
 unfold Zp.f
 repeat' (with_reducible first | exact ih0 _ | exact Zy.mono _ _ | exact ZF.mono _ _ | exact LeO.refl _ | exact LeO.none _ | refine LeO.ite ?_ ?_ | refine LeO.bind ?_ (fun _ => ?_))
noncomputable def Zp.lv0 (x3 : List ByteArray) : Option (ByteArray) := lim (fun k_ => Zp.l0 k_ x3)
noncomputable def Zp.v (a0 : ByteArray) : Option (ByteArray) := lim (fun k_ => Zp.f k_ a0)
theorem Zp.lv0_lim (x3 : List ByteArray) : LimIs (fun k_ => Zp.l0 k_ x3) (Zp.lv0 x3) := lim_is (fun k_ => (Zp.mono_l k_) x3)
theorem Zp.v_lim (a0 : ByteArray) : LimIs (fun k_ => Zp.f k_ a0) (Zp.v a0) := lim_is (fun k_ => Zp.mono a0 k_)
theorem Zp.lv0_eq (x3 : List ByteArray) : Zp.lv0 x3 = (if (x3.length : Int) > 1 then ((Zy.v x3).bind fun t390 => (Zp.lv0 t390)) else (if 0 < (x3.length : Int) then (some (rdOf ByteArray.empty x3 0)) else (none)) : Option (ByteArray)) := by
 refine LimIs.eq (Zp.lv0_lim x3) ?_
 refine LimIs.step (fun k_ => (Zp.mono_l k_) x3) ?_
 simp only [Zp.l0]
 repeat' (with_reducible first | exact Zy.v_lim _ | exact Zp.lv0_lim _ | exact LimIs.const _ | refine LimIs.ite ?_ ?_ | refine LimIs.bind ?_ (fun _ => ?_))
theorem Zp.v_eq (a0 : ByteArray) : Zp.v a0 = ((ZF.v a0).bind fun t387 => (Zp.lv0 t387) : Option (ByteArray)) := by
 refine LimIs.eq (Zp.v_lim a0) ?_
 simp only [Zp.f]
 repeat' (with_reducible first | exact Zp.lv0_lim _ | exact ZF.v_lim _ | exact LimIs.const _ | refine LimIs.ite ?_ ?_ | refine LimIs.bind ?_ (fun _ => ?_))
def Zh.l0 : Nat → List Int → Int → Int → ByteArray → Int → Int → Int → List Int → List (S37) → Option (Int)
 | 0,_,_,_,_,_,_,_,_,_ => none
 | k + 1,x33,x34,x35,x395000,x395001,x395002,x395003,x395004,x395005 => if x35 < x34 then (if 0 ≤ x35 then (if x35 < (x33.length : Int) then ((ZE.f k (rd x33 x35)).bind fun t399 => ((Zp.f k t399).bind fun t400 => ((ZO.f x395000 x395001 x395002 x395003).bind fun t401 => (if x35 < (x395005.length : Int) then ((Zi.f k t400 t401 ((rd_T37 x395005 x35).f0) ((rd_T37 x395005 x35).f1) ((rd_T37 x395005 x35).f2) ((rd_T37 x395005 x35).f3)).bind fun t403 => (if t403 = 0 then (Zh.l0 k x33 x34 (wrap64 (x35 + 1)) x395000 x395001 x395002 x395003 x395004 x395005) else (some t403))) else (none))))) else (none)) else (none)) else (some 0)
def Zh.f (k : Nat) (a0 : Int) (a1_0 : ByteArray) (a1_1 : Int) (a1_2 : Int) (a1_3 : Int) (l1_4 : List Int) (l1_5 : List (S37)) : Option (Int) := (ZI.f k a1_0 a1_1 a1_2 a1_3).bind fun t395 => (if t395 = true then ((ZX.f a0).bind fun t396 => (if t396 = true then ((ZL.f k a0 l1_4).bind fun t397 => (if t397 = true then (if (l1_5.length : Int) = (l1_4.length : Int) then (Zh.l0 k l1_4 (l1_4.length : Int) 0 a1_0 a1_1 a1_2 a1_3 l1_4 l1_5) else (some 19)) else (some 19))) else (some 4))) else (some 1))
theorem Zh.mono_l : ∀ k,(∀ y0 y1 y2 y3 y4 y5 y6 y7 y8,LeO (Zh.l0 k y0 y1 y2 y3 y4 y5 y6 y7 y8) (Zh.l0 (k + 1) y0 y1 y2 y3 y4 y5 y6 y7 y8))
 | 0 => fun _ _ _ _ _ _ _ _ _ r h => by simp [Zh.l0] at h
 | k + 1 => by
  have ih0 := Zh.mono_l k
  ·intro y0 y1 y2 y3 y4 y5 y6 y7 y8
   unfold Zh.l0
   repeat' (with_reducible first | exact ih0 _ _ _ _ _ _ _ _ _ | exact Zi.mono _ _ _ _ _ _ _ | exact ZI.mono _ _ _ _ _ | exact Zp.mono _ _ | exact ZL.mono _ _ _ | exact ZE.mono _ _ | exact LeO.refl _ | exact LeO.none _ | refine LeO.ite ?_ ?_ | refine LeO.bind ?_ (fun _ => ?_))
theorem Zh.mono : ∀ a0 a1 a2 a3 a4 a5 a6 k,LeO (Zh.f k a0 a1 a2 a3 a4 a5 a6) (Zh.f (k + 1) a0 a1 a2 a3 a4 a5 a6) := by
 intro a0 a1 a2 a3 a4 a5 a6 k
 have ih0 := Zh.mono_l k
 unfold Zh.f
 repeat' (with_reducible first | exact ih0 _ _ _ _ _ _ _ _ _ | exact Zi.mono _ _ _ _ _ _ _ | exact ZI.mono _ _ _ _ _ | exact Zp.mono _ _ | exact ZL.mono _ _ _ | exact ZE.mono _ _ | exact LeO.refl _ | exact LeO.none _ | refine LeO.ite ?_ ?_ | refine LeO.bind ?_ (fun _ => ?_))
noncomputable def Zh.lv0 (x33 : List Int) (x34 : Int) (x35 : Int) (x395000 : ByteArray) (x395001 : Int) (x395002 : Int) (x395003 : Int) (x395004 : List Int) (x395005 : List (S37)) : Option (Int) := lim (fun k_ => Zh.l0 k_ x33 x34 x35 x395000 x395001 x395002 x395003 x395004 x395005)
noncomputable def Zh.v (a0 : Int) (a1_0 : ByteArray) (a1_1 : Int) (a1_2 : Int) (a1_3 : Int) (l1_4 : List Int) (l1_5 : List (S37)) : Option (Int) := lim (fun k_ => Zh.f k_ a0 a1_0 a1_1 a1_2 a1_3 l1_4 l1_5)
theorem Zh.lv0_lim (x33 : List Int) (x34 : Int) (x35 : Int) (x395000 : ByteArray) (x395001 : Int) (x395002 : Int) (x395003 : Int) (x395004 : List Int) (x395005 : List (S37)) : LimIs (fun k_ => Zh.l0 k_ x33 x34 x35 x395000 x395001 x395002 x395003 x395004 x395005) (Zh.lv0 x33 x34 x35 x395000 x395001 x395002 x395003 x395004 x395005) := lim_is (fun k_ => (Zh.mono_l k_) x33 x34 x35 x395000 x395001 x395002 x395003 x395004 x395005)
theorem Zh.v_lim (a0 : Int) (a1_0 : ByteArray) (a1_1 : Int) (a1_2 : Int) (a1_3 : Int) (l1_4 : List Int) (l1_5 : List (S37)) : LimIs (fun k_ => Zh.f k_ a0 a1_0 a1_1 a1_2 a1_3 l1_4 l1_5) (Zh.v a0 a1_0 a1_1 a1_2 a1_3 l1_4 l1_5) := lim_is (fun k_ => Zh.mono a0 a1_0 a1_1 a1_2 a1_3 l1_4 l1_5 k_)
theorem Zh.lv0_eq (x33 : List Int) (x34 : Int) (x35 : Int) (x395000 : ByteArray) (x395001 : Int) (x395002 : Int) (x395003 : Int) (x395004 : List Int) (x395005 : List (S37)) : Zh.lv0 x33 x34 x35 x395000 x395001 x395002 x395003 x395004 x395005 = (if x35 < x34 then (if 0 ≤ x35 then (if x35 < (x33.length : Int) then ((ZE.v (rd x33 x35)).bind fun t399 => ((Zp.v t399).bind fun t400 => ((ZO.v x395000 x395001 x395002 x395003).bind fun t401 => (if x35 < (x395005.length : Int) then ((Zi.v t400 t401 ((rd_T37 x395005 x35).f0) ((rd_T37 x395005 x35).f1) ((rd_T37 x395005 x35).f2) ((rd_T37 x395005 x35).f3)).bind fun t403 => (if t403 = 0 then (Zh.lv0 x33 x34 (wrap64 (x35 + 1)) x395000 x395001 x395002 x395003 x395004 x395005) else (some t403))) else (none))))) else (none)) else (none)) else (some 0) : Option (Int)) := by
 refine LimIs.eq (Zh.lv0_lim x33 x34 x35 x395000 x395001 x395002 x395003 x395004 x395005) ?_
 refine LimIs.step (fun k_ => (Zh.mono_l k_) x33 x34 x35 x395000 x395001 x395002 x395003 x395004 x395005) ?_
 simp only [Zh.l0]
 repeat' (with_reducible first | exact Zh.lv0_lim _ _ _ _ _ _ _ _ _ | exact Zi.v_lim _ _ _ _ _ _ | exact Zp.v_lim _ | exact ZO.v_lim _ _ _ _ | exact ZE.v_lim _ | exact LimIs.const _ | refine LimIs.ite ?_ ?_ | refine LimIs.bind ?_ (fun _ => ?_))
theorem Zh.v_eq (a0 : Int) (a1_0 : ByteArray) (a1_1 : Int) (a1_2 : Int) (a1_3 : Int) (l1_4 : List Int) (l1_5 : List (S37)) : Zh.v a0 a1_0 a1_1 a1_2 a1_3 l1_4 l1_5 = ((ZI.v a1_0 a1_1 a1_2 a1_3).bind fun t395 => (if t395 = true then ((ZX.v a0).bind fun t396 => (if t396 = true then ((ZL.v a0 l1_4).bind fun t397 => (if t397 = true then (if (l1_5.length : Int) = (l1_4.length : Int) then (Zh.lv0 l1_4 (l1_4.length : Int) 0 a1_0 a1_1 a1_2 a1_3 l1_4 l1_5) else (some 19)) else (some 19))) else (some 4))) else (some 1)) : Option (Int)) := by
 refine LimIs.eq (Zh.v_lim a0 a1_0 a1_1 a1_2 a1_3 l1_4 l1_5) ?_
 simp only [Zh.f]
 repeat' (with_reducible first | exact Zh.lv0_lim _ _ _ _ _ _ _ _ _ | exact ZI.v_lim _ _ _ _ | exact ZX.v_lim _ | exact ZL.v_lim _ _ | exact LimIs.const _ | refine LimIs.ite ?_ ?_ | refine LimIs.bind ?_ (fun _ => ?_))
def Zt.j0 : Nat → Int → Int → Bool → ByteArray → Int → Int → Int → Option (Int × List ByteArray × List ByteArray × List ByteArray × Int)
 | 0,_,_,_,_,_,_,_ => none
 | k + 1,x0,x1,x13,x405000,x405001,x405002,x405003 => if x13 = true then (some (0,([] : List ByteArray),([] : List ByteArray),([] : List ByteArray),4)) else ((ZE.f k x0).bind fun t409 => ((ZO.f x405000 x405001 x405002 x405003).bind fun t410 => ((Zj.f k t409 x1 t410).bind fun bt411 => (some (bt411.1,bt411.2.1,bt411.2.2.1,bt411.2.2.2,0)))))
def Zt.f (k : Nat) (a0 : Int) (a1 : Int) (a2_0 : ByteArray) (a2_1 : Int) (a2_2 : Int) (a2_3 : Int) : Option (Int × List ByteArray × List ByteArray × List ByteArray × Int) := (ZI.f k a2_0 a2_1 a2_2 a2_3).bind fun t406 => (if t406 = true then ((ZH.f a0 0 6).bind fun t407 => (if t407 = true then ((ZW.f a1).bind fun t408 => (Zt.j0 k a0 a1 (!t408) a2_0 a2_1 a2_2 a2_3)) else (Zt.j0 k a0 a1 true a2_0 a2_1 a2_2 a2_3))) else (some (0,([] : List ByteArray),([] : List ByteArray),([] : List ByteArray),1)))
theorem Zt.mono_l : ∀ k,(∀ y0 y1 y2 y3 y4 y5 y6,LeO (Zt.j0 k y0 y1 y2 y3 y4 y5 y6) (Zt.j0 (k + 1) y0 y1 y2 y3 y4 y5 y6))
 | 0 => fun _ _ _ _ _ _ _ r h => by simp [Zt.j0] at h
 | k + 1 => by
  have ih0 := Zt.mono_l k
  ·intro y0 y1 y2 y3 y4 y5 y6
   unfold Zt.j0
   repeat' (with_reducible first | exact ih0 _ _ _ _ _ _ _ | exact ZI.mono _ _ _ _ _ | exact ZE.mono _ _ | exact Zj.mono _ _ _ _ | exact LeO.refl _ | exact LeO.none _ | refine LeO.ite ?_ ?_ | refine LeO.bind ?_ (fun _ => ?_))
theorem Zt.mono : ∀ a0 a1 a2 a3 a4 a5 k,LeO (Zt.f k a0 a1 a2 a3 a4 a5) (Zt.f (k + 1) a0 a1 a2 a3 a4 a5) := by
 intro a0 a1 a2 a3 a4 a5 k
 have ih0 := Zt.mono_l k
 unfold Zt.f
 repeat' (with_reducible first | exact ih0 _ _ _ _ _ _ _ | exact ZI.mono _ _ _ _ _ | exact ZE.mono _ _ | exact Zj.mono _ _ _ _ | exact LeO.refl _ | exact LeO.none _ | refine LeO.ite ?_ ?_ | refine LeO.bind ?_ (fun _ => ?_))
noncomputable def Zt.jv0 (x0 : Int) (x1 : Int) (x13 : Bool) (x405000 : ByteArray) (x405001 : Int) (x405002 : Int) (x405003 : Int) : Option (Int × List ByteArray × List ByteArray × List ByteArray × Int) := lim (fun k_ => Zt.j0 k_ x0 x1 x13 x405000 x405001 x405002 x405003)
noncomputable def Zt.v (a0 : Int) (a1 : Int) (a2_0 : ByteArray) (a2_1 : Int) (a2_2 : Int) (a2_3 : Int) : Option (Int × List ByteArray × List ByteArray × List ByteArray × Int) := lim (fun k_ => Zt.f k_ a0 a1 a2_0 a2_1 a2_2 a2_3)
theorem Zt.jv0_lim (x0 : Int) (x1 : Int) (x13 : Bool) (x405000 : ByteArray) (x405001 : Int) (x405002 : Int) (x405003 : Int) : LimIs (fun k_ => Zt.j0 k_ x0 x1 x13 x405000 x405001 x405002 x405003) (Zt.jv0 x0 x1 x13 x405000 x405001 x405002 x405003) := lim_is (fun k_ => (Zt.mono_l k_) x0 x1 x13 x405000 x405001 x405002 x405003)
theorem Zt.v_lim (a0 : Int) (a1 : Int) (a2_0 : ByteArray) (a2_1 : Int) (a2_2 : Int) (a2_3 : Int) : LimIs (fun k_ => Zt.f k_ a0 a1 a2_0 a2_1 a2_2 a2_3) (Zt.v a0 a1 a2_0 a2_1 a2_2 a2_3) := lim_is (fun k_ => Zt.mono a0 a1 a2_0 a2_1 a2_2 a2_3 k_)
theorem Zt.jv0_eq (x0 : Int) (x1 : Int) (x13 : Bool) (x405000 : ByteArray) (x405001 : Int) (x405002 : Int) (x405003 : Int) : Zt.jv0 x0 x1 x13 x405000 x405001 x405002 x405003 = (if x13 = true then (some (0,([] : List ByteArray),([] : List ByteArray),([] : List ByteArray),4)) else ((ZE.v x0).bind fun t409 => ((ZO.v x405000 x405001 x405002 x405003).bind fun t410 => ((Zj.v t409 x1 t410).bind fun bt411 => (some (bt411.1,bt411.2.1,bt411.2.2.1,bt411.2.2.2,0))))) : Option (Int × List ByteArray × List ByteArray × List ByteArray × Int)) := by
 refine LimIs.eq (Zt.jv0_lim x0 x1 x13 x405000 x405001 x405002 x405003) ?_
 refine LimIs.step (fun k_ => (Zt.mono_l k_) x0 x1 x13 x405000 x405001 x405002 x405003) ?_
 simp only [Zt.j0]
 repeat' (with_reducible first | exact ZO.v_lim _ _ _ _ | exact ZE.v_lim _ | exact Zj.v_lim _ _ _ | exact LimIs.const _ | refine LimIs.ite ?_ ?_ | refine LimIs.bind ?_ (fun _ => ?_))
theorem Zt.v_eq (a0 : Int) (a1 : Int) (a2_0 : ByteArray) (a2_1 : Int) (a2_2 : Int) (a2_3 : Int) : Zt.v a0 a1 a2_0 a2_1 a2_2 a2_3 = ((ZI.v a2_0 a2_1 a2_2 a2_3).bind fun t406 => (if t406 = true then ((ZH.v a0 0 6).bind fun t407 => (if t407 = true then ((ZW.v a1).bind fun t408 => (Zt.jv0 a0 a1 (!t408) a2_0 a2_1 a2_2 a2_3)) else (Zt.jv0 a0 a1 true a2_0 a2_1 a2_2 a2_3))) else (some (0,([] : List ByteArray),([] : List ByteArray),([] : List ByteArray),1))) : Option (Int × List ByteArray × List ByteArray × List ByteArray × Int)) := by
 refine LimIs.eq (Zt.v_lim a0 a1 a2_0 a2_1 a2_2 a2_3) ?_
 simp only [Zt.f]
 repeat' (with_reducible first | exact ZI.v_lim _ _ _ _ | exact Zt.jv0_lim _ _ _ _ _ _ _ | exact ZW.v_lim _ | exact ZH.v_lim _ _ _ | exact LimIs.const _ | refine LimIs.ite ?_ ?_ | refine LimIs.bind ?_ (fun _ => ?_))
def ZY.f (k : Nat) (a0 : Int) : Option (ByteArray × Int) := (ZH.f a0 0 6).bind fun t421 => (if t421 = true then ((ZE.f k a0).bind fun t422 => (some (t422,0))) else (some ((⟨#[]⟩ : ByteArray),4)))
theorem ZY.mono : ∀ a0 k,LeO (ZY.f k a0) (ZY.f (k + 1) a0) := by
 intro a0 k
 unfold ZY.f
 repeat' (with_reducible first | exact ZE.mono _ _ | exact LeO.refl _ | exact LeO.none _ | refine LeO.ite ?_ ?_ | refine LeO.bind ?_ (fun _ => ?_))
noncomputable def ZY.v (a0 : Int) : Option (ByteArray × Int) := lim (fun k_ => ZY.f k_ a0)
theorem ZY.v_lim (a0 : Int) : LimIs (fun k_ => ZY.f k_ a0) (ZY.v a0) := lim_is (fun k_ => ZY.mono a0 k_)
theorem ZY.v_eq (a0 : Int) : ZY.v a0 = ((ZH.v a0 0 6).bind fun t421 => (if t421 = true then ((ZE.v a0).bind fun t422 => (some (t422,0))) else (some ((⟨#[]⟩ : ByteArray),4))) : Option (ByteArray × Int)) := by
 refine LimIs.eq (ZY.v_lim a0) ?_
 simp only [ZY.f]
 repeat' (with_reducible first | exact ZE.v_lim _ | exact ZH.v_lim _ _ _ | exact LimIs.const _ | refine LimIs.ite ?_ ?_ | refine LimIs.bind ?_ (fun _ => ?_))
def ZZ.f (k : Nat) (a0 : Int) : Option (ByteArray × Int) := (ZH.f a0 0 6).bind fun t423 => (if t423 = true then ((ZE.f k a0).bind fun t424 => ((Zp.f k t424).bind fun t425 => (some (t425,0)))) else (some ((⟨#[]⟩ : ByteArray),4)))
theorem ZZ.mono : ∀ a0 k,LeO (ZZ.f k a0) (ZZ.f (k + 1) a0) := by
 intro a0 k
 unfold ZZ.f
 repeat' (with_reducible first | exact Zp.mono _ _ | exact ZE.mono _ _ | exact LeO.refl _ | exact LeO.none _ | refine LeO.ite ?_ ?_ | refine LeO.bind ?_ (fun _ => ?_))
noncomputable def ZZ.v (a0 : Int) : Option (ByteArray × Int) := lim (fun k_ => ZZ.f k_ a0)
theorem ZZ.v_lim (a0 : Int) : LimIs (fun k_ => ZZ.f k_ a0) (ZZ.v a0) := lim_is (fun k_ => ZZ.mono a0 k_)
theorem ZZ.v_eq (a0 : Int) : ZZ.v a0 = ((ZH.v a0 0 6).bind fun t423 => (if t423 = true then ((ZE.v a0).bind fun t424 => ((Zp.v t424).bind fun t425 => (some (t425,0)))) else (some ((⟨#[]⟩ : ByteArray),4))) : Option (ByteArray × Int)) := by
 refine LimIs.eq (ZZ.v_lim a0) ?_
 simp only [ZZ.f]
 repeat' (with_reducible first | exact Zp.v_lim _ | exact ZE.v_lim _ | exact ZH.v_lim _ _ _ | exact LimIs.const _ | refine LimIs.ite ?_ ?_ | refine LimIs.bind ?_ (fun _ => ?_))
def ZM.f (k : Nat) (a0 : ByteArray) (a1 : ByteArray) : Option (ByteArray) := if 4 + a0.size ≤ 9223372036854775807 then (if ((⟨#[110,111,100,101]⟩ : ByteArray) ++ a0).size + a1.size ≤ 9223372036854775807 then (if (((⟨#[110,111,100,101]⟩ : ByteArray) ++ a0) ++ a1).size ≤ 140737488355328 then ((Zb.f k (bytesOf (((⟨#[110,111,100,101]⟩ : ByteArray) ++ a0) ++ a1))).bind fun t429 => (some t429)) else (none)) else (none)) else (none)
theorem ZM.mono : ∀ a0 a1 k,LeO (ZM.f k a0 a1) (ZM.f (k + 1) a0 a1) := by
 intro a0 a1 k
 unfold ZM.f
 repeat' (with_reducible first | exact Zb.mono _ _ | exact LeO.refl _ | exact LeO.none _ | refine LeO.ite ?_ ?_ | refine LeO.bind ?_ (fun _ => ?_))
noncomputable def ZM.v (a0 : ByteArray) (a1 : ByteArray) : Option (ByteArray) := lim (fun k_ => ZM.f k_ a0 a1)
theorem ZM.v_lim (a0 : ByteArray) (a1 : ByteArray) : LimIs (fun k_ => ZM.f k_ a0 a1) (ZM.v a0 a1) := lim_is (fun k_ => ZM.mono a0 a1 k_)
theorem ZM.v_eq (a0 : ByteArray) (a1 : ByteArray) : ZM.v a0 a1 = (if 4 + a0.size ≤ 9223372036854775807 then (if ((⟨#[110,111,100,101]⟩ : ByteArray) ++ a0).size + a1.size ≤ 9223372036854775807 then (if (((⟨#[110,111,100,101]⟩ : ByteArray) ++ a0) ++ a1).size ≤ 140737488355328 then ((Zb.v (bytesOf (((⟨#[110,111,100,101]⟩ : ByteArray) ++ a0) ++ a1))).bind fun t429 => (some t429)) else (none)) else (none)) else (none) : Option (ByteArray)) := by
 refine LimIs.eq (ZM.v_lim a0 a1) ?_
 simp only [ZM.f]
 repeat' (with_reducible first | exact Zb.v_lim _ | exact LimIs.const _ | refine LimIs.ite ?_ ?_ | refine LimIs.bind ?_ (fun _ => ?_))
def Zw.l0 : Nat → List ByteArray → List ByteArray → Int → Option (List ByteArray)
 | 0,_,_,_ => none
 | k + 1,x0,x3,x4 => if x4 < (x0.length : Int) then (if 0 ≤ x4 then (if 0 ≤ (wrap64 (x4 + 1)) then (if (wrap64 (x4 + 1)) < (x0.length : Int) then ((ZM.f k (rdOf ByteArray.empty x0 x4) (rdOf ByteArray.empty x0 (wrap64 (x4 + 1)))).bind fun t435 => (if x3.length < 8796093022208 then (Zw.l0 k x0 (x3 ++ [t435]) (wrap64 (x4 + 2))) else (none))) else (none)) else (none)) else (none)) else (some x3)
def Zw.f (k : Nat) (l0 : List ByteArray) : Option (List ByteArray) := Zw.l0 k l0 (([] : List ByteArray)) 0
theorem Zw.mono_l : ∀ k,(∀ y0 y1 y2,LeO (Zw.l0 k y0 y1 y2) (Zw.l0 (k + 1) y0 y1 y2))
 | 0 => fun _ _ _ r h => by simp [Zw.l0] at h
 | k + 1 => by
  have ih0 := Zw.mono_l k
  ·intro y0 y1 y2
   unfold Zw.l0
   repeat' (with_reducible first | exact ih0 _ _ _ | exact ZM.mono _ _ _ | exact LeO.refl _ | exact LeO.none _ | refine LeO.ite ?_ ?_ | refine LeO.bind ?_ (fun _ => ?_))
theorem Zw.mono : ∀ a0 k,LeO (Zw.f k a0) (Zw.f (k + 1) a0) := by
 intro a0 k
 have ih0 := Zw.mono_l k
 unfold Zw.f
 repeat' (with_reducible first | exact ih0 _ _ _ | exact ZM.mono _ _ _ | exact LeO.refl _ | exact LeO.none _ | refine LeO.ite ?_ ?_ | refine LeO.bind ?_ (fun _ => ?_))
noncomputable def Zw.lv0 (x0 : List ByteArray) (x3 : List ByteArray) (x4 : Int) : Option (List ByteArray) := lim (fun k_ => Zw.l0 k_ x0 x3 x4)
noncomputable def Zw.v (l0 : List ByteArray) : Option (List ByteArray) := lim (fun k_ => Zw.f k_ l0)
theorem Zw.lv0_lim (x0 : List ByteArray) (x3 : List ByteArray) (x4 : Int) : LimIs (fun k_ => Zw.l0 k_ x0 x3 x4) (Zw.lv0 x0 x3 x4) := lim_is (fun k_ => (Zw.mono_l k_) x0 x3 x4)
theorem Zw.v_lim (l0 : List ByteArray) : LimIs (fun k_ => Zw.f k_ l0) (Zw.v l0) := lim_is (fun k_ => Zw.mono l0 k_)
theorem Zw.lv0_eq (x0 : List ByteArray) (x3 : List ByteArray) (x4 : Int) : Zw.lv0 x0 x3 x4 = (if x4 < (x0.length : Int) then (if 0 ≤ x4 then (if 0 ≤ (wrap64 (x4 + 1)) then (if (wrap64 (x4 + 1)) < (x0.length : Int) then ((ZM.v (rdOf ByteArray.empty x0 x4) (rdOf ByteArray.empty x0 (wrap64 (x4 + 1)))).bind fun t435 => (if x3.length < 8796093022208 then (Zw.lv0 x0 (x3 ++ [t435]) (wrap64 (x4 + 2))) else (none))) else (none)) else (none)) else (none)) else (some x3) : Option (List ByteArray)) := by
 refine LimIs.eq (Zw.lv0_lim x0 x3 x4) ?_
 refine LimIs.step (fun k_ => (Zw.mono_l k_) x0 x3 x4) ?_
 simp only [Zw.l0]
 repeat' (with_reducible first | exact Zw.lv0_lim _ _ _ | exact ZM.v_lim _ _ | exact LimIs.const _ | refine LimIs.ite ?_ ?_ | refine LimIs.bind ?_ (fun _ => ?_))
theorem Zw.v_eq (l0 : List ByteArray) : Zw.v l0 = (Zw.lv0 l0 (([] : List ByteArray)) 0 : Option (List ByteArray)) := by
 refine LimIs.eq (Zw.v_lim l0) ?_
 simp only [Zw.f]
 repeat' (with_reducible first | exact Zw.lv0_lim _ _ _ | exact LimIs.const _ | refine LimIs.ite ?_ ?_ | refine LimIs.bind ?_ (fun _ => ?_))
def ZB.l0 : Nat → List ByteArray → Option (ByteArray)
 | 0,_ => none
 | k + 1,x0 => if (x0.length : Int) > 1 then ((Zw.f k x0).bind fun t439 => (ZB.l0 k t439)) else (if 0 < (x0.length : Int) then (some (rdOf ByteArray.empty x0 0)) else (none))
def ZB.f (k : Nat) (l0 : List ByteArray) : Option (ByteArray) := ZB.l0 k l0
theorem ZB.mono_l : ∀ k,(∀ y0,LeO (ZB.l0 k y0) (ZB.l0 (k + 1) y0))
 | 0 => fun _ r h => by simp [ZB.l0] at h
 | k + 1 => by
  have ih0 := ZB.mono_l k
  ·intro y0
   unfold ZB.l0
   repeat' (with_reducible first | exact ih0 _ | exact Zw.mono _ _ | exact LeO.refl _ | exact LeO.none _ | refine LeO.ite ?_ ?_ | refine LeO.bind ?_ (fun _ => ?_))
theorem ZB.mono : ∀ a0 k,LeO (ZB.f k a0) (ZB.f (k + 1) a0) := by
 intro a0 k
 have ih0 := ZB.mono_l k
 unfold ZB.f
 repeat' (with_reducible first | exact ih0 _ | exact Zw.mono _ _ | exact LeO.refl _ | exact LeO.none _ | refine LeO.ite ?_ ?_ | refine LeO.bind ?_ (fun _ => ?_))
noncomputable def ZB.lv0 (x0 : List ByteArray) : Option (ByteArray) := lim (fun k_ => ZB.l0 k_ x0)
noncomputable def ZB.v (l0 : List ByteArray) : Option (ByteArray) := lim (fun k_ => ZB.f k_ l0)
theorem ZB.lv0_lim (x0 : List ByteArray) : LimIs (fun k_ => ZB.l0 k_ x0) (ZB.lv0 x0) := lim_is (fun k_ => (ZB.mono_l k_) x0)
theorem ZB.v_lim (l0 : List ByteArray) : LimIs (fun k_ => ZB.f k_ l0) (ZB.v l0) := lim_is (fun k_ => ZB.mono l0 k_)
theorem ZB.lv0_eq (x0 : List ByteArray) : ZB.lv0 x0 = (if (x0.length : Int) > 1 then ((Zw.v x0).bind fun t439 => (ZB.lv0 t439)) else (if 0 < (x0.length : Int) then (some (rdOf ByteArray.empty x0 0)) else (none)) : Option (ByteArray)) := by
 refine LimIs.eq (ZB.lv0_lim x0) ?_
 refine LimIs.step (fun k_ => (ZB.mono_l k_) x0) ?_
 simp only [ZB.l0]
 repeat' (with_reducible first | exact Zw.v_lim _ | exact ZB.lv0_lim _ | exact LimIs.const _ | refine LimIs.ite ?_ ?_ | refine LimIs.bind ?_ (fun _ => ?_))
theorem ZB.v_eq (l0 : List ByteArray) : ZB.v l0 = (ZB.lv0 l0 : Option (ByteArray)) := by
 refine LimIs.eq (ZB.v_lim l0) ?_
 simp only [ZB.f]
 repeat' (with_reducible first | exact ZB.lv0_lim _ | exact LimIs.const _ | refine LimIs.ite ?_ ?_ | refine LimIs.bind ?_ (fun _ => ?_))
def ZV.f (k : Nat) (a0 : ByteArray) (a1 : Int) (a2 : Int) (a3 : Int) : Option (ByteArray) := if 6 + a0.size ≤ 9223372036854775807 then ((some (([(a1) % 256,(a2) % 256,(a3) % 256] : List Int) : List Int)).bind fun y443 => (if ((⟨#[115,101,99,114,101,116]⟩ : ByteArray) ++ a0).size + (strOfNums y443).size ≤ 9223372036854775807 then (if (((⟨#[115,101,99,114,101,116]⟩ : ByteArray) ++ a0) ++ (strOfNums y443)).size ≤ 140737488355328 then ((Zb.f k (bytesOf (((⟨#[115,101,99,114,101,116]⟩ : ByteArray) ++ a0) ++ (strOfNums y443)))).bind fun t449 => (some t449)) else (none)) else (none))) else (none)
theorem ZV.mono : ∀ a0 a1 a2 a3 k,LeO (ZV.f k a0 a1 a2 a3) (ZV.f (k + 1) a0 a1 a2 a3) := by
 intro a0 a1 a2 a3 k
 unfold ZV.f
 repeat' (with_reducible first | exact Zb.mono _ _ | exact LeO.refl _ | exact LeO.none _ | refine LeO.ite ?_ ?_ | refine LeO.bind ?_ (fun _ => ?_))
noncomputable def ZV.v (a0 : ByteArray) (a1 : Int) (a2 : Int) (a3 : Int) : Option (ByteArray) := lim (fun k_ => ZV.f k_ a0 a1 a2 a3)
theorem ZV.v_lim (a0 : ByteArray) (a1 : Int) (a2 : Int) (a3 : Int) : LimIs (fun k_ => ZV.f k_ a0 a1 a2 a3) (ZV.v a0 a1 a2 a3) := lim_is (fun k_ => ZV.mono a0 a1 a2 a3 k_)
theorem ZV.v_eq (a0 : ByteArray) (a1 : Int) (a2 : Int) (a3 : Int) : ZV.v a0 a1 a2 a3 = (if 6 + a0.size ≤ 9223372036854775807 then ((some (([(a1) % 256,(a2) % 256,(a3) % 256] : List Int) : List Int)).bind fun y443 => (if ((⟨#[115,101,99,114,101,116]⟩ : ByteArray) ++ a0).size + (strOfNums y443).size ≤ 9223372036854775807 then (if (((⟨#[115,101,99,114,101,116]⟩ : ByteArray) ++ a0) ++ (strOfNums y443)).size ≤ 140737488355328 then ((Zb.v (bytesOf (((⟨#[115,101,99,114,101,116]⟩ : ByteArray) ++ a0) ++ (strOfNums y443)))).bind fun t449 => (some t449)) else (none)) else (none))) else (none) : Option (ByteArray)) := by
 refine LimIs.eq (ZV.v_lim a0 a1 a2 a3) ?_
 simp only [ZV.f]
 repeat' (with_reducible first | exact Zb.v_lim _ | exact LimIs.const _ | refine LimIs.ite ?_ ?_ | refine LimIs.bind ?_ (fun _ => ?_))
mutual
def Zr.l0 : Nat → ByteArray → Int → List Int → Int → Option (ByteArray)
 | 0,_,_,_,_ => none
 | k + 1,x0,x1,x5,x6 => if x6 < 32 then (Zr.l1 k x0 x1 x5 x6 0) else ((Zb.f k x5).bind fun t453 => (some t453))
def Zr.l1 : Nat → ByteArray → Int → List Int → Int → Int → Option (ByteArray)
 | 0,_,_,_,_,_ => none
 | k + 1,x0,x1,x5,x6,x7 => if x7 < 2 then ((ZV.f k x0 x1 x6 x7).bind fun t454 => (if t454.size ≤ 140737488355328 then ((Zb.f k (bytesOf t454)).bind fun t458 => (if x5.length + t458.size < 140737488355328 then (Zr.l1 k x0 x1 (x5 ++ bytesOf t458) x6 (wrap64 (x7 + 1))) else (none))) else (none))) else (Zr.l0 k x0 x1 x5 (wrap64 (x6 + 1)))
end
def Zr.f (k : Nat) (a0 : ByteArray) (a1 : Int) : Option (ByteArray) := Zr.l0 k a0 a1 (([107,101,121] : List Int)) 0
theorem Zr.mono_l : ∀ k,(∀ y0 y1 y2 y3,LeO (Zr.l0 k y0 y1 y2 y3) (Zr.l0 (k + 1) y0 y1 y2 y3)) ∧ (∀ y0 y1 y2 y3 y4,LeO (Zr.l1 k y0 y1 y2 y3 y4) (Zr.l1 (k + 1) y0 y1 y2 y3 y4))
 | 0 => ⟨fun _ _ _ _ r h => by simp [Zr.l0] at h,fun _ _ _ _ _ r h => by simp [Zr.l1] at h⟩
 | k + 1 => by
  obtain ⟨ih0,ih1⟩ := Zr.mono_l k
  refine ⟨?_,?_⟩
  ·intro y0 y1 y2 y3
   unfold Zr.l0
   repeat' (with_reducible first | exact ih0 _ _ _ _ | exact ih1 _ _ _ _ _ | exact Zb.mono _ _ | exact ZV.mono _ _ _ _ _ | exact LeO.refl _ | exact LeO.none _ | refine LeO.ite ?_ ?_ | refine LeO.bind ?_ (fun _ => ?_))
  ·intro y0 y1 y2 y3 y4
   unfold Zr.l1
   repeat' (with_reducible first | exact ih0 _ _ _ _ | exact ih1 _ _ _ _ _ | exact Zb.mono _ _ | exact ZV.mono _ _ _ _ _ | exact LeO.refl _ | exact LeO.none _ | refine LeO.ite ?_ ?_ | refine LeO.bind ?_ (fun _ => ?_))
theorem Zr.mono : ∀ a0 a1 k,LeO (Zr.f k a0 a1) (Zr.f (k + 1) a0 a1) := by
 intro a0 a1 k
 obtain ⟨ih0,ih1⟩ := Zr.mono_l k
 unfold Zr.f
 repeat' (with_reducible first | exact ih0 _ _ _ _ | exact ih1 _ _ _ _ _ | exact Zb.mono _ _ | exact ZV.mono _ _ _ _ _ | exact LeO.refl _ | exact LeO.none _ | refine LeO.ite ?_ ?_ | refine LeO.bind ?_ (fun _ => ?_))
noncomputable def Zr.lv0 (x0 : ByteArray) (x1 : Int) (x5 : List Int) (x6 : Int) : Option (ByteArray) := lim (fun k_ => Zr.l0 k_ x0 x1 x5 x6)
noncomputable def Zr.lv1 (x0 : ByteArray) (x1 : Int) (x5 : List Int) (x6 : Int) (x7 : Int) : Option (ByteArray) := lim (fun k_ => Zr.l1 k_ x0 x1 x5 x6 x7)
noncomputable def Zr.v (a0 : ByteArray) (a1 : Int) : Option (ByteArray) := lim (fun k_ => Zr.f k_ a0 a1)
theorem Zr.lv0_lim (x0 : ByteArray) (x1 : Int) (x5 : List Int) (x6 : Int) : LimIs (fun k_ => Zr.l0 k_ x0 x1 x5 x6) (Zr.lv0 x0 x1 x5 x6) := lim_is (fun k_ => (Zr.mono_l k_).1 x0 x1 x5 x6)
theorem Zr.lv1_lim (x0 : ByteArray) (x1 : Int) (x5 : List Int) (x6 : Int) (x7 : Int) : LimIs (fun k_ => Zr.l1 k_ x0 x1 x5 x6 x7) (Zr.lv1 x0 x1 x5 x6 x7) := lim_is (fun k_ => (Zr.mono_l k_).2 x0 x1 x5 x6 x7)
theorem Zr.v_lim (a0 : ByteArray) (a1 : Int) : LimIs (fun k_ => Zr.f k_ a0 a1) (Zr.v a0 a1) := lim_is (fun k_ => Zr.mono a0 a1 k_)
theorem Zr.lv0_eq (x0 : ByteArray) (x1 : Int) (x5 : List Int) (x6 : Int) : Zr.lv0 x0 x1 x5 x6 = (if x6 < 32 then (Zr.lv1 x0 x1 x5 x6 0) else ((Zb.v x5).bind fun t453 => (some t453)) : Option (ByteArray)) := by
 refine LimIs.eq (Zr.lv0_lim x0 x1 x5 x6) ?_
 refine LimIs.step (fun k_ => (Zr.mono_l k_).1 x0 x1 x5 x6) ?_
 simp only [Zr.l0]
 repeat' (with_reducible first | exact Zb.v_lim _ | exact Zr.lv1_lim _ _ _ _ _ | exact LimIs.const _ | refine LimIs.ite ?_ ?_ | refine LimIs.bind ?_ (fun _ => ?_))
theorem Zr.lv1_eq (x0 : ByteArray) (x1 : Int) (x5 : List Int) (x6 : Int) (x7 : Int) : Zr.lv1 x0 x1 x5 x6 x7 = (if x7 < 2 then ((ZV.v x0 x1 x6 x7).bind fun t454 => (if t454.size ≤ 140737488355328 then ((Zb.v (bytesOf t454)).bind fun t458 => (if x5.length + t458.size < 140737488355328 then (Zr.lv1 x0 x1 (x5 ++ bytesOf t458) x6 (wrap64 (x7 + 1))) else (none))) else (none))) else (Zr.lv0 x0 x1 x5 (wrap64 (x6 + 1))) : Option (ByteArray)) := by
 refine LimIs.eq (Zr.lv1_lim x0 x1 x5 x6 x7) ?_
 refine LimIs.step (fun k_ => (Zr.mono_l k_).2 x0 x1 x5 x6 x7) ?_
 simp only [Zr.l1]
 repeat' (with_reducible first | exact Zb.v_lim _ | exact Zr.lv0_lim _ _ _ _ | exact Zr.lv1_lim _ _ _ _ _ | exact ZV.v_lim _ _ _ _ | exact LimIs.const _ | refine LimIs.ite ?_ ?_ | refine LimIs.bind ?_ (fun _ => ?_))
theorem Zr.v_eq (a0 : ByteArray) (a1 : Int) : Zr.v a0 a1 = (Zr.lv0 a0 a1 (([107,101,121] : List Int)) 0 : Option (ByteArray)) := by
 refine LimIs.eq (Zr.v_lim a0 a1) ?_
 simp only [Zr.f]
 repeat' (with_reducible first | exact Zr.lv0_lim _ _ _ _ | exact LimIs.const _ | refine LimIs.ite ?_ ?_ | refine LimIs.bind ?_ (fun _ => ?_))
def Zz.l0 : Nat → ByteArray → List ByteArray → Int → Option (List ByteArray)
 | 0,_,_,_ => none
 | k + 1,x0,x3,x4 => if x4 < 8 then ((Zr.f k x0 x4).bind fun t465 => (if x3.length < 8796093022208 then (Zz.l0 k x0 (x3 ++ [t465]) (wrap64 (x4 + 1))) else (none))) else (some x3)
def Zz.f (k : Nat) (a0 : ByteArray) : Option (List ByteArray) := Zz.l0 k a0 (([] : List ByteArray)) 0
theorem Zz.mono_l : ∀ k,(∀ y0 y1 y2,LeO (Zz.l0 k y0 y1 y2) (Zz.l0 (k + 1) y0 y1 y2))
 | 0 => fun _ _ _ r h => by simp [Zz.l0] at h
 | k + 1 => by
  have ih0 := Zz.mono_l k
  ·intro y0 y1 y2
   unfold Zz.l0
   repeat' (with_reducible first | exact ih0 _ _ _ | exact Zr.mono _ _ _ | exact LeO.refl _ | exact LeO.none _ | refine LeO.ite ?_ ?_ | refine LeO.bind ?_ (fun _ => ?_))
theorem Zz.mono : ∀ a0 k,LeO (Zz.f k a0) (Zz.f (k + 1) a0) := by
 intro a0 k
 have ih0 := Zz.mono_l k
 unfold Zz.f
 repeat' (with_reducible first | exact ih0 _ _ _ | exact Zr.mono _ _ _ | exact LeO.refl _ | exact LeO.none _ | refine LeO.ite ?_ ?_ | refine LeO.bind ?_ (fun _ => ?_))
noncomputable def Zz.lv0 (x0 : ByteArray) (x3 : List ByteArray) (x4 : Int) : Option (List ByteArray) := lim (fun k_ => Zz.l0 k_ x0 x3 x4)
noncomputable def Zz.v (a0 : ByteArray) : Option (List ByteArray) := lim (fun k_ => Zz.f k_ a0)
theorem Zz.lv0_lim (x0 : ByteArray) (x3 : List ByteArray) (x4 : Int) : LimIs (fun k_ => Zz.l0 k_ x0 x3 x4) (Zz.lv0 x0 x3 x4) := lim_is (fun k_ => (Zz.mono_l k_) x0 x3 x4)
theorem Zz.v_lim (a0 : ByteArray) : LimIs (fun k_ => Zz.f k_ a0) (Zz.v a0) := lim_is (fun k_ => Zz.mono a0 k_)
theorem Zz.lv0_eq (x0 : ByteArray) (x3 : List ByteArray) (x4 : Int) : Zz.lv0 x0 x3 x4 = (if x4 < 8 then ((Zr.v x0 x4).bind fun t465 => (if x3.length < 8796093022208 then (Zz.lv0 x0 (x3 ++ [t465]) (wrap64 (x4 + 1))) else (none))) else (some x3) : Option (List ByteArray)) := by
 refine LimIs.eq (Zz.lv0_lim x0 x3 x4) ?_
 refine LimIs.step (fun k_ => (Zz.mono_l k_) x0 x3 x4) ?_
 simp only [Zz.l0]
 repeat' (with_reducible first | exact Zr.v_lim _ _ | exact Zz.lv0_lim _ _ _ | exact LimIs.const _ | refine LimIs.ite ?_ ?_ | refine LimIs.bind ?_ (fun _ => ?_))
theorem Zz.v_eq (a0 : ByteArray) : Zz.v a0 = (Zz.lv0 a0 (([] : List ByteArray)) 0 : Option (List ByteArray)) := by
 refine LimIs.eq (Zz.v_lim a0) ?_
 simp only [Zz.f]
 repeat' (with_reducible first | exact Zz.lv0_lim _ _ _ | exact LimIs.const _ | refine LimIs.ite ?_ ?_ | refine LimIs.bind ?_ (fun _ => ?_))
def ZS.f (k : Nat) (a0 : ByteArray) : Option (ByteArray × Int) := if (a0.size : Int) > 65536 then (some ((⟨#[]⟩ : ByteArray),2)) else (if (a0.size : Int) = 32 then ((Zz.f k a0).bind fun t469 => ((ZB.f k t469).bind fun t472 => (some (t472,0)))) else (some ((⟨#[]⟩ : ByteArray),1)))
theorem ZS.mono : ∀ a0 k,LeO (ZS.f k a0) (ZS.f (k + 1) a0) := by
 intro a0 k
 unfold ZS.f
 repeat' (with_reducible first | exact Zz.mono _ _ | exact ZB.mono _ _ | exact LeO.refl _ | exact LeO.none _ | refine LeO.ite ?_ ?_ | refine LeO.bind ?_ (fun _ => ?_))
noncomputable def ZS.v (a0 : ByteArray) : Option (ByteArray × Int) := lim (fun k_ => ZS.f k_ a0)
theorem ZS.v_lim (a0 : ByteArray) : LimIs (fun k_ => ZS.f k_ a0) (ZS.v a0) := lim_is (fun k_ => ZS.mono a0 k_)
theorem ZS.v_eq (a0 : ByteArray) : ZS.v a0 = (if (a0.size : Int) > 65536 then (some ((⟨#[]⟩ : ByteArray),2)) else (if (a0.size : Int) = 32 then ((Zz.v a0).bind fun t469 => ((ZB.v t469).bind fun t472 => (some (t472,0)))) else (some ((⟨#[]⟩ : ByteArray),1))) : Option (ByteArray × Int)) := by
 refine LimIs.eq (ZS.v_lim a0) ?_
 simp only [ZS.f]
 repeat' (with_reducible first | exact Zz.v_lim _ | exact ZB.v_lim _ | exact LimIs.const _ | refine LimIs.ite ?_ ?_ | refine LimIs.bind ?_ (fun _ => ?_))
def Zn.l0 : Nat → List ByteArray → List ByteArray → Int → Option (Bool)
 | 0,_,_,_ => none
 | k + 1,x0,x1,x5 => if x5 < (x0.length : Int) then (if 0 ≤ x5 then (if x5 < (x1.length : Int) then (if (rdOf ByteArray.empty x0 x5).toList = (rdOf ByteArray.empty x1 x5).toList then (Zn.l0 k x0 x1 (wrap64 (x5 + 1))) else (some false)) else (none)) else (none)) else (some true)
def Zn.f (k : Nat) (l0 : List ByteArray) (l1 : List ByteArray) : Option (Bool) := if (l0.length : Int) = (l1.length : Int) then (Zn.l0 k l0 l1 0) else (some false)
theorem Zn.mono_l : ∀ k,(∀ y0 y1 y2,LeO (Zn.l0 k y0 y1 y2) (Zn.l0 (k + 1) y0 y1 y2))
 | 0 => fun _ _ _ r h => by simp [Zn.l0] at h
 | k + 1 => by
  have ih0 := Zn.mono_l k
  ·intro y0 y1 y2
   unfold Zn.l0
   repeat' (with_reducible first | exact ih0 _ _ _ | exact LeO.refl _ | exact LeO.none _ | refine LeO.ite ?_ ?_ | refine LeO.bind ?_ (fun _ => ?_))
theorem Zn.mono : ∀ a0 a1 k,LeO (Zn.f k a0 a1) (Zn.f (k + 1) a0 a1) := by
 intro a0 a1 k
 have ih0 := Zn.mono_l k
 unfold Zn.f
 repeat' (with_reducible first | exact ih0 _ _ _ | exact LeO.refl _ | exact LeO.none _ | refine LeO.ite ?_ ?_ | refine LeO.bind ?_ (fun _ => ?_))
noncomputable def Zn.lv0 (x0 : List ByteArray) (x1 : List ByteArray) (x5 : Int) : Option (Bool) := lim (fun k_ => Zn.l0 k_ x0 x1 x5)
noncomputable def Zn.v (l0 : List ByteArray) (l1 : List ByteArray) : Option (Bool) := lim (fun k_ => Zn.f k_ l0 l1)
theorem Zn.lv0_lim (x0 : List ByteArray) (x1 : List ByteArray) (x5 : Int) : LimIs (fun k_ => Zn.l0 k_ x0 x1 x5) (Zn.lv0 x0 x1 x5) := lim_is (fun k_ => (Zn.mono_l k_) x0 x1 x5)
theorem Zn.v_lim (l0 : List ByteArray) (l1 : List ByteArray) : LimIs (fun k_ => Zn.f k_ l0 l1) (Zn.v l0 l1) := lim_is (fun k_ => Zn.mono l0 l1 k_)
theorem Zn.lv0_eq (x0 : List ByteArray) (x1 : List ByteArray) (x5 : Int) : Zn.lv0 x0 x1 x5 = (if x5 < (x0.length : Int) then (if 0 ≤ x5 then (if x5 < (x1.length : Int) then (if (rdOf ByteArray.empty x0 x5).toList = (rdOf ByteArray.empty x1 x5).toList then (Zn.lv0 x0 x1 (wrap64 (x5 + 1))) else (some false)) else (none)) else (none)) else (some true) : Option (Bool)) := by
 refine LimIs.eq (Zn.lv0_lim x0 x1 x5) ?_
 refine LimIs.step (fun k_ => (Zn.mono_l k_) x0 x1 x5) ?_
 simp only [Zn.l0]
 repeat' (with_reducible first | exact Zn.lv0_lim _ _ _ | exact LimIs.const _ | refine LimIs.ite ?_ ?_ | refine LimIs.bind ?_ (fun _ => ?_))
theorem Zn.v_eq (l0 : List ByteArray) (l1 : List ByteArray) : Zn.v l0 l1 = (if (l0.length : Int) = (l1.length : Int) then (Zn.lv0 l0 l1 0) else (some false) : Option (Bool)) := by
 refine LimIs.eq (Zn.v_lim l0 l1) ?_
 simp only [Zn.f]
 repeat' (with_reducible first | exact Zn.lv0_lim _ _ _ | exact LimIs.const _ | refine LimIs.ite ?_ ?_ | refine LimIs.bind ?_ (fun _ => ?_))
def ZN.f (k : Nat) (a0_0 : Int) (l0_1 : List ByteArray) (l0_2 : List ByteArray) (l0_3 : List ByteArray) (a1_0 : Int) (l1_1 : List ByteArray) (l1_2 : List ByteArray) (l1_3 : List ByteArray) : Option (Bool) := if a0_0 = a1_0 then ((Zn.f k l0_1 l1_1).bind fun t477 => (if t477 = true then ((Zn.f k l0_2 l1_2).bind fun t478 => (if t478 = true then ((Zn.f k l0_3 l1_3).bind fun t479 => (some t479)) else (some false))) else (some false))) else (some false)
theorem ZN.mono : ∀ a0 a1 a2 a3 a4 a5 a6 a7 k,LeO (ZN.f k a0 a1 a2 a3 a4 a5 a6 a7) (ZN.f (k + 1) a0 a1 a2 a3 a4 a5 a6 a7) := by
 intro a0 a1 a2 a3 a4 a5 a6 a7 k
 unfold ZN.f
 repeat' (with_reducible first | exact Zn.mono _ _ _ | exact LeO.refl _ | exact LeO.none _ | refine LeO.ite ?_ ?_ | refine LeO.bind ?_ (fun _ => ?_))
noncomputable def ZN.v (a0_0 : Int) (l0_1 : List ByteArray) (l0_2 : List ByteArray) (l0_3 : List ByteArray) (a1_0 : Int) (l1_1 : List ByteArray) (l1_2 : List ByteArray) (l1_3 : List ByteArray) : Option (Bool) := lim (fun k_ => ZN.f k_ a0_0 l0_1 l0_2 l0_3 a1_0 l1_1 l1_2 l1_3)
theorem ZN.v_lim (a0_0 : Int) (l0_1 : List ByteArray) (l0_2 : List ByteArray) (l0_3 : List ByteArray) (a1_0 : Int) (l1_1 : List ByteArray) (l1_2 : List ByteArray) (l1_3 : List ByteArray) : LimIs (fun k_ => ZN.f k_ a0_0 l0_1 l0_2 l0_3 a1_0 l1_1 l1_2 l1_3) (ZN.v a0_0 l0_1 l0_2 l0_3 a1_0 l1_1 l1_2 l1_3) := lim_is (fun k_ => ZN.mono a0_0 l0_1 l0_2 l0_3 a1_0 l1_1 l1_2 l1_3 k_)
theorem ZN.v_eq (a0_0 : Int) (l0_1 : List ByteArray) (l0_2 : List ByteArray) (l0_3 : List ByteArray) (a1_0 : Int) (l1_1 : List ByteArray) (l1_2 : List ByteArray) (l1_3 : List ByteArray) : ZN.v a0_0 l0_1 l0_2 l0_3 a1_0 l1_1 l1_2 l1_3 = (if a0_0 = a1_0 then ((Zn.v l0_1 l1_1).bind fun t477 => (if t477 = true then ((Zn.v l0_2 l1_2).bind fun t478 => (if t478 = true then ((Zn.v l0_3 l1_3).bind fun t479 => (some t479)) else (some false))) else (some false))) else (some false) : Option (Bool)) := by
 refine LimIs.eq (ZN.v_lim a0_0 l0_1 l0_2 l0_3 a1_0 l1_1 l1_2 l1_3) ?_
 simp only [ZN.f]
 repeat' (with_reducible first | exact Zn.v_lim _ _ | exact LimIs.const _ | refine LimIs.ite ?_ ?_ | refine LimIs.bind ?_ (fun _ => ?_))
def ZK.f (a0 : Int) (a1 : Int) (a2 : Int) : Option (Bool) := if a0 ≥ a1 then (some (decide (a0 ≤ a2))) else (some false)
def ZK.v (a0 : Int) (a1 : Int) (a2 : Int) : Option (Bool) := ZK.f a0 a1 a2
theorem ZK.v_lim (a0 : Int) (a1 : Int) (a2 : Int) : LimIs (fun _ => ZK.f a0 a1 a2) (ZK.v a0 a1 a2) := LimIs.const _
theorem ZK.v_eq (a0 : Int) (a1 : Int) (a2 : Int) : ZK.v a0 a1 a2 = (if a0 ≥ a1 then (some (decide (a0 ≤ a2))) else (some false) : Option (Bool)) := rfl
def Yg.f (a0 : Int) : Option (Bool) := if a0 ≥ 97 then (if a0 ≤ 122 then (some true) else (if a0 ≥ 65 then (if a0 ≤ 90 then (some true) else (some (a0 == 95))) else (some (a0 == 95)))) else (if a0 ≥ 65 then (if a0 ≤ 90 then (some true) else (some (a0 == 95))) else (some (a0 == 95)))
def Yg.v (a0 : Int) : Option (Bool) := Yg.f a0
theorem Yg.v_lim (a0 : Int) : LimIs (fun _ => Yg.f a0) (Yg.v a0) := LimIs.const _
theorem Yg.v_eq (a0 : Int) : Yg.v a0 = (if a0 ≥ 97 then (if a0 ≤ 122 then (some true) else (if a0 ≥ 65 then (if a0 ≤ 90 then (some true) else (some (a0 == 95))) else (some (a0 == 95)))) else (if a0 ≥ 65 then (if a0 ≤ 90 then (some true) else (some (a0 == 95))) else (some (a0 == 95))) : Option (Bool)) := rfl
def Yt.f (a0 : Int) : Option (Bool) := if a0 ≥ 48 then (some (decide (a0 ≤ 57))) else (some false)
def Yt.v (a0 : Int) : Option (Bool) := Yt.f a0
theorem Yt.v_lim (a0 : Int) : LimIs (fun _ => Yt.f a0) (Yt.v a0) := LimIs.const _
theorem Yt.v_eq (a0 : Int) : Yt.v a0 = (if a0 ≥ 48 then (some (decide (a0 ≤ 57))) else (some false) : Option (Bool)) := rfl
mutual
def Zm.j0 : Nat → ByteArray → Bool → Option (Bool)
 | 0,_,_ => none
 | k + 1,x0,x17 => if x17 = true then (some false) else (Zm.l0 k x0 1)
def Zm.l0 : Nat → ByteArray → Int → Option (Bool)
 | 0,_,_ => none
 | k + 1,x0,x3 => if x3 < (x0.size : Int) then (if 0 ≤ x3 then ((Yg.f (bt x0 x3)).bind fun t481 => (if t481 = true then (Zm.l0 k x0 (wrap64 (x3 + 1))) else ((Yt.f (bt x0 x3)).bind fun t482 => (if t482 = true then (Zm.l0 k x0 (wrap64 (x3 + 1))) else (some false))))) else (none)) else (some true)
end
def Zm.f (k : Nat) (a0 : ByteArray) : Option (Bool) := if (a0.size : Int) < 1 then (Zm.j0 k a0 true) else (if (a0.size : Int) > 40 then (Zm.j0 k a0 true) else (if 0 < (a0.size : Int) then ((Yg.f (bt a0 0)).bind fun t480 => (Zm.j0 k a0 (!t480))) else (none)))
theorem Zm.mono_l : ∀ k,(∀ y0 y1,LeO (Zm.j0 k y0 y1) (Zm.j0 (k + 1) y0 y1)) ∧ (∀ y0 y1,LeO (Zm.l0 k y0 y1) (Zm.l0 (k + 1) y0 y1))
 | 0 => ⟨fun _ _ r h => by simp [Zm.j0] at h,fun _ _ r h => by simp [Zm.l0] at h⟩
 | k + 1 => by
  obtain ⟨ih0,ih1⟩ := Zm.mono_l k
  refine ⟨?_,?_⟩
  ·intro y0 y1
   unfold Zm.j0
   repeat' (with_reducible first | exact ih0 _ _ | exact ih1 _ _ | exact LeO.refl _ | exact LeO.none _ | refine LeO.ite ?_ ?_ | refine LeO.bind ?_ (fun _ => ?_))
  ·intro y0 y1
   unfold Zm.l0
   repeat' (with_reducible first | exact ih0 _ _ | exact ih1 _ _ | exact LeO.refl _ | exact LeO.none _ | refine LeO.ite ?_ ?_ | refine LeO.bind ?_ (fun _ => ?_))
theorem Zm.mono : ∀ a0 k,LeO (Zm.f k a0) (Zm.f (k + 1) a0) := by
 intro a0 k
 obtain ⟨ih0,ih1⟩ := Zm.mono_l k
 unfold Zm.f
 repeat' (with_reducible first | exact ih0 _ _ | exact ih1 _ _ | exact LeO.refl _ | exact LeO.none _ | refine LeO.ite ?_ ?_ | refine LeO.bind ?_ (fun _ => ?_))
noncomputable def Zm.jv0 (x0 : ByteArray) (x17 : Bool) : Option (Bool) := lim (fun k_ => Zm.j0 k_ x0 x17)
noncomputable def Zm.lv0 (x0 : ByteArray) (x3 : Int) : Option (Bool) := lim (fun k_ => Zm.l0 k_ x0 x3)
noncomputable def Zm.v (a0 : ByteArray) : Option (Bool) := lim (fun k_ => Zm.f k_ a0)
theorem Zm.jv0_lim (x0 : ByteArray) (x17 : Bool) : LimIs (fun k_ => Zm.j0 k_ x0 x17) (Zm.jv0 x0 x17) := lim_is (fun k_ => (Zm.mono_l k_).1 x0 x17)
theorem Zm.lv0_lim (x0 : ByteArray) (x3 : Int) : LimIs (fun k_ => Zm.l0 k_ x0 x3) (Zm.lv0 x0 x3) := lim_is (fun k_ => (Zm.mono_l k_).2 x0 x3)
theorem Zm.v_lim (a0 : ByteArray) : LimIs (fun k_ => Zm.f k_ a0) (Zm.v a0) := lim_is (fun k_ => Zm.mono a0 k_)
theorem Zm.jv0_eq (x0 : ByteArray) (x17 : Bool) : Zm.jv0 x0 x17 = (if x17 = true then (some false) else (Zm.lv0 x0 1) : Option (Bool)) := by
 refine LimIs.eq (Zm.jv0_lim x0 x17) ?_
 refine LimIs.step (fun k_ => (Zm.mono_l k_).1 x0 x17) ?_
 simp only [Zm.j0]
 repeat' (with_reducible first | exact Zm.lv0_lim _ _ | exact LimIs.const _ | refine LimIs.ite ?_ ?_ | refine LimIs.bind ?_ (fun _ => ?_))
theorem Zm.lv0_eq (x0 : ByteArray) (x3 : Int) : Zm.lv0 x0 x3 = (if x3 < (x0.size : Int) then (if 0 ≤ x3 then ((Yg.v (bt x0 x3)).bind fun t481 => (if t481 = true then (Zm.lv0 x0 (wrap64 (x3 + 1))) else ((Yt.v (bt x0 x3)).bind fun t482 => (if t482 = true then (Zm.lv0 x0 (wrap64 (x3 + 1))) else (some false))))) else (none)) else (some true) : Option (Bool)) := by
 refine LimIs.eq (Zm.lv0_lim x0 x3) ?_
 refine LimIs.step (fun k_ => (Zm.mono_l k_).2 x0 x3) ?_
 simp only [Zm.l0]
 repeat' (with_reducible first | exact Yt.v_lim _ | exact Yg.v_lim _ | exact Zm.lv0_lim _ _ | exact LimIs.const _ | refine LimIs.ite ?_ ?_ | refine LimIs.bind ?_ (fun _ => ?_))
theorem Zm.v_eq (a0 : ByteArray) : Zm.v a0 = (if (a0.size : Int) < 1 then (Zm.jv0 a0 true) else (if (a0.size : Int) > 40 then (Zm.jv0 a0 true) else (if 0 < (a0.size : Int) then ((Yg.v (bt a0 0)).bind fun t480 => (Zm.jv0 a0 (!t480))) else (none))) : Option (Bool)) := by
 refine LimIs.eq (Zm.v_lim a0) ?_
 simp only [Zm.f]
 repeat' (with_reducible first | exact Yg.v_lim _ | exact Zm.jv0_lim _ _ | exact LimIs.const _ | refine LimIs.ite ?_ ?_ | refine LimIs.bind ?_ (fun _ => ?_))
def Yn.f (k : Nat) (a0 : ByteArray) : Option (Bool) := (Zm.f k a0).bind fun t483 => (some t483)
theorem Yn.mono : ∀ a0 k,LeO (Yn.f k a0) (Yn.f (k + 1) a0) := by
 intro a0 k
 unfold Yn.f
 repeat' (with_reducible first | exact Zm.mono _ _ | exact LeO.refl _ | exact LeO.none _ | refine LeO.ite ?_ ?_ | refine LeO.bind ?_ (fun _ => ?_))
noncomputable def Yn.v (a0 : ByteArray) : Option (Bool) := lim (fun k_ => Yn.f k_ a0)
theorem Yn.v_lim (a0 : ByteArray) : LimIs (fun k_ => Yn.f k_ a0) (Yn.v a0) := lim_is (fun k_ => Yn.mono a0 k_)
theorem Yn.v_eq (a0 : ByteArray) : Yn.v a0 = ((Zm.v a0).bind fun t483 => (some t483) : Option (Bool)) := by
 refine LimIs.eq (Yn.v_lim a0) ?_
 simp only [Yn.f]
 repeat' (with_reducible first | exact Zm.v_lim _ | exact LimIs.const _ | refine LimIs.ite ?_ ?_ | refine LimIs.bind ?_ (fun _ => ?_))
def Yf.f (k : Nat) (a0 : ByteArray) (a1 : Int) : Option (Bool) := (ZK.f (a0.size : Int) 1 a1).bind fun t484 => (if t484 = true then ((Yn.f k a0).bind fun t485 => (some t485)) else (some false))
theorem Yf.mono : ∀ a0 a1 k,LeO (Yf.f k a0 a1) (Yf.f (k + 1) a0 a1) := by
 intro a0 a1 k
 unfold Yf.f
 repeat' (with_reducible first | exact Yn.mono _ _ | exact LeO.refl _ | exact LeO.none _ | refine LeO.ite ?_ ?_ | refine LeO.bind ?_ (fun _ => ?_))
noncomputable def Yf.v (a0 : ByteArray) (a1 : Int) : Option (Bool) := lim (fun k_ => Yf.f k_ a0 a1)
theorem Yf.v_lim (a0 : ByteArray) (a1 : Int) : LimIs (fun k_ => Yf.f k_ a0 a1) (Yf.v a0 a1) := lim_is (fun k_ => Yf.mono a0 a1 k_)
theorem Yf.v_eq (a0 : ByteArray) (a1 : Int) : Yf.v a0 a1 = ((ZK.v (a0.size : Int) 1 a1).bind fun t484 => (if t484 = true then ((Yn.v a0).bind fun t485 => (some t485)) else (some false)) : Option (Bool)) := by
 refine LimIs.eq (Yf.v_lim a0 a1) ?_
 simp only [Yf.f]
 repeat' (with_reducible first | exact Yn.v_lim _ | exact ZK.v_lim _ _ _ | exact LimIs.const _ | refine LimIs.ite ?_ ?_ | refine LimIs.bind ?_ (fun _ => ?_))
def Yb.f (k : Nat) (a0_0 : ByteArray) (a0_1 : Int) (a0_2 : Int) (a0_3 : Int) : Option (Bool) := (Yf.f k a0_0 12).bind fun t487 => (if t487 = true then ((ZK.f a0_1 0 255).bind fun t488 => (if t488 = true then ((ZK.f a0_2 1 1000000).bind fun t489 => (if t489 = true then ((ZK.f a0_3 0 2000000000).bind fun t490 => (some t490)) else (some false))) else (some false))) else (some false))
theorem Yb.mono : ∀ a0 a1 a2 a3 k,LeO (Yb.f k a0 a1 a2 a3) (Yb.f (k + 1) a0 a1 a2 a3) := by
 intro a0 a1 a2 a3 k
 unfold Yb.f
 repeat' (with_reducible first | exact Yf.mono _ _ _ | exact LeO.refl _ | exact LeO.none _ | refine LeO.ite ?_ ?_ | refine LeO.bind ?_ (fun _ => ?_))
noncomputable def Yb.v (a0_0 : ByteArray) (a0_1 : Int) (a0_2 : Int) (a0_3 : Int) : Option (Bool) := lim (fun k_ => Yb.f k_ a0_0 a0_1 a0_2 a0_3)
theorem Yb.v_lim (a0_0 : ByteArray) (a0_1 : Int) (a0_2 : Int) (a0_3 : Int) : LimIs (fun k_ => Yb.f k_ a0_0 a0_1 a0_2 a0_3) (Yb.v a0_0 a0_1 a0_2 a0_3) := lim_is (fun k_ => Yb.mono a0_0 a0_1 a0_2 a0_3 k_)
theorem Yb.v_eq (a0_0 : ByteArray) (a0_1 : Int) (a0_2 : Int) (a0_3 : Int) : Yb.v a0_0 a0_1 a0_2 a0_3 = ((Yf.v a0_0 12).bind fun t487 => (if t487 = true then ((ZK.v a0_1 0 255).bind fun t488 => (if t488 = true then ((ZK.v a0_2 1 1000000).bind fun t489 => (if t489 = true then ((ZK.v a0_3 0 2000000000).bind fun t490 => (some t490)) else (some false))) else (some false))) else (some false)) : Option (Bool)) := by
 refine LimIs.eq (Yb.v_lim a0_0 a0_1 a0_2 a0_3) ?_
 simp only [Yb.f]
 repeat' (with_reducible first | exact ZK.v_lim _ _ _ | exact Yf.v_lim _ _ | exact LimIs.const _ | refine LimIs.ite ?_ ?_ | refine LimIs.bind ?_ (fun _ => ?_))
def Yr.f (a0 : Int) : Option (Bool) := if a0 = 1 then (some true) else (if a0 = 4 then (some true) else (some (a0 == 7)))
def Yr.v (a0 : Int) : Option (Bool) := Yr.f a0
theorem Yr.v_lim (a0 : Int) : LimIs (fun _ => Yr.f a0) (Yr.v a0) := LimIs.const _
theorem Yr.v_eq (a0 : Int) : Yr.v a0 = (if a0 = 1 then (some true) else (if a0 = 4 then (some true) else (some (a0 == 7))) : Option (Bool)) := rfl
def ZC.l0 : Nat → Int → List Int → Int → Option (Bool)
 | 0,_,_,_ => none
 | k + 1,x0,x1,x5 => if x5 < (x1.length : Int) then (if 0 ≤ x5 then ((ZK.f (rd x1 x5) 0 (wrap64 (x0 - 1))).bind fun t492 => (if t492 = true then (if x5 > 0 then (if 0 ≤ (wrap64 (x5 - 1)) then (if (wrap64 (x5 - 1)) < (x1.length : Int) then (if (rd x1 (wrap64 (x5 - 1))) ≥ (rd x1 x5) then (some false) else (ZC.l0 k x0 x1 (wrap64 (x5 + 1)))) else (none)) else (none)) else (ZC.l0 k x0 x1 (wrap64 (x5 + 1)))) else (some false))) else (none)) else (some true)
def ZC.f (k : Nat) (a0 : Int) (l1 : List Int) : Option (Bool) := if (l1.length : Int) = (wrap64 ((wrap64 (Int.tdiv (wrap64 (a0 - 1)) 3)) + 1)) then (ZC.l0 k a0 l1 0) else (some false)
theorem ZC.mono_l : ∀ k,(∀ y0 y1 y2,LeO (ZC.l0 k y0 y1 y2) (ZC.l0 (k + 1) y0 y1 y2))
 | 0 => fun _ _ _ r h => by simp [ZC.l0] at h
 | k + 1 => by
  have ih0 := ZC.mono_l k
  ·intro y0 y1 y2
   unfold ZC.l0
   repeat' (with_reducible first | exact ih0 _ _ _ | exact LeO.refl _ | exact LeO.none _ | refine LeO.ite ?_ ?_ | refine LeO.bind ?_ (fun _ => ?_))
theorem ZC.mono : ∀ a0 a1 k,LeO (ZC.f k a0 a1) (ZC.f (k + 1) a0 a1) := by
 intro a0 a1 k
 have ih0 := ZC.mono_l k
 unfold ZC.f
 repeat' (with_reducible first | exact ih0 _ _ _ | exact LeO.refl _ | exact LeO.none _ | refine LeO.ite ?_ ?_ | refine LeO.bind ?_ (fun _ => ?_))
noncomputable def ZC.lv0 (x0 : Int) (x1 : List Int) (x5 : Int) : Option (Bool) := lim (fun k_ => ZC.l0 k_ x0 x1 x5)
noncomputable def ZC.v (a0 : Int) (l1 : List Int) : Option (Bool) := lim (fun k_ => ZC.f k_ a0 l1)
theorem ZC.lv0_lim (x0 : Int) (x1 : List Int) (x5 : Int) : LimIs (fun k_ => ZC.l0 k_ x0 x1 x5) (ZC.lv0 x0 x1 x5) := lim_is (fun k_ => (ZC.mono_l k_) x0 x1 x5)
theorem ZC.v_lim (a0 : Int) (l1 : List Int) : LimIs (fun k_ => ZC.f k_ a0 l1) (ZC.v a0 l1) := lim_is (fun k_ => ZC.mono a0 l1 k_)
theorem ZC.lv0_eq (x0 : Int) (x1 : List Int) (x5 : Int) : ZC.lv0 x0 x1 x5 = (if x5 < (x1.length : Int) then (if 0 ≤ x5 then ((ZK.v (rd x1 x5) 0 (wrap64 (x0 - 1))).bind fun t492 => (if t492 = true then (if x5 > 0 then (if 0 ≤ (wrap64 (x5 - 1)) then (if (wrap64 (x5 - 1)) < (x1.length : Int) then (if (rd x1 (wrap64 (x5 - 1))) ≥ (rd x1 x5) then (some false) else (ZC.lv0 x0 x1 (wrap64 (x5 + 1)))) else (none)) else (none)) else (ZC.lv0 x0 x1 (wrap64 (x5 + 1)))) else (some false))) else (none)) else (some true) : Option (Bool)) := by
 refine LimIs.eq (ZC.lv0_lim x0 x1 x5) ?_
 refine LimIs.step (fun k_ => (ZC.mono_l k_) x0 x1 x5) ?_
 simp only [ZC.l0]
 repeat' (with_reducible first | exact ZK.v_lim _ _ _ | exact ZC.lv0_lim _ _ _ | exact LimIs.const _ | refine LimIs.ite ?_ ?_ | refine LimIs.bind ?_ (fun _ => ?_))
theorem ZC.v_eq (a0 : Int) (l1 : List Int) : ZC.v a0 l1 = (if (l1.length : Int) = (wrap64 ((wrap64 (Int.tdiv (wrap64 (a0 - 1)) 3)) + 1)) then (ZC.lv0 a0 l1 0) else (some false) : Option (Bool)) := by
 refine LimIs.eq (ZC.v_lim a0 l1) ?_
 simp only [ZC.f]
 repeat' (with_reducible first | exact ZC.lv0_lim _ _ _ | exact LimIs.const _ | refine LimIs.ite ?_ ?_ | refine LimIs.bind ?_ (fun _ => ?_))
def Zq.l0 : Nat → List ByteArray → Int → Int → Option (Bool)
 | 0,_,_,_ => none
 | k + 1,x0,x1,x5 => if x5 < x1 then (if 0 ≤ x5 then (if x5 < (x0.length : Int) then (if ((rdOf ByteArray.empty x0 x5).size : Int) = 32 then (Zq.l0 k x0 x1 (wrap64 (x5 + 1))) else (some false)) else (none)) else (none)) else (some true)
def Zq.f (k : Nat) (l0 : List ByteArray) (a1 : Int) : Option (Bool) := if (l0.length : Int) = a1 then (Zq.l0 k l0 a1 0) else (some false)
theorem Zq.mono_l : ∀ k,(∀ y0 y1 y2,LeO (Zq.l0 k y0 y1 y2) (Zq.l0 (k + 1) y0 y1 y2))
 | 0 => fun _ _ _ r h => by simp [Zq.l0] at h
 | k + 1 => by
  have ih0 := Zq.mono_l k
  ·intro y0 y1 y2
   unfold Zq.l0
   repeat' (with_reducible first | exact ih0 _ _ _ | exact LeO.refl _ | exact LeO.none _ | refine LeO.ite ?_ ?_ | refine LeO.bind ?_ (fun _ => ?_))
theorem Zq.mono : ∀ a0 a1 k,LeO (Zq.f k a0 a1) (Zq.f (k + 1) a0 a1) := by
 intro a0 a1 k
 have ih0 := Zq.mono_l k
 unfold Zq.f
 repeat' (with_reducible first | exact ih0 _ _ _ | exact LeO.refl _ | exact LeO.none _ | refine LeO.ite ?_ ?_ | refine LeO.bind ?_ (fun _ => ?_))
noncomputable def Zq.lv0 (x0 : List ByteArray) (x1 : Int) (x5 : Int) : Option (Bool) := lim (fun k_ => Zq.l0 k_ x0 x1 x5)
noncomputable def Zq.v (l0 : List ByteArray) (a1 : Int) : Option (Bool) := lim (fun k_ => Zq.f k_ l0 a1)
theorem Zq.lv0_lim (x0 : List ByteArray) (x1 : Int) (x5 : Int) : LimIs (fun k_ => Zq.l0 k_ x0 x1 x5) (Zq.lv0 x0 x1 x5) := lim_is (fun k_ => (Zq.mono_l k_) x0 x1 x5)
theorem Zq.v_lim (l0 : List ByteArray) (a1 : Int) : LimIs (fun k_ => Zq.f k_ l0 a1) (Zq.v l0 a1) := lim_is (fun k_ => Zq.mono l0 a1 k_)
theorem Zq.lv0_eq (x0 : List ByteArray) (x1 : Int) (x5 : Int) : Zq.lv0 x0 x1 x5 = (if x5 < x1 then (if 0 ≤ x5 then (if x5 < (x0.length : Int) then (if ((rdOf ByteArray.empty x0 x5).size : Int) = 32 then (Zq.lv0 x0 x1 (wrap64 (x5 + 1))) else (some false)) else (none)) else (none)) else (some true) : Option (Bool)) := by
 refine LimIs.eq (Zq.lv0_lim x0 x1 x5) ?_
 refine LimIs.step (fun k_ => (Zq.mono_l k_) x0 x1 x5) ?_
 simp only [Zq.l0]
 repeat' (with_reducible first | exact Zq.lv0_lim _ _ _ | exact LimIs.const _ | refine LimIs.ite ?_ ?_ | refine LimIs.bind ?_ (fun _ => ?_))
theorem Zq.v_eq (l0 : List ByteArray) (a1 : Int) : Zq.v l0 a1 = (if (l0.length : Int) = a1 then (Zq.lv0 l0 a1 0) else (some false) : Option (Bool)) := by
 refine LimIs.eq (Zq.v_lim l0 a1) ?_
 simp only [Zq.f]
 repeat' (with_reducible first | exact Zq.lv0_lim _ _ _ | exact LimIs.const _ | refine LimIs.ite ?_ ?_ | refine LimIs.bind ?_ (fun _ => ?_))
def Zu.l0 : Nat → ByteArray → List Int → Int → Option (ByteArray)
 | 0,_,_,_ => none
 | k + 1,x3,x4,x5 => if x5 < 32 then (if 0 ≤ (wrap64 (Int.tdiv x5 8)) then (if (wrap64 (Int.tdiv x5 8)) < (x3.size : Int) then (if 0 ≤ (IntKind.u64.wrap (wrap64 (7 - (Int.tmod x5 8)))) then (if x4.length < 140737488355328 then (Zu.l0 k x3 (x4 ++ [(48 + (Go.bits .and .u8 (shr .u8 (bt x3 (wrap64 (Int.tdiv x5 8))) (IntKind.u64.wrap (wrap64 (7 - (Int.tmod x5 8))))) 1)) % 256]) (wrap64 (x5 + 1))) else (none)) else (none)) else (none)) else (none)) else (some (strOfNums x4))
def Zu.f (k : Nat) (a0 : ByteArray) : Option (ByteArray) := if 6 + a0.size ≤ 9223372036854775807 then (if ((⟨#[100,105,103,101,115,116]⟩ : ByteArray) ++ a0).size ≤ 140737488355328 then ((Zb.f k (bytesOf ((⟨#[100,105,103,101,115,116]⟩ : ByteArray) ++ a0))).bind fun t499 => (Zu.l0 k t499 (([] : List Int)) 0)) else (none)) else (none)
theorem Zu.mono_l : ∀ k,(∀ y0 y1 y2,LeO (Zu.l0 k y0 y1 y2) (Zu.l0 (k + 1) y0 y1 y2))
 | 0 => fun _ _ _ r h => by simp [Zu.l0] at h
 | k + 1 => by
  have ih0 := Zu.mono_l k
  ·intro y0 y1 y2
   unfold Zu.l0
   repeat' (with_reducible first | exact ih0 _ _ _ | exact Zb.mono _ _ | exact LeO.refl _ | exact LeO.none _ | refine LeO.ite ?_ ?_ | refine LeO.bind ?_ (fun _ => ?_))
theorem Zu.mono : ∀ a0 k,LeO (Zu.f k a0) (Zu.f (k + 1) a0) := by
 intro a0 k
 have ih0 := Zu.mono_l k
 unfold Zu.f
 repeat' (with_reducible first | exact ih0 _ _ _ | exact Zb.mono _ _ | exact LeO.refl _ | exact LeO.none _ | refine LeO.ite ?_ ?_ | refine LeO.bind ?_ (fun _ => ?_))
noncomputable def Zu.lv0 (x3 : ByteArray) (x4 : List Int) (x5 : Int) : Option (ByteArray) := lim (fun k_ => Zu.l0 k_ x3 x4 x5)
noncomputable def Zu.v (a0 : ByteArray) : Option (ByteArray) := lim (fun k_ => Zu.f k_ a0)
theorem Zu.lv0_lim (x3 : ByteArray) (x4 : List Int) (x5 : Int) : LimIs (fun k_ => Zu.l0 k_ x3 x4 x5) (Zu.lv0 x3 x4 x5) := lim_is (fun k_ => (Zu.mono_l k_) x3 x4 x5)
theorem Zu.v_lim (a0 : ByteArray) : LimIs (fun k_ => Zu.f k_ a0) (Zu.v a0) := lim_is (fun k_ => Zu.mono a0 k_)
theorem Zu.lv0_eq (x3 : ByteArray) (x4 : List Int) (x5 : Int) : Zu.lv0 x3 x4 x5 = (if x5 < 32 then (if 0 ≤ (wrap64 (Int.tdiv x5 8)) then (if (wrap64 (Int.tdiv x5 8)) < (x3.size : Int) then (if 0 ≤ (IntKind.u64.wrap (wrap64 (7 - (Int.tmod x5 8)))) then (if x4.length < 140737488355328 then (Zu.lv0 x3 (x4 ++ [(48 + (Go.bits .and .u8 (shr .u8 (bt x3 (wrap64 (Int.tdiv x5 8))) (IntKind.u64.wrap (wrap64 (7 - (Int.tmod x5 8))))) 1)) % 256]) (wrap64 (x5 + 1))) else (none)) else (none)) else (none)) else (none)) else (some (strOfNums x4)) : Option (ByteArray)) := by
 refine LimIs.eq (Zu.lv0_lim x3 x4 x5) ?_
 refine LimIs.step (fun k_ => (Zu.mono_l k_) x3 x4 x5) ?_
 simp only [Zu.l0]
 repeat' (with_reducible first | exact Zu.lv0_lim _ _ _ | exact LimIs.const _ | refine LimIs.ite ?_ ?_ | refine LimIs.bind ?_ (fun _ => ?_))
theorem Zu.v_eq (a0 : ByteArray) : Zu.v a0 = (if 6 + a0.size ≤ 9223372036854775807 then (if ((⟨#[100,105,103,101,115,116]⟩ : ByteArray) ++ a0).size ≤ 140737488355328 then ((Zb.v (bytesOf ((⟨#[100,105,103,101,115,116]⟩ : ByteArray) ++ a0))).bind fun t499 => (Zu.lv0 t499 (([] : List Int)) 0)) else (none)) else (none) : Option (ByteArray)) := by
 refine LimIs.eq (Zu.v_lim a0) ?_
 simp only [Zu.f]
 repeat' (with_reducible first | exact Zb.v_lim _ | exact Zu.lv0_lim _ _ _ | exact LimIs.const _ | refine LimIs.ite ?_ ?_ | refine LimIs.bind ?_ (fun _ => ?_))
mutual
def Za.j0 : Nat → ByteArray → ByteArray → Bool → Int → List ByteArray → List ByteArray → List ByteArray → Option (Int)
 | 0,_,_,_,_,_,_,_ => none
 | k + 1,x0,x1,x21,x507000,x507001,x507002,x507003 => if x21 = true then (some 2) else (if (x0.size : Int) = 32 then ((Zq.f k x507001 32).bind fun t507 => (if t507 = true then ((Zq.f k x507002 32).bind fun t508 => (if t508 = true then ((Zq.f k x507003 3).bind fun t509 => (Za.j1 k x0 x1 (!t509) x507000 x507001 x507002 x507003)) else (Za.j1 k x0 x1 true x507000 x507001 x507002 x507003))) else (Za.j1 k x0 x1 true x507000 x507001 x507002 x507003))) else (Za.j1 k x0 x1 true x507000 x507001 x507002 x507003))
def Za.j1 : Nat → ByteArray → ByteArray → Bool → Int → List ByteArray → List ByteArray → List ByteArray → Option (Int)
 | 0,_,_,_,_,_,_,_ => none
 | k + 1,x0,x1,x42,x507000,x507001,x507002,x507003 => if x42 = true then (some 1) else ((ZK.f x507000 0 7).bind fun t510 => (if t510 = true then ((Zu.f k x1).bind fun t511 => (Za.l0 k x0 t511 (([107,101,121] : List Int)) 0 x507000 x507001 x507002 x507003)) else (some 4)))
def Za.l0 : Nat → ByteArray → ByteArray → List Int → Int → Int → List ByteArray → List ByteArray → List ByteArray → Option (Int)
 | 0,_,_,_,_,_,_,_,_ => none
 | k + 1,x0,x7,x8,x9,x507000,x507001,x507002,x507003 => if x9 < 32 then (if 0 ≤ x9 then (if x9 < (x507001.length : Int) then (if (rdOf ByteArray.empty x507001 x9).size ≤ 140737488355328 then ((Zb.f k (bytesOf (rdOf ByteArray.empty x507001 x9))).bind fun t519 => (if x9 < (x7.size : Int) then (if (bt x7 x9) = 48 then (if x8.length + t519.size < 140737488355328 then ((some (x8 ++ bytesOf t519 : List Int)).bind fun y520 => (if x9 < (x507002.length : Int) then (if y520.length + (rdOf ByteArray.empty x507002 x9).size < 140737488355328 then (Za.l0 k x0 x7 (y520 ++ bytesOf (rdOf ByteArray.empty x507002 x9)) (wrap64 (x9 + 1)) x507000 x507001 x507002 x507003) else (none)) else (none))) else (none)) else (if x9 < (x507002.length : Int) then (if x8.length + (rdOf ByteArray.empty x507002 x9).size < 140737488355328 then ((some (x8 ++ bytesOf (rdOf ByteArray.empty x507002 x9) : List Int)).bind fun y528 => (if y528.length + t519.size < 140737488355328 then (Za.l0 k x0 x7 (y528 ++ bytesOf t519) (wrap64 (x9 + 1)) x507000 x507001 x507002 x507003) else (none))) else (none)) else (none))) else (none))) else (none)) else (none)) else (none)) else ((Zb.f k x8).bind fun t534 => (Za.l1 k x0 t534 x507000 0 x507000 x507001 x507002 x507003))
def Za.l1 : Nat → ByteArray → ByteArray → Int → Int → Int → List ByteArray → List ByteArray → List ByteArray → Option (Int)
 | 0,_,_,_,_,_,_,_,_ => none
 | k + 1,x0,x11,x12,x13,x507000,x507001,x507002,x507003 => if x13 < 3 then (if (Int.tmod x12 2) = 0 then (if 0 ≤ x13 then (if x13 < (x507003.length : Int) then ((ZM.f k x11 (rdOf ByteArray.empty x507003 x13)).bind fun t536 => (Za.l1 k x0 t536 (wrap64 (Int.tdiv x12 2)) (wrap64 (x13 + 1)) x507000 x507001 x507002 x507003)) else (none)) else (none)) else (if 0 ≤ x13 then (if x13 < (x507003.length : Int) then ((ZM.f k (rdOf ByteArray.empty x507003 x13) x11).bind fun t538 => (Za.l1 k x0 t538 (wrap64 (Int.tdiv x12 2)) (wrap64 (x13 + 1)) x507000 x507001 x507002 x507003)) else (none)) else (none))) else (if x11.toList = x0.toList then (some 0) else (some 12))
end
def Za.f (k : Nat) (a0 : ByteArray) (a1 : ByteArray) (a2_0 : Int) (l2_1 : List ByteArray) (l2_2 : List ByteArray) (l2_3 : List ByteArray) : Option (Int) := if (a1.size : Int) > 65530 then (Za.j0 k a0 a1 true a2_0 l2_1 l2_2 l2_3) else (Za.j0 k a0 a1 (decide ((a0.size : Int) > 65536)) a2_0 l2_1 l2_2 l2_3)
theorem Za.mono_l : ∀ k,(∀ y0 y1 y2 y3 y4 y5 y6,LeO (Za.j0 k y0 y1 y2 y3 y4 y5 y6) (Za.j0 (k + 1) y0 y1 y2 y3 y4 y5 y6)) ∧ (∀ y0 y1 y2 y3 y4 y5 y6,LeO (Za.j1 k y0 y1 y2 y3 y4 y5 y6) (Za.j1 (k + 1) y0 y1 y2 y3 y4 y5 y6)) ∧ (∀ y0 y1 y2 y3 y4 y5 y6 y7,LeO (Za.l0 k y0 y1 y2 y3 y4 y5 y6 y7) (Za.l0 (k + 1) y0 y1 y2 y3 y4 y5 y6 y7)) ∧ (∀ y0 y1 y2 y3 y4 y5 y6 y7,LeO (Za.l1 k y0 y1 y2 y3 y4 y5 y6 y7) (Za.l1 (k + 1) y0 y1 y2 y3 y4 y5 y6 y7))
 | 0 => ⟨fun _ _ _ _ _ _ _ r h => by simp [Za.j0] at h,fun _ _ _ _ _ _ _ r h => by simp [Za.j1] at h,fun _ _ _ _ _ _ _ _ r h => by simp [Za.l0] at h,fun _ _ _ _ _ _ _ _ r h => by simp [Za.l1] at h⟩
 | k + 1 => by
  obtain ⟨ih0,ih1,ih2,ih3⟩ := Za.mono_l k
  refine ⟨?_,?_,?_,?_⟩
  ·intro y0 y1 y2 y3 y4 y5 y6
   unfold Za.j0
   repeat' (with_reducible first | exact ih0 _ _ _ _ _ _ _ | exact ih1 _ _ _ _ _ _ _ | exact ih2 _ _ _ _ _ _ _ _ | exact ih3 _ _ _ _ _ _ _ _ | exact Zb.mono _ _ | exact Zu.mono _ _ | exact Zq.mono _ _ _ | exact ZM.mono _ _ _ | exact LeO.refl _ | exact LeO.none _ | refine LeO.ite ?_ ?_ | refine LeO.bind ?_ (fun _ => ?_))
  ·intro y0 y1 y2 y3 y4 y5 y6
   unfold Za.j1
   repeat' (with_reducible first | exact ih0 _ _ _ _ _ _ _ | exact ih1 _ _ _ _ _ _ _ | exact ih2 _ _ _ _ _ _ _ _ | exact ih3 _ _ _ _ _ _ _ _ | exact Zb.mono _ _ | exact Zu.mono _ _ | exact Zq.mono _ _ _ | exact ZM.mono _ _ _ | exact LeO.refl _ | exact LeO.none _ | refine LeO.ite ?_ ?_ | refine LeO.bind ?_ (fun _ => ?_))
  ·intro y0 y1 y2 y3 y4 y5 y6 y7
   unfold Za.l0
   repeat' (with_reducible first | exact ih0 _ _ _ _ _ _ _ | exact ih1 _ _ _ _ _ _ _ | exact ih2 _ _ _ _ _ _ _ _ | exact ih3 _ _ _ _ _ _ _ _ | exact Zb.mono _ _ | exact Zu.mono _ _ | exact Zq.mono _ _ _ | exact ZM.mono _ _ _ | exact LeO.refl _ | exact LeO.none _ | refine LeO.ite ?_ ?_ | refine LeO.bind ?_ (fun _ => ?_))
  ·intro y0 y1 y2 y3 y4 y5 y6 y7
   unfold Za.l1
   repeat' (with_reducible first | exact ih0 _ _ _ _ _ _ _ | exact ih1 _ _ _ _ _ _ _ | exact ih2 _ _ _ _ _ _ _ _ | exact ih3 _ _ _ _ _ _ _ _ | exact Zb.mono _ _ | exact Zu.mono _ _ | exact Zq.mono _ _ _ | exact ZM.mono _ _ _ | exact LeO.refl _ | exact LeO.none _ | refine LeO.ite ?_ ?_ | refine LeO.bind ?_ (fun _ => ?_))
theorem Za.mono : ∀ a0 a1 a2 a3 a4 a5 k,LeO (Za.f k a0 a1 a2 a3 a4 a5) (Za.f (k + 1) a0 a1 a2 a3 a4 a5) := by
 intro a0 a1 a2 a3 a4 a5 k
 obtain ⟨ih0,ih1,ih2,ih3⟩ := Za.mono_l k
 unfold Za.f
 repeat' (with_reducible first | exact ih0 _ _ _ _ _ _ _ | exact ih1 _ _ _ _ _ _ _ | exact ih2 _ _ _ _ _ _ _ _ | exact ih3 _ _ _ _ _ _ _ _ | exact Zb.mono _ _ | exact Zu.mono _ _ | exact Zq.mono _ _ _ | exact ZM.mono _ _ _ | exact LeO.refl _ | exact LeO.none _ | refine LeO.ite ?_ ?_ | refine LeO.bind ?_ (fun _ => ?_))
noncomputable def Za.jv0 (x0 : ByteArray) (x1 : ByteArray) (x21 : Bool) (x507000 : Int) (x507001 : List ByteArray) (x507002 : List ByteArray) (x507003 : List ByteArray) : Option (Int) := lim (fun k_ => Za.j0 k_ x0 x1 x21 x507000 x507001 x507002 x507003)
noncomputable def Za.jv1 (x0 : ByteArray) (x1 : ByteArray) (x42 : Bool) (x507000 : Int) (x507001 : List ByteArray) (x507002 : List ByteArray) (x507003 : List ByteArray) : Option (Int) := lim (fun k_ => Za.j1 k_ x0 x1 x42 x507000 x507001 x507002 x507003)
noncomputable def Za.lv0 (x0 : ByteArray) (x7 : ByteArray) (x8 : List Int) (x9 : Int) (x507000 : Int) (x507001 : List ByteArray) (x507002 : List ByteArray) (x507003 : List ByteArray) : Option (Int) := lim (fun k_ => Za.l0 k_ x0 x7 x8 x9 x507000 x507001 x507002 x507003)
noncomputable def Za.lv1 (x0 : ByteArray) (x11 : ByteArray) (x12 : Int) (x13 : Int) (x507000 : Int) (x507001 : List ByteArray) (x507002 : List ByteArray) (x507003 : List ByteArray) : Option (Int) := lim (fun k_ => Za.l1 k_ x0 x11 x12 x13 x507000 x507001 x507002 x507003)
noncomputable def Za.v (a0 : ByteArray) (a1 : ByteArray) (a2_0 : Int) (l2_1 : List ByteArray) (l2_2 : List ByteArray) (l2_3 : List ByteArray) : Option (Int) := lim (fun k_ => Za.f k_ a0 a1 a2_0 l2_1 l2_2 l2_3)
theorem Za.jv0_lim (x0 : ByteArray) (x1 : ByteArray) (x21 : Bool) (x507000 : Int) (x507001 : List ByteArray) (x507002 : List ByteArray) (x507003 : List ByteArray) : LimIs (fun k_ => Za.j0 k_ x0 x1 x21 x507000 x507001 x507002 x507003) (Za.jv0 x0 x1 x21 x507000 x507001 x507002 x507003) := lim_is (fun k_ => (Za.mono_l k_).1 x0 x1 x21 x507000 x507001 x507002 x507003)
theorem Za.jv1_lim (x0 : ByteArray) (x1 : ByteArray) (x42 : Bool) (x507000 : Int) (x507001 : List ByteArray) (x507002 : List ByteArray) (x507003 : List ByteArray) : LimIs (fun k_ => Za.j1 k_ x0 x1 x42 x507000 x507001 x507002 x507003) (Za.jv1 x0 x1 x42 x507000 x507001 x507002 x507003) := lim_is (fun k_ => (Za.mono_l k_).2.1 x0 x1 x42 x507000 x507001 x507002 x507003)
theorem Za.lv0_lim (x0 : ByteArray) (x7 : ByteArray) (x8 : List Int) (x9 : Int) (x507000 : Int) (x507001 : List ByteArray) (x507002 : List ByteArray) (x507003 : List ByteArray) : LimIs (fun k_ => Za.l0 k_ x0 x7 x8 x9 x507000 x507001 x507002 x507003) (Za.lv0 x0 x7 x8 x9 x507000 x507001 x507002 x507003) := lim_is (fun k_ => (Za.mono_l k_).2.2.1 x0 x7 x8 x9 x507000 x507001 x507002 x507003)
theorem Za.lv1_lim (x0 : ByteArray) (x11 : ByteArray) (x12 : Int) (x13 : Int) (x507000 : Int) (x507001 : List ByteArray) (x507002 : List ByteArray) (x507003 : List ByteArray) : LimIs (fun k_ => Za.l1 k_ x0 x11 x12 x13 x507000 x507001 x507002 x507003) (Za.lv1 x0 x11 x12 x13 x507000 x507001 x507002 x507003) := lim_is (fun k_ => (Za.mono_l k_).2.2.2 x0 x11 x12 x13 x507000 x507001 x507002 x507003)
theorem Za.v_lim (a0 : ByteArray) (a1 : ByteArray) (a2_0 : Int) (l2_1 : List ByteArray) (l2_2 : List ByteArray) (l2_3 : List ByteArray) : LimIs (fun k_ => Za.f k_ a0 a1 a2_0 l2_1 l2_2 l2_3) (Za.v a0 a1 a2_0 l2_1 l2_2 l2_3) := lim_is (fun k_ => Za.mono a0 a1 a2_0 l2_1 l2_2 l2_3 k_)
theorem Za.jv0_eq (x0 : ByteArray) (x1 : ByteArray) (x21 : Bool) (x507000 : Int) (x507001 : List ByteArray) (x507002 : List ByteArray) (x507003 : List ByteArray) : Za.jv0 x0 x1 x21 x507000 x507001 x507002 x507003 = (if x21 = true then (some 2) else (if (x0.size : Int) = 32 then ((Zq.v x507001 32).bind fun t507 => (if t507 = true then ((Zq.v x507002 32).bind fun t508 => (if t508 = true then ((Zq.v x507003 3).bind fun t509 => (Za.jv1 x0 x1 (!t509) x507000 x507001 x507002 x507003)) else (Za.jv1 x0 x1 true x507000 x507001 x507002 x507003))) else (Za.jv1 x0 x1 true x507000 x507001 x507002 x507003))) else (Za.jv1 x0 x1 true x507000 x507001 x507002 x507003)) : Option (Int)) := by
 refine LimIs.eq (Za.jv0_lim x0 x1 x21 x507000 x507001 x507002 x507003) ?_
 refine LimIs.step (fun k_ => (Za.mono_l k_).1 x0 x1 x21 x507000 x507001 x507002 x507003) ?_
 simp only [Za.j0]
 repeat' (with_reducible first | exact Za.jv1_lim _ _ _ _ _ _ _ | exact Zq.v_lim _ _ | exact LimIs.const _ | refine LimIs.ite ?_ ?_ | refine LimIs.bind ?_ (fun _ => ?_))
theorem Za.jv1_eq (x0 : ByteArray) (x1 : ByteArray) (x42 : Bool) (x507000 : Int) (x507001 : List ByteArray) (x507002 : List ByteArray) (x507003 : List ByteArray) : Za.jv1 x0 x1 x42 x507000 x507001 x507002 x507003 = (if x42 = true then (some 1) else ((ZK.v x507000 0 7).bind fun t510 => (if t510 = true then ((Zu.v x1).bind fun t511 => (Za.lv0 x0 t511 (([107,101,121] : List Int)) 0 x507000 x507001 x507002 x507003)) else (some 4))) : Option (Int)) := by
 refine LimIs.eq (Za.jv1_lim x0 x1 x42 x507000 x507001 x507002 x507003) ?_
 refine LimIs.step (fun k_ => (Za.mono_l k_).2.1 x0 x1 x42 x507000 x507001 x507002 x507003) ?_
 simp only [Za.j1]
 repeat' (with_reducible first | exact Za.lv0_lim _ _ _ _ _ _ _ _ | exact ZK.v_lim _ _ _ | exact Zu.v_lim _ | exact LimIs.const _ | refine LimIs.ite ?_ ?_ | refine LimIs.bind ?_ (fun _ => ?_))
theorem Za.lv0_eq (x0 : ByteArray) (x7 : ByteArray) (x8 : List Int) (x9 : Int) (x507000 : Int) (x507001 : List ByteArray) (x507002 : List ByteArray) (x507003 : List ByteArray) : Za.lv0 x0 x7 x8 x9 x507000 x507001 x507002 x507003 = (if x9 < 32 then (if 0 ≤ x9 then (if x9 < (x507001.length : Int) then (if (rdOf ByteArray.empty x507001 x9).size ≤ 140737488355328 then ((Zb.v (bytesOf (rdOf ByteArray.empty x507001 x9))).bind fun t519 => (if x9 < (x7.size : Int) then (if (bt x7 x9) = 48 then (if x8.length + t519.size < 140737488355328 then ((some (x8 ++ bytesOf t519 : List Int)).bind fun y520 => (if x9 < (x507002.length : Int) then (if y520.length + (rdOf ByteArray.empty x507002 x9).size < 140737488355328 then (Za.lv0 x0 x7 (y520 ++ bytesOf (rdOf ByteArray.empty x507002 x9)) (wrap64 (x9 + 1)) x507000 x507001 x507002 x507003) else (none)) else (none))) else (none)) else (if x9 < (x507002.length : Int) then (if x8.length + (rdOf ByteArray.empty x507002 x9).size < 140737488355328 then ((some (x8 ++ bytesOf (rdOf ByteArray.empty x507002 x9) : List Int)).bind fun y528 => (if y528.length + t519.size < 140737488355328 then (Za.lv0 x0 x7 (y528 ++ bytesOf t519) (wrap64 (x9 + 1)) x507000 x507001 x507002 x507003) else (none))) else (none)) else (none))) else (none))) else (none)) else (none)) else (none)) else ((Zb.v x8).bind fun t534 => (Za.lv1 x0 t534 x507000 0 x507000 x507001 x507002 x507003)) : Option (Int)) := by
 refine LimIs.eq (Za.lv0_lim x0 x7 x8 x9 x507000 x507001 x507002 x507003) ?_
 refine LimIs.step (fun k_ => (Za.mono_l k_).2.2.1 x0 x7 x8 x9 x507000 x507001 x507002 x507003) ?_
 simp only [Za.l0]
 repeat' (with_reducible first | exact Za.lv0_lim _ _ _ _ _ _ _ _ | exact Za.lv1_lim _ _ _ _ _ _ _ _ | exact Zb.v_lim _ | exact LimIs.const _ | refine LimIs.ite ?_ ?_ | refine LimIs.bind ?_ (fun _ => ?_))
theorem Za.lv1_eq (x0 : ByteArray) (x11 : ByteArray) (x12 : Int) (x13 : Int) (x507000 : Int) (x507001 : List ByteArray) (x507002 : List ByteArray) (x507003 : List ByteArray) : Za.lv1 x0 x11 x12 x13 x507000 x507001 x507002 x507003 = (if x13 < 3 then (if (Int.tmod x12 2) = 0 then (if 0 ≤ x13 then (if x13 < (x507003.length : Int) then ((ZM.v x11 (rdOf ByteArray.empty x507003 x13)).bind fun t536 => (Za.lv1 x0 t536 (wrap64 (Int.tdiv x12 2)) (wrap64 (x13 + 1)) x507000 x507001 x507002 x507003)) else (none)) else (none)) else (if 0 ≤ x13 then (if x13 < (x507003.length : Int) then ((ZM.v (rdOf ByteArray.empty x507003 x13) x11).bind fun t538 => (Za.lv1 x0 t538 (wrap64 (Int.tdiv x12 2)) (wrap64 (x13 + 1)) x507000 x507001 x507002 x507003)) else (none)) else (none))) else (if x11.toList = x0.toList then (some 0) else (some 12)) : Option (Int)) := by
 refine LimIs.eq (Za.lv1_lim x0 x11 x12 x13 x507000 x507001 x507002 x507003) ?_
 refine LimIs.step (fun k_ => (Za.mono_l k_).2.2.2 x0 x11 x12 x13 x507000 x507001 x507002 x507003) ?_
 simp only [Za.l1]
 repeat' (with_reducible first | exact Za.lv1_lim _ _ _ _ _ _ _ _ | exact ZM.v_lim _ _ | exact LimIs.const _ | refine LimIs.ite ?_ ?_ | refine LimIs.bind ?_ (fun _ => ?_))
theorem Za.v_eq (a0 : ByteArray) (a1 : ByteArray) (a2_0 : Int) (l2_1 : List ByteArray) (l2_2 : List ByteArray) (l2_3 : List ByteArray) : Za.v a0 a1 a2_0 l2_1 l2_2 l2_3 = (if (a1.size : Int) > 65530 then (Za.jv0 a0 a1 true a2_0 l2_1 l2_2 l2_3) else (Za.jv0 a0 a1 (decide ((a0.size : Int) > 65536)) a2_0 l2_1 l2_2 l2_3) : Option (Int)) := by
 refine LimIs.eq (Za.v_lim a0 a1 a2_0 l2_1 l2_2 l2_3) ?_
 simp only [Za.f]
 repeat' (with_reducible first | exact Za.jv0_lim _ _ _ _ _ _ _ | exact LimIs.const _ | refine LimIs.ite ?_ ?_ | refine LimIs.bind ?_ (fun _ => ?_))
def Yi.f (k : Nat) (a0 : Int) : Option (ByteArray) := (some (([(a0) % 256] : List Int) : List Int)).bind fun y539 => (if 9 + (strOfNums y539).size ≤ 9223372036854775807 then (if ((⟨#[110,111,100,101,32,115,101,101,100]⟩ : ByteArray) ++ (strOfNums y539)).size ≤ 140737488355328 then ((Zb.f k (bytesOf ((⟨#[110,111,100,101,32,115,101,101,100]⟩ : ByteArray) ++ (strOfNums y539)))).bind fun t545 => (some t545)) else (none)) else (none))
theorem Yi.mono : ∀ a0 k,LeO (Yi.f k a0) (Yi.f (k + 1) a0) := by
 intro a0 k
 unfold Yi.f
 repeat' (with_reducible first | exact Zb.mono _ _ | exact LeO.refl _ | exact LeO.none _ | refine LeO.ite ?_ ?_ | refine LeO.bind ?_ (fun _ => ?_))
noncomputable def Yi.v (a0 : Int) : Option (ByteArray) := lim (fun k_ => Yi.f k_ a0)
theorem Yi.v_lim (a0 : Int) : LimIs (fun k_ => Yi.f k_ a0) (Yi.v a0) := lim_is (fun k_ => Yi.mono a0 k_)
theorem Yi.v_eq (a0 : Int) : Yi.v a0 = ((some (([(a0) % 256] : List Int) : List Int)).bind fun y539 => (if 9 + (strOfNums y539).size ≤ 9223372036854775807 then (if ((⟨#[110,111,100,101,32,115,101,101,100]⟩ : ByteArray) ++ (strOfNums y539)).size ≤ 140737488355328 then ((Zb.v (bytesOf ((⟨#[110,111,100,101,32,115,101,101,100]⟩ : ByteArray) ++ (strOfNums y539)))).bind fun t545 => (some t545)) else (none)) else (none)) : Option (ByteArray)) := by
 refine LimIs.eq (Yi.v_lim a0) ?_
 simp only [Yi.f]
 repeat' (with_reducible first | exact Zb.v_lim _ | exact LimIs.const _ | refine LimIs.ite ?_ ?_ | refine LimIs.bind ?_ (fun _ => ?_))
def Zx.f : Nat → Int → Option (ByteArray)
 | 0,_ => none
 | k + 1,a0 => if a0 = (-9223372036854775808) then (some (⟨#[45,57,50,50,51,51,55,50,48,51,54,56,53,52,55,55,53,56,48,56]⟩ : ByteArray)) else (if a0 < 0 then ((Zx.f k (wrap64 (-a0))).bind fun t546 => (if 1 + t546.size ≤ 9223372036854775807 then (some ((⟨#[45]⟩ : ByteArray) ++ t546)) else (none))) else (if a0 < 10 then (some (strOfNums (([(wrap64 (48 + a0)) % 256] : List Int)))) else ((Zx.f k (wrap64 (Int.tdiv a0 10))).bind fun t550 => ((some (([(wrap64 (48 + (Int.tmod a0 10))) % 256] : List Int) : List Int)).bind fun y551 => (if t550.size + (strOfNums y551).size ≤ 9223372036854775807 then (some (t550 ++ (strOfNums y551))) else (none))))))
theorem Zx.mono_l : ∀ k,(∀ y0,LeO (Zx.f k y0) (Zx.f (k + 1) y0))
 | 0 => fun _ r h => by simp [Zx.f] at h
 | k + 1 => by
  have ih0 := Zx.mono_l k
  ·intro y0
   unfold Zx.f
   repeat' (with_reducible first | exact ih0 _ | exact LeO.refl _ | exact LeO.none _ | refine LeO.ite ?_ ?_ | refine LeO.bind ?_ (fun _ => ?_))
theorem Zx.mono : ∀ a0 k,LeO (Zx.f k a0) (Zx.f (k + 1) a0) := by
 intro a0 k
 have ih0 := Zx.mono_l k
 exact ih0 a0
noncomputable def Zx.v (a0 : Int) : Option (ByteArray) := lim (fun k_ => Zx.f k_ a0)
theorem Zx.v_lim (a0 : Int) : LimIs (fun k_ => Zx.f k_ a0) (Zx.v a0) := lim_is (fun k_ => Zx.mono a0 k_)
theorem Zx.v_eq (a0 : Int) : Zx.v a0 = (if a0 = (-9223372036854775808) then (some (⟨#[45,57,50,50,51,51,55,50,48,51,54,56,53,52,55,55,53,56,48,56]⟩ : ByteArray)) else (if a0 < 0 then ((Zx.v (wrap64 (-a0))).bind fun t546 => (if 1 + t546.size ≤ 9223372036854775807 then (some ((⟨#[45]⟩ : ByteArray) ++ t546)) else (none))) else (if a0 < 10 then (some (strOfNums (([(wrap64 (48 + a0)) % 256] : List Int)))) else ((Zx.v (wrap64 (Int.tdiv a0 10))).bind fun t550 => ((some (([(wrap64 (48 + (Int.tmod a0 10))) % 256] : List Int) : List Int)).bind fun y551 => (if t550.size + (strOfNums y551).size ≤ 9223372036854775807 then (some (t550 ++ (strOfNums y551))) else (none)))))) : Option (ByteArray)) := by
 refine LimIs.eq (Zx.v_lim a0) ?_
 refine LimIs.step (fun k_ => Zx.mono a0 k_) ?_
 simp only [Zx.f]
 repeat' (with_reducible first | exact Zx.v_lim _ | exact LimIs.const _ | refine LimIs.ite ?_ ?_ | refine LimIs.bind ?_ (fun _ => ?_))
def ZR.f (k : Nat) (a0_0 : ByteArray) (a0_1 : Int) (a0_2 : Int) (a0_3 : Int) : Option (ByteArray) := if 6 + a0_0.size ≤ 9223372036854775807 then (if ((⟨#[103,114,97,110,116,32]⟩ : ByteArray) ++ a0_0).size + 1 ≤ 9223372036854775807 then ((Zx.f k a0_1).bind fun t555 => (if (((⟨#[103,114,97,110,116,32]⟩ : ByteArray) ++ a0_0) ++ (⟨#[32]⟩ : ByteArray)).size + t555.size ≤ 9223372036854775807 then (if ((((⟨#[103,114,97,110,116,32]⟩ : ByteArray) ++ a0_0) ++ (⟨#[32]⟩ : ByteArray)) ++ t555).size + 1 ≤ 9223372036854775807 then ((Zx.f k a0_2).bind fun t556 => (if (((((⟨#[103,114,97,110,116,32]⟩ : ByteArray) ++ a0_0) ++ (⟨#[32]⟩ : ByteArray)) ++ t555) ++ (⟨#[32]⟩ : ByteArray)).size + t556.size ≤ 9223372036854775807 then (if ((((((⟨#[103,114,97,110,116,32]⟩ : ByteArray) ++ a0_0) ++ (⟨#[32]⟩ : ByteArray)) ++ t555) ++ (⟨#[32]⟩ : ByteArray)) ++ t556).size + 1 ≤ 9223372036854775807 then ((Zx.f k a0_3).bind fun t557 => (if (((((((⟨#[103,114,97,110,116,32]⟩ : ByteArray) ++ a0_0) ++ (⟨#[32]⟩ : ByteArray)) ++ t555) ++ (⟨#[32]⟩ : ByteArray)) ++ t556) ++ (⟨#[32]⟩ : ByteArray)).size + t557.size ≤ 9223372036854775807 then (some ((((((((⟨#[103,114,97,110,116,32]⟩ : ByteArray) ++ a0_0) ++ (⟨#[32]⟩ : ByteArray)) ++ t555) ++ (⟨#[32]⟩ : ByteArray)) ++ t556) ++ (⟨#[32]⟩ : ByteArray)) ++ t557)) else (none))) else (none)) else (none))) else (none)) else (none))) else (none)) else (none)
theorem ZR.mono : ∀ a0 a1 a2 a3 k,LeO (ZR.f k a0 a1 a2 a3) (ZR.f (k + 1) a0 a1 a2 a3) := by
 intro a0 a1 a2 a3 k
 unfold ZR.f
 repeat' (with_reducible first | exact Zx.mono _ _ | exact LeO.refl _ | exact LeO.none _ | refine LeO.ite ?_ ?_ | refine LeO.bind ?_ (fun _ => ?_))
noncomputable def ZR.v (a0_0 : ByteArray) (a0_1 : Int) (a0_2 : Int) (a0_3 : Int) : Option (ByteArray) := lim (fun k_ => ZR.f k_ a0_0 a0_1 a0_2 a0_3)
theorem ZR.v_lim (a0_0 : ByteArray) (a0_1 : Int) (a0_2 : Int) (a0_3 : Int) : LimIs (fun k_ => ZR.f k_ a0_0 a0_1 a0_2 a0_3) (ZR.v a0_0 a0_1 a0_2 a0_3) := lim_is (fun k_ => ZR.mono a0_0 a0_1 a0_2 a0_3 k_)
theorem ZR.v_eq (a0_0 : ByteArray) (a0_1 : Int) (a0_2 : Int) (a0_3 : Int) : ZR.v a0_0 a0_1 a0_2 a0_3 = (if 6 + a0_0.size ≤ 9223372036854775807 then (if ((⟨#[103,114,97,110,116,32]⟩ : ByteArray) ++ a0_0).size + 1 ≤ 9223372036854775807 then ((Zx.v a0_1).bind fun t555 => (if (((⟨#[103,114,97,110,116,32]⟩ : ByteArray) ++ a0_0) ++ (⟨#[32]⟩ : ByteArray)).size + t555.size ≤ 9223372036854775807 then (if ((((⟨#[103,114,97,110,116,32]⟩ : ByteArray) ++ a0_0) ++ (⟨#[32]⟩ : ByteArray)) ++ t555).size + 1 ≤ 9223372036854775807 then ((Zx.v a0_2).bind fun t556 => (if (((((⟨#[103,114,97,110,116,32]⟩ : ByteArray) ++ a0_0) ++ (⟨#[32]⟩ : ByteArray)) ++ t555) ++ (⟨#[32]⟩ : ByteArray)).size + t556.size ≤ 9223372036854775807 then (if ((((((⟨#[103,114,97,110,116,32]⟩ : ByteArray) ++ a0_0) ++ (⟨#[32]⟩ : ByteArray)) ++ t555) ++ (⟨#[32]⟩ : ByteArray)) ++ t556).size + 1 ≤ 9223372036854775807 then ((Zx.v a0_3).bind fun t557 => (if (((((((⟨#[103,114,97,110,116,32]⟩ : ByteArray) ++ a0_0) ++ (⟨#[32]⟩ : ByteArray)) ++ t555) ++ (⟨#[32]⟩ : ByteArray)) ++ t556) ++ (⟨#[32]⟩ : ByteArray)).size + t557.size ≤ 9223372036854775807 then (some ((((((((⟨#[103,114,97,110,116,32]⟩ : ByteArray) ++ a0_0) ++ (⟨#[32]⟩ : ByteArray)) ++ t555) ++ (⟨#[32]⟩ : ByteArray)) ++ t556) ++ (⟨#[32]⟩ : ByteArray)) ++ t557)) else (none))) else (none)) else (none))) else (none)) else (none))) else (none)) else (none) : Option (ByteArray)) := by
 refine LimIs.eq (ZR.v_lim a0_0 a0_1 a0_2 a0_3) ?_
 simp only [ZR.f]
 repeat' (with_reducible first | exact Zx.v_lim _ | exact LimIs.const _ | refine LimIs.ite ?_ ?_ | refine LimIs.bind ?_ (fun _ => ?_))
mutual
def Zf.j0 : Nat → Bool → ByteArray → Int → Int → Int → List Int → List (S37) → Option (Int)
 | 0,_,_,_,_,_,_,_ => none
 | k + 1,x27,x559000,x559001,x559002,x559003,x559004,x559005 => if x27 = true then (some 19) else (Zf.l0 k 0 x559000 x559001 x559002 x559003 x559004 x559005)
def Zf.l0 : Nat → Int → ByteArray → Int → Int → Int → List Int → List (S37) → Option (Int)
 | 0,_,_,_,_,_,_,_ => none
 | k + 1,x5,x559000,x559001,x559002,x559003,x559004,x559005 => if x5 < (x559004.length : Int) then (if 0 ≤ x5 then ((Yi.f k (rd x559004 x5)).bind fun t563 => ((Zz.f k t563).bind fun t564 => ((ZB.f k t564).bind fun t567 => ((ZR.f k x559000 x559001 x559002 x559003).bind fun t568 => (if x5 < (x559005.length : Int) then ((Za.f k t567 t568 ((rd_T37 x559005 x5).f0) ((rd_T37 x559005 x5).f1) ((rd_T37 x559005 x5).f2) ((rd_T37 x559005 x5).f3)).bind fun t570 => (if t570 = 0 then (Zf.l0 k (wrap64 (x5 + 1)) x559000 x559001 x559002 x559003 x559004 x559005) else (some t570))) else (none)))))) else (none)) else (some 0)
end
def Zf.f (k : Nat) (a0 : Int) (a1_0 : ByteArray) (a1_1 : Int) (a1_2 : Int) (a1_3 : Int) (l1_4 : List Int) (l1_5 : List (S37)) : Option (Int) := (Yb.f k a1_0 a1_1 a1_2 a1_3).bind fun t559 => (if t559 = true then ((Yr.f a0).bind fun t560 => (if t560 = true then ((ZC.f k a0 l1_4).bind fun t561 => (if t561 = true then (Zf.j0 k ((l1_5.length : Int) != (l1_4.length : Int)) a1_0 a1_1 a1_2 a1_3 l1_4 l1_5) else (Zf.j0 k true a1_0 a1_1 a1_2 a1_3 l1_4 l1_5))) else (some 4))) else (some 1))
theorem Zf.mono_l : ∀ k,(∀ y0 y1 y2 y3 y4 y5 y6,LeO (Zf.j0 k y0 y1 y2 y3 y4 y5 y6) (Zf.j0 (k + 1) y0 y1 y2 y3 y4 y5 y6)) ∧ (∀ y0 y1 y2 y3 y4 y5 y6,LeO (Zf.l0 k y0 y1 y2 y3 y4 y5 y6) (Zf.l0 (k + 1) y0 y1 y2 y3 y4 y5 y6))
 | 0 => ⟨fun _ _ _ _ _ _ _ r h => by simp [Zf.j0] at h,fun _ _ _ _ _ _ _ r h => by simp [Zf.l0] at h⟩
 | k + 1 => by
  obtain ⟨ih0,ih1⟩ := Zf.mono_l k
  refine ⟨?_,?_⟩
  ·intro y0 y1 y2 y3 y4 y5 y6
   unfold Zf.j0
   repeat' (with_reducible first | exact ih0 _ _ _ _ _ _ _ | exact ih1 _ _ _ _ _ _ _ | exact Za.mono _ _ _ _ _ _ _ | exact Yb.mono _ _ _ _ _ | exact Zz.mono _ _ | exact ZB.mono _ _ | exact ZC.mono _ _ _ | exact Yi.mono _ _ | exact ZR.mono _ _ _ _ _ | exact LeO.refl _ | exact LeO.none _ | refine LeO.ite ?_ ?_ | refine LeO.bind ?_ (fun _ => ?_))
  ·intro y0 y1 y2 y3 y4 y5 y6
   unfold Zf.l0
   repeat' (with_reducible first | exact ih0 _ _ _ _ _ _ _ | exact ih1 _ _ _ _ _ _ _ | exact Za.mono _ _ _ _ _ _ _ | exact Yb.mono _ _ _ _ _ | exact Zz.mono _ _ | exact ZB.mono _ _ | exact ZC.mono _ _ _ | exact Yi.mono _ _ | exact ZR.mono _ _ _ _ _ | exact LeO.refl _ | exact LeO.none _ | refine LeO.ite ?_ ?_ | refine LeO.bind ?_ (fun _ => ?_))
theorem Zf.mono : ∀ a0 a1 a2 a3 a4 a5 a6 k,LeO (Zf.f k a0 a1 a2 a3 a4 a5 a6) (Zf.f (k + 1) a0 a1 a2 a3 a4 a5 a6) := by
 intro a0 a1 a2 a3 a4 a5 a6 k
 obtain ⟨ih0,ih1⟩ := Zf.mono_l k
 unfold Zf.f
 repeat' (with_reducible first | exact ih0 _ _ _ _ _ _ _ | exact ih1 _ _ _ _ _ _ _ | exact Za.mono _ _ _ _ _ _ _ | exact Yb.mono _ _ _ _ _ | exact Zz.mono _ _ | exact ZB.mono _ _ | exact ZC.mono _ _ _ | exact Yi.mono _ _ | exact ZR.mono _ _ _ _ _ | exact LeO.refl _ | exact LeO.none _ | refine LeO.ite ?_ ?_ | refine LeO.bind ?_ (fun _ => ?_))
noncomputable def Zf.jv0 (x27 : Bool) (x559000 : ByteArray) (x559001 : Int) (x559002 : Int) (x559003 : Int) (x559004 : List Int) (x559005 : List (S37)) : Option (Int) := lim (fun k_ => Zf.j0 k_ x27 x559000 x559001 x559002 x559003 x559004 x559005)
noncomputable def Zf.lv0 (x5 : Int) (x559000 : ByteArray) (x559001 : Int) (x559002 : Int) (x559003 : Int) (x559004 : List Int) (x559005 : List (S37)) : Option (Int) := lim (fun k_ => Zf.l0 k_ x5 x559000 x559001 x559002 x559003 x559004 x559005)
noncomputable def Zf.v (a0 : Int) (a1_0 : ByteArray) (a1_1 : Int) (a1_2 : Int) (a1_3 : Int) (l1_4 : List Int) (l1_5 : List (S37)) : Option (Int) := lim (fun k_ => Zf.f k_ a0 a1_0 a1_1 a1_2 a1_3 l1_4 l1_5)
theorem Zf.jv0_lim (x27 : Bool) (x559000 : ByteArray) (x559001 : Int) (x559002 : Int) (x559003 : Int) (x559004 : List Int) (x559005 : List (S37)) : LimIs (fun k_ => Zf.j0 k_ x27 x559000 x559001 x559002 x559003 x559004 x559005) (Zf.jv0 x27 x559000 x559001 x559002 x559003 x559004 x559005) := lim_is (fun k_ => (Zf.mono_l k_).1 x27 x559000 x559001 x559002 x559003 x559004 x559005)
theorem Zf.lv0_lim (x5 : Int) (x559000 : ByteArray) (x559001 : Int) (x559002 : Int) (x559003 : Int) (x559004 : List Int) (x559005 : List (S37)) : LimIs (fun k_ => Zf.l0 k_ x5 x559000 x559001 x559002 x559003 x559004 x559005) (Zf.lv0 x5 x559000 x559001 x559002 x559003 x559004 x559005) := lim_is (fun k_ => (Zf.mono_l k_).2 x5 x559000 x559001 x559002 x559003 x559004 x559005)
theorem Zf.v_lim (a0 : Int) (a1_0 : ByteArray) (a1_1 : Int) (a1_2 : Int) (a1_3 : Int) (l1_4 : List Int) (l1_5 : List (S37)) : LimIs (fun k_ => Zf.f k_ a0 a1_0 a1_1 a1_2 a1_3 l1_4 l1_5) (Zf.v a0 a1_0 a1_1 a1_2 a1_3 l1_4 l1_5) := lim_is (fun k_ => Zf.mono a0 a1_0 a1_1 a1_2 a1_3 l1_4 l1_5 k_)
theorem Zf.jv0_eq (x27 : Bool) (x559000 : ByteArray) (x559001 : Int) (x559002 : Int) (x559003 : Int) (x559004 : List Int) (x559005 : List (S37)) : Zf.jv0 x27 x559000 x559001 x559002 x559003 x559004 x559005 = (if x27 = true then (some 19) else (Zf.lv0 0 x559000 x559001 x559002 x559003 x559004 x559005) : Option (Int)) := by
 refine LimIs.eq (Zf.jv0_lim x27 x559000 x559001 x559002 x559003 x559004 x559005) ?_
 refine LimIs.step (fun k_ => (Zf.mono_l k_).1 x27 x559000 x559001 x559002 x559003 x559004 x559005) ?_
 simp only [Zf.j0]
 repeat' (with_reducible first | exact Zf.lv0_lim _ _ _ _ _ _ _ | exact LimIs.const _ | refine LimIs.ite ?_ ?_ | refine LimIs.bind ?_ (fun _ => ?_))
theorem Zf.lv0_eq (x5 : Int) (x559000 : ByteArray) (x559001 : Int) (x559002 : Int) (x559003 : Int) (x559004 : List Int) (x559005 : List (S37)) : Zf.lv0 x5 x559000 x559001 x559002 x559003 x559004 x559005 = (if x5 < (x559004.length : Int) then (if 0 ≤ x5 then ((Yi.v (rd x559004 x5)).bind fun t563 => ((Zz.v t563).bind fun t564 => ((ZB.v t564).bind fun t567 => ((ZR.v x559000 x559001 x559002 x559003).bind fun t568 => (if x5 < (x559005.length : Int) then ((Za.v t567 t568 ((rd_T37 x559005 x5).f0) ((rd_T37 x559005 x5).f1) ((rd_T37 x559005 x5).f2) ((rd_T37 x559005 x5).f3)).bind fun t570 => (if t570 = 0 then (Zf.lv0 (wrap64 (x5 + 1)) x559000 x559001 x559002 x559003 x559004 x559005) else (some t570))) else (none)))))) else (none)) else (some 0) : Option (Int)) := by
 refine LimIs.eq (Zf.lv0_lim x5 x559000 x559001 x559002 x559003 x559004 x559005) ?_
 refine LimIs.step (fun k_ => (Zf.mono_l k_).2 x5 x559000 x559001 x559002 x559003 x559004 x559005) ?_
 simp only [Zf.l0]
 repeat' (with_reducible first | exact Zf.lv0_lim _ _ _ _ _ _ _ | exact Za.v_lim _ _ _ _ _ _ | exact Zz.v_lim _ | exact ZB.v_lim _ | exact Yi.v_lim _ | exact ZR.v_lim _ _ _ _ | exact LimIs.const _ | refine LimIs.ite ?_ ?_ | refine LimIs.bind ?_ (fun _ => ?_))
theorem Zf.v_eq (a0 : Int) (a1_0 : ByteArray) (a1_1 : Int) (a1_2 : Int) (a1_3 : Int) (l1_4 : List Int) (l1_5 : List (S37)) : Zf.v a0 a1_0 a1_1 a1_2 a1_3 l1_4 l1_5 = ((Yb.v a1_0 a1_1 a1_2 a1_3).bind fun t559 => (if t559 = true then ((Yr.v a0).bind fun t560 => (if t560 = true then ((ZC.v a0 l1_4).bind fun t561 => (if t561 = true then (Zf.jv0 ((l1_5.length : Int) != (l1_4.length : Int)) a1_0 a1_1 a1_2 a1_3 l1_4 l1_5) else (Zf.jv0 true a1_0 a1_1 a1_2 a1_3 l1_4 l1_5))) else (some 4))) else (some 1)) : Option (Int)) := by
 refine LimIs.eq (Zf.v_lim a0 a1_0 a1_1 a1_2 a1_3 l1_4 l1_5) ?_
 simp only [Zf.f]
 repeat' (with_reducible first | exact Zf.jv0_lim _ _ _ _ _ _ _ | exact Yb.v_lim _ _ _ _ | exact Yr.v_lim _ | exact ZC.v_lim _ _ | exact LimIs.const _ | refine LimIs.ite ?_ ?_ | refine LimIs.bind ?_ (fun _ => ?_))
def Yz.f (l0 : List Int) : Option (List Int) := (Yy.f l0 0 4).bind fun t => if 0 ≤ t ∧ t < 4 then some ([[0,1],[0,2],[1,3],[2,3]].getD t.toNat []) else none
def Yz.v (l0 : List Int) : Option (List Int) := Yz.f l0
theorem Yz.v_lim (l0 : List Int) : LimIs (fun _ => Yz.f l0) (Yz.v l0) := LimIs.const _
theorem Yz.v_eq (l0 : List Int) : Yz.v l0 = ((Yy.v l0 0 4).bind fun t => if 0 ≤ t ∧ t < 4 then some ([[0,1],[0,2],[1,3],[2,3]].getD t.toNat []) else none : Option (List Int)) := rfl
mutual
def Zc.j0 : Nat → List Int → List Int → Bool → Option (Bool)
 | 0,_,_,_ => none
 | k + 1,x0,x1,x27 => if x27 = true then (some true) else ((Yv.f x0).bind fun bt571 => ((Yz.f x1).bind fun t576 => ((Yy.f x1 1 8).bind fun t579 => ((Zg.f k 4 bt571.1 bt571.2.1 bt571.2.2.1 bt571.2.2.2 t576 t579).bind fun bt580 => (if bt580.2.2.2.2.2.2 = 0 then (if (bt580.2.2.2.2.1.length : Int) = 2 then (if (bt580.2.2.2.2.2.1.length : Int) = 2 then ((Zh.f k 4 bt580.1 bt580.2.1 bt580.2.2.1 bt580.2.2.2.1 bt580.2.2.2.2.1 bt580.2.2.2.2.2.1).bind fun t592 => (Zc.j1 k t576 t579 (t592 != 0) bt571.1 bt571.2.1 bt571.2.2.1 bt571.2.2.2 bt580.1 bt580.2.1 bt580.2.2.1 bt580.2.2.2.1 bt580.2.2.2.2.1 bt580.2.2.2.2.2.1)) else (Zc.j1 k t576 t579 true bt571.1 bt571.2.1 bt571.2.2.1 bt571.2.2.2 bt580.1 bt580.2.1 bt580.2.2.1 bt580.2.2.2.1 bt580.2.2.2.2.1 bt580.2.2.2.2.2.1)) else (Zc.j1 k t576 t579 true bt571.1 bt571.2.1 bt571.2.2.1 bt571.2.2.2 bt580.1 bt580.2.1 bt580.2.2.1 bt580.2.2.2.1 bt580.2.2.2.2.1 bt580.2.2.2.2.2.1)) else (Zc.j1 k t576 t579 true bt571.1 bt571.2.1 bt571.2.2.1 bt571.2.2.2 bt580.1 bt580.2.1 bt580.2.2.1 bt580.2.2.2.1 bt580.2.2.2.2.1 bt580.2.2.2.2.2.1))))))
def Zc.j1 : Nat → List Int → Int → Bool → ByteArray → Int → Int → Int → ByteArray → Int → Int → Int → List Int → List (S37) → Option (Bool)
 | 0,_,_,_,_,_,_,_,_,_,_,_,_,_ => none
 | k + 1,x6,x7,x66,x576000,x576001,x576002,x576003,x592000,x592001,x592002,x592003,x592004,x592005 => if x66 = true then (some false) else (if 1 < (x6.length : Int) then ((Zt.f k (rd x6 1) x7 x576000 x576001 x576002 x576003).bind fun bt594 => ((ZY.f k (rd x6 1)).bind fun bt607 => ((ZZ.f k (rd x6 1)).bind fun bt610 => ((ZS.f k bt607.1).bind fun bt612 => (if bt594.2.2.2.2 = 0 then (if bt607.2 = 0 then (if bt610.2 = 0 then (if bt610.1.toList = bt612.1.toList then (if 1 < (x592005.length : Int) then ((ZN.f k bt594.1 bt594.2.1 bt594.2.2.1 bt594.2.2.2.1 ((rd_T37 x592005 1).f0) ((rd_T37 x592005 1).f1) ((rd_T37 x592005 1).f2) ((rd_T37 x592005 1).f3)).bind fun t615 => (Zc.j2 k (!t615) x592000 x592001 x592002 x592003 x592004 x592005)) else (none)) else (Zc.j2 k true x592000 x592001 x592002 x592003 x592004 x592005)) else (Zc.j2 k true x592000 x592001 x592002 x592003 x592004 x592005)) else (Zc.j2 k true x592000 x592001 x592002 x592003 x592004 x592005)) else (Zc.j2 k true x592000 x592001 x592002 x592003 x592004 x592005)))))) else (none))
def Zc.j2 : Nat → Bool → ByteArray → Int → Int → Int → List Int → List (S37) → Option (Bool)
 | 0,_,_,_,_,_,_,_ => none
 | k + 1,x118,x592000,x592001,x592002,x592003,x592004,x592005 => if x118 = true then (some false) else (if 1 ≤ (x592004.length : Int) then (if 1 ≤ (x592005.length : Int) then ((Zh.f k 4 x592000 x592001 (wrap64 (x592002 + 1)) x592003 x592004 x592005).bind fun t624 => ((Zf.f k 4 x592000 x592001 (wrap64 (x592002 + 1)) x592003 x592004 x592005).bind fun t625 => (if t624 = t625 then ((Zh.f k 4 x592000 x592001 x592002 x592003 (x592004.take (1 : Int).toNat) (x592005.take (1 : Int).toNat)).bind fun t626 => (some (t626 == 19))) else (some false)))) else (none)) else (none))
end
def Zc.f (k : Nat) (l0 : List Int) (l1 : List Int) : Option (Bool) := if (l0.length : Int) > 1048576 then (Zc.j0 k l0 l1 true) else (Zc.j0 k l0 l1 (decide ((l1.length : Int) > 1048576)))
theorem Zc.mono_l : ∀ k,(∀ y0 y1 y2,LeO (Zc.j0 k y0 y1 y2) (Zc.j0 (k + 1) y0 y1 y2)) ∧ (∀ y0 y1 y2 y3 y4 y5 y6 y7 y8 y9 y10 y11 y12,LeO (Zc.j1 k y0 y1 y2 y3 y4 y5 y6 y7 y8 y9 y10 y11 y12) (Zc.j1 (k + 1) y0 y1 y2 y3 y4 y5 y6 y7 y8 y9 y10 y11 y12)) ∧ (∀ y0 y1 y2 y3 y4 y5 y6,LeO (Zc.j2 k y0 y1 y2 y3 y4 y5 y6) (Zc.j2 (k + 1) y0 y1 y2 y3 y4 y5 y6))
 | 0 => ⟨fun _ _ _ r h => by simp [Zc.j0] at h,fun _ _ _ _ _ _ _ _ _ _ _ _ _ r h => by simp [Zc.j1] at h,fun _ _ _ _ _ _ _ r h => by simp [Zc.j2] at h⟩
 | k + 1 => by
  obtain ⟨ih0,ih1,ih2⟩ := Zc.mono_l k
  refine ⟨?_,?_,?_⟩
  ·intro y0 y1 y2
   unfold Zc.j0
   repeat' (with_reducible first | exact ih0 _ _ _ | exact ih1 _ _ _ _ _ _ _ _ _ _ _ _ _ | exact ih2 _ _ _ _ _ _ _ | exact Zh.mono _ _ _ _ _ _ _ _ | exact Zg.mono _ _ _ _ _ _ _ _ | exact ZZ.mono _ _ | exact ZY.mono _ _ | exact Zt.mono _ _ _ _ _ _ _ | exact ZN.mono _ _ _ _ _ _ _ _ _ | exact ZS.mono _ _ | exact Zf.mono _ _ _ _ _ _ _ _ | exact LeO.refl _ | exact LeO.none _ | refine LeO.ite ?_ ?_ | refine LeO.bind ?_ (fun _ => ?_))
  ·intro y0 y1 y2 y3 y4 y5 y6 y7 y8 y9 y10 y11 y12
   unfold Zc.j1
   repeat' (with_reducible first | exact ih0 _ _ _ | exact ih1 _ _ _ _ _ _ _ _ _ _ _ _ _ | exact ih2 _ _ _ _ _ _ _ | exact Zh.mono _ _ _ _ _ _ _ _ | exact Zg.mono _ _ _ _ _ _ _ _ | exact ZZ.mono _ _ | exact ZY.mono _ _ | exact Zt.mono _ _ _ _ _ _ _ | exact ZN.mono _ _ _ _ _ _ _ _ _ | exact ZS.mono _ _ | exact Zf.mono _ _ _ _ _ _ _ _ | exact LeO.refl _ | exact LeO.none _ | refine LeO.ite ?_ ?_ | refine LeO.bind ?_ (fun _ => ?_))
  ·intro y0 y1 y2 y3 y4 y5 y6
   unfold Zc.j2
   repeat' (with_reducible first | exact ih0 _ _ _ | exact ih1 _ _ _ _ _ _ _ _ _ _ _ _ _ | exact ih2 _ _ _ _ _ _ _ | exact Zh.mono _ _ _ _ _ _ _ _ | exact Zg.mono _ _ _ _ _ _ _ _ | exact ZZ.mono _ _ | exact ZY.mono _ _ | exact Zt.mono _ _ _ _ _ _ _ | exact ZN.mono _ _ _ _ _ _ _ _ _ | exact ZS.mono _ _ | exact Zf.mono _ _ _ _ _ _ _ _ | exact LeO.refl _ | exact LeO.none _ | refine LeO.ite ?_ ?_ | refine LeO.bind ?_ (fun _ => ?_))
theorem Zc.mono : ∀ a0 a1 k,LeO (Zc.f k a0 a1) (Zc.f (k + 1) a0 a1) := by
 intro a0 a1 k
 obtain ⟨ih0,ih1,ih2⟩ := Zc.mono_l k
 unfold Zc.f
 repeat' (with_reducible first | exact ih0 _ _ _ | exact ih1 _ _ _ _ _ _ _ _ _ _ _ _ _ | exact ih2 _ _ _ _ _ _ _ | exact Zh.mono _ _ _ _ _ _ _ _ | exact Zg.mono _ _ _ _ _ _ _ _ | exact ZZ.mono _ _ | exact ZY.mono _ _ | exact Zt.mono _ _ _ _ _ _ _ | exact ZN.mono _ _ _ _ _ _ _ _ _ | exact ZS.mono _ _ | exact Zf.mono _ _ _ _ _ _ _ _ | exact LeO.refl _ | exact LeO.none _ | refine LeO.ite ?_ ?_ | refine LeO.bind ?_ (fun _ => ?_))
noncomputable def Zc.jv0 (x0 : List Int) (x1 : List Int) (x27 : Bool) : Option (Bool) := lim (fun k_ => Zc.j0 k_ x0 x1 x27)
noncomputable def Zc.jv1 (x6 : List Int) (x7 : Int) (x66 : Bool) (x576000 : ByteArray) (x576001 : Int) (x576002 : Int) (x576003 : Int) (x592000 : ByteArray) (x592001 : Int) (x592002 : Int) (x592003 : Int) (x592004 : List Int) (x592005 : List (S37)) : Option (Bool) := lim (fun k_ => Zc.j1 k_ x6 x7 x66 x576000 x576001 x576002 x576003 x592000 x592001 x592002 x592003 x592004 x592005)
noncomputable def Zc.jv2 (x118 : Bool) (x592000 : ByteArray) (x592001 : Int) (x592002 : Int) (x592003 : Int) (x592004 : List Int) (x592005 : List (S37)) : Option (Bool) := lim (fun k_ => Zc.j2 k_ x118 x592000 x592001 x592002 x592003 x592004 x592005)
noncomputable def Zc.v (l0 : List Int) (l1 : List Int) : Option (Bool) := lim (fun k_ => Zc.f k_ l0 l1)
theorem Zc.jv0_lim (x0 : List Int) (x1 : List Int) (x27 : Bool) : LimIs (fun k_ => Zc.j0 k_ x0 x1 x27) (Zc.jv0 x0 x1 x27) := lim_is (fun k_ => (Zc.mono_l k_).1 x0 x1 x27)
theorem Zc.jv1_lim (x6 : List Int) (x7 : Int) (x66 : Bool) (x576000 : ByteArray) (x576001 : Int) (x576002 : Int) (x576003 : Int) (x592000 : ByteArray) (x592001 : Int) (x592002 : Int) (x592003 : Int) (x592004 : List Int) (x592005 : List (S37)) : LimIs (fun k_ => Zc.j1 k_ x6 x7 x66 x576000 x576001 x576002 x576003 x592000 x592001 x592002 x592003 x592004 x592005) (Zc.jv1 x6 x7 x66 x576000 x576001 x576002 x576003 x592000 x592001 x592002 x592003 x592004 x592005) := lim_is (fun k_ => (Zc.mono_l k_).2.1 x6 x7 x66 x576000 x576001 x576002 x576003 x592000 x592001 x592002 x592003 x592004 x592005)
theorem Zc.jv2_lim (x118 : Bool) (x592000 : ByteArray) (x592001 : Int) (x592002 : Int) (x592003 : Int) (x592004 : List Int) (x592005 : List (S37)) : LimIs (fun k_ => Zc.j2 k_ x118 x592000 x592001 x592002 x592003 x592004 x592005) (Zc.jv2 x118 x592000 x592001 x592002 x592003 x592004 x592005) := lim_is (fun k_ => (Zc.mono_l k_).2.2 x118 x592000 x592001 x592002 x592003 x592004 x592005)
theorem Zc.v_lim (l0 : List Int) (l1 : List Int) : LimIs (fun k_ => Zc.f k_ l0 l1) (Zc.v l0 l1) := lim_is (fun k_ => Zc.mono l0 l1 k_)
theorem Zc.jv0_eq (x0 : List Int) (x1 : List Int) (x27 : Bool) : Zc.jv0 x0 x1 x27 = (if x27 = true then (some true) else ((Yv.v x0).bind fun bt571 => ((Yz.v x1).bind fun t576 => ((Yy.v x1 1 8).bind fun t579 => ((Zg.v 4 bt571.1 bt571.2.1 bt571.2.2.1 bt571.2.2.2 t576 t579).bind fun bt580 => (if bt580.2.2.2.2.2.2 = 0 then (if (bt580.2.2.2.2.1.length : Int) = 2 then (if (bt580.2.2.2.2.2.1.length : Int) = 2 then ((Zh.v 4 bt580.1 bt580.2.1 bt580.2.2.1 bt580.2.2.2.1 bt580.2.2.2.2.1 bt580.2.2.2.2.2.1).bind fun t592 => (Zc.jv1 t576 t579 (t592 != 0) bt571.1 bt571.2.1 bt571.2.2.1 bt571.2.2.2 bt580.1 bt580.2.1 bt580.2.2.1 bt580.2.2.2.1 bt580.2.2.2.2.1 bt580.2.2.2.2.2.1)) else (Zc.jv1 t576 t579 true bt571.1 bt571.2.1 bt571.2.2.1 bt571.2.2.2 bt580.1 bt580.2.1 bt580.2.2.1 bt580.2.2.2.1 bt580.2.2.2.2.1 bt580.2.2.2.2.2.1)) else (Zc.jv1 t576 t579 true bt571.1 bt571.2.1 bt571.2.2.1 bt571.2.2.2 bt580.1 bt580.2.1 bt580.2.2.1 bt580.2.2.2.1 bt580.2.2.2.2.1 bt580.2.2.2.2.2.1)) else (Zc.jv1 t576 t579 true bt571.1 bt571.2.1 bt571.2.2.1 bt571.2.2.2 bt580.1 bt580.2.1 bt580.2.2.1 bt580.2.2.2.1 bt580.2.2.2.2.1 bt580.2.2.2.2.2.1)))))) : Option (Bool)) := by
 refine LimIs.eq (Zc.jv0_lim x0 x1 x27) ?_
 refine LimIs.step (fun k_ => (Zc.mono_l k_).1 x0 x1 x27) ?_
 simp only [Zc.j0]
 repeat' (with_reducible first | exact Zh.v_lim _ _ _ _ _ _ _ | exact Zg.v_lim _ _ _ _ _ _ _ | exact Zc.jv1_lim _ _ _ _ _ _ _ _ _ _ _ _ _ | exact Yy.v_lim _ _ _ | exact Yz.v_lim _ | exact Yv.v_lim _ | exact LimIs.const _ | refine LimIs.ite ?_ ?_ | refine LimIs.bind ?_ (fun _ => ?_))
theorem Zc.jv1_eq (x6 : List Int) (x7 : Int) (x66 : Bool) (x576000 : ByteArray) (x576001 : Int) (x576002 : Int) (x576003 : Int) (x592000 : ByteArray) (x592001 : Int) (x592002 : Int) (x592003 : Int) (x592004 : List Int) (x592005 : List (S37)) : Zc.jv1 x6 x7 x66 x576000 x576001 x576002 x576003 x592000 x592001 x592002 x592003 x592004 x592005 = (if x66 = true then (some false) else (if 1 < (x6.length : Int) then ((Zt.v (rd x6 1) x7 x576000 x576001 x576002 x576003).bind fun bt594 => ((ZY.v (rd x6 1)).bind fun bt607 => ((ZZ.v (rd x6 1)).bind fun bt610 => ((ZS.v bt607.1).bind fun bt612 => (if bt594.2.2.2.2 = 0 then (if bt607.2 = 0 then (if bt610.2 = 0 then (if bt610.1.toList = bt612.1.toList then (if 1 < (x592005.length : Int) then ((ZN.v bt594.1 bt594.2.1 bt594.2.2.1 bt594.2.2.2.1 ((rd_T37 x592005 1).f0) ((rd_T37 x592005 1).f1) ((rd_T37 x592005 1).f2) ((rd_T37 x592005 1).f3)).bind fun t615 => (Zc.jv2 (!t615) x592000 x592001 x592002 x592003 x592004 x592005)) else (none)) else (Zc.jv2 true x592000 x592001 x592002 x592003 x592004 x592005)) else (Zc.jv2 true x592000 x592001 x592002 x592003 x592004 x592005)) else (Zc.jv2 true x592000 x592001 x592002 x592003 x592004 x592005)) else (Zc.jv2 true x592000 x592001 x592002 x592003 x592004 x592005)))))) else (none)) : Option (Bool)) := by
 refine LimIs.eq (Zc.jv1_lim x6 x7 x66 x576000 x576001 x576002 x576003 x592000 x592001 x592002 x592003 x592004 x592005) ?_
 refine LimIs.step (fun k_ => (Zc.mono_l k_).2.1 x6 x7 x66 x576000 x576001 x576002 x576003 x592000 x592001 x592002 x592003 x592004 x592005) ?_
 simp only [Zc.j1]
 repeat' (with_reducible first | exact ZZ.v_lim _ | exact ZY.v_lim _ | exact Zt.v_lim _ _ _ _ _ _ | exact Zc.jv2_lim _ _ _ _ _ _ _ | exact ZN.v_lim _ _ _ _ _ _ _ _ | exact ZS.v_lim _ | exact LimIs.const _ | refine LimIs.ite ?_ ?_ | refine LimIs.bind ?_ (fun _ => ?_))
theorem Zc.jv2_eq (x118 : Bool) (x592000 : ByteArray) (x592001 : Int) (x592002 : Int) (x592003 : Int) (x592004 : List Int) (x592005 : List (S37)) : Zc.jv2 x118 x592000 x592001 x592002 x592003 x592004 x592005 = (if x118 = true then (some false) else (if 1 ≤ (x592004.length : Int) then (if 1 ≤ (x592005.length : Int) then ((Zh.v 4 x592000 x592001 (wrap64 (x592002 + 1)) x592003 x592004 x592005).bind fun t624 => ((Zf.v 4 x592000 x592001 (wrap64 (x592002 + 1)) x592003 x592004 x592005).bind fun t625 => (if t624 = t625 then ((Zh.v 4 x592000 x592001 x592002 x592003 (x592004.take (1 : Int).toNat) (x592005.take (1 : Int).toNat)).bind fun t626 => (some (t626 == 19))) else (some false)))) else (none)) else (none)) : Option (Bool)) := by
 refine LimIs.eq (Zc.jv2_lim x118 x592000 x592001 x592002 x592003 x592004 x592005) ?_
 refine LimIs.step (fun k_ => (Zc.mono_l k_).2.2 x118 x592000 x592001 x592002 x592003 x592004 x592005) ?_
 simp only [Zc.j2]
 repeat' (with_reducible first | exact Zh.v_lim _ _ _ _ _ _ _ | exact Zf.v_lim _ _ _ _ _ _ _ | exact LimIs.const _ | refine LimIs.ite ?_ ?_ | refine LimIs.bind ?_ (fun _ => ?_))
theorem Zc.v_eq (l0 : List Int) (l1 : List Int) : Zc.v l0 l1 = (if (l0.length : Int) > 1048576 then (Zc.jv0 l0 l1 true) else (Zc.jv0 l0 l1 (decide ((l1.length : Int) > 1048576))) : Option (Bool)) := by
 refine LimIs.eq (Zc.v_lim l0 l1) ?_
 simp only [Zc.f]
 repeat' (with_reducible first | exact Zc.jv0_lim _ _ _ | exact LimIs.const _ | refine LimIs.ite ?_ ?_ | refine LimIs.bind ?_ (fun _ => ?_))
end Go.Proofs.YtkfhejklnmkfmaaDoor.A
end

section
namespace Go.Proofs.YtkfhejklnmkfmaaDoorW.PrintMore
open Go.RowKit Go.Proofs.YtkfhejklnmkfmaaDoorW.PrintWords Go.Proofs.YtkfhejklnmkfmaaDoorW.PrintLast
section
variable {P : Program} {md : Region.Mode} {ops : Array Oper} {Q : Exit → Act → World → Prop} {S : World → Prop} {ds : List Nat}
theorem pu_ {T : Bool × List (List Nat × List Nat)} (i N : Nat) {oi : Oper} {v : Value} {fuel : Nat} {l : Array Bool} {a : Act} {w : World} {l' : Array Bool} (HT : Aside0 (rtab md ops = T)) {a' : Act}
  (h : wpAnyLast P md ops Q S ds fuel l' a' w) (hl : l.setIfInBounds i true = l' := by simp only [List.setIfInBounds_toArray,List.set_cons_zero,List.set_cons_succ];rfl) (hi : ops[i]? = some oi := by rfl) (hN : oi.dst = some N := by rfl) (hc : anyT T l.toList l'.toList i = true := by kernel_rfl)
  (hQ : ∀ c a w,Q (.panic c) (a.put oi.dst v) w → Q (.panic c) a w := by exact fun _ _ _ h => h)
  (hy : Yields P ops oi v a := by refine Or.inl ⟨by rfl,?_⟩;intro w';go_simp;with_reducible rfl)
  (ha : a.put (some N) v = a' := by simp only [Act.put,List.setIfInBounds_toArray,List.set_cons_zero,List.set_cons_succ,i64_w,i32_w];rfl) : wpAnyLast P md ops Q S ds (fuel + 1) l a w := pure_ l' hi hN (any_of HT.out hc) hQ hy ha h
theorem px_ {T : Bool × List (List Nat × List Nat)} (i N : Nat) {oi : Oper} {fuel : Nat} {l : Array Bool} {a : Act} {w : World} {l' : Array Bool} (HT : Aside0 (rtab md ops = T)) {a' : Act}
  (h : wpAnyLast P md ops Q S ds fuel l' a' w) (hl : l.setIfInBounds i true = l' := by simp only [List.setIfInBounds_toArray,List.set_cons_zero,List.set_cons_succ];rfl) (hi : ops[i]? = some oi := by rfl) (hN : oi.dst = some N := by rfl) (hc : anyT T l.toList l'.toList i = true := by kernel_rfl)
  (hQ : ∀ c a w,Q (.panic c) (a.put oi.dst undef) w → Q (.panic c) a w := by exact fun _ _ _ h => h)
  (hy : Yields P ops oi undef a := by exact Or.inr ⟨by rfl,rfl⟩)
  (ha : a.put (some N) undef = a' := by simp only [Act.put,List.setIfInBounds_toArray,List.set_cons_zero,List.set_cons_succ,i64_w,i32_w];rfl) : wpAnyLast P md ops Q S ds (fuel + 1) l a w := pure_ l' hi hN (any_of HT.out hc) hQ hy ha h
theorem tk_ {T : Bool × List (List Nat × List Nat)} {B : List Nat} (i N : Nat) {oi : Oper} {v : Value} {fuel : Nat} {l : Array Bool} {a : Act} {w : World} {l' : Array Bool} (HT : Aside0 (rtab md ops = T)) (HW : Aside0 (waitsOk T.2 B = true)) (hS : S w) {a' : Act}
  (h : wpAnyLast P md ops Q S ds fuel l' a' w) (hl : l.setIfInBounds i true = l' := by simp only [List.setIfInBounds_toArray,List.set_cons_zero,List.set_cons_succ];rfl) (hi : ops[i]? = some oi := by rfl) (hN : oi.dst = some N := by rfl) (hc : takeW T B ds l.toList l'.toList i = true := by kernel_rfl)
  (hQ : ∀ c a w,Q (.panic c) (a.put oi.dst v) w → Q (.panic c) a w := by exact fun _ _ _ h => h)
  (hy : YieldsIf P ops S oi v a := by refine Or.inl ⟨by rfl,?_⟩;intro w' hS_;repeat (obtain ⟨s_,hS_⟩ := hS_);go_simp;with_reducible rfl)
  (ha : a.put (some N) v = a' := by simp only [Act.put,List.setIfInBounds_toArray,List.set_cons_zero,List.set_cons_succ,i64_w,i32_w];rfl) : wpAnyLast P md ops Q S ds (fuel + 1) l a w := take_ l' hi hN (take_ofW HT.out HW.out hc) hQ hy hS ha h
theorem nm_ {fuel : Nat} {l : Array Bool} {a a' : Act} {w : World} (h : wpAnyLast P md ops Q S ds fuel l a' w) (ha : a = a' := by (show Act.put _ (some _) _ = _);simp only [Act.put,List.setIfInBounds_toArray,List.set_cons_zero,List.set_cons_succ,i64_w,i32_w];rfl) : wpAnyLast P md ops Q S ds fuel l a w := norm_ ha h
end
end Go.Proofs.YtkfhejklnmkfmaaDoorW.PrintMore
end

section
namespace Go.Proofs.YtkfhejklnmkfmaaDoorW.PrintWords
open Go.RowKit
theorem add0 (g j : Nat) : (⟨g,0,none⟩ : Addr).add j = ⟨g,j,none⟩ := by rw [add_plain];first | done | rw [Nat.zero_add]
structure Bm (W : World) (g cap : Nat) (l : List Int) : Prop where
 cell : ∀ j,j < l.length → W.cell? ⟨g,j,none⟩ = some (.int .u8 (l.getD j 0))
 there : ∀ j,j < cap → (W.cell? ⟨g,j,none⟩).isSome = true
 free : ∀ j,j < cap → W.frozen? ⟨g,j,none⟩ = false
 room : l.length ≤ cap
theorem Bm.at {W W' : World} {g cap : Nat} {l : List Int} (h : Bm W g cap l) (e : W'.heap[g]? = W.heap[g]?) : Bm W' g cap l :=
 ⟨fun j hj => (World.cell?_of_block (a := ⟨g,j,none⟩) e).trans (h.cell j hj),fun j hj => by rw [World.cell?_of_block (a := ⟨g,j,none⟩) e];exact h.there j hj,fun j hj => (World.frozen?_of_block (a := ⟨g,j,none⟩) e).trans (h.free j hj),h.room⟩
theorem Bm.conv (W : World) (e : Nat) (s : ByteArray) : Bm (Lib.bytesWorld W e s) W.heap.size (grownCap W s.size 0 e) (bytesOf s) := by
 have hc : s.size ≤ grownCap W s.size 0 e := grownCap_ge _ _ _ _
 have hsz : (Lib.bytesCells W e s).size = grownCap W s.size 0 e := by simp [Lib.bytesCells];omega
 refine ⟨fun j hj => ?_,fun j hj => ?_,fun j hj => ?_,by rw [bytesOf_length];exact hc⟩
 ·rw [bytesOf_length] at hj
  rw [Lib.bytesWorld_cell W e s j hj]
  simp [bytesOf,List.getD,hj]
 ·unfold World.cell?
  rw [Lib.bytesWorld_at_new]
  simp [hsz,hj]
 ·unfold World.frozen?
  rw [Lib.bytesWorld_at_new]
  simp [hsz]
  omega
section
variable {P : Program} {ops : Array Oper} {rest : List Oper} {o : Oper} {a : Act} {Q : Exit → Act → World → Prop}
theorem Bm.grown {W : World} {g cap : Nat} {l ys : List Int} {e : Nat} {n : Nat} {fill : List Value} (h : Bm W g cap l) (hn : n = l.length + ys.length) :
  ∀ w1,w1.heap[W.heap.size]? = some (.cells (((nums .u8 l) ++ (nums .u8 ys) ++ fill).toArray) e (0,0)) → Bm w1 W.heap.size (n + fill.length) (l ++ ys) := by
 intro w1 hw
 have hl : (nums .u8 l ++ nums .u8 ys ++ fill).length = n + fill.length := by simp [nums];omega
 refine ⟨fun j hj => ?_,fun j hj => ?_,fun j hj => ?_,by simp;omega⟩
 ·unfold World.cell?
  rw [hw]
  rw [List.length_append] at hj
  simp only [Option.isSome_none,Bool.false_eq_true,if_false,List.getElem?_toArray]
  rw [← nums_append,List.getElem?_append_left (by simp [nums];omega)]
  have hjl : j < (l ++ ys).length := by rw [List.length_append];exact hj
  simp only [nums,List.getElem?_map,List.getElem?_eq_getElem hjl,Option.map_some,List.getD,Option.getD_some]
 ·unfold World.cell?
  rw [hw]
  simp only [Option.isSome_none,Bool.false_eq_true,if_false,List.getElem?_toArray]
  rw [List.getElem?_eq_getElem (by omega)]
  rfl
 ·unfold World.frozen?
  rw [hw]
  simp
theorem Bm.set {W : World} {g cap : Nat} {l ys : List Int} (h : Bm W g cap l) (hr : l.length + ys.length ≤ cap) : Bm (W.setCells g l.length (nums .u8 ys)) g cap (l ++ ys) := by
 have hlen : (nums .u8 ys).length = ys.length := nums_length _ _
 refine ⟨fun j hj => ?_,fun j hj => ?_,fun j hj => ?_,by simp;omega⟩
 ·rw [List.length_append] at hj
  by_cases c : j < l.length
  ·rw [World.cell?_setCells_out g _ _ _ _ (fun _ _ => by dsimp only;omega),h.cell j c]
   simp [List.getD,List.getElem?_append_left c]
  ·have := World.cell?_setCells_in g (nums .u8 ys) l.length W (fun i hi => h.there _ (by omega)) (j - l.length) (by omega)
   rw [show l.length + (j - l.length) = j by omega] at this
   rw [this]
   simp [nums,List.getD,List.getElem?_append_right (show l.length ≤ j by omega),List.getElem?_eq_getElem (show j - l.length < ys.length by omega)]
 ·by_cases c : l.length ≤ j ∧ j < l.length + ys.length
  ·have := World.cell?_setCells_in g (nums .u8 ys) l.length W (fun i hi => h.there _ (by omega)) (j - l.length) (by omega)
   rw [show l.length + (j - l.length) = j by omega] at this
   rw [this]
   rfl
  ·rw [World.cell?_setCells_out g _ _ _ _ (fun _ _ => by dsimp only;omega)]
   exact h.there j hj
 ·rw [World.frozen?_setCells]
  exact h.free j hj
theorem setCells_old (b : Nat) : ∀ (vs : List Value) (o : Nat) (w : World),(w.setCells b o vs).os = w.os ∧ (w.setCells b o vs).tape = w.tape ∧ (w.setCells b o vs).output = w.output ∧ (w.setCells b o vs).heap.size = w.heap.size ∧ ∀ k,k ≠ b → (w.setCells b o vs).heap[k]? = w.heap[k]?
 | [],_,w => ⟨rfl,rfl,rfl,rfl,fun _ _ => rfl⟩
 | v :: r,o,w => by
  obtain ⟨h1,h2,h3,h4,h5⟩ := setCells_old b r (o + 1) (w.setCell ⟨b,o,none⟩ v)
  refine ⟨h1,h2,h3,?_,fun k hk => ?_⟩
  ·rw [World.setCells,h4];simp [World.setCell]
  ·rw [World.setCells,h5 k hk]
   simp [World.setCell,Array.getElem?_modify,Ne.symm hk]
theorem run_append_bm {W : World} {g cap : Nat} {l : List Int} (t u ty e : TypeId) (ht : P.underlying t = some (.slice e)) (hu : P.underlying u = some .string ∨ P.underlying u = some (.slice e)) (hinfo : (P.info? e).map (fun i => (i.zero,i.size,i.bytes)) = some (some (.int .u8 0),1,1))
  (x : Value) (ys : List Int) (hlen : ∀ W',(Builtin.lenOf x).run P W' = .ok ys.length W') (hf : ∀ W',W'.heap = W.heap → (Builtin.firstCells 1 ys.length x).run P W' = .ok (nums .u8 ys).toArray W')
  (HB : Bm W g cap l) (hl : l.length + ys.length ≤ 140737488355328) :
  ∃ g' cap' w1,(Builtin.append_ #[t,u] ty #[.slice (some ⟨g,0,none⟩) l.length cap,x]).run P W = .ok (.slice (some ⟨g',0,none⟩) (l.length + ys.length) cap') w1 ∧ Bm w1 g' cap' (l ++ ys) ∧ W.grownBy w1 (some g) ∧ (g' = g ∨ W.heap.size ≤ g') := by
 obtain ⟨i,hi,hzz⟩ := Option.map_eq_some_iff.1 hinfo
 simp only [Prod.mk.injEq] at hzz
 obtain ⟨hz,hs1,hb1⟩ := hzz
 have hnl : (nums .u8 ys).length = ys.length := nums_length _ _
 have hnl2 : (nums .u8 l).length = l.length := nums_length _ _
 by_cases hroom : l.length + ys.length ≤ cap
 ·have hst := run_storeCells_cells (P := P) g l.length (nums .u8 ys) 0 W (fun j hj => HB.there _ (by omega)) (fun j hj => HB.free _ (by omega)) (fun v hv => by
   obtain ⟨z,_,rfl⟩ := List.mem_map.1 hv;rfl)
  simp only [Nat.add_zero] at hst
  refine ⟨g,cap,W.setCells g l.length (nums .u8 ys),?_,HB.set hroom,?_,Or.inl rfl⟩
  ·rcases hu with hu | hu <;> simp [Builtin.append_,run_underlying ht,run_underlying hu,sizeOf,typeInfo,hi,hs1,hlen,hroom,hf W rfl,add0,hst]
  ·obtain ⟨h1,h2,h3,h4,h5⟩ := setCells_old g (nums .u8 ys) l.length W
   exact ⟨h1,h2,h3,by omega,fun k hk hn => h5 k (by intro e;exact hn (by rw [e]))⟩
 ·have h63' : ¬ (9223372036854775807 < ((l.length : Int) + (ys.length : Int))) := by omega
  have hfit : Builtin.nextslicecap (l.length + ys.length) cap * i.bytes ≤ 281474976710656 := by rw [hb1];exact growslice_fits (by omega) (by omega)
  have h48' : ¬ (281474976710656 < Builtin.nextslicecap (l.length + ys.length) cap * i.bytes) := by omega
  have hfo := run_firstCells_some (P := P) W.drew 1 l.length ⟨g,0,none⟩ l.length cap (nums .u8 l) (by omega) (fun j v hj => by
   rw [add0]
   have hjl : j < l.length := by
    have := (List.getElem?_eq_some_iff.1 hj).1
    omega
   have := HB.cell j hjl
   simp only [nums,List.getElem?_map,List.getElem?_eq_getElem hjl,Option.map_some,Option.some.injEq] at hj
   subst hj
   simpa [List.getD,hjl] using this)
  have hfs := hf W.drew rfl
  have hr : (Builtin.append_ #[t,u] ty #[.slice (some ⟨g,0,none⟩) l.length cap,x]).run P W = .ok (.slice (some ⟨W.heap.size,0,none⟩) (l.length + ys.length) (grownCap W (l.length + ys.length) cap e))
    (W.drew.alloc (.cells ((nums .u8 l).toArray ++ (nums .u8 ys).toArray ++ Builtin.zeroCells #[.int .u8 0] (grownCap W (l.length + ys.length) cap e - (l.length + ys.length))) e)) := by
   rw [← hs1] at hfo hfs
   have hzc : (Value.int .u8 0).cells = #[.int .u8 0] := rfl
   rcases hu with hu | hu <;> simp [Builtin.append_,run_underlying ht,run_underlying hu,sizeOf,typeInfo,zeroValue,hi,hz,hlen,hroom,h63',h48',Question.forced,hfs,hfo,newRow,grownCap,hzc]
   all_goals (congr 2;apply Array.ext';simp [List.append_assoc])
  have hge : l.length + ys.length ≤ grownCap W (l.length + ys.length) cap e := grownCap_ge _ _ _ _
  refine ⟨W.heap.size,_,_,hr,?_,?_,Or.inr (Nat.le_refl _)⟩
  ·have := HB.grown (e := e) (ys := ys) (n := l.length + ys.length) (fill := (Builtin.zeroCells #[.int .u8 0] (grownCap W (l.length + ys.length) cap e - (l.length + ys.length))).toList) rfl (W.drew.alloc (.cells ((nums .u8 l).toArray ++ (nums .u8 ys).toArray ++ Builtin.zeroCells #[.int .u8 0] (grownCap W (l.length + ys.length) cap e - (l.length + ys.length))) e)) (by
    simp [World.alloc,World.drew,-World.alloc_eq,-World.drew_eq])
   have hz2 : (Builtin.zeroCells #[.int .u8 0] (grownCap W (l.length + ys.length) cap e - (l.length + ys.length))).toList.length = grownCap W (l.length + ys.length) cap e - (l.length + ys.length) := by simp [Builtin.zeroCells]
   rw [hz2,show l.length + ys.length + (grownCap W (l.length + ys.length) cap e - (l.length + ys.length)) = grownCap W (l.length + ys.length) cap e by omega] at this
   exact this
  ·exact ⟨rfl,rfl,rfl,by simp [World.alloc,World.drew,-World.alloc_eq,-World.drew_eq],fun k hk hn => by
    have : W.heap.size ≠ k := by omega
    simp [World.alloc,World.drew,-World.alloc_eq,-World.drew_eq,Array.getElem?_push,Ne.symm this]⟩
end
end Go.Proofs.YtkfhejklnmkfmaaDoorW.PrintWords
end

section
namespace Go.Proofs.YtkfhejklnmkfmaaDoorW.PrintWords
open Go.RowKit
structure Hs (w W : World) (n g cap : Nat) (l : List Int) : Prop where
 row : Bm W g cap l
 mine : n ≤ g
 lt : g < W.heap.size
 below : Below n w W
theorem Hs.alloc {w W : World} {n g cap : Nat} {l : List Int} (h : Hs w W n g cap l) (o : Obj) : Hs w (W.alloc o) n g cap l := by
 have hs : (W.alloc o).heap.size = W.heap.size + 1 := by simp [World.alloc,-World.alloc_eq]
 have e : ∀ k,k < W.heap.size → (W.alloc o).heap[k]? = W.heap[k]? := fun k hk => by
  have : W.heap.size ≠ k := by omega
  simp [World.alloc,-World.alloc_eq,Array.getElem?_push,Ne.symm this]
 refine ⟨h.row.at (e _ h.lt),h.mine,by rw [hs];have := h.lt;omega,⟨h.below.os,h.below.tape,h.below.output,by rw [hs];have := h.below.size;omega,fun k hk => ?_⟩⟩
 rw [e k (by have := h.mine;have := h.lt;omega)]
 exact h.below.block k hk
theorem Hs.on {w W W' : World} {n g cap : Nat} {l : List Int} (h : Hs w W n g cap l) (b : Below W.heap.size W W') : Hs w W' n g cap l := by
 have := h.lt
 have := h.mine
 exact ⟨h.row.at (b.block g h.lt),h.mine,by have := b.size;omega,⟨b.os.trans h.below.os,b.tape.trans h.below.tape,b.output.trans h.below.output,Nat.le_trans h.below.size b.size,fun k hk => (b.block k (by omega)).trans (h.below.block k hk)⟩⟩
section
variable {P : Program} {ops : Array Oper} {rest : List Oper} {o : Oper} {a : Act} {Q : Exit → Act → World → Prop}
theorem conv_hs {w : World} (e : Nat) (hgd : o.guard = none) (src dst : TypeId) (x : Operand) (ho : o.op = .convert src dst x) (s : ByteArray) (hx : a.eval x = .string s)
  (hs : P.underlying src = some .string) (ht : P.underlying dst = some (.slice e)) (he : P.underlying e = some (.int .u8))
  (h : ∀ g cap w1,Hs w w1 w.heap.size g cap (bytesOf s) → wpList P ops Q rest (a.put o.dst (.slice (some ⟨g,0,none⟩) s.size cap)) w1) : wpList P ops Q (o :: rest) a w := by
 have hrun : (execOp a.eval o).run P w = .ok (.value (.slice (some ⟨w.heap.size,0,none⟩) s.size (grownCap w s.size 0 e))) (Lib.bytesWorld w e s) := by
  simp [execOp,ho,hx,Lib.run_convert_string_bytes w src dst e s hs ht he]
 exact Kd.event_run hgd hrun (h _ _ _ ⟨Bm.conv w e s,Nat.le_refl _,by rw [Lib.bytesWorld_size];omega,⟨rfl,rfl,rfl,by rw [Lib.bytesWorld_size];omega,fun i hi => Lib.bytesWorld_at_old w e s i (by omega)⟩⟩)
theorem Hs.after {w W w1 : World} {n g g' cap cap' : Nat} {l l' : List Int} (h : Hs w W n g cap l) (hb : Bm w1 g' cap' l') (hc : 0 < cap') (hg : W.grownBy w1 (some g)) (hat : g' = g ∨ W.heap.size ≤ g') : Hs w w1 n g' cap' l' := by
 have h1 := h.lt
 have h2 := h.mine
 refine ⟨hb,by rcases hat with rfl | h3 <;> omega,?_,⟨hg.os.trans h.below.os,hg.tape.trans h.below.tape,hg.output.trans h.below.output,Nat.le_trans h.below.size hg.size,fun k hk => ?_⟩⟩
 ·obtain ⟨v,hv⟩ := Option.isSome_iff_exists.1 (hb.there 0 hc)
  exact World.block_lt_of_cell? w1 _ hv
 ·rw [hg.block k (by omega) (by intro e;injection e with e;omega)]
  exact h.below.block k hk
theorem append1_hs {w W : World} {n g cap : Nat} {l : List Int} (t e : TypeId) (hgd : o.guard = none) (s x : Operand) (ho : o.op = .call { callee := .builtin .append,args := #[s,x],argTypes := #[t,t] })
  (ht : P.underlying t = some (.slice e)) (hinfo : (P.info? e).map (fun i => (i.zero,i.size,i.bytes)) = some (some (.int .u8 0),1,1)) (z : Int)
  (hs : a.eval s = .slice (some ⟨g,0,none⟩) l.length cap) (hx : a.eval x = .slice (some ⟨W.heap.size,0,none⟩) 1 1) (HB : Hs w W n g cap l) (hl : l.length + 1 ≤ 140737488355328)
  (h : ∀ g' cap' w1,Hs w w1 n g' cap' (l ++ [z]) → wpList P ops Q rest (a.put o.dst (.slice (some ⟨g',0,none⟩) (l ++ [z]).length cap')) w1) :
  wpList P ops Q (o :: rest) a (W.alloc (.cells #[.int .u8 z] e)) := by
 have H2 := HB.alloc (.cells #[.int .u8 z] e)
 obtain ⟨g',cap',w1,hr,hb,hg,hat⟩ := run_append_bm (P := P) (W := W.alloc (.cells #[.int .u8 z] e)) t t o.type e ht (Or.inr ht) hinfo (.slice (some ⟨W.heap.size,0,none⟩) 1 1) [z] (fun W' => by simp [Builtin.lenOf]) (fun W' hW => by
  have hc : W'.cell? ⟨W.heap.size,0,none⟩ = some (.int .u8 z) := by
   unfold World.cell?
   rw [hW]
   simp [World.alloc,-World.alloc_eq]
  exact run_firstCells_some (P := P) W' 1 1 ⟨W.heap.size,0,none⟩ 1 1 (nums .u8 [z]) (by simp [nums]) (fun j v hj => by
   cases j with
   | zero => rw [add0];rw [hc];simpa [nums] using hj
   | succ j => simp [nums] at hj)) H2.row (by simpa using hl)
 refine wpList_plain hgd fun K hK => ?_
 unfold Oper.wp execOp
 simp only [ho,resolve,invoke,builtin,Sem.run_bind,Sem.run_pure,Result.andThen_ok,List.map_toArray,List.map_cons,List.map_nil,hs,hx,hr]
 refine hK _ _ ?_
 have := h g' cap' w1 (H2.after hb (by have := hb.room;rw [List.length_append,List.length_singleton] at this;omega) hg hat)
 rwa [List.length_append] at this
theorem appendS_hs {w W : World} {n g cap : Nat} {l : List Int} (t u e : TypeId) (hgd : o.guard = none) (s x : Operand) (ho : o.op = .call { callee := .builtin .append,args := #[s,x],argTypes := #[t,u] })
  (ht : P.underlying t = some (.slice e)) (hu : P.underlying u = some .string) (hinfo : (P.info? e).map (fun i => (i.zero,i.size,i.bytes)) = some (some (.int .u8 0),1,1)) (y : ByteArray)
  (hs : a.eval s = .slice (some ⟨g,0,none⟩) l.length cap) (hx : a.eval x = .string y) (hy : 0 < y.size) (HB : Hs w W n g cap l) (hl : l.length + y.size ≤ 140737488355328)
  (h : ∀ g' cap' w1,Hs w w1 n g' cap' (l ++ bytesOf y) → wpList P ops Q rest (a.put o.dst (.slice (some ⟨g',0,none⟩) (l ++ bytesOf y).length cap')) w1) :
  wpList P ops Q (o :: rest) a W := by
 have hyl : (bytesOf y).length = y.size := bytesOf_length y
 obtain ⟨g',cap',w1,hr,hb,hg,hat⟩ := run_append_bm (P := P) (W := W) t u o.type e ht (Or.inl hu) hinfo (.string y) (bytesOf y) (fun W' => by simp [Builtin.lenOf,hyl]) (fun W' hW => by
  rw [hyl,Lib.run_firstCells_string (P := P) W' 1 y]
  congr 1
  simp [nums,bytesOf,Lib.strCells]) HB.row (by omega)
 refine wpList_plain hgd fun K hK => ?_
 unfold Oper.wp execOp
 simp only [ho,resolve,invoke,builtin,Sem.run_bind,Sem.run_pure,Result.andThen_ok,List.map_toArray,List.map_cons,List.map_nil,hs,hx,hr]
 refine hK _ _ ?_
 have := h g' cap' w1 (HB.after hb (by have := hb.room;rw [List.length_append] at this;omega) hg hat)
 rwa [List.length_append] at this
end
end Go.Proofs.YtkfhejklnmkfmaaDoorW.PrintWords
end

section
namespace Go.Proofs.YtkfhejklnmkfmaaDoorW.PrintWords
open Go.RowKit
theorem mp_wrap_one (n : Int) : wrap64 (1 - n % 256) = 1 - n % 256 := by unfold wrap64;omega
namespace Kd
def B (e : Nat) (W : World) (base : Nat) (ok : Nat → Prop) (v : Value) (xs : List Int) : Prop :=
 (∀ k,v.ownBlock = some k → ok k) ∧ xs.length ≤ 9223372036854775807 ∧ ((v = .slice none 0 0 ∧ xs = []) ∨ ∃ (g c m : Nat) (cells : Array Value),v = .slice (some ⟨g,0,none⟩) xs.length c ∧ base ≤ g ∧ W.heap[g]? = some (.cells cells e (m,m + 1)) ∧ cells.size ≤ m ∧
  xs.length ≤ c ∧ xs.length ≤ cells.size ∧ ∀ j,j < xs.length → cells[j]? = some (.int .u8 (xs.getD j 0)))
section
variable {P : Program} {e base base' n cap g : Nat} {ok ok' ok1 S : Nat → Prop} {W w1 W2 : World} {u v : Value} {xs : List Int}
variable {ops : Array Oper} {rest : List Oper} {o : Oper} {a : Act} {Q : Exit → Act → World → Prop}
theorem R_room {w0 W : World} (base e : Nat) (hgd : o.guard = none) {N : Tmp} (_hd : o.dst = some N) (t : TypeId) (x y : Operand) (ho : o.op = .makeSlice t x y) (kl kc : IntKind) (c : Nat) (hx : a.eval x = .int kl 0) (hy : a.eval y = .int kc (c : Int))
  (ht : P.underlying t = some (.slice e)) (hinfo : (P.info? e).map (fun i => (i.zero,i.size,i.bytes)) = some (some (.int .u8 0),1,1)) (hc : c ≤ 1000000000) (HB : Below base w0 W) (hbase : base ≤ W.heap.size)
  (h : ∀ v1 w1,(Kd.int .u8).R e w1 base (fun _ => True) v1 [] → Below base w0 w1 → W.grownBy w1 none → (∃ b,v1.ownBlock = some b ∧ W.heap.size ≤ b) → wpList P ops Q rest (a.put o.dst v1) w1) : wpList P ops Q (o :: rest) a W := by
 have hr := run_make_room (P := P) t e (.int .u8 0) 1 ht hinfo rfl kl kc c (by omega) (by omega) W
 have hrun : (execOp a.eval o).run P W = .ok (.value (.slice (some ⟨W.heap.size,0,none⟩) 0 c)) (W.alloc (.cells (madeCells #[.int .u8 0] c) e)) := by
  simp [execOp,ho,hx,hy,hr]
 have hsz : (madeCells #[Value.int .u8 0] c).size = c := by simp [size_madeCells]
 refine event_run hgd hrun (h _ _ (R_of_own (xs := []) ⟨by simp [encs],.inr ⟨W.heap.size,c,madeCells #[.int .u8 0] c,rfl,hbase,blk_new W _,by simp,by simp only [maxLen];omega,by simpa using hsz,by simp [encs]⟩⟩ (fun _ _ => trivial)) (HB.alloc hbase _) (World.grownBy_alloc W _ none) ⟨W.heap.size,by simp [Value.ownBlock],Nat.le_refl _⟩)
end
end Kd
end Go.Proofs.YtkfhejklnmkfmaaDoorW.PrintWords
end

section
namespace Go.Proofs.YtkfhejklnmkfmaaDoorW.PrintWords
open Go.RowKit
section
variable {P : Program} {ops : Array Oper} {rest : List Oper} {o : Oper} {a : Act} {Q : Exit → Act → World → Prop}
theorem lit_at (w : World) (o : Obj) : (w.alloc o).heap[w.heap.size]? = some o := by simp [World.alloc,-World.alloc_eq]
theorem lit_old (w : World) (o : Obj) {k : Nat} (hk : k < w.heap.size) : (w.alloc o).heap[k]? = w.heap[k]? := by
 have : w.heap.size ≠ k := by omega
 simp [World.alloc,-World.alloc_eq,Array.getElem?_push,Ne.symm this]
theorem lit_size (w : World) (o : Obj) : (w.alloc o).heap.size = w.heap.size + 1 := by simp [World.alloc,-World.alloc_eq]
theorem lit_bm (w : World) (e : TypeId) (l : List Int) (p : Nat × Nat) (hp : l.length ≤ p.1) : Bm (w.alloc (.cells (nums .u8 l).toArray e p)) w.heap.size l.length l := by
 have hn : (nums .u8 l).length = l.length := nums_length _ _
 refine ⟨fun j hj => ?_,fun j hj => ?_,fun j hj => ?_,Nat.le_refl _⟩
 ·unfold World.cell?
  rw [lit_at]
  simp [nums,List.getD,hj]
 ·unfold World.cell?
  rw [lit_at]
  simp [nums,hj]
 ·unfold World.frozen?
  rw [lit_at]
  obtain ⟨p1,p2⟩ := p
  simp
  intro h
  omega
theorem conv_lit {w : World} (t e : TypeId) {C : Array Value} {n : Nat} (hgd : o.guard = none) (x : Operand) (ho : o.op = .convert t t x)
  (ht : P.underlying t = some (.slice e)) (he : P.underlying e = some (.int .u8)) (hx : a.eval x = .slice (some ⟨w.heap.size,0,none⟩) n n)
  (h : wpList P ops Q rest (a.put o.dst (.slice (some ⟨w.heap.size,0,none⟩) n n)) (w.alloc (.cells C e (C.size,C.size + 1)))) : wpList P ops Q (o :: rest) a (w.alloc (.cells C e)) := by
 have hrun : (execOp a.eval o).run P (w.alloc (.cells C e)) = .ok (.value (.slice (some ⟨w.heap.size,0,none⟩) n n)) (w.alloc (.cells C e (C.size,C.size + 1))) := by
  have h1 := Lib.run_convert_bytes_const (P := P) w t e C n n ht he
  simp only [execOp,ho,hx,Sem.run_bind,h1,Result.andThen_ok,Sem.run_pure]
 exact Kd.event_run hgd hrun h
theorem convlit_hs {w : World} (t e : TypeId) (l : List Int) {C : Array Value} {n : Nat} (hgd : o.guard = none) (x : Operand) (ho : o.op = .convert t t x)
  (ht : P.underlying t = some (.slice e)) (he : P.underlying e = some (.int .u8)) (hC : C = (nums .u8 l).toArray) (hn : n = l.length) (h0 : 0 < l.length) (hx : a.eval x = .slice (some ⟨w.heap.size,0,none⟩) n n)
  (h : ∀ g cap w1,Hs w w1 w.heap.size g cap l → wpList P ops Q rest (a.put o.dst (.slice (some ⟨g,0,none⟩) l.length cap)) w1) : wpList P ops Q (o :: rest) a (w.alloc (.cells C e)) := by
 subst hC hn
 refine conv_lit t e hgd x ho ht he hx (h _ _ _ ⟨lit_bm w e l _ (by simp [nums]),Nat.le_refl _,by rw [lit_size];omega,⟨rfl,rfl,rfl,by rw [lit_size];omega,fun k hk => lit_old w _ hk⟩⟩)
theorem bmC {W : World} {g cap : Nat} {l : List Int} (h : Bm W g cap l) (hl : l.length ≤ 140737488355328) : Kd.C (Kd.int .u8) W (some ⟨g,0,none⟩) l.length l :=
 Kd.C_of_reads (enc := Value.int .u8) (d := (0 : Int)) (h1 := fun _ => rfl) ⟨rfl,by omega,fun hn => ⟨⟨g,0,none⟩,rfl,fun j hj => by rw [add0];exact h.cell j hj⟩⟩
theorem appendT_hs {w W : World} {n g cap : Nat} {l : List Int} (t u e : TypeId) (hgd : o.guard = none) (s x : Operand) (ho : o.op = .call { callee := .builtin .append,args := #[s,x],argTypes := #[t,u] })
  (ht : P.underlying t = some (.slice e)) (hu : P.underlying u = some .string) (hinfo : (P.info? e).map (fun i => (i.zero,i.size,i.bytes)) = some (some (.int .u8 0),1,1)) (y : ByteArray)
  (hs : a.eval s = .slice (some ⟨g,0,none⟩) l.length cap) (hx : a.eval x = .string y) (h0 : 0 < l.length) (HB : Hs w W n g cap l) (hl : l.length + y.size ≤ 140737488355328)
  (h : ∀ g' cap' w1,Hs w w1 n g' cap' (l ++ bytesOf y) → wpList P ops Q rest (a.put o.dst (.slice (some ⟨g',0,none⟩) (l ++ bytesOf y).length cap')) w1) :
  wpList P ops Q (o :: rest) a W := by
 have hyl : (bytesOf y).length = y.size := bytesOf_length y
 obtain ⟨g',cap',w1,hr,hb,hg,hat⟩ := run_append_bm (P := P) (W := W) t u o.type e ht (Or.inl hu) hinfo (.string y) (bytesOf y) (fun W' => by simp [Builtin.lenOf,hyl]) (fun W' hW => by
  rw [hyl,Lib.run_firstCells_string (P := P) W' 1 y]
  congr 1
  simp [nums,bytesOf,Lib.strCells]) HB.row (by omega)
 refine wpList_plain hgd fun K hK => ?_
 unfold Oper.wp execOp
 simp only [ho,resolve,invoke,builtin,Sem.run_bind,Sem.run_pure,Result.andThen_ok,List.map_toArray,List.map_cons,List.map_nil,hs,hx,hr]
 refine hK _ _ ?_
 have := h g' cap' w1 (HB.after hb (by have := hb.room;rw [List.length_append] at this;omega) hg hat)
 rwa [List.length_append] at this
end
end Go.Proofs.YtkfhejklnmkfmaaDoorW.PrintWords
end

section
namespace Go.Proofs.YtkfhejklnmkfmaaDoorW.PrintWords
open Go.RowKit
namespace Kd
def U (e : Nat) (W : World) (base : Nat) (ok : Nat → Prop) (v : Value) (xs : List Int) : Prop :=
 (∀ k,v.ownBlock = some k → ok k) ∧ xs.length ≤ 140737488355328 ∧ ∃ (g c : Nat),v = .slice (some ⟨g,0,none⟩) xs.length c ∧ base ≤ g ∧ g < W.heap.size ∧ 0 < xs.length ∧ Bm W g c xs
section
variable {P : Program} {e base base' n cap g : Nat} {ok ok' ok1 S : Nat → Prop} {W w1 W2 : World} {u v : Value} {xs : List Int}
theorem U_lower (h : U e W base ok v xs) (hb : base' ≤ base) : U e W base' ok v xs := by
 obtain ⟨h0,hl,g,c,h1,h2,h3⟩ := h
 exact ⟨h0,hl,g,c,h1,Nat.le_trans hb h2,h3⟩
theorem U_lt (h : U e W base ok v xs) : ∀ k,v.ownBlock = some k → k < W.heap.size := by
 obtain ⟨h0,hl,g,c,rfl,h2,h3,_⟩ := h
 intro k hk
 have : g = k := by simpa [Value.ownBlock] using hk
 omega
theorem U_move (h : U e W base ok v xs) (hm : ∀ k,v.ownBlock = some k → w1.heap[k]? = W.heap[k]?) : U e w1 base ok v xs := by
 obtain ⟨h0,hl,g,c,rfl,h2,h3,h4,h5⟩ := h
 have hg := hm g (by simp [Value.ownBlock])
 refine ⟨h0,hl,g,c,rfl,h2,?_,h4,h5.at hg⟩
 rcases Nat.lt_or_ge g w1.heap.size with h' | h'
 ·exact h'
 ·rw [Array.getElem?_eq_none h',Array.getElem?_eq_getElem h3] at hg
  cases hg
theorem U_below (h : U e W base ok v xs) (hb : Below W.heap.size W w1) : U e w1 base ok v xs := U_move h (fun k hk => hb.block k (U_lt h k hk))
theorem U_alloc (h : U e W base ok v xs) (o : Obj) : U e (W.alloc o) base ok v xs := U_below h (below_alloc (Below.refl _ _) o)
theorem U_drew (h : U e W base ok v xs) : U e W.drew base ok v xs := U_below h (below_drew (Below.refl _ _))
theorem U_drewN (h : U e W base ok v xs) (m : Nat) : U e (W.drewN m) base ok v xs := U_below h (pw_below_drewN (Below.refl _ _) m)
theorem U_ne' (h : U e W base (fun k => k ≠ g) v xs) : some g ≠ v.ownBlock := fun he => (h.1 g he.symm) rfl
theorem zrU (b : Aside0 (U e W base ok v xs)) (m : U e W base ok v xs → U e w1 base ok v xs := by intro h_;(with_reducible repeat (first | apply Kd.U_alloc | apply Kd.U_drewN | apply Kd.U_drew));exact h_) : U e w1 base ok v xs := m b.out
theorem zrbU (b : Aside0 (U e W base ok v xs)) (hb : Below w1.heap.size w1 W2) (m : U e W base ok v xs → U e w1 base ok v xs := by intro h_;(with_reducible repeat (first | apply Kd.U_alloc | apply Kd.U_drewN | apply Kd.U_drew));exact h_) : Aside0 (U e W2 base ok v xs) := ⟨U_below (m b.out) hb⟩
theorem U_slice (h : U e W base ok v xs) : ∃ A c,v = .slice A xs.length c := by
 obtain ⟨h0,hl,g,c,rfl,_⟩ := h
 exact ⟨_,c,rfl⟩
theorem U_reads' {A : Option Addr} {n c : Nat} (h : U e W base ok (.slice A n c) xs) : n = xs.length ∧ n ≤ c ∧ (Kd.int .u8).C W A xs.length xs := by
 obtain ⟨h0,hl,g,c',hv,h2,h3,h4,h5⟩ := h
 injection hv with e1 e2 e3
 subst e1;subst e2;subst e3
 exact ⟨rfl,h5.room,bmC h5 hl⟩
variable {ops : Array Oper} {rest : List Oper} {o : Oper} {a : Act} {Q : Exit → Act → World → Prop} {Kc : Act → World → Prop}
theorem U_lit (d : Kd Int) (hd0 : d = Kd.int .u8) {w0 w : World} (base t e : Nat) (l : List Int) {C : Array Value} {n : Nat} {ok : Nat → Prop} (hgd : o.guard = none) (x : Operand) (ho : o.op = .convert t t x)
  (ht : P.underlying t = some (.slice e)) (he : P.underlying e = some (.int .u8)) (hC : C = (nums .u8 l).toArray) (hn : n = l.length) (h0 : 0 < l.length) (hll : l.length ≤ 140737488355328) (hx : a.eval x = .slice (some ⟨w.heap.size,0,none⟩) n n)
  (HB : Below base w0 w) (hbase : base ≤ w.heap.size) (hok : ok w.heap.size)
  (h : ∀ v1 w1,U e w1 base ok v1 l → Below base w0 w1 → w.grownBy w1 none → (∃ b,v1.ownBlock = some b ∧ w.heap.size ≤ b) → wpList P ops Q rest (a.put o.dst v1) w1) : wpList P ops Q (o :: rest) a (w.alloc (.cells C e)) := by
 subst hC hn
 have hs : (w.alloc (.cells (nums .u8 l).toArray e ((nums .u8 l).toArray.size,(nums .u8 l).toArray.size + 1))).heap.size = w.heap.size + 1 := by rw [lit_size]
 refine conv_lit t e hgd x ho ht he hx (h _ _ ⟨fun k hk => ?_,hll,w.heap.size,l.length,rfl,hbase,by rw [hs];omega,h0,lit_bm w e l _ (by simp [nums])⟩ ?_ ?_ ⟨w.heap.size,by simp [Value.ownBlock],Nat.le_refl _⟩)
 ·have : w.heap.size = k := by simpa [Value.ownBlock] using hk
  rw [← this];exact hok
 ·exact HB.trans ⟨rfl,rfl,rfl,by rw [hs];omega,fun i hi => lit_old w _ (by omega)⟩
 ·exact ⟨rfl,rfl,rfl,by rw [hs];omega,fun i hi _ => lit_old w _ hi⟩
theorem run_append_U {w0 W : World} (base : Nat) (t u ty e : TypeId) (ht : P.underlying t = some (.slice e)) (hu : P.underlying u = some .string) (hinfo : (P.info? e).map (fun i => (i.zero,i.size,i.bytes)) = some (some (.int .u8 0),1,1))
  (v : Value) (xs : List Int) (y : ByteArray) (ok : Nat → Prop) (HO : U e W base ok v xs) (hfresh : ∀ k,W.heap.size ≤ k → ok k) (HB : Below base w0 W) (hbase : base ≤ W.heap.size) (hl : xs.length + y.size ≤ 140737488355328) :
  ∃ v1 w1,(Builtin.append_ #[t,u] ty #[v,.string y]).run P W = .ok v1 w1 ∧ U e w1 base ok v1 (xs ++ bytesOf y) ∧ Below base w0 w1 ∧ W.grownBy w1 v.ownBlock ∧ (v1.ownBlock = v.ownBlock ∨ ∃ b,v1.ownBlock = some b ∧ W.heap.size ≤ b) := by
 obtain ⟨hok,hxl,g,cap,rfl,hbg,hgl,hc0,HBm⟩ := HO
 have hyl : (bytesOf y).length = y.size := bytesOf_length y
 obtain ⟨g',cap',w1,hr,hb,hg,hat⟩ := run_append_bm (P := P) (W := W) t u ty e ht (Or.inl hu) hinfo (.string y) (bytesOf y) (fun W' => by simp [Builtin.lenOf,hyl]) (fun W' hW => by
  rw [hyl,Lib.run_firstCells_string (P := P) W' 1 y]
  congr 1
  simp [nums,bytesOf,Lib.strCells]) HBm (by omega)
 have hroom := hb.room
 have hl2 : (xs ++ bytesOf y).length = xs.length + (bytesOf y).length := List.length_append
 have hcp : 0 < cap' := by omega
 have hlt : g' < w1.heap.size := by
  obtain ⟨u_,hu_⟩ := Option.isSome_iff_exists.1 (hb.there 0 hcp)
  exact World.block_lt_of_cell? w1 _ hu_
 refine ⟨_,w1,hr,⟨fun k hk => ?_,by rw [hl2];omega,g',cap',by rw [hl2],by rcases hat with rfl | h3 <;> omega,hlt,by rw [hl2];omega,hb⟩,HB.grown hg hbase (fun k hk => by injection hk with hk;omega),hg,?_⟩
 ·have hk' : g' = k := by simpa [Value.ownBlock] using hk
  subst hk'
  rcases hat with rfl | h3
  ·exact hok _ (by simp [Value.ownBlock])
  ·exact hfresh _ h3
 ·rcases hat with rfl | h3
  ·exact .inl (by simp [Value.ownBlock])
  ·exact .inr ⟨g',by simp [Value.ownBlock],h3⟩
theorem U_append_str (d : Kd Int) (hd0 : d = Kd.int .u8) {w0 W : World} (base : Nat) (hgd : o.guard = none) (s x : Operand) (t u e : TypeId)
  (ho : o.op = .call { callee := .builtin .append,args := #[s,x],argTypes := #[t,u] })
  (ht : P.underlying t = some (.slice e)) (hu : P.underlying u = some .string) (hinfo : (P.info? e).map (fun i => (i.zero,i.size,i.bytes)) = some (some (.int .u8 0),1,1))
  (v : Value) (xs : List Int) (y : ByteArray) (ok : Nat → Prop) (hs : a.eval s = v) (hx : a.eval x = .string y)
  (HO : U e W base ok v xs) (hfresh : ∀ k,W.heap.size ≤ k → ok k) (HB : Below base w0 W) (hbase : base ≤ W.heap.size) (hl : xs.length + y.size ≤ 140737488355328)
  (h : ∀ v1 w1,U e w1 base ok v1 (xs ++ bytesOf y) → Below base w0 w1 → W.grownBy w1 v.ownBlock → (v1.ownBlock = v.ownBlock ∨ ∃ b,v1.ownBlock = some b ∧ W.heap.size ≤ b) → wpList P ops Q rest (a.put o.dst v1) w1) :
  wpList P ops Q (o :: rest) a W := by
 obtain ⟨v1,w1,hr,hU,hB1,hg,hat⟩ := run_append_U (P := P) base t u o.type e ht hu hinfo v xs y ok HO hfresh HB hbase hl
 refine wpList_plain hgd fun K hK => ?_
 unfold Oper.wp execOp
 simp only [ho,resolve,invoke,builtin,Sem.run_bind,Sem.run_pure,Result.andThen_ok,List.map_toArray,List.map_cons,List.map_nil,hs,hx,hr]
 exact hK _ _ (h v1 w1 hU hB1 hg hat)
theorem U_append_str_step (d : Kd Int) (hd0 : d = Kd.int .u8) {w0 W : World} (base : Nat) (hw : Region.wanted o (yielded ops a.tmps) = true) (s x : Operand) (t u e : TypeId)
  (ho : o.op = .call { callee := .builtin .append,args := #[s,x],argTypes := #[t,u] })
  (ht : P.underlying t = some (.slice e)) (hu : P.underlying u = some .string) (hinfo : (P.info? e).map (fun i => (i.zero,i.size,i.bytes)) = some (some (.int .u8 0),1,1))
  (v : Value) (xs : List Int) (y : ByteArray) (ok : Nat → Prop) (hs : a.eval s = v) (hx : a.eval x = .string y)
  (HO : U e W base ok v xs) (hfresh : ∀ k,W.heap.size ≤ k → ok k) (HB : Below base w0 W) (hbase : base ≤ W.heap.size) (hl : xs.length + y.size ≤ 140737488355328)
  (h : ∀ v1 w1,U e w1 base ok v1 (xs ++ bytesOf y) → Below base w0 w1 → W.grownBy w1 v.ownBlock → (v1.ownBlock = v.ownBlock ∨ ∃ b,v1.ownBlock = some b ∧ W.heap.size ≤ b) → Kc (a.put o.dst v1) w1) :
  if Region.wanted o (yielded ops a.tmps) = true then Oper.wp P o a W Kc Q else Kc (a.put o.dst undef) W := by
 obtain ⟨v1,w1,hr,hU,hB1,hg,hat⟩ := run_append_U (P := P) base t u o.type e ht hu hinfo v xs y ok HO hfresh HB hbase hl
 rw [if_pos hw]
 unfold Oper.wp execOp
 simp only [ho,resolve,invoke,builtin,Sem.run_bind,Sem.run_pure,Result.andThen_ok,List.map_toArray,List.map_cons,List.map_nil,hs,hx,hr]
 exact h v1 w1 hU hB1 hg hat
end
end Kd
end Go.Proofs.YtkfhejklnmkfmaaDoorW.PrintWords
end

section
namespace Go.Proofs.YtkfhejklnmkfmaaDoor.A
open Go.RowKit Go.Proofs.YtkfhejklnmkfmaaDoorW.PrintWords Go.Proofs.YtkfhejklnmkfmaaDoorW.PrintLast Go.Proofs.YtkfhejklnmkfmaaDoorW.PrintMore
attribute [local go_sem] max2_int min2_int max_two min_two max_three min_three max_four min_four
end Go.Proofs.YtkfhejklnmkfmaaDoor.A
end

section
namespace Go.Proofs.YtkfhejklnmkfmaaDoorW.PrintWords
open Go.RowKit
theorem wrap_id {x : Int} (h0 : -9223372036854775808 ≤ x) (h1 : x ≤ 9223372036854775807) : wrap64 x = x := by unfold wrap64;omega
theorem wf8 {x : Int} (h : (Lit.int .u8 x).wf = true) : 0 ≤ x ∧ x ≤ 255 := by
 simp [Lit.wf,IntKind.min,IntKind.max,IntKind.signed,IntKind.bits] at h
 omega
def allB (p : Int → Bool) : Nat → Int → Bool
 | 0,_ => true
 | d + 1,i => p i && allB p d (i + 1)
def allI (p : Int → Bool) (i n : Int) : Bool := allB p (n - i).toNat i
theorem allI_step {p : Int → Bool} {i n : Int} (h : i < n) : allI p i n = (p i && allI p (i + 1) n) := by
 unfold allI
 obtain ⟨d,hd⟩ : ∃ d : Nat,(n - i).toNat = d + 1 := ⟨(n - i).toNat - 1,by omega⟩
 rw [hd,show (n - (i + 1)).toNat = d by omega]
 rfl
theorem allI_end {p : Int → Bool} {i n : Int} (h : n ≤ i) : allI p i n = true := by
 unfold allI
 rw [show (n - i).toNat = 0 by omega]
 rfl
theorem allI_iff (p : Int → Bool) (n : Int) : ∀ (d : Nat) (i : Int),(n - i).toNat = d → (allI p i n = true ↔ ∀ j,i ≤ j → j < n → p j = true)
 | 0,i,h => by
  rw [allI_end (by omega)]
  exact ⟨fun _ j h1 h2 => by omega,fun _ => rfl⟩
 | d + 1,i,h => by
  rw [allI_step (by omega),Bool.and_eq_true,allI_iff p n d (i + 1) (by omega)]
  refine ⟨fun ⟨h1,h2⟩ j h3 h4 => ?_,fun h1 => ⟨h1 i (by omega) (by omega),fun j h3 h4 => h1 j (by omega) h4⟩⟩
  by_cases e : j = i
  ·rw [e];exact h1
  ·exact h2 j (by omega) h4
theorem loop_all {L : Int → Option Bool} (p : Int → Bool) (n : Int) (hn : n ≤ 9223372036854775807) (hL : ∀ i,0 ≤ i → i < n → L i = if p i = true then L (wrap64 (i + 1)) else some false) (hE : ∀ i,0 ≤ i → n ≤ i → L i = some true) :
  ∀ (d : Nat) (i : Int),(n - i).toNat = d → 0 ≤ i → L i = some (allI p i n)
 | 0,i,h,h0 => by rw [hE i h0 (by omega),allI_end (by omega)]
 | d + 1,i,h,h0 => by
  rw [hL i h0 (by omega),allI_step (by omega),wrap_id (by omega) (by omega),loop_all p n hn hL hE d (i + 1) (by omega) (by omega)]
  cases p i <;> simp
def letterB (c : Int) : Bool := decide ((97 ≤ c ∧ c ≤ 122) ∨ (65 ≤ c ∧ c ≤ 90) ∨ c = 95)
def digitB (c : Int) : Bool := decide (48 ≤ c ∧ c ≤ 57)
def inB (n low high : Int) : Bool := decide (low ≤ n ∧ n ≤ high)
def nameB (s : ByteArray) : Bool := decide (1 ≤ s.size ∧ s.size ≤ 40) && (letterB (bt s 0) && allI (fun j => letterB (bt s j) || digitB (bt s j)) 1 s.size)
theorem ba_toList (a : ByteArray) : a.toList = a.data.toList := ByteArray.toList_eq a
theorem ba_inj {a b : ByteArray} : a.toList = b.toList ↔ a = b := by
 rw [ba_toList,ba_toList]
 refine ⟨fun h => ?_,fun h => by rw [h]⟩
 cases a;cases b
 simp only [ByteArray.mk.injEq]
 exact Array.toList_inj.1 h
theorem strOf_size (l : List Int) : (strOfNums l).size = l.length := by
 show (strOfNums l).data.size = _
 simp [strOfNums]
theorem strOf_extract (l : List Int) (i j : Nat) : (strOfNums l).extract i j = strOfNums ((l.take j).drop i) := by
 apply ByteArray.ext
 rw [ByteArray.data_extract]
 simp [strOfNums]
 rw [List.drop_take]
end Go.Proofs.YtkfhejklnmkfmaaDoorW.PrintWords
end

section
namespace Go.Proofs.YtkfhejklnmkfmaaDoor.A
open Go.RowKit Go.Proofs.YtkfhejklnmkfmaaDoorW.PrintWords
def turnF (x n : Int) : Int := Go.bits .or .u32 (shr .u32 x n) (shl .u32 x (32 - n))
theorem u64_small (n : Int) (h0 : 0 ≤ n) (h1 : n < 18446744073709551616) : IntKind.u64.wrap n = n := by
 unfold IntKind.wrap
 simp [IntKind.bits,IntKind.signed]
 omega
theorem turn_v (x n : Int) (h0 : 0 ≤ n) (h1 : n ≤ 32) : ZA.v x n = some (turnF x n) := by
 rw [ZA.v_eq,if_pos h0,u64_small (32 - n) (by omega) (by omega),if_pos (by omega)]
 rfl
theorem block_l3 (v : List Int) (hv : v.length = 8) : ∀ (k i : Nat) (h : List Int),8 - i = k → i ≤ 8 → h.length = 8 → ∃ r,Ze.lv3 h v i = some r ∧ r.length = 8
 | 0,i,h,hk,hi,hh => by
  rw [Ze.lv3_eq,if_neg (by omega)]
  exact ⟨h,rfl,hh⟩
 | k + 1,i,h,hk,hi,hh => by
  obtain ⟨r,e,hr⟩ := block_l3 v hv k (i + 1) (h.set (i : Int).toNat (((rd h i) + (rd v i)) % 4294967296)) (by omega) (by omega) (by rw [List.length_set];exact hh)
  have w : wrap64 ((i : Int) + 1) = ((i + 1 : Nat) : Int) := by rw [wrap_id (by omega) (by omega)];omega
  rw [Ze.lv3_eq,w,e]
  clear w
  rw [if_pos (by omega),if_pos (by omega),if_pos (by omega),if_pos (by omega)]
  exact ⟨r,rfl,hr⟩
theorem block_l2 (h ks ws : List Int) (hh : h.length = 8) (hk : ks.length = 64) (hw : ws.length = 64) : ∀ (k i : Nat) (v : List Int),64 - i = k → i ≤ 64 → v.length = 8 → ∃ r,Ze.lv2 h ks ws v i = some r ∧ r.length = 8
 | 0,i,v,hi0,hi,hv => by
  rw [Ze.lv2_eq,if_neg (by omega)]
  exact block_l3 v hv 8 0 h rfl (by omega) hh
 | k + 1,i,v,hi0,hi,hv => by
  have ih := fun v' => block_l2 h ks ws hh hk hw k (i + 1) v' (by omega) (by omega)
  have w : wrap64 ((i : Int) + 1) = ((i + 1 : Nat) : Int) := by rw [wrap_id (by omega) (by omega)];omega
  rw [Ze.lv2_eq,w]
  clear w
  have c1 : (i : Int) < 64 := by omega
  have c2 : (4 : Int) < (v.length : Int) := by omega
  have c3 : (0 : Int) < (v.length : Int) := by omega
  have c4 : (7 : Int) < (v.length : Int) := by omega
  have c5 : (5 : Int) < (v.length : Int) := by omega
  have c6 : (6 : Int) < (v.length : Int) := by omega
  have c7 : (0 : Int) ≤ (i : Int) := by omega
  have c8 : (i : Int) < (ks.length : Int) := by omega
  have c9 : (i : Int) < (ws.length : Int) := by omega
  have d1 : (1 : Int) < (v.length : Int) := by omega
  have d2 : (2 : Int) < (v.length : Int) := by omega
  have d3 : (3 : Int) < (v.length : Int) := by omega
  have t1 : ∀ x,ZA.v x 6 = some (turnF x 6) := fun x => turn_v x 6 (by omega) (by omega)
  have t2 : ∀ x,ZA.v x 11 = some (turnF x 11) := fun x => turn_v x 11 (by omega) (by omega)
  have t3 : ∀ x,ZA.v x 25 = some (turnF x 25) := fun x => turn_v x 25 (by omega) (by omega)
  have t4 : ∀ x,ZA.v x 2 = some (turnF x 2) := fun x => turn_v x 2 (by omega) (by omega)
  have t5 : ∀ x,ZA.v x 13 = some (turnF x 13) := fun x => turn_v x 13 (by omega) (by omega)
  have t6 : ∀ x,ZA.v x 22 = some (turnF x 22) := fun x => turn_v x 22 (by omega) (by omega)
  simp only [if_pos c1,if_pos c2,if_pos c3,if_pos c4,if_pos c5,if_pos c6,if_pos c7,if_pos c8,if_pos c9,if_pos d1,if_pos d2,if_pos d3,t1,t2,t3,t4,t5,t6,Option.bind_some]
  exact ih _ rfl
theorem block_l1 (h ks : List Int) (hh : h.length = 8) (hk : ks.length = 64) : ∀ (k i : Nat) (ws : List Int),64 - i = k → 16 ≤ i → i ≤ 64 → ws.length = 64 → ∃ r,Ze.lv1 h ks ws i = some r ∧ r.length = 8
 | 0,i,ws,hi0,h16,hi,hw => by
  rw [Ze.lv1_eq,if_neg (by omega),Option.bind_some,if_pos (by simp;omega)]
  exact block_l2 h ks ws hh hk hw 64 0 _ rfl (by omega) (by simpa using hh)
 | k + 1,i,ws,hi0,h16,hi,hw => by
  have ih := fun ws' => block_l1 h ks hh hk k (i + 1) ws' (by omega) (by omega) (by omega)
  have c1 : (i : Int) < 64 := by omega
  have c2 : (0 : Int) ≤ (i : Int) - 15 := by omega
  have c3 : (i : Int) - 15 < (ws.length : Int) := by omega
  have c4 : (0 : Int) ≤ (i : Int) - 2 := by omega
  have c5 : (i : Int) - 2 < (ws.length : Int) := by omega
  have c6 : (0 : Int) ≤ (i : Int) - 16 := by omega
  have c7 : (i : Int) - 16 < (ws.length : Int) := by omega
  have c8 : (0 : Int) ≤ (i : Int) - 7 := by omega
  have c9 : (i : Int) - 7 < (ws.length : Int) := by omega
  have d1 : (0 : Int) ≤ (i : Int) := by omega
  have d2 : (i : Int) < (ws.length : Int) := by omega
  have t1 : ∀ x,ZA.v x 7 = some (turnF x 7) := fun x => turn_v x 7 (by omega) (by omega)
  have t2 : ∀ x,ZA.v x 18 = some (turnF x 18) := fun x => turn_v x 18 (by omega) (by omega)
  have t3 : ∀ x,ZA.v x 17 = some (turnF x 17) := fun x => turn_v x 17 (by omega) (by omega)
  have t4 : ∀ x,ZA.v x 19 = some (turnF x 19) := fun x => turn_v x 19 (by omega) (by omega)
  have w : wrap64 ((i : Int) + 1) = ((i + 1 : Nat) : Int) := by rw [wrap_id (by omega) (by omega)];omega
  have w1 : wrap64 ((i : Int) - 15) = (i : Int) - 15 := wrap_id (by omega) (by omega)
  have w2 : wrap64 ((i : Int) - 2) = (i : Int) - 2 := wrap_id (by omega) (by omega)
  have w3 : wrap64 ((i : Int) - 16) = (i : Int) - 16 := wrap_id (by omega) (by omega)
  have w4 : wrap64 ((i : Int) - 7) = (i : Int) - 7 := wrap_id (by omega) (by omega)
  rw [Ze.lv1_eq]
  simp only [w,w1,w2,w3,w4,if_pos c1,if_pos c2,if_pos c3,if_pos c4,if_pos c5,if_pos c6,if_pos c7,if_pos c8,if_pos c9,if_pos d1,if_pos d2,t1,t2,t3,t4,Option.bind_some]
  clear w w1 w2 w3 w4
  exact ih _ (by rw [List.length_set];exact hw)
theorem block_l0 (h b ks : List Int) (hh : h.length = 8) (hb : b.length = 64) (hk : ks.length = 64) : ∀ (k i : Nat) (ws : List Int),16 - i = k → i ≤ 16 → ws.length = 64 → ∃ r,Ze.lv0 h b ks ws i = some r ∧ r.length = 8
 | 0,i,ws,hi0,hi,hw => by
  rw [Ze.lv0_eq,if_neg (by omega)]
  exact block_l1 h ks hh hk 48 16 ws rfl (by omega) (by omega) hw
 | k + 1,i,ws,hi0,hi,hw => by
  have ih := fun ws' => block_l0 h b ks hh hb hk k (i + 1) ws' (by omega) (by omega)
  have c1 : (i : Int) < 16 := by omega
  have c2 : (0 : Int) ≤ 4 * (i : Int) := by omega
  have c3 : 4 * (i : Int) < (b.length : Int) := by omega
  have c4 : (0 : Int) ≤ 4 * (i : Int) + 1 := by omega
  have c5 : 4 * (i : Int) + 1 < (b.length : Int) := by omega
  have c6 : (0 : Int) ≤ 4 * (i : Int) + 2 := by omega
  have c7 : 4 * (i : Int) + 2 < (b.length : Int) := by omega
  have c8 : (0 : Int) ≤ 4 * (i : Int) + 3 := by omega
  have c9 : 4 * (i : Int) + 3 < (b.length : Int) := by omega
  have d1 : (0 : Int) ≤ (i : Int) := by omega
  have d2 : (i : Int) < (ws.length : Int) := by omega
  have w : wrap64 ((i : Int) + 1) = ((i + 1 : Nat) : Int) := by rw [wrap_id (by omega) (by omega)];omega
  have w0 : wrap64 (4 * (i : Int)) = 4 * (i : Int) := wrap_id (by omega) (by omega)
  have w1 : wrap64 (4 * (i : Int) + 1) = 4 * (i : Int) + 1 := wrap_id (by omega) (by omega)
  have w2 : wrap64 (4 * (i : Int) + 2) = 4 * (i : Int) + 2 := wrap_id (by omega) (by omega)
  have w3 : wrap64 (4 * (i : Int) + 3) = 4 * (i : Int) + 3 := wrap_id (by omega) (by omega)
  rw [Ze.lv0_eq]
  simp only [w,w0,w1,w2,w3,if_pos c1,if_pos c2,if_pos c3,if_pos c4,if_pos c5,if_pos c6,if_pos c7,if_pos c8,if_pos c9,if_pos d1,if_pos d2]
  clear w w0 w1 w2 w3
  exact ih _ (by rw [List.length_set];exact hw)
theorem block_v (h b ks : List Int) (hh : h.length = 8) (hb : b.length = 64) (hk : ks.length = 64) : ∃ r,Ze.v h b ks = some r ∧ r.length = 8 := by
 rw [Ze.v_eq,if_pos ⟨hh,hb,hk⟩,if_pos (by omega)]
 exact block_l0 h b ks hh hb hk 16 0 _ rfl (by omega) (by simp)
theorem hash_l3 (h : List Int) (hh : h.length = 8) : ∀ (k i : Nat) (out : List Int),8 - i = k → i ≤ 8 → out.length = 4 * i → ∃ t,Zb.lv3 h out i = some t ∧ t.size = 32
 | 0,i,out,hi0,hi,ho => by
  rw [Zb.lv3_eq,if_neg (by omega)]
  exact ⟨_,rfl,by rw [strOf_size];omega⟩
 | k + 1,i,out,hi0,hi,ho => by
  have ih := fun out' => hash_l3 h hh k (i + 1) out' (by omega) (by omega)
  have w : wrap64 ((i : Int) + 1) = ((i + 1 : Nat) : Int) := by rw [wrap_id (by omega) (by omega)];omega
  rw [Zb.lv3_eq,w]
  clear w
  rw [if_pos (by omega),if_pos (by omega),if_pos (by omega),Option.bind_some,if_pos (by simp;omega)]
  exact ih _ (by simp;omega)
theorem hash_l2 (all ks : List Int) (hk : ks.length = 64) (n : Nat) (ha : all.length = 64 * n) (hn : n ≤ 1000000) : ∀ (k i : Nat) (h : List Int),n - i = k → i ≤ n → h.length = 8 → ∃ t,Zb.lv2 h all ks ((64 * i : Nat) : Int) = some t ∧ t.size = 32
 | 0,i,h,hi0,hi,hh => by
  rw [Zb.lv2_eq,if_neg (by omega)]
  exact hash_l3 h hh 8 0 [] rfl (by omega) rfl
 | k + 1,i,h,hi0,hi,hh => by
  have ih := fun h' => hash_l2 all ks hk n ha hn k (i + 1) h' (by omega) (by omega)
  obtain ⟨r,e,hr⟩ := block_v h ((all.take (64 * (i + 1))).drop (64 * i)) ks hh (by rw [List.length_drop,List.length_take];omega) hk
  have w : wrap64 (((64 * i : Nat) : Int) + 64) = ((64 * (i + 1) : Nat) : Int) := by rw [wrap_id (by omega) (by omega)];omega
  rw [Zb.lv2_eq,w]
  clear w
  simp only [Int.toNat_natCast]
  rw [if_pos (by omega),if_pos (by omega),if_pos (by omega),if_pos (by omega),e,Option.bind_some]
  exact ih _ hr
theorem hash_l1 (x h : List Int) (hh : h.length = 8) : ∀ (k : Nat) (all : List Int),k ≤ 8 → all.length + k ≤ 60000000 → (all.length + k) % 64 = 0 → ∃ t,Zb.lv1 x h all ((k : Int) - 1) = some t ∧ t.size = 32
 | 0,all,hk,ha,hm => by
  rw [Zb.lv1_eq,if_neg (by omega),Ys.v_eq,Option.bind_some]
  exact hash_l2 all _ rfl (all.length / 64) (by omega) (by omega) (all.length / 64) 0 h rfl (by omega) hh
 | k + 1,all,hk,ha,hm => by
  have ih := fun a => hash_l1 x h hh k (all ++ [a]) (by omega) (by simp;omega) (by simp;omega)
  have e : (((k + 1 : Nat) : Int) - 1) = (k : Int) := by omega
  have c1 : (k : Int) ≥ 0 := by omega
  have c2 : all.length < 140737488355328 := by omega
  have w : wrap64 ((k : Int) - 1) = (k : Int) - 1 := wrap_id (by omega) (by omega)
  have w1 : IntKind.u64.wrap (wrap64 (8 * (k : Int))) = 8 * (k : Int) := by
   rw [show wrap64 (8 * (k : Int)) = 8 * (k : Int) from wrap_id (by omega) (by omega),u64_small _ (by omega) (by omega)]
  have c3 : (0 : Int) ≤ 8 * (k : Int) := by clear w w1;omega
  rw [e,Zb.lv1_eq,w,w1]
  clear w w1
  rw [if_pos c1,if_pos c3,if_pos c2]
  exact ih _
theorem hash_l0 (x h : List Int) (hh : h.length = 8) : ∀ (k : Nat) (all : List Int),(all.length + k) % 64 = 56 → k ≤ 64 → all.length + k ≤ 50000000 → ∃ t,Zb.lv0 x h all = some t ∧ t.size = 32
 | 0,all,hm,hk,ha => by
  rw [Zb.lv0_eq,if_pos (by omega)]
  exact hash_l1 x h hh 8 all (by omega) (by omega) (by omega)
 | k + 1,all,hm,hk,ha => by
  rw [Zb.lv0_eq]
  by_cases c : ((all.length : Int) % 64) = 56
  ·rw [if_pos c]
   exact hash_l1 x h hh 8 all (by omega) (by omega) (by omega)
  ·rw [if_neg c,if_pos (by omega)]
   exact hash_l0 x h hh k (all ++ [0]) (by simp;omega) (by omega) (by simp;omega)
theorem hash_v (x : List Int) (hx : x.length ≤ 40000000) : ∃ t,Zb.v x = some t ∧ t.size = 32 := by
 rw [Zb.v_eq,Option.bind_some,if_pos (by simp;omega),Option.bind_some,if_pos (by simp;omega)]
 refine hash_l0 x _ rfl ((56 + 64 - (x.length + 1) % 64) % 64) _ ?_ (by omega) ?_
 ·simp;omega
 ·simp;omega
theorem bytesOf_rd (s : ByteArray) (i : Int) (h0 : 0 ≤ i) (h1 : i < s.size) : rd (bytesOf s) i = bt s i := by
 unfold rd bt
 rw [dif_pos (by omega)]
 unfold bytesOf
 rw [List.getD,List.getElem?_map,List.getElem?_eq_getElem (by rw [Array.length_toList];show _ < s.size;omega)]
 simp
 rfl
def byteL (l : List Int) : Prop := ∀ y ∈ l,0 ≤ y ∧ y ≤ 255
theorem bytes_str (l : List Int) (h : byteL l) : bytesOf (strOfNums l) = l := by
 unfold bytesOf
 rw [strOfNums_data,List.map_map]
 conv => rhs;rw [← List.map_id l]
 apply List.map_congr_left
 intro y hy
 have := h y hy
 simp only [Function.comp,id]
 rw [UInt8.toNat_ofNat']
 omega
theorem bytes_append (a b : ByteArray) : bytesOf (a ++ b) = bytesOf a ++ bytesOf b := by
 unfold bytesOf
 rw [ByteArray.data_append,Array.toList_append,List.map_append]
theorem str_append (a b : List Int) : strOfNums (a ++ b) = strOfNums a ++ strOfNums b := by
 apply ByteArray.ext
 apply Array.toList_inj.1
 rw [ByteArray.data_append,Array.toList_append,strOfNums_data,strOfNums_data,strOfNums_data,List.map_append]
def beL (n : Int) : Nat → List Int
 | 0 => []
 | k + 1 => beL (n / 256) k ++ [n % 256]
theorem beL_len (n : Int) (k : Nat) : (beL n k).length = k := by
 induction k generalizing n with
 | zero => rfl
 | succ k ih => simp [beL,ih]
theorem impl_number1 (n : Int) : Zl.v n 1 = some (strOfNums (beL n 1)) := by
 have w0 : wrap64 (1 - 1) = 0 := by rw [wrap_id (by omega) (by omega)];rfl
 have w1 : wrap64 (0 - 1) = -1 := by rw [wrap_id (by omega) (by omega)];rfl
 rw [Zl.v_eq,if_pos (by omega),if_pos (by simp),w0,Zl.lv0_eq,if_pos (by omega),if_pos (by omega),if_pos (by simp),w1,Zl.lv0_eq,if_neg (by omega)]
 rfl
theorem rdOf_at (l : List ByteArray) (i : Nat) (h : i < l.length) : rdOf ByteArray.empty l i = l[i] := by
 unfold rdOf
 rw [Int.toNat_natCast,List.getD_eq_getElem?_getD,List.getElem?_eq_getElem h]
 rfl
theorem be1 (n : Int) : beL n 1 = [n % 256] := rfl
theorem long1 (s : ByteArray) : Yq.v [s] = some (decide ((s.size : Int) > 65536)) := by
 rw [Yq.v_eq,Ym.v_eq]
 simp only [List.any_cons,List.any_nil,Bool.or_false,Yl.v_eq,Option.getD_some,Option.bind_some]
theorem hash_one (t : ByteArray) (h : t.size ≤ 40000000) : ∃ r,Zb.v (bytesOf t) = some r ∧ ZD.v t = some r ∧ r.size = 32 := by
 obtain ⟨r,h1,h2⟩ := hash_v (bytesOf t) (by rw [bytesOf_length];exact h)
 exact ⟨r,h1,by rw [ZD.v_eq,if_pos h,h1],h2⟩
theorem root_seed (n : Int) : ∃ t,Yi.v n = some t ∧ ZE.v n = some t ∧ t.size = 32 := by
 have h1 : (strOfNums [n % 256]).size = 1 := by rw [strOf_size];rfl
 have h9 : (⟨#[110,111,100,101,32,115,101,101,100]⟩ : ByteArray).size = 9 := rfl
 obtain ⟨s,hs⟩ : ∃ s,s = (⟨#[110,111,100,101,32,115,101,101,100]⟩ : ByteArray) ++ strOfNums [n % 256] := ⟨_,rfl⟩
 have hz : s.size = 10 := by rw [hs,ByteArray.size_append,h1,h9]
 obtain ⟨t,ht,hi,h32⟩ := hash_one s (by omega)
 refine ⟨t,?_,?_,h32⟩
 ·rw [Yi.v_eq,Option.bind_some,← hs,h1,hz,if_pos (by decide),if_pos (by decide),ht,Option.bind_some]
 ·rw [ZE.v_eq,impl_number1,Option.bind_some,be1,← hs,h1,if_pos (by decide),hi,Option.bind_some]
theorem ba_assoc (a b c : ByteArray) : (a ++ b) ++ c = a ++ (b ++ c) := by
 apply ByteArray.ext
 simp only [ByteArray.data_append,Array.append_assoc]
theorem secret_one (s : ByteArray) (hs : s.size ≤ 1000) (a b c : Int) : ∃ t,ZV.v s a b c = some t ∧ ZP.v s a b c = some t ∧ t.size = 32 := by
 have z1 : ∀ n : Int,(strOfNums (beL n 1)).size = 1 := fun n => by rw [strOf_size,beL_len]
 have z6 : (⟨#[115,101,99,114,101,116]⟩ : ByteArray).size = 6 := rfl
 obtain ⟨p,hp⟩ : ∃ p,p = (⟨#[115,101,99,114,101,116]⟩ : ByteArray) ++ s := ⟨_,rfl⟩
 have zp : p.size = 6 + s.size := by rw [hp,ByteArray.size_append,z6]
 obtain ⟨X,hX⟩ : ∃ X,X = ((p ++ strOfNums (beL a 1)) ++ strOfNums (beL b 1)) ++ strOfNums (beL c 1) := ⟨_,rfl⟩
 have x1 : (p ++ strOfNums (beL a 1)).size = 7 + s.size := by rw [ByteArray.size_append,z1,zp];omega
 have x2 : ((p ++ strOfNums (beL a 1)) ++ strOfNums (beL b 1)).size = 8 + s.size := by rw [ByteArray.size_append,z1,x1];omega
 have x3 : X.size = 9 + s.size := by rw [hX,ByteArray.size_append,z1,x2];omega
 have hX2 : p ++ strOfNums [a % 256,b % 256,c % 256] = X := by
  rw [hX,be1,be1,be1,show ([a % 256,b % 256,c % 256] : List Int) = [a % 256] ++ ([b % 256] ++ [c % 256]) from rfl,str_append,str_append,ba_assoc,ba_assoc]
 have z3 : (strOfNums [a % 256,b % 256,c % 256]).size = 3 := by rw [strOf_size];rfl
 obtain ⟨t,h1,h2,h3⟩ := hash_one X (by omega)
 refine ⟨t,?_,?_,h3⟩
 ·rw [ZV.v_eq,← hp,if_pos (by omega),Option.bind_some,zp,z3,if_pos (by omega),hX2,x3,if_pos (by omega),h1,Option.bind_some]
 ·rw [ZP.v_eq,← hp,if_pos (by omega),impl_number1,Option.bind_some,zp,z1,if_pos (by omega),impl_number1,Option.bind_some,x1,z1,if_pos (by omega),impl_number1,Option.bind_some,x2,z1,if_pos (by omega),← hX,h2,Option.bind_some]
theorem key_l (s : ByteArray) (hs : s.size ≤ 1000) (a : Int) : ∀ (d : Nat) (i : Int) (x : ByteArray),(32 - i).toNat = d → 0 ≤ i → i ≤ 32 → (x.size : Int) = 3 + 64 * i → ∃ t,Zr.lv0 s a (bytesOf x) i = some t ∧ Zs.lv0 s a x i = some t ∧ t.size = 32
 | 0,i,x,h,h0,h1,hx => by
  obtain ⟨t,e1,e2,e3⟩ := hash_one x (by omega)
  exact ⟨t,by rw [Zr.lv0_eq,if_neg (by omega),e1,Option.bind_some],by rw [Zs.lv0_eq,if_neg (by omega),e2,Option.bind_some],e3⟩
 | d + 1,i,x,h,h0,h1,hx => by
  obtain ⟨s0,a1,a2,a3⟩ := secret_one s hs a i 0
  obtain ⟨k0,b1,b2,b3⟩ := hash_one s0 (by omega)
  obtain ⟨s1,c1,c2,c3⟩ := secret_one s hs a i 1
  obtain ⟨k1,d1,d2,d3⟩ := hash_one s1 (by omega)
  have hz : (k0 ++ k1).size = 64 := by rw [ByteArray.size_append,b3,d3]
  obtain ⟨t,e1,e2,e3⟩ := key_l s hs a d (i + 1) (x ++ (k0 ++ k1)) (by omega) (by omega) (by omega) (by rw [ByteArray.size_append,hz];omega)
  have hb : (bytesOf x ++ bytesOf k0) ++ bytesOf k1 = bytesOf (x ++ (k0 ++ k1)) := by rw [bytes_append,bytes_append,List.append_assoc]
  refine ⟨t,?_,?_,e3⟩
  ·rw [Zr.lv0_eq,if_pos (by omega),Zr.lv1_eq,if_pos (by decide),a1,Option.bind_some,if_pos (by omega),b1,Option.bind_some,if_pos (by rw [bytesOf_length];omega),wrap_id (x := 0 + 1) (by omega) (by omega),
    Zr.lv1_eq,if_pos (by decide),show (0 + 1 : Int) = 1 from rfl,c1,Option.bind_some,if_pos (by omega),d1,Option.bind_some,if_pos (by rw [List.length_append,bytesOf_length,bytesOf_length];omega),wrap_id (x := 1 + 1) (by omega) (by omega),
    Zr.lv1_eq,if_neg (by decide),wrap_id (x := i + 1) (by omega) (by omega),hb,e1]
  ·rw [Zs.lv0_eq,if_pos (by omega),a2,Option.bind_some,b2,Option.bind_some,c2,Option.bind_some,d2,Option.bind_some,b3,d3,if_pos (by decide),hz,if_pos (by omega),wrap_id (x := i + 1) (by omega) (by omega),e2]
theorem onekey_one (s : ByteArray) (hs : s.size ≤ 1000) (a : Int) : ∃ t,Zr.v s a = some t ∧ Zs.v s a = some t ∧ t.size = 32 := by
 obtain ⟨t,h1,h2,h3⟩ := key_l s hs a _ 0 ⟨#[107,101,121]⟩ rfl (by omega) (by omega) (by decide)
 refine ⟨t,?_,?_,h3⟩
 ·rw [Zr.v_eq,← h1,show bytesOf (⟨#[107,101,121]⟩ : ByteArray) = [107,101,121] by decide]
 ·rw [Zs.v_eq,h2]
theorem keys_l (s : ByteArray) (hs : s.size ≤ 1000) : ∀ (d : Nat) (i : Int) (l : List ByteArray),(8 - i).toNat = d → 0 ≤ i → i ≤ 8 → (l.length : Int) = i → (∀ y ∈ l,y.size = 32) → ∃ r,Zz.lv0 s l i = some r ∧ ZF.lv0 s l i = some r ∧ r.length = 8 ∧ ∀ y ∈ r,y.size = 32
 | 0,i,l,h,h0,h1,hl,hy => ⟨l,by rw [Zz.lv0_eq,if_neg (by omega)],by rw [ZF.lv0_eq,if_neg (by omega)],by omega,hy⟩
 | d + 1,i,l,h,h0,h1,hl,hy => by
  obtain ⟨t,e1,e2,e3⟩ := onekey_one s hs i
  obtain ⟨r,f1,f2,f3,f4⟩ := keys_l s hs d (i + 1) (l ++ [t]) (by omega) (by omega) (by omega) (by simp;omega) (fun y hm => by
   rcases List.mem_append.1 hm with h | h
   ·exact hy y h
   ·rw [List.mem_singleton.1 h];exact e3)
  refine ⟨r,?_,?_,f3,f4⟩
  ·rw [Zz.lv0_eq,if_pos (by omega),e1,Option.bind_some,if_pos (by omega),wrap_id (x := i + 1) (by omega) (by omega),f1]
  ·rw [ZF.lv0_eq,if_pos (by omega),e2,Option.bind_some,if_pos (by omega),wrap_id (x := i + 1) (by omega) (by omega),f2]
theorem node_one (a b : ByteArray) (ha : a.size = 32) (hb : b.size = 32) : ∃ t,ZM.v a b = some t ∧ ZT.v a b = some t ∧ t.size = 32 := by
 have z4 : (⟨#[110,111,100,101]⟩ : ByteArray).size = 4 := rfl
 obtain ⟨p,hp⟩ : ∃ p,p = (⟨#[110,111,100,101]⟩ : ByteArray) ++ a := ⟨_,rfl⟩
 have zp : p.size = 36 := by rw [hp,ByteArray.size_append,z4,ha]
 obtain ⟨X,hX⟩ : ∃ X,X = p ++ b := ⟨_,rfl⟩
 have zX : X.size = 68 := by rw [hX,ByteArray.size_append,zp,hb]
 obtain ⟨t,h1,h2,h3⟩ := hash_one X (by omega)
 refine ⟨t,?_,?_,h3⟩
 ·rw [ZM.v_eq,← hp,← hX,ha,if_pos (by decide),zp,hb,if_pos (by decide),zX,if_pos (by decide),h1,Option.bind_some]
 ·rw [ZT.v_eq,← hp,← hX,ha,if_pos (by decide),zp,hb,if_pos (by decide),h2,Option.bind_some]
theorem level_l (l : List ByteArray) (m : Nat) (hm : l.length = 2 * m) (hm2 : m ≤ 1000) (hy : ∀ y ∈ l,y.size = 32) : ∀ (d j : Nat) (acc : List ByteArray),m - j = d → j ≤ m → acc.length = j → (∀ y ∈ acc,y.size = 32) → ∃ r,Zw.lv0 l acc ((2 * j : Nat) : Int) = some r ∧ Zy.lv0 l acc ((2 * j : Nat) : Int) = some r ∧ r.length = m ∧ ∀ y ∈ r,y.size = 32
 | 0,j,acc,h,h0,ha,hc => ⟨acc,by rw [Zw.lv0_eq,if_neg (by omega)],by rw [Zy.lv0_eq,if_neg (by omega)],by omega,hc⟩
 | d + 1,j,acc,h,h0,ha,hc => by
  have g1 : rdOf ByteArray.empty l ((2 * j : Nat) : Int) ∈ l := by rw [rdOf_at l (2 * j) (by omega)];exact List.getElem_mem _
  have g2 : rdOf ByteArray.empty l (((2 * j + 1 : Nat)) : Int) ∈ l := by rw [rdOf_at l (2 * j + 1) (by omega)];exact List.getElem_mem _
  obtain ⟨t,e1,e2,e3⟩ := node_one _ _ (hy _ g1) (hy _ g2)
  obtain ⟨r,f1,f2,f3,f4⟩ := level_l l m hm hm2 hy d (j + 1) (acc ++ [t]) (by omega) (by omega) (by simp;omega) (fun y hm => by
   rcases List.mem_append.1 hm with h | h
   ·exact hc y h
   ·rw [List.mem_singleton.1 h];exact e3)
  have w1 : wrap64 (((2 * j : Nat) : Int) + 1) = ((2 * j + 1 : Nat) : Int) := by rw [wrap_id (by omega) (by omega)];omega
  have w2 : wrap64 (((2 * j : Nat) : Int) + 2) = ((2 * (j + 1) : Nat) : Int) := by rw [wrap_id (by omega) (by omega)];omega
  refine ⟨r,?_,?_,f3,f4⟩
  ·rw [Zw.lv0_eq,w1,w2,if_pos (by omega),if_pos (by omega),if_pos (by omega),if_pos (by omega),e1,Option.bind_some,if_pos (by omega),f1]
  ·rw [Zy.lv0_eq,w1,w2,if_pos (by omega),if_pos (by omega),if_pos (by omega),if_pos (by omega),e2,Option.bind_some,if_pos (by omega),f2]
def bitF (t : ByteArray) (i k : Int) : Int := (48 + (Go.bits .and .u8 (shr .u8 (bt t i) k) 1)) % 256
def bitsL (t : ByteArray) (i : Int) : Nat → List Int
 | 0 => []
 | d + 1 => bitF t i d :: bitsL t i d
theorem bitsL_len (t : ByteArray) (i : Int) : ∀ d,(bitsL t i d).length = d
 | 0 => rfl
 | d + 1 => by rw [bitsL,List.length_cons,bitsL_len t i d]
def allL (t : ByteArray) : Nat → Int → List Int
 | 0,_ => []
 | n + 1,i => bitsL t i 8 ++ allL t n (i + 1)
theorem hb_in (t : ByteArray) (i : Int) (h0 : 0 ≤ i) (h1 : i < t.size) (ht : t.size = 32) : ∀ (d : Nat) (x : List Int),d ≤ 8 → x.length ≤ 1000 - d → Zk.lv1 t x i ((d : Int) - 1) 32 i = Zk.lv0 t (x ++ bitsL t i d) 32 (i + 1)
 | 0,x,hd,hx => by
  rw [Zk.lv1_eq,if_neg (by omega),wrap_id (x := i + 1) (by omega) (by omega),bitsL,List.append_nil]
 | d + 1,x,hd,hx => by
  have e : ((d + 1 : Nat) : Int) - 1 = (d : Int) := by omega
  have w : wrap64 ((d : Int) - 1) = (d : Int) - 1 := wrap_id (by omega) (by omega)
  rw [Zk.lv1_eq,e,if_pos (by omega),if_pos h0,if_pos h1,if_pos (by omega),if_pos (by omega),w]
  clear w
  rw [hb_in t i h0 h1 ht d _ (by omega) (by rw [List.length_append];simp;omega),List.append_assoc]
  rfl
theorem hb_out (t : ByteArray) (ht : t.size = 32) : ∀ (n : Nat) (i : Int) (x : List Int),(32 - i).toNat = n → 0 ≤ i → i ≤ 32 → (x.length : Int) = 8 * i → Zk.lv0 t x 32 i = some (strOfNums (x ++ allL t n i))
 | 0,i,x,h,h0,h1,hx => by rw [Zk.lv0_eq,if_neg (by omega),allL,List.append_nil]
 | n + 1,i,x,h,h0,h1,hx => by
  rw [Zk.lv0_eq,if_pos (by omega)]
  have := hb_in t i h0 (by omega) ht 8 x (by omega) (by omega)
  rw [show ((8 : Nat) : Int) - 1 = 7 from rfl] at this
  rw [this,hb_out t ht n (i + 1) _ (by omega) (by omega) (by omega) (by rw [List.length_append,bitsL_len];omega),List.append_assoc]
  rfl
theorem hashBits_v (t : ByteArray) (ht : t.size = 32) : Zk.v t = some (strOfNums (allL t 32 0)) := by
 rw [Zk.v_eq,if_pos (by omega)]
 have := hb_out t ht 32 0 [] (by omega) (by omega) (by omega) (by simp)
 rw [List.nil_append] at this
 rw [ht]
 exact this
theorem sb_in (t : ByteArray) (ht : t.size = 32) (i : Int) (h0 : 0 ≤ i) (h1 : i < 4) : ∀ (d : Nat) (x : List Int),d ≤ 8 → x.length ≤ 1000 - d → Zu.lv0 t x (8 * i + (8 - d)) = Zu.lv0 t (x ++ bitsL t i d) (8 * (i + 1))
 | 0,x,hd,hx => by
  rw [bitsL,List.append_nil]
  congr 1
  omega
 | d + 1,x,hd,hx => by
  have q1 : Int.tdiv (8 * i + (8 - ((d + 1 : Nat) : Int))) 8 = i := by rw [Int.tdiv_eq_ediv_of_nonneg (by omega)];omega
  have q2 : Int.tmod (8 * i + (8 - ((d + 1 : Nat) : Int))) 8 = 7 - d := by rw [Int.tmod_eq_emod_of_nonneg (by omega)];omega
  have w1 : wrap64 i = i := wrap_id (by omega) (by omega)
  have w2 : wrap64 (7 - (7 - (d : Int))) = d := by rw [wrap_id (by omega) (by omega)];omega
  have w3 : IntKind.u64.wrap (d : Int) = d := u64_small _ (by omega) (by omega)
  have w4 : wrap64 (8 * i + (8 - ((d + 1 : Nat) : Int)) + 1) = 8 * i + (8 - (d : Int)) := by rw [wrap_id (by omega) (by omega)];omega
  rw [Zu.lv0_eq,if_pos (by omega),q1,q2,w1,w2,w3,w4]
  clear w1 w2 w3 w4 q1 q2
  rw [if_pos h0,if_pos (by omega),if_pos (by omega),if_pos (by omega),sb_in t ht i h0 h1 d _ (by omega) (by rw [List.length_append];simp;omega),List.append_assoc]
  rfl
theorem specBits_l (t : ByteArray) (ht : t.size = 32) : Zu.lv0 t [] 0 = some (strOfNums (bitsL t 0 8 ++ (bitsL t 1 8 ++ (bitsL t 2 8 ++ bitsL t 3 8)))) := by
 have s0 := sb_in t ht 0 (by omega) (by omega) 8 [] (by omega) (by simp)
 have s1 := sb_in t ht 1 (by omega) (by omega) 8 (bitsL t 0 8) (by omega) (by rw [bitsL_len];omega)
 have s2 := sb_in t ht 2 (by omega) (by omega) 8 (bitsL t 0 8 ++ bitsL t 1 8) (by omega) (by rw [List.length_append,bitsL_len,bitsL_len];omega)
 have s3 := sb_in t ht 3 (by omega) (by omega) 8 (bitsL t 0 8 ++ bitsL t 1 8 ++ bitsL t 2 8) (by omega) (by simp only [List.length_append,bitsL_len];omega)
 simp only [List.nil_append] at s0
 have e0 : Zu.lv0 t [] 0 = Zu.lv0 t (bitsL t 0 8) 8 := s0
 have e1 : Zu.lv0 t (bitsL t 0 8) 8 = Zu.lv0 t (bitsL t 0 8 ++ bitsL t 1 8) 16 := s1
 have e2 : Zu.lv0 t (bitsL t 0 8 ++ bitsL t 1 8) 16 = Zu.lv0 t (bitsL t 0 8 ++ bitsL t 1 8 ++ bitsL t 2 8) 24 := s2
 have e3 : Zu.lv0 t (bitsL t 0 8 ++ bitsL t 1 8 ++ bitsL t 2 8) 24 = Zu.lv0 t (bitsL t 0 8 ++ bitsL t 1 8 ++ bitsL t 2 8 ++ bitsL t 3 8) 32 := s3
 rw [e0,e1,e2,e3,Zu.lv0_eq,if_neg (by omega)]
 simp only [List.append_assoc]
theorem bits_one (m : ByteArray) (hm : m.size ≤ 30000000) : ∃ s,Zu.v m = some s ∧ ZJ.v m = some s ∧ s.size = 32 := by
 have z : (⟨#[100,105,103,101,115,116]⟩ : ByteArray).size = 6 := rfl
 have hz : ((⟨#[100,105,103,101,115,116]⟩ : ByteArray) ++ m).size = 6 + m.size := by rw [ByteArray.size_append,z]
 obtain ⟨t,t1,t2,t3⟩ := hash_one ((⟨#[100,105,103,101,115,116]⟩ : ByteArray) ++ m) (by omega)
 have hA : (allL t 32 0).length = 256 := by
  have : ∀ n i,(allL t n i).length = 8 * n := by
   intro n
   induction n with
   | zero => intro i;rfl
   | succ n ih => intro i;rw [allL,List.length_append,bitsL_len,ih];omega
  rw [this]
 have hsz : (strOfNums (allL t 32 0)).size = 256 := by rw [strOf_size,hA]
 rw [Zu.v_eq,ZJ.v_eq,if_pos (by omega),if_pos (by omega),if_pos (by omega),t1,t2,Option.bind_some,Option.bind_some,specBits_l t t3,hashBits_v t t3,Option.bind_some,if_pos (by omega),if_pos (by omega)]
 refine ⟨_,rfl,?_,by rw [strOf_size];simp only [List.length_append,bitsL_len]⟩
 rw [show ((strOfNums (allL t 32 0)).extract 0 32) = strOfNums (((allL t 32 0).take 32).drop 0) from strOf_extract _ _ _,List.drop_zero]
 have ha : allL t 32 0 = (bitsL t 0 8 ++ (bitsL t 1 8 ++ (bitsL t 2 8 ++ bitsL t 3 8))) ++ allL t 28 4 := by
  simp only [List.append_assoc]
  rfl
 rw [ha,List.take_left' (by simp only [List.length_append,bitsL_len])]
theorem node_any (a b : ByteArray) (ha : a.size ≤ 32) (hb : b.size ≤ 32) : ∃ t,ZM.v a b = some t ∧ ZT.v a b = some t ∧ t.size = 32 := by
 have z4 : (⟨#[110,111,100,101]⟩ : ByteArray).size = 4 := rfl
 obtain ⟨p,hp⟩ : ∃ p,p = (⟨#[110,111,100,101]⟩ : ByteArray) ++ a := ⟨_,rfl⟩
 have zp : p.size = 4 + a.size := by rw [hp,ByteArray.size_append,z4]
 obtain ⟨X,hX⟩ : ∃ X,X = p ++ b := ⟨_,rfl⟩
 have zX : X.size = 4 + a.size + b.size := by rw [hX,ByteArray.size_append,zp]
 obtain ⟨t,h1,h2,h3⟩ := hash_one X (by omega)
 refine ⟨t,?_,?_,h3⟩
 ·rw [ZM.v_eq,← hp,← hX,if_pos (by omega),if_pos (by omega),if_pos (by omega),h1,Option.bind_some]
 ·rw [ZT.v_eq,← hp,← hX,if_pos (by omega),if_pos (by omega),h2,Option.bind_some]
noncomputable def nodeF (a b : ByteArray) : ByteArray := (ZM.v a b).getD ⟨#[]⟩
theorem nodeF_v (a b : ByteArray) (ha : a.size ≤ 32) (hb : b.size ≤ 32) : ZM.v a b = some (nodeF a b) ∧ ZT.v a b = some (nodeF a b) ∧ (nodeF a b).size = 32 := by
 obtain ⟨t,h1,h2,h3⟩ := node_any a b ha hb
 have e : nodeF a b = t := by unfold nodeF;rw [h1];rfl
 rw [e];exact ⟨h1,h2,h3⟩
theorem spec_l01In_v (n low high : Int) : ZK.v n low high = some (inB n low high) := by
 rw [ZK.v_eq];unfold inB;split <;> simp <;> omega
theorem impl_within_v (n low high : Int) : ZH.v n low high = some (inB n low high) := by
 rw [ZH.v_eq];unfold inB;split <;> simp <;> omega
theorem wN (i : Nat) (h : i ≤ 1000) : wrap64 ((i : Int) + 1) = ((i + 1 : Nat) : Int) := by rw [wrap_id (by omega) (by omega)];omega
theorem wT (n : Nat) (h : n ≤ 1000) : wrap64 (Int.tdiv (n : Int) 2) = ((n / 2 : Nat) : Int) := by rw [Int.tdiv_eq_ediv_of_nonneg (by omega),wrap_id (by omega) (by omega)];omega
theorem areHashes_i (l : List ByteArray) (n : Int) : Ya.v l n = some (decide ((l.length : Int) = n) && l.all fun s => decide (s.size = 32)) := by
 rw [Ya.v_eq]
 by_cases h : (l.length : Int) = n
 ·rw [if_pos h,decide_eq_true h,Bool.true_and,Yj.v_eq,Option.bind_some]
  have hf : (fun s => (Ye.v s).getD false) = fun s : ByteArray => !decide (s.size = 32) := by
   funext s
   rw [Ye.v_eq,Yo.v_eq,Option.bind_some,Option.getD_some]
   congr 1
   rw [Bool.eq_iff_iff];simp;omega
  rw [hf]
  congr 1
  rw [Bool.eq_iff_iff]
  simp
 ·rw [if_neg h,decide_eq_false h,Bool.false_and]
theorem hashes_l (l : List ByteArray) (h : l.length ≤ 1000000) : ∀ (d i : Nat),l.length - i = d → i ≤ l.length → Zq.lv0 l l.length i = some ((l.drop i).all fun s => decide (s.size = 32))
 | 0,i,hd,hi => by rw [Zq.lv0_eq,if_neg (by omega),List.drop_eq_nil_of_le (by omega)];rfl
 | d + 1,i,hd,hi => by
  have hlt : i < l.length := by omega
  have w : wrap64 ((i : Int) + 1) = ((i + 1 : Nat) : Int) := by rw [wrap_id (by omega) (by omega)];omega
  rw [Zq.lv0_eq,if_pos (by omega),if_pos (by omega),if_pos (by omega),rdOf_at l i hlt,w,hashes_l l h d (i + 1) (by omega) (by omega),List.drop_eq_getElem_cons hlt,List.all_cons]
  clear w
  by_cases hs : l[i].size = 32
  ·rw [if_pos (by omega),decide_eq_true hs,Bool.true_and]
  ·rw [if_neg (by omega),decide_eq_false hs,Bool.false_and]
theorem hashes_s (l : List ByteArray) (n : Int) (hn : n ≤ 1000) : Zq.v l n = some (decide ((l.length : Int) = n) && l.all fun s => decide (s.size = 32)) := by
 rw [Zq.v_eq]
 by_cases h : (l.length : Int) = n
 ·rw [if_pos h,decide_eq_true h,Bool.true_and]
  subst h
  have := hashes_l l (by omega) l.length 0 rfl (by omega)
  rw [List.drop_zero] at this
  exact this
 ·rw [if_neg h,decide_eq_false h,Bool.false_and]
set_option maxHeartbeats 4000000 in
theorem lead_path (s : ByteArray) (i0 : Int) (o r p : List ByteArray) (hp : p.length = 3) (hy : ∀ y ∈ p,y.size = 32) : ∀ (d i : Nat) (x : ByteArray) (n : Nat),3 - i = d → i ≤ 3 → x.size = 32 → n ≤ 1000 →
  ∃ t,Za.lv1 s x n i i0 o r p = some (if t.toList = s.toList then 0 else 12) ∧ Zd.lv1 x n p 3 i = some t
 | 0,i,x,n,h,hi,hx,hn => ⟨x,by
   rw [Za.lv1_eq,if_neg (by omega)]
   split <;> rfl,by rw [Zd.lv1_eq,if_neg (by omega)]⟩
 | d + 1,i,x,n,h,hi,hx,hn => by
  have hlt : i < p.length := by omega
  have hz := hy _ (List.getElem_mem hlt)
  by_cases hm : Int.tmod (n : Int) 2 = 0
  ·obtain ⟨e1,e2,e3⟩ := nodeF_v x p[i] (by omega) (by omega)
   obtain ⟨t,t1,t2⟩ := lead_path s i0 o r p hp hy d (i + 1) (nodeF x p[i]) (n / 2) (by omega) (by omega) e3 (by omega)
   refine ⟨t,?_,?_⟩
   ·rw [Za.lv1_eq,if_pos (by omega),if_pos hm,if_pos (by omega),if_pos (by omega),rdOf_at p i hlt,e1,Option.bind_some,wN i (by omega),wT n hn];exact t1
   ·rw [Zd.lv1_eq,if_pos (by omega),if_pos (by omega),if_pos (by omega),if_pos hm,rdOf_at p i hlt,e2,Option.bind_some,wN i (by omega),wT n hn];exact t2
  ·obtain ⟨e1,e2,e3⟩ := nodeF_v p[i] x (by omega) (by omega)
   obtain ⟨t,t1,t2⟩ := lead_path s i0 o r p hp hy d (i + 1) (nodeF p[i] x) (n / 2) (by omega) (by omega) e3 (by omega)
   refine ⟨t,?_,?_⟩
   ·rw [Za.lv1_eq,if_pos (by omega),if_neg hm,if_pos (by omega),if_pos (by omega),rdOf_at p i hlt,e1,Option.bind_some,wN i (by omega),wT n hn];exact t1
   ·rw [Zd.lv1_eq,if_pos (by omega),if_pos (by omega),if_pos (by omega),if_neg hm,rdOf_at p i hlt,e2,Option.bind_some,wN i (by omega),wT n hn];exact t2
set_option maxHeartbeats 4000000 in
theorem lead_l (s b : ByteArray) (hb : b.size = 32) (i0 : Nat) (hi0 : i0 ≤ 1000) (o r p : List ByteArray) (ho : o.length = 32) (hr : r.length = 32) (hp : p.length = 3) (yo : ∀ y ∈ o,y.size = 32) (yr : ∀ y ∈ r,y.size = 32) (yp : ∀ y ∈ p,y.size = 32) : ∀ (d i : Nat) (x : ByteArray),32 - i = d → i ≤ 32 → x.size = 3 + 64 * i →
  ∃ t,Za.lv0 s b (bytesOf x) i i0 o r p = some (if t.toList = s.toList then 0 else 12) ∧ Zd.lv0 x (bytesOf b) 32 i i0 o r p = some t
 | 0,i,x,h,hi,hx => by
  obtain ⟨t,t1,t2,t3⟩ := hash_one x (by omega)
  obtain ⟨q,q1,q2⟩ := lead_path s i0 o r p hp yp 3 0 t i0 rfl (by omega) t3 hi0
  refine ⟨q,?_,?_⟩
  ·rw [Za.lv0_eq,if_neg (by omega),t1,Option.bind_some];exact q1
  ·rw [Zd.lv0_eq,if_neg (by omega),t2,Option.bind_some,hp];exact q2
 | d + 1,i,x,h,hi,hx => by
  have hbl : (bytesOf b).length = 32 := by rw [bytesOf_length,hb]
  have hrd : rd (bytesOf b) i = bt b i := bytesOf_rd b i (by omega) (by omega)
  have hlo : i < o.length := by omega
  have hlr : i < r.length := by omega
  have zo := yo _ (List.getElem_mem hlo)
  have zr := yr _ (List.getElem_mem hlr)
  have hxl : (bytesOf x).length = x.size := bytesOf_length x
  obtain ⟨t,t1,t2,t3⟩ := hash_one o[i] (by omega)
  have htl : (bytesOf t).length = t.size := bytesOf_length t
  have hrl : (bytesOf r[i]).length = r[i].size := bytesOf_length _
  by_cases hk : bt b i = 48
  ·have hz : (x ++ (t ++ r[i])).size = 3 + 64 * (i + 1) := by rw [ByteArray.size_append,ByteArray.size_append];omega
   obtain ⟨q,q1,q2⟩ := lead_l s b hb i0 hi0 o r p ho hr hp yo yr yp d (i + 1) (x ++ (t ++ r[i])) (by omega) (by omega) hz
   rw [bytes_append,bytes_append,← List.append_assoc] at q1
   refine ⟨q,?_,?_⟩
   ·rw [Za.lv0_eq,if_pos (by omega),if_pos (by omega),if_pos (by omega),rdOf_at o i hlo,if_pos (by omega),t1,Option.bind_some,if_pos (by omega),if_pos hk,if_pos (by omega),Option.bind_some,if_pos (by omega),rdOf_at r i hlr,if_pos (by rw [List.length_append];omega),wN i (by omega)]
    exact q1
   ·rw [Zd.lv0_eq,if_pos (by omega),if_pos (by omega),if_pos (by omega),hrd,if_pos hk,if_pos (by omega),rdOf_at o i hlo,t2,Option.bind_some,if_pos (by omega),rdOf_at r i hlr,if_pos (by omega),if_pos (by rw [ByteArray.size_append];omega),wN i (by omega)]
    exact q2
  ·have hz : (x ++ (r[i] ++ t)).size = 3 + 64 * (i + 1) := by rw [ByteArray.size_append,ByteArray.size_append];omega
   obtain ⟨q,q1,q2⟩ := lead_l s b hb i0 hi0 o r p ho hr hp yo yr yp d (i + 1) (x ++ (r[i] ++ t)) (by omega) (by omega) hz
   rw [bytes_append,bytes_append,← List.append_assoc] at q1
   refine ⟨q,?_,?_⟩
   ·rw [Za.lv0_eq,if_pos (by omega),if_pos (by omega),if_pos (by omega),rdOf_at o i hlo,if_pos (by omega),t1,Option.bind_some,if_pos (by omega),if_neg hk,if_pos (by omega),rdOf_at r i hlr,if_pos (by omega),Option.bind_some,if_pos (by rw [List.length_append];omega),wN i (by omega)]
    exact q1
   ·rw [Zd.lv0_eq,if_pos (by omega),if_pos (by omega),if_pos (by omega),hrd,if_neg hk,if_pos (by omega),rdOf_at r i hlr,if_pos (by omega),rdOf_at o i hlo,t2,Option.bind_some,if_pos (by omega),if_pos (by rw [ByteArray.size_append];omega),wN i (by omega)]
    exact q2
theorem check_one (s m : ByteArray) (hs : s.size ≤ 65536) (hm : m.size ≤ 30000000) (i0 : Int) (o r p : List ByteArray) : ∃ q : Int,Za.v s m i0 o r p = some q ∧ Zi.v s m i0 o r p = some q := by
 rw [Za.v_eq,Zi.v_eq,long1,Option.bind_some]
 have f1 : decide ((s.size : Int) > 65536) = false := decide_eq_false (by omega)
 rw [f1]
 simp only [Bool.false_eq_true,if_false]
 by_cases h1 : (m.size : Int) > 65530
 ·rw [if_pos h1,decide_eq_true h1,Za.jv0_eq,Zi.jv0_eq]
  exact ⟨_,rfl,rfl⟩
 rw [if_neg h1,decide_eq_false h1,Za.jv0_eq,Zi.jv0_eq]
 simp only [Bool.false_eq_true,if_false,Yo.v_eq,Option.bind_some,areHashes_i,hashes_s _ 32 (by omega),hashes_s _ 3 (by omega),Za.jv1_eq,Zi.jv1_eq,spec_l01In_v,ZW.v_eq,impl_within_v]
 by_cases h2 : (s.size : Int) = 32
 ·have hb2 : ((s.size : Int) == 32) = true := by rw [h2];rfl
  simp only [if_pos h2,hb2,if_true]
  cases ho : (decide ((o.length : Int) = 32) && o.all fun s => decide (s.size = 32)) with
  | false => exact ⟨1,rfl,rfl⟩
  | true =>
   cases hr : (decide ((r.length : Int) = 32) && r.all fun s => decide (s.size = 32)) with
   | false => exact ⟨1,rfl,rfl⟩
   | true =>
    cases hp : (decide ((p.length : Int) = 3) && p.all fun s => decide (s.size = 32)) with
    | false => exact ⟨1,rfl,rfl⟩
    | true =>
     simp only [Bool.not_true,Bool.false_eq_true,if_false,if_true]
     by_cases hi : inB i0 0 7 = true
     ·have hi2 : 0 ≤ i0 ∧ i0 ≤ 7 := by
       unfold inB at hi
       simp at hi
       omega
      obtain ⟨n,rfl⟩ : ∃ n : Nat,i0 = n := ⟨i0.toNat,by omega⟩
      obtain ⟨b,b1,b2,b3⟩ := bits_one m hm
      rw [Bool.and_eq_true,decide_eq_true_eq,List.all_eq_true] at ho hr hp
      obtain ⟨t,t1,t2⟩ := lead_l s b b3 n (by omega) o r p (by omega) (by omega) (by omega) (fun y h => by simpa using ho.2 y h) (fun y h => by simpa using hr.2 y h) (fun y h => by simpa using hp.2 y h) 32 0 (⟨#[107,101,121]⟩ : ByteArray) rfl (by omega) rfl
      have hbl : ((bytesOf b).length : Int) = 32 := by rw [bytesOf_length,b3];rfl
      rw [if_pos hi,if_pos hi,b1,Option.bind_some,Zd.v_eq,b2,Option.bind_some,if_pos (by omega),Option.bind_some,hbl]
      rw [show ((0 : Nat) : Int) = 0 from rfl] at t1 t2
      rw [t2,Option.bind_some,show ([107,101,121] : List Int) = bytesOf (⟨#[107,101,121]⟩ : ByteArray) from rfl,t1]
      refine ⟨_,rfl,?_⟩
      split <;> rfl
     ·rw [if_neg hi,if_neg hi]
      exact ⟨_,rfl,rfl⟩
 ·have hb2 : ((s.size : Int) == 32) = false := by simpa using h2
  simp only [if_neg h2,hb2,Bool.false_eq_true,if_false,if_true]
  exact ⟨1,rfl,rfl⟩
theorem xor_one : ∀ n : Fin 8,Go.bits .xor .i64 ((n.val : Nat) : Int) 1 = if n.val % 2 = 0 then ((n.val + 1 : Nat) : Int) else ((n.val - 1 : Nat) : Int) := by decide
theorem xor_in (k n : Nat) (hk : 1 ≤ k) (hk3 : k ≤ 3) (hn : n < 2 ^ k) : 0 ≤ Go.bits .xor .i64 (n : Int) 1 ∧ Go.bits .xor .i64 (n : Int) 1 < ((2 ^ k : Nat) : Int) := by
 have h8 : n < 8 := Nat.lt_of_lt_of_le hn (Nat.pow_le_pow_right (by decide) hk3)
 rw [show ((n : Nat) : Int) = (((⟨n,h8⟩ : Fin 8).val : Nat) : Int) from rfl,xor_one]
 have he : 2 ^ k = 2 * 2 ^ (k - 1) := by rw [← Nat.pow_succ'];congr 1;omega
 show 0 ≤ (if n % 2 = 0 then ((n + 1 : Nat) : Int) else ((n - 1 : Nat) : Int)) ∧ (if n % 2 = 0 then ((n + 1 : Nat) : Int) else ((n - 1 : Nat) : Int)) < _
 split <;> omega
theorem nodes_one (a : Int) : ∃ r,Yr.v a = some r ∧ ZX.v a = some r := by
 rw [Yr.v_eq,ZX.v_eq,Yx.v_eq]
 by_cases h1 : a = 1
 ·rw [if_pos h1,if_pos h1,Option.bind_some];exact ⟨_,rfl,rfl⟩
 by_cases h4 : a = 4
 ·rw [if_neg h1,if_neg h1,if_pos h4,if_pos h4,Option.bind_some];exact ⟨_,rfl,rfl⟩
 by_cases h7 : a = 7
 ·rw [if_neg h1,if_neg h1,if_neg h4,if_neg h4,if_pos h7,Option.bind_some,h7];exact ⟨_,rfl,rfl⟩
 ·rw [if_neg h1,if_neg h1,if_neg h4,if_neg h4,if_neg h7,Option.bind_some]
  exact ⟨false,by simp [h7],rfl⟩
def decB (n : Nat) : ByteArray := ⟨(Go.Lib.decDigits n).toArray⟩
theorem decB_small (n : Nat) (h : n < 10) : decB n = strOfNums [(wrap64 (48 + (n : Int))) % 256] := by
 have w : wrap64 (48 + (n : Int)) = 48 + (n : Int) := wrap_id (by omega) (by omega)
 unfold decB
 rw [Go.Lib.decDigits,dif_pos h,w]
 have : n = 0 ∨ n = 1 ∨ n = 2 ∨ n = 3 ∨ n = 4 ∨ n = 5 ∨ n = 6 ∨ n = 7 ∨ n = 8 ∨ n = 9 := by omega
 rcases this with rfl | rfl | rfl | rfl | rfl | rfl | rfl | rfl | rfl | rfl <;> rfl
theorem decB_size_one (n : Nat) (h : n < 10) : (decB n).size = 1 := by
 rw [decB_small n h,strOf_size];rfl
theorem decB_big (n : Nat) (h : ¬ n < 10) : decB n = decB (n / 10) ++ decB (n % 10) := by
 have h2 : n % 10 < 10 := Nat.mod_lt _ (by omega)
 show (⟨(Go.Lib.decDigits n).toArray⟩ : ByteArray) = (⟨(Go.Lib.decDigits (n / 10)).toArray⟩ : ByteArray) ++ (⟨(Go.Lib.decDigits (n % 10)).toArray⟩ : ByteArray)
 rw [Go.Lib.decDigits,dif_neg h,Go.Lib.decDigits.eq_1 (n % 10),dif_pos h2]
 refine ba_inj.1 ?_
 rw [ba_toList,ba_toList,ByteArray.data_append]
 simp
theorem decB_le : ∀ (N n : Nat),n ≤ N → (decB n).size ≤ n + 1
 | 0,n,h => by rw [decB_size_one n (by omega)];omega
 | N + 1,n,h => by
  by_cases h1 : n < 10
  ·rw [decB_size_one n h1];omega
  ·have ih := decB_le N (n / 10) (by omega)
   rw [decB_big n h1,ByteArray.size_append,decB_size_one (n % 10) (Nat.mod_lt _ (by omega))]
   omega
theorem itoa_v (n : Nat) (h : n ≤ 9223372036854775807) : Yk.v n = some (decB n) := by
 rw [Yk.v_eq,if_pos (by omega)]
 show some (⟨(Go.Lib.itoa (n : Int)).toArray⟩ : ByteArray) = _
 unfold Go.Lib.itoa
 rw [if_neg (by omega),Int.toNat_natCast]
 rfl
theorem digits_v : ∀ (N n : Nat),n ≤ N → n ≤ 1000000000000000 → Zx.v n = some (decB n)
 | 0,n,h,hn => by
  rw [Zx.v_eq,if_neg (by omega),if_neg (by omega),if_pos (by omega),decB_small n (by omega)]
 | N + 1,n,h,hn => by
  by_cases h1 : n < 10
  ·rw [Zx.v_eq,if_neg (by omega),if_neg (by omega),if_pos (by omega),decB_small n h1]
  ·have hd : Int.tdiv (n : Int) 10 = ((n / 10 : Nat) : Int) := by rw [Int.tdiv_eq_ediv_of_nonneg (by omega)];omega
   have hm : Int.tmod (n : Int) 10 = ((n % 10 : Nat) : Int) := by rw [Int.tmod_eq_emod_of_nonneg (by omega)];omega
   have w : wrap64 ((n / 10 : Nat) : Int) = ((n / 10 : Nat) : Int) := wrap_id (by omega) (by omega)
   have ih := digits_v N (n / 10) (by omega) (by omega)
   have hl := decB_le (n / 10) (n / 10) (by omega)
   have h2 : n % 10 < 10 := Nat.mod_lt _ (by omega)
   rw [Zx.v_eq,if_neg (by omega),if_neg (by omega),if_neg (by omega),hd,hm,w]
   clear w hd hm
   rw [ih,Option.bind_some,Option.bind_some,← decB_small (n % 10) h2,decB_size_one (n % 10) h2,if_pos (by omega),← decB_big n h1]
theorem spec_l00Letter_v (c : Int) : Yg.v c = some (letterB c) := by
 rw [Yg.v_eq];unfold letterB;repeat' split
 all_goals (congr 1;rw [Bool.eq_iff_iff];simp <;> omega)
theorem impl_isLetter_v (c : Int) : Yh.v c = some (letterB c) := by
 rw [Yh.v_eq];unfold letterB;repeat' split
 all_goals (congr 1;rw [Bool.eq_iff_iff];simp <;> omega)
theorem spec_l00Digit_v (c : Int) : Yt.v c = some (digitB c) := by
 rw [Yt.v_eq];unfold digitB;split <;> simp <;> omega
theorem spec_l00Word_l (s : ByteArray) (hs : s.size ≤ 9223372036854775807) (i : Int) (h : 0 ≤ i) : Zm.lv0 s i = some (allI (fun j => letterB (bt s j) || digitB (bt s j)) i s.size) := by
 refine loop_all _ s.size (by omega) (fun i h0 h1 => ?_) (fun i h0 h1 => ?_) _ i rfl h
 ·rw [Zm.lv0_eq,if_pos h1,if_pos h0,spec_l00Letter_v,spec_l00Digit_v]
  simp only [Option.bind_some]
  cases letterB (bt s i) <;> cases digitB (bt s i) <;> simp
 ·rw [Zm.lv0_eq,if_neg (by omega)]
theorem impl_NameOK_l (s : ByteArray) (hs : s.size ≤ 9223372036854775807) (i : Int) (h : 0 ≤ i) : Zo.lv0 s s.size i = some (allI (fun j => letterB (bt s j) || digitB (bt s j)) i s.size) := by
 refine loop_all (L := fun i => Zo.lv0 s s.size i) _ s.size (by omega) (fun i h0 h1 => ?_) (fun i h0 h1 => ?_) _ i rfl h
 ·rw [Zo.lv0_eq,if_pos h1,if_pos h0,if_pos h1,impl_isLetter_v]
  simp only [Option.bind_some]
  cases letterB (bt s i) <;> simp [digitB]
  by_cases h2 : bt s i < 48
  ·simp [h2,show ¬ 48 ≤ bt s i by omega]
  ·by_cases h3 : 57 < bt s i
   ·simp [h2,h3,show ¬ bt s i ≤ 57 by omega]
   ·simp [h2,h3,show 48 ≤ bt s i by omega,show bt s i ≤ 57 by omega]
 ·rw [Zo.lv0_eq,if_neg (by omega)]
theorem spec_NameOK_v (s : ByteArray) (hs : s.size ≤ 9223372036854775807) : Yn.v s = some (nameB s) := by
 rw [Yn.v_eq,Zm.v_eq]
 simp only [spec_l00Letter_v,Zm.jv0_eq,spec_l00Word_l s hs 1 (by omega),Option.bind_some,nameB]
 by_cases h1 : (s.size : Int) < 1
 ·simp [h1];omega
 ·by_cases h2 : (s.size : Int) > 40
  ·simp [h1,h2];omega
  ·simp only [if_neg h1,if_neg h2,if_pos (show 0 < (s.size : Int) by omega),Option.bind_some,show (1 ≤ s.size ∧ s.size ≤ 40) = True by simp;omega]
   cases letterB (bt s 0) <;> simp
theorem impl_NameOK_v (s : ByteArray) (hs : s.size ≤ 9223372036854775807) : Zo.v s = some (nameB s) := by
 rw [Zo.v_eq]
 simp only [impl_isLetter_v,Zo.jv0_eq,impl_NameOK_l s hs 0 (by omega),Option.bind_some,nameB]
 by_cases h1 : (s.size : Int) < 1
 ·simp [h1];omega
 ·by_cases h2 : (s.size : Int) > 40
  ·simp [h1,h2];omega
  ·simp only [if_neg h1,if_neg h2,if_pos (show 0 < (s.size : Int) by omega),Option.bind_some,show (1 ≤ s.size ∧ s.size ≤ 40) = True by simp;omega]
   rw [allI_step (i := 0) (by omega)]
   cases letterB (bt s 0) <;> simp
theorem spec_l02Text_v (s : ByteArray) (n : Int) (hs : s.size ≤ 9223372036854775807) : Yf.v s n = some (decide ((s.size : Int) ≤ n) && nameB s) := by
 rw [Yf.v_eq,spec_l01In_v,spec_NameOK_v s hs]
 simp only [Option.bind_some,inB]
 by_cases h : (1 : Int) ≤ s.size ∧ (s.size : Int) ≤ n
 ·simp [h]
 ·by_cases h2 : (s.size : Int) ≤ n
  ·simp [h,h2,nameB,show ¬ (1 ≤ s.size) by omega]
  ·simp [h,h2]
theorem impl_isOpName_v (s : ByteArray) (hs : s.size ≤ 9223372036854775807) : ZU.v s = some (decide ((s.size : Int) ≤ 12) && nameB s) := by
 rw [ZU.v_eq,impl_NameOK_v s hs]
 by_cases h : (s.size : Int) ≤ 12 <;> simp [h]
theorem grantOK_v (a : ByteArray) (b c d : Int) (ha : a.size ≤ 9223372036854775807) : ZI.v a b c d = some ((decide ((a.size : Int) ≤ 12) && nameB a) && (inB b 0 255 && (inB c 1 1000000 && inB d 0 2000000000))) := by
 rw [ZI.v_eq,impl_isOpName_v a ha]
 simp only [impl_within_v,Option.bind_some]
 cases (decide ((a.size : Int) ≤ 12) && nameB a) <;> cases inB b 0 255 <;> cases inB c 1 1000000 <;> simp
theorem spec_grantOK_v (a : ByteArray) (b c d : Int) (ha : a.size ≤ 9223372036854775807) : Yb.v a b c d = some ((decide ((a.size : Int) ≤ 12) && nameB a) && (inB b 0 255 && (inB c 1 1000000 && inB d 0 2000000000))) := by
 rw [Yb.v_eq,spec_l02Text_v a 12 ha]
 simp only [spec_l01In_v,Option.bind_some]
 cases (decide ((a.size : Int) ≤ 12) && nameB a) <;> cases inB b 0 255 <;> cases inB c 1 1000000 <;> simp
def grantB (a : ByteArray) (b c d : Int) : Bool := (decide ((a.size : Int) ≤ 12) && nameB a) && (inB b 0 255 && (inB c 1 1000000 && inB d 0 2000000000))
theorem grantB_facts {a : ByteArray} {b c d : Int} (h : grantB a b c d = true) : a.size ≤ 12 ∧ 0 ≤ b ∧ b ≤ 255 ∧ 1 ≤ c ∧ c ≤ 1000000 ∧ 0 ≤ d ∧ d ≤ 2000000000 := by
 unfold grantB inB at h
 simp only [Bool.and_eq_true,decide_eq_true_eq] at h
 omega
theorem decB_pow : ∀ (k n : Nat),n < 10 ^ (k + 1) → (decB n).size ≤ k + 1
  | 0,n,h => by rw [decB_size_one n (by omega)];omega
  | k + 1,n,h => by
    by_cases h1 : n < 10
    · rw [decB_size_one n h1];omega
    · have h2 : n / 10 < 10 ^ (k + 1) := by rw [Nat.pow_succ] at h;omega
      have := decB_pow k (n / 10) h2
      rw [decB_big n h1,ByteArray.size_append,decB_size_one (n % 10) (Nat.mod_lt _ (by omega))]
      omega
theorem digits_s (n : Int) (h0 : 0 ≤ n) (h1 : n ≤ 2000000000) : ∃ t,Zx.v n = some t ∧ Yk.v n = some t ∧ t.size ≤ 10 := by
  obtain ⟨m,rfl⟩ : ∃ m : Nat,n = m := ⟨n.toNat,by omega⟩
  have := decB_pow 9 m (by have : (10 : Nat) ^ (9 + 1) = 10000000000 := by decide
                           omega)
  exact ⟨decB m,digits_v m m (by omega) (by omega),itoa_v m (by omega),this⟩
theorem grantText_small (a : ByteArray) (b c d : Int) (h : grantB a b c d = true) : ∃ t,ZR.v a b c d = some t ∧ ZO.v a b c d = some t ∧ t.size ≤ 1000 := by
  obtain ⟨h0,h1,h2,h3,h4,h5,h6⟩ := grantB_facts h
  obtain ⟨x,x1,x2,x3⟩ := digits_s b h1 (by omega)
  obtain ⟨y,y1,y2,y3⟩ := digits_s c (by omega) (by omega)
  obtain ⟨z,z1,z2,z3⟩ := digits_s d h5 (by omega)
  have k6 : (⟨#[103,114,97,110,116,32]⟩ : ByteArray).size = 6 := rfl
  have k1 : (⟨#[32]⟩ : ByteArray).size = 1 := rfl
  rw [ZR.v_eq,ZO.v_eq,x1,x2,y1,y2,z1,z2]
  simp only [Option.bind_some,ByteArray.size_append,k6,k1]
  rw [if_pos (by omega),if_pos (by omega),if_pos (by omega),if_pos (by omega),if_pos (by omega),if_pos (by omega),if_pos (by omega)]
  exact ⟨_,rfl,rfl,by simp only [ByteArray.size_append,k6,k1];omega⟩
theorem from_l (a : Int) (l : List Int) (hl : l.length ≤ 1048576) : ∀ (d i : Nat),l.length - i = d → i ≤ l.length → ∃ r,ZC.lv0 a l i = some r ∧ ZG.lv0 l 0 (wrap64 (a - 1)) l l.length i = some r
 | 0,i,h,hi => ⟨true,by rw [ZC.lv0_eq,if_neg (by omega)],by rw [ZG.lv0_eq,if_neg (by omega)]⟩
 | d + 1,i,h,hi => by
  obtain ⟨r,e1,e2⟩ := from_l a l hl d (i + 1) (by omega) (by omega)
  have hw : wrap64 ((i : Int) + 1) = ((i + 1 : Nat) : Int) := by rw [wrap_id (by omega) (by omega)];omega
  have c1 : (i : Int) < (l.length : Int) := by omega
  have c2 : (0 : Int) ≤ (i : Int) := by omega
  rw [ZC.lv0_eq,ZG.lv0_eq]
  simp only [if_pos c1,if_pos c2,spec_l01In_v,impl_within_v,Option.bind_some,hw,e1,e2]
  clear hw
  cases inB (rd l i) 0 (wrap64 (a - 1)) with
  | false => exact ⟨false,rfl,rfl⟩
  | true =>
   simp only [if_true]
   by_cases h0 : (i : Int) > 0
   ·have hw : wrap64 ((i : Int) - 1) = (i : Int) - 1 := wrap_id (by omega) (by omega)
    have c3 : (0 : Int) ≤ (i : Int) - 1 := by omega
    have c4 : (i : Int) - 1 < (l.length : Int) := by omega
    simp only [if_pos h0,hw,if_pos c3,if_pos c4]
    split
    ·exact ⟨false,rfl,rfl⟩
    ·exact ⟨r,rfl,rfl⟩
   ·simp only [if_neg h0]
    exact ⟨r,rfl,rfl⟩
theorem from_one (a : Int) (l : List Int) (hl : l.length ≤ 1048576) : ∃ r,ZC.v a l = some r ∧ ZL.v a l = some r := by
 rw [ZC.v_eq,ZL.v_eq]
 by_cases h : (l.length : Int) = wrap64 (wrap64 (Int.tdiv (wrap64 (a - 1)) 3) + 1)
 ·obtain ⟨r,e1,e2⟩ := from_l a l hl _ 0 rfl (by omega)
  rw [if_pos h,if_pos h,ZG.v_eq]
  rw [show ((0 : Nat) : Int) = 0 from rfl] at e1 e2
  rw [e1,e2]
  exact ⟨r,rfl,rfl⟩
 ·rw [if_neg h,if_neg h]
  exact ⟨false,rfl,rfl⟩
theorem root_ls : ∀ (k : Nat) (l : List ByteArray),k ≤ 9 → l.length = 2 ^ k → (∀ y ∈ l,y.size = 32) → ∃ t,ZB.lv0 l = some t ∧ Zp.lv0 l = some t ∧ t.size = 32
 | 0,l,hk,hl,hy => by
  have hl1 : l.length = 1 := by simpa using hl
  refine ⟨rdOf ByteArray.empty l 0,by rw [ZB.lv0_eq,if_neg (by omega),if_pos (by omega)],by rw [Zp.lv0_eq,if_neg (by omega),if_pos (by omega)],?_⟩
  have := rdOf_at l 0 (by omega)
  rw [show ((0 : Nat) : Int) = 0 from rfl] at this
  rw [this]
  exact hy _ (List.getElem_mem (by omega))
 | k + 1,l,hk,hl,hy => by
  have hp : 2 ^ k ≤ 2 ^ 9 := Nat.pow_le_pow_right (by decide) (by omega)
  have h0 : 0 < 2 ^ k := Nat.pow_pos (by decide)
  have hl2 : l.length = 2 * 2 ^ k := by rw [hl,Nat.pow_succ,Nat.mul_comm]
  obtain ⟨r,e1,e2,e3,e4⟩ := level_l l (2 ^ k) hl2 (by omega) hy _ 0 [] rfl (by omega) rfl (fun y h => by cases h)
  obtain ⟨t,f1,f2,f3⟩ := root_ls k r (by omega) e3 e4
  refine ⟨t,?_,?_,f3⟩
  ·rw [ZB.lv0_eq,if_pos (by omega),Zw.v_eq,show (0 : Int) = ((2 * 0 : Nat) : Int) from rfl,e1,Option.bind_some,f1]
  ·rw [Zp.lv0_eq,if_pos (by omega),Zy.v_eq,show (0 : Int) = ((2 * 0 : Nat) : Int) from rfl,e2,Option.bind_some,f2]
theorem chain_one (s : ByteArray) (hs : s.size ≤ 1000) : ∃ (l : List ByteArray) (t : ByteArray),Zz.v s = some l ∧ ZB.v l = some t ∧ Zp.v s = some t ∧ t.size = 32 := by
 obtain ⟨l,k1,k2,k3,k4⟩ := keys_l s hs _ 0 [] rfl (by omega) (by omega) rfl (fun y h => by cases h)
 obtain ⟨t,r1,r2,r3⟩ := root_ls 3 l (by decide) k3 k4
 exact ⟨l,t,by rw [Zz.v_eq,k1],by rw [ZB.v_eq,r1],by rw [Zp.v_eq,ZF.v_eq,k2,Option.bind_some,r2],r3⟩
theorem check_l (a : ByteArray) (b c d : Int) (hg : grantB a b c d = true) (f : List Int) (s : List S37) (hf : f.length ≤ 1048576) (hs : s.length = f.length) : ∀ (e i : Nat),f.length - i = e → i ≤ f.length →
  ∃ r,Zf.lv0 i a b c d f s = some r ∧ Zh.lv0 f f.length i a b c d f s = some r
 | 0,i,h,hi => ⟨0,by rw [Zf.lv0_eq,if_neg (by omega)],by rw [Zh.lv0_eq,if_neg (by omega)]⟩
 | e + 1,i,h,hi => by
  obtain ⟨r,e1,e2⟩ := check_l a b c d hg f s hf hs e (i + 1) (by omega) (by omega)
  obtain ⟨m,m1,m2,m3⟩ := grantText_small a b c d hg
  obtain ⟨x,x1,x2,x3⟩ := root_seed (rd f i)
  obtain ⟨l,t,k1,k2,k3,k4⟩ := chain_one x (by omega)
  obtain ⟨q,q1,q2⟩ := check_one t m (by omega) (by omega) (rd_T37 s i).f0 (rd_T37 s i).f1 (rd_T37 s i).f2 (rd_T37 s i).f3
  have hw : wrap64 ((i : Int) + 1) = ((i + 1 : Nat) : Int) := by rw [wrap_id (by omega) (by omega)];omega
  have c1 : (i : Int) < (f.length : Int) := by omega
  have c2 : (0 : Int) ≤ (i : Int) := by omega
  have c3 : (i : Int) < (s.length : Int) := by omega
  rw [Zf.lv0_eq,Zh.lv0_eq]
  simp only [if_pos c1,if_pos c2,if_pos c3,x1,x2,k1,k2,k3,m1,m2,q1,q2,Option.bind_some,hw,e1,e2]
  clear hw
  by_cases hq : q = 0
  ·rw [if_pos hq];exact ⟨r,rfl,rfl⟩
  ·rw [if_neg hq];exact ⟨q,rfl,rfl⟩
theorem checkCert_one (n : Int) (a : ByteArray) (b c d : Int) (f : List Int) (s : List S37) (ha : a.size ≤ 9223372036854775807) (hf : f.length ≤ 1048576) : ∃ r,Zf.v n a b c d f s = some r ∧ Zh.v n a b c d f s = some r := by
 rw [Zf.v_eq,Zh.v_eq,grantOK_v a b c d ha,spec_grantOK_v a b c d ha]
 obtain ⟨p,p1,p2⟩ := nodes_one n
 obtain ⟨o,o1,o2⟩ := from_one n f hf
 simp only [Option.bind_some,p1,p2,o1,o2,Zf.jv0_eq]
 by_cases hg : ((decide ((a.size : Int) ≤ 12) && nameB a) && (inB b 0 255 && (inB c 1 1000000 && inB d 0 2000000000))) = true
 ·simp only [if_pos hg]
  cases p with
  | false => exact ⟨_,rfl,rfl⟩
  | true =>
   cases o with
   | false => exact ⟨_,rfl,rfl⟩
   | true =>
    simp only [if_true]
    by_cases hs : (s.length : Int) = (f.length : Int)
    ·obtain ⟨r,e1,e2⟩ := check_l a b c d hg f s hf (by omega) _ 0 rfl (by omega)
     have hb : ((s.length : Int) != (f.length : Int)) = false := bne_eq_false_iff_eq.mpr hs
     rw [show ((0 : Nat) : Int) = 0 from rfl] at e1 e2
     simp only [hb,if_pos hs,Bool.false_eq_true,if_false]
     exact ⟨r,e1,e2⟩
    ·have hb : ((s.length : Int) != (f.length : Int)) = true := by simpa using hs
     simp only [hb,if_neg hs,if_true]
     exact ⟨_,rfl,rfl⟩
 ·simp only [if_neg hg]
  exact ⟨_,rfl,rfl⟩
noncomputable def hF (x : ByteArray) : ByteArray := (ZD.v x).getD ⟨#[]⟩
theorem hF_v (x : ByteArray) (h : x.size ≤ 40000000) : ZD.v x = some (hF x) ∧ (hF x).size = 32 := by
 obtain ⟨t,_,h2,h3⟩ := hash_one x h
 have e : hF x = t := by unfold hF;rw [h2];rfl
 rw [e];exact ⟨h2,h3⟩
noncomputable def secF (s : ByteArray) (a b c : Int) : ByteArray := (ZP.v s a b c).getD ⟨#[]⟩
theorem secF_v (s : ByteArray) (hs : s.size ≤ 1000) (a b c : Int) : ZP.v s a b c = some (secF s a b c) ∧ (secF s a b c).size = 32 := by
 obtain ⟨t,_,h2,h3⟩ := secret_one s hs a b c
 have e : secF s a b c = t := by unfold secF;rw [h2];rfl
 rw [e];exact ⟨h2,h3⟩
noncomputable def ndF (a b : ByteArray) : ByteArray := (ZT.v a b).getD ⟨#[]⟩
theorem ndF_v (a b : ByteArray) (ha : a.size = 32) (hb : b.size = 32) : ZT.v a b = some (ndF a b) ∧ (ndF a b).size = 32 := by
 obtain ⟨t,_,h2,h3⟩ := node_one a b ha hb
 have e : ndF a b = t := by unfold ndF;rw [h2];rfl
 rw [e];exact ⟨h2,h3⟩
theorem above_at (l : List ByteArray) (m : Nat) (hm : l.length = 2 * m) (hm2 : m ≤ 1000) (hy : ∀ y ∈ l,y.size = 32) : ∀ (d j : Nat) (acc : List ByteArray),m - j = d → j ≤ m → acc.length = j →
  (∀ i,i < j → acc.getD i ⟨#[]⟩ = ndF (l.getD (2 * i) ⟨#[]⟩) (l.getD (2 * i + 1) ⟨#[]⟩)) → ∃ r,Zy.lv0 l acc ((2 * j : Nat) : Int) = some r ∧ r.length = m ∧ ∀ i,i < m → r.getD i ⟨#[]⟩ = ndF (l.getD (2 * i) ⟨#[]⟩) (l.getD (2 * i + 1) ⟨#[]⟩)
 | 0,j,acc,h,h0,ha,hc => ⟨acc,by rw [Zy.lv0_eq,if_neg (by omega)],by omega,fun i hi => hc i (by omega)⟩
 | d + 1,j,acc,h,h0,ha,hc => by
  have g1 : rdOf ByteArray.empty l ((2 * j : Nat) : Int) = l.getD (2 * j) ⟨#[]⟩ := rfl
  have g2 : rdOf ByteArray.empty l (((2 * j + 1 : Nat)) : Int) = l.getD (2 * j + 1) ⟨#[]⟩ := rfl
  have z1 : (l.getD (2 * j) ⟨#[]⟩).size = 32 := by rw [← g1,rdOf_at l (2 * j) (by omega)];exact hy _ (List.getElem_mem _)
  have z2 : (l.getD (2 * j + 1) ⟨#[]⟩).size = 32 := by rw [← g2,rdOf_at l (2 * j + 1) (by omega)];exact hy _ (List.getElem_mem _)
  obtain ⟨e2,_⟩ := ndF_v _ _ z1 z2
  obtain ⟨r,f2,f3,f4⟩ := above_at l m hm hm2 hy d (j + 1) (acc ++ [ndF (l.getD (2 * j) ⟨#[]⟩) (l.getD (2 * j + 1) ⟨#[]⟩)]) (by omega) (by omega) (by simp;omega) (fun i hi => by
   by_cases hj : i < j
   ·have := hc i hj
    rw [List.getD_eq_getElem?_getD] at this ⊢
    rw [List.getElem?_append_left (by omega)]
    exact this
   ·have hij : i = j := by omega
    subst hij
    rw [List.getD_eq_getElem?_getD,List.getElem?_append_right (by omega),ha,Nat.sub_self]
    rfl)
  have w1 : wrap64 (((2 * j : Nat) : Int) + 1) = ((2 * j + 1 : Nat) : Int) := by rw [wrap_id (by omega) (by omega)];omega
  have w2 : wrap64 (((2 * j : Nat) : Int) + 2) = ((2 * (j + 1) : Nat) : Int) := by rw [wrap_id (by omega) (by omega)];omega
  refine ⟨r,?_,f3,f4⟩
  rw [Zy.lv0_eq,w1,w2,if_pos (by omega),if_pos (by omega),if_pos (by omega),if_pos (by omega),g1,g2,e2,Option.bind_some,if_pos (by omega),f2]
theorem xor_at (n : Nat) (h : n < 8) : Go.bits .xor .i64 (n : Int) 1 = ((if n % 2 = 0 then n + 1 else n - 1 : Nat) : Int) := by
 have := xor_one ⟨n,h⟩
 rw [show ((n : Nat) : Int) = (((⟨n,h⟩ : Fin 8).val : Nat) : Int) from rfl,this]
 show (if n % 2 = 0 then ((n + 1 : Nat) : Int) else ((n - 1 : Nat) : Int)) = _
 split <;> rfl
theorem path_root (a : Int) (o r : List ByteArray) : ∀ (k : Nat) (l : List ByteArray) (n : Nat) (p : List ByteArray),k ≤ 3 → l.length = 2 ^ k → (∀ y ∈ l,y.size = 32) → n < 2 ^ k → p.length + k ≤ 1000 → (∀ y ∈ p,y.size = 32) →
  ∃ (q : List ByteArray) (t : ByteArray),Zj.lv1 n l a o r p = some (a,o,r,q) ∧ Zp.lv0 l = some t ∧ t.size = 32 ∧ q.length = p.length + k ∧ (∀ y ∈ q,y.size = 32) ∧ (∃ u,q = p ++ u) ∧
   Zd.lv1 (l.getD n ⟨#[]⟩) n q q.length p.length = some t
 | 0,l,n,p,hk,hl,hy,hn,hp,hyp => by
  have hl1 : l.length = 1 := by simpa using hl
  have hn0 : n = 0 := by simpa using hn
  subst hn0
  refine ⟨p,l.getD 0 ⟨#[]⟩,by rw [Zj.lv1_eq,if_neg (by omega)],by rw [Zp.lv0_eq,if_neg (by omega),if_pos (by omega)];rfl,?_,rfl,hyp,⟨[],by simp⟩,by rw [Zd.lv1_eq,if_neg (by omega)]⟩
  have := rdOf_at l 0 (by omega)
  rw [show l.getD 0 ⟨#[]⟩ = rdOf ByteArray.empty l ((0 : Nat) : Int) from rfl,this]
  exact hy _ (List.getElem_mem _)
 | k + 1,l,n,p,hk,hl,hy,hn,hp,hyp => by
  have h0 : 0 < 2 ^ k := Nat.pow_pos (by decide)
  have hb : 2 ^ k ≤ 2 ^ 3 := Nat.pow_le_pow_right (by decide) (by omega)
  have hl2 : l.length = 2 * 2 ^ k := by rw [hl,Nat.pow_succ,Nat.mul_comm]
  have h8 : n < 8 := by
   have : 2 ^ (k + 1) ≤ 2 ^ 3 := Nat.pow_le_pow_right (by decide) (by omega)
   omega
  obtain ⟨r',e2,e3,e4⟩ := above_at l (2 ^ k) hl2 (by omega) hy _ 0 [] rfl (by omega) rfl (fun i h => by omega)
  have szl : ∀ i,i < l.length → (l.getD i ⟨#[]⟩).size = 32 := fun i hi => by
   have := rdOf_at l i hi
   rw [show l.getD i ⟨#[]⟩ = rdOf ByteArray.empty l ((i : Nat) : Int) from rfl,this]
   exact hy _ (List.getElem_mem _)
  have hyr : ∀ y ∈ r',y.size = 32 := fun y hm => by
   obtain ⟨i,hi,rfl⟩ := List.getElem_of_mem hm
   have := e4 i (by omega)
   rw [List.getD_eq_getElem?_getD,List.getElem?_eq_getElem hi] at this
   rw [show r'[i] = ndF (l.getD (2 * i) ⟨#[]⟩) (l.getD (2 * i + 1) ⟨#[]⟩) from this]
   exact (ndF_v _ _ (szl _ (by omega)) (szl _ (by omega))).2
  obtain ⟨x1,x2⟩ := xor_in (k + 1) n (by omega) (by omega) hn
  rw [← hl] at x2
  have hn2 : n / 2 < 2 ^ k := by rw [hl2] at hl;omega
  obtain ⟨b,hbx⟩ : ∃ b : Nat,Go.bits .xor .i64 (n : Int) 1 = (b : Int) ∧ b = (if n % 2 = 0 then n + 1 else n - 1) := ⟨_,xor_at n h8,rfl⟩
  obtain ⟨hb1,hb2⟩ := hbx
  have hbl : b < l.length := by rw [hb1] at x2;omega
  have hx : rdOf ByteArray.empty l (Go.bits .xor .i64 (n : Int) 1) = l.getD b ⟨#[]⟩ := by rw [hb1];rfl
  have zb := szl b hbl
  obtain ⟨q,t,q2,q3,q4,q5,q6,⟨u,q7⟩,q8⟩ := path_root a o r k r' (n / 2) (p ++ [l.getD b ⟨#[]⟩]) (by omega) e3 hyr hn2 (by rw [List.length_append];simp;omega) (fun y hm => by
   rcases List.mem_append.1 hm with h | h
   ·exact hyp y h
   ·rw [List.mem_singleton.1 h];exact zb)
  have hpq : p.length < q.length := by rw [q5,List.length_append];simp;omega
  have hqp : rdOf ByteArray.empty q ((p.length : Nat) : Int) = l.getD b ⟨#[]⟩ := by
   rw [q7]
   show ((p ++ [l.getD b ⟨#[]⟩]) ++ u).getD p.length ⟨#[]⟩ = _
   rw [List.getD_eq_getElem?_getD,List.append_assoc,List.getElem?_append_right (Nat.le_refl _),Nat.sub_self]
   rfl
  have q5' : q.length = p.length + (k + 1) := by rw [q5,List.length_append];simp;omega
  have c1 : (l.length : Int) > 1 := by omega
  have c2 : p.length < 8796093022208 := by omega
  have c3 : ((p.length : Nat) : Int) < (q.length : Int) := by omega
  have c4 : (0 : Int) ≤ ((p.length : Nat) : Int) := by omega
  have c5 : p.length ≤ 1000 := by omega
  have c6 : n ≤ 1000 := by omega
  have hmod : Int.tmod (n : Int) 2 = ((n % 2 : Nat) : Int) := by rw [Int.tmod_eq_emod_of_nonneg (by omega)];omega
  have hr2 := e4 (n / 2) hn2
  have hql : (p ++ [l.getD b ⟨#[]⟩]).length = p.length + 1 := by simp
  rw [hql] at q8
  refine ⟨q,t,?_,?_,q4,q5',q6,⟨[l.getD b ⟨#[]⟩] ++ u,by rw [q7,List.append_assoc]⟩,?_⟩
  ·rw [Zj.lv1_eq,if_pos c1,if_pos x1,if_pos x2,if_pos c2,Zy.v_eq,show (0 : Int) = ((2 * 0 : Nat) : Int) from rfl,e2,Option.bind_some,wT n c6,hx]
   exact q2
  ·rw [Zp.lv0_eq,if_pos c1,Zy.v_eq,show (0 : Int) = ((2 * 0 : Nat) : Int) from rfl,e2,Option.bind_some]
   exact q3
  ·rw [Zd.lv1_eq,if_pos c3,if_pos c4,if_pos c3,hqp,wN _ c5,wT n c6]
   by_cases he : n % 2 = 0
   ·have hb3 : b = n + 1 := by rw [hb2,if_pos he]
    have hnn : 2 * (n / 2) = n := by omega
    have z := szl n (by omega)
    have h0' : Int.tmod (n : Int) 2 = 0 := by rw [hmod,he];rfl
    rw [if_pos h0',(ndF_v _ _ z zb).1,Option.bind_some]
    rw [hr2,hnn,← hb3] at q8
    exact q8
   ·have hb3 : b = n - 1 := by rw [hb2,if_neg he]
    have hnn : 2 * (n / 2) + 1 = n := by omega
    have hbn : 2 * (n / 2) = b := by omega
    have z := szl n (by omega)
    have h0' : ¬ Int.tmod (n : Int) 2 = 0 := by rw [hmod];omega
    rw [if_neg h0',(ndF_v _ _ zb z).1,Option.bind_some]
    rw [hr2,hnn,hbn] at q8
    exact q8
theorem keys_at (s : ByteArray) (hs : s.size ≤ 1000) : ∀ (d i : Nat) (l : List ByteArray),8 - i = d → i ≤ 8 → l.length = i → (∀ j : Nat,j < i → Zs.v s (j : Int) = some (l.getD j ⟨#[]⟩) ∧ (l.getD j ⟨#[]⟩).size = 32) →
  ∃ r,ZF.lv0 s l i = some r ∧ r.length = 8 ∧ ∀ j : Nat,j < 8 → Zs.v s (j : Int) = some (r.getD j ⟨#[]⟩) ∧ (r.getD j ⟨#[]⟩).size = 32
 | 0,i,l,h,h0,hl,hc => ⟨l,by rw [ZF.lv0_eq,if_neg (by omega)],by omega,fun j hj => hc j (by omega)⟩
 | d + 1,i,l,h,h0,hl,hc => by
  obtain ⟨t,_,e2,e3⟩ := onekey_one s hs (i : Int)
  obtain ⟨r,f1,f2,f3⟩ := keys_at s hs d (i + 1) (l ++ [t]) (by omega) (by omega) (by simp;omega) (fun j hj => by
   by_cases hji : j < i
   ·have := hc j hji
    rw [List.getD_eq_getElem?_getD] at this ⊢
    rw [List.getElem?_append_left (by omega)]
    exact this
   ·have hij : j = i := by omega
    subst hij
    rw [List.getD_eq_getElem?_getD,List.getElem?_append_right (by omega),hl,Nat.sub_self]
    exact ⟨e2,e3⟩)
  exact ⟨r,by rw [ZF.lv0_eq,if_pos (by omega),e2,Option.bind_some,if_pos (by omega),wN i (by omega)];exact f1,f2,f3⟩
def valB (b : ByteArray) (j : Nat) : Int := (bt b j - 48) % 256
def Shown (s b : ByteArray) (n : Int) (o r : List ByteArray) (m : Nat) : Prop := ∀ j : Nat,j < m → o.getD j ⟨#[]⟩ = secF s n j (valB b j) ∧ r.getD j ⟨#[]⟩ = hF (secF s n j (1 - valB b j))
theorem sign_at (s b : ByteArray) (hs : s.size ≤ 1000) (hb : b.size = 32) (n : Nat) : ∀ (d i : Nat) (o r : List ByteArray),32 - i = d → i ≤ 32 → o.length = i → r.length = i → Shown s b n o r i →
  ∃ o' r',Zj.lv0 s n (bytesOf b) 32 i n o r = ((ZF.v s).bind fun l => Zj.lv1 n l n o' r' []) ∧ o'.length = 32 ∧ r'.length = 32 ∧ Shown s b n o' r' 32
 | 0,i,o,r,h,hi,ho,hr,hc => by
  have e : i = 32 := by omega
  subst e
  exact ⟨o,r,by rw [Zj.lv0_eq,if_neg (by omega)],ho,hr,hc⟩
 | d + 1,i,o,r,h,hi,ho,hr,hc => by
  have hbl : (bytesOf b).length = 32 := by rw [bytesOf_length,hb]
  have hrd : rd (bytesOf b) i = bt b i := bytesOf_rd b i (by omega) (by omega)
  obtain ⟨a2,a3⟩ := secF_v s hs n i (valB b i)
  obtain ⟨b2,b3⟩ := secF_v s hs n i (1 - valB b i)
  obtain ⟨c2,c3⟩ := hF_v (secF s n i (1 - valB b i)) (by omega)
  obtain ⟨o',r',f1,f2⟩ := sign_at s b hs hb n d (i + 1) (o ++ [secF s n i (valB b i)]) (r ++ [hF (secF s n i (1 - valB b i))]) (by omega) (by omega) (by simp;omega) (by simp;omega) (fun j hj => by
   by_cases hji : j < i
   ·have := hc j hji
    rw [List.getD_eq_getElem?_getD,List.getD_eq_getElem?_getD] at this ⊢
    rw [List.getElem?_append_left (by omega),List.getElem?_append_left (by omega)]
    exact this
   ·have hij : j = i := by omega
    subst hij
    rw [List.getD_eq_getElem?_getD,List.getD_eq_getElem?_getD,List.getElem?_append_right (by omega),List.getElem?_append_right (by omega),ho,hr,Nat.sub_self]
    exact ⟨rfl,rfl⟩)
  have v : ((bt b i) - 48) % 256 = valB b i := rfl
  refine ⟨o',r',?_,f2⟩
  rw [Zj.lv0_eq,if_pos (by omega),if_pos (by omega),if_pos (by omega),hrd,v,a2,Option.bind_some,if_pos (by omega),b2,Option.bind_some,c2,Option.bind_some,if_pos (by omega),wN i (by omega)]
  exact f1
theorem leads_at (s b : ByteArray) (hs : s.size ≤ 1000) (hb : b.size = 32) (h01 : ∀ j : Nat,j < 32 → bt b j = 48 ∨ bt b j = 49) (n : Nat) (o r p : List ByteArray) (ho : o.length = 32) (hr : r.length = 32) (hc : Shown s b n o r 32) :
  ∀ (d i : Nat) (x : ByteArray),32 - i = d → i ≤ 32 → x.size = 3 + 64 * i → ∃ K,Zs.lv0 s n x i = some K ∧ K.size = 32 ∧ Zd.lv0 x (bytesOf b) 32 i n o r p = Zd.lv1 K n p p.length 0
 | 0,i,x,h,hi,hx => by
  obtain ⟨t2,t3⟩ := hF_v x (by omega)
  exact ⟨hF x,by rw [Zs.lv0_eq,if_neg (by omega),t2,Option.bind_some],t3,by rw [Zd.lv0_eq,if_neg (by omega),t2,Option.bind_some]⟩
 | d + 1,i,x,h,hi,hx => by
  have hbl : (bytesOf b).length = 32 := by rw [bytesOf_length,hb]
  have hrd : rd (bytesOf b) i = bt b i := bytesOf_rd b i (by omega) (by omega)
  obtain ⟨s0,z0⟩ := secF_v s hs n i 0
  obtain ⟨s1,z1⟩ := secF_v s hs n i 1
  obtain ⟨g0,y0⟩ := hF_v (secF s n i 0) (by omega)
  obtain ⟨g1,y1⟩ := hF_v (secF s n i 1) (by omega)
  have hz : (x ++ (hF (secF s n i 0) ++ hF (secF s n i 1))).size = 3 + 64 * (i + 1) := by rw [ByteArray.size_append,ByteArray.size_append];omega
  obtain ⟨K,k1,k2,k3⟩ := leads_at s b hs hb h01 n o r p ho hr hc d (i + 1) (x ++ (hF (secF s n i 0) ++ hF (secF s n i 1))) (by omega) (by omega) hz
  obtain ⟨c1,c2⟩ := hc i (by omega)
  have eo : rdOf ByteArray.empty o (i : Int) = secF s n i (valB b i) := c1
  have er : rdOf ByteArray.empty r (i : Int) = hF (secF s n i (1 - valB b i)) := c2
  refine ⟨K,?_,k2,?_⟩
  ·rw [Zs.lv0_eq,if_pos (by omega),s0,Option.bind_some,g0,Option.bind_some,s1,Option.bind_some,g1,Option.bind_some,if_pos (by omega),if_pos (by rw [ByteArray.size_append];omega),wN i (by omega)]
   exact k1
  ·rcases h01 i (by omega) with hv | hv
   ·have v : valB b i = 0 := by unfold valB;rw [hv];rfl
    rw [v] at eo er
    rw [show (1 : Int) - 0 = 1 from rfl] at er
    rw [Zd.lv0_eq,if_pos (by omega),if_pos (by omega),if_pos (by omega),hrd,if_pos hv,if_pos (by omega),eo,g0,Option.bind_some,if_pos (by omega),er,if_pos (by omega),if_pos (by rw [ByteArray.size_append];omega),wN i (by omega)]
    exact k3
   ·have v : valB b i = 1 := by unfold valB;rw [hv];rfl
    rw [v] at eo er
    rw [show (1 : Int) - 1 = 0 from rfl] at er
    rw [Zd.lv0_eq,if_pos (by omega),if_pos (by omega),if_pos (by omega),hrd,if_neg (by omega),if_pos (by omega),er,if_pos (by omega),eo,g1,Option.bind_some,if_pos (by omega),if_pos (by rw [ByteArray.size_append];omega),wN i (by omega)]
    exact k3
theorem and_one : ∀ (x : Fin 256) (k : Fin 8),Go.bits .and .u8 (shr .u8 ((x.val : Nat) : Int) ((k.val : Nat) : Int)) 1 = 0 ∨ Go.bits .and .u8 (shr .u8 ((x.val : Nat) : Int) ((k.val : Nat) : Int)) 1 = 1 := by decide +kernel
theorem bt_lt (t : ByteArray) (i : Int) : ∃ x : Fin 256,bt t i = ((x.val : Nat) : Int) := by
 unfold bt
 split
 ·rename_i h
  exact ⟨⟨(t[i.toNat]'h).toNat,(t[i.toNat]'h).toNat_lt⟩,rfl⟩
 ·exact ⟨0,rfl⟩
theorem bitF_01 (t : ByteArray) (i : Int) (k : Nat) (hk : k < 8) : bitF t i k = 48 ∨ bitF t i k = 49 := by
 obtain ⟨x,hx⟩ := bt_lt t i
 unfold bitF
 rw [hx]
 rcases and_one x ⟨k,hk⟩ with h | h
 ·left;rw [show ((k : Nat) : Int) = (((⟨k,hk⟩ : Fin 8).val : Nat) : Int) from rfl,h];rfl
 ·right;rw [show ((k : Nat) : Int) = (((⟨k,hk⟩ : Fin 8).val : Nat) : Int) from rfl,h];rfl
theorem bitsL_01 (t : ByteArray) (i : Int) : ∀ d,d ≤ 8 → ∀ y ∈ bitsL t i d,y = 48 ∨ y = 49
 | 0,_,y,hy => by cases hy
 | d + 1,hd,y,hy => by
  rw [bitsL] at hy
  rcases List.mem_cons.1 hy with h | h
  ·rw [h];exact bitF_01 t i d (by omega)
  ·exact bitsL_01 t i d (by omega) y h
theorem bt_01 (l : List Int) (h : ∀ y ∈ l,y = 48 ∨ y = 49) (j : Nat) (hj : j < l.length) : bt (strOfNums l) j = 48 ∨ bt (strOfNums l) j = 49 := by
 have e : bt (strOfNums l) (j : Int) = l[j] := by
  have hm := h _ (List.getElem_mem hj)
  rw [← bytesOf_rd (strOfNums l) (j : Int) (by omega) (by rw [strOf_size];omega),bytes_str l (fun y hy => by rcases h y hy with h | h <;> omega)]
  unfold rd
  rw [Int.toNat_natCast,List.getD_eq_getElem?_getD,List.getElem?_eq_getElem hj]
  rfl
 rw [e]
 exact h _ (List.getElem_mem hj)
theorem bits_01 (m : ByteArray) (hm : m.size ≤ 30000000) : ∃ b,ZJ.v m = some b ∧ b.size = 32 ∧ ∀ j : Nat,j < 32 → bt b j = 48 ∨ bt b j = 49 := by
 obtain ⟨b,e1,e2,e3⟩ := bits_one m hm
 refine ⟨b,e2,e3,?_⟩
 have z : (⟨#[100,105,103,101,115,116]⟩ : ByteArray).size = 6 := rfl
 have hz : ((⟨#[100,105,103,101,115,116]⟩ : ByteArray) ++ m).size = 6 + m.size := by rw [ByteArray.size_append,z]
 obtain ⟨t,t1,t2,t3⟩ := hash_one ((⟨#[100,105,103,101,115,116]⟩ : ByteArray) ++ m) (by omega)
 rw [Zu.v_eq,if_pos (by omega),if_pos (by omega),t1,Option.bind_some,specBits_l t t3] at e1
 have hb := Option.some.inj e1
 intro j hj
 rw [← hb]
 refine bt_01 _ (fun y hy => ?_) j (by simp only [List.length_append,bitsL_len];omega)
 simp only [List.mem_append] at hy
 rcases hy with h | h | h | h <;> exact bitsL_01 t _ 8 (by omega) y h
theorem sign_checks (s m : ByteArray) (hs : s.size ≤ 1000) (hm : m.size ≤ 65530) (n : Nat) (hn : n < 8) : ∃ (o r q : List ByteArray) (root : ByteArray),Zj.v s n m = some ((n : Int),o,r,q) ∧ Zp.v s = some root ∧ root.size = 32 ∧
  o.length = 32 ∧ r.length = 32 ∧ q.length = 3 ∧ Zi.v root m n o r q = some 0 := by
 obtain ⟨b,b1,b2,b3⟩ := bits_01 m (by omega)
 obtain ⟨l,k1,k2,k3⟩ := keys_at s hs 8 0 [] rfl (by omega) rfl (fun j hj => by omega)
 have kv : ZF.v s = some l := by rw [ZF.v_eq];exact k1
 obtain ⟨o,r,e1,e2,e3,e4⟩ := sign_at s b hs b2 n 32 0 [] [] rfl (by omega) rfl rfl (fun j hj => by omega)
 have hy : ∀ y ∈ l,y.size = 32 := fun y hy => by
  obtain ⟨i,hi,rfl⟩ := List.getElem_of_mem hy
  have := (k3 i (by omega)).2
  rw [List.getD_eq_getElem?_getD,List.getElem?_eq_getElem hi] at this
  exact this
 obtain ⟨q,t,q2,q3,q4,q5,q6,_,q8⟩ := path_root n o r 3 l n [] (by omega) (by rw [k2]) hy (by omega) (by simp) (fun y h => by cases h)
 have hbl : ((bytesOf b).length : Int) = 32 := by rw [bytesOf_length,b2];rfl
 obtain ⟨K,c1,c2,c3⟩ := leads_at s b hs b2 b3 n o r q e2 e3 e4 32 0 (⟨#[107,101,121]⟩ : ByteArray) rfl (by omega) rfl
 have hK : l.getD n ⟨#[]⟩ = K := by
  have := (k3 n hn).1
  rw [Zs.v_eq] at this
  rw [show ((0 : Nat) : Int) = 0 from rfl] at c1
  rw [c1] at this
  exact (Option.some.inj this).symm
 have hlead : Zd.v n o r q m = some t := by
  rw [Zd.v_eq,b1,Option.bind_some,if_pos (by omega),Option.bind_some,hbl]
  rw [show ((0 : Nat) : Int) = 0 from rfl] at c3
  rw [c3,← hK]
  exact q8
 have so : ∀ y ∈ o,y.size = 32 := fun y hy => by
  obtain ⟨i,hi,rfl⟩ := List.getElem_of_mem hy
  have := (e4 i (by omega)).1
  rw [List.getD_eq_getElem?_getD,List.getElem?_eq_getElem hi] at this
  rw [show o[i] = secF s n i (valB b i) from this]
  exact (secF_v s hs n i _).2
 have sr : ∀ y ∈ r,y.size = 32 := fun y hy => by
  obtain ⟨i,hi,rfl⟩ := List.getElem_of_mem hy
  have := (e4 i (by omega)).2
  rw [List.getD_eq_getElem?_getD,List.getElem?_eq_getElem hi] at this
  rw [show r[i] = hF (secF s n i (1 - valB b i)) from this]
  have := (secF_v s hs n i (1 - valB b i)).2
  exact (hF_v _ (by omega)).2
 have q5' : q.length = 3 := by simpa using q5
 refine ⟨o,r,q,t,?_,?_,q4,e2,e3,q5',?_⟩
 ·rw [Zj.v_eq,b1,Option.bind_some,if_pos (by omega),Option.bind_some,hbl]
  rw [show ((0 : Nat) : Int) = 0 from rfl] at e1
  rw [e1,kv,Option.bind_some]
  exact q2
 ·rw [Zp.v_eq,kv,Option.bind_some];exact q3
 ·have f1 : decide ((m.size : Int) > 65530) = false := decide_eq_false (by omega)
  have f2 : ((t.size : Int) == 32) = true := by rw [q4];rfl
  have a1 : (decide ((o.length : Int) = 32) && o.all fun s => decide (s.size = 32)) = true := by rw [Bool.and_eq_true,List.all_eq_true];exact ⟨decide_eq_true (by omega),fun y hy => decide_eq_true (so y hy)⟩
  have a2 : (decide ((r.length : Int) = 32) && r.all fun s => decide (s.size = 32)) = true := by rw [Bool.and_eq_true,List.all_eq_true];exact ⟨decide_eq_true (by omega),fun y hy => decide_eq_true (sr y hy)⟩
  have a3 : (decide ((q.length : Int) = 3) && q.all fun s => decide (s.size = 32)) = true := by rw [Bool.and_eq_true,List.all_eq_true];exact ⟨decide_eq_true (by omega),fun y hy => decide_eq_true (q6 y hy)⟩
  have ix : inB (n : Int) 0 7 = true := by unfold inB;simp;omega
  have f0 : Yq.v [t] = some (decide ((t.size : Int) > 65536)) := long1 t
  have f3 : decide ((t.size : Int) > 65536) = false := decide_eq_false (by omega)
  simp only [Zi.v_eq,f0,f3,Option.bind_some,Bool.false_eq_true,if_false,f1,Zi.jv0_eq,Zi.jv1_eq,Yo.v_eq,f2,areHashes_i,a1,a2,a3,Bool.not_true,if_true,ZW.v_eq,impl_within_v,ix,hlead]
theorem enough_two (a b : Int) (h0 : 0 ≤ a) (h1 : a < b) (h2 : b ≤ 3) : ZL.v 4 [a,b] = some true := by
 have e : wrap64 ((wrap64 (Int.tdiv (wrap64 (4 - 1)) 3)) + 1) = 2 := by decide +kernel
 have w3 : wrap64 (4 - 1) = 3 := by decide +kernel
 have w1 : wrap64 (0 + 1) = 1 := by decide +kernel
 have w2 : wrap64 (1 + 1) = 2 := by decide +kernel
 have w0 : wrap64 (1 - 1) = 0 := by decide +kernel
 have hl : (([a,b] : List Int).length : Int) = 2 := rfl
 have r0 : rd [a,b] 0 = a := rfl
 have r1 : rd [a,b] 1 = b := rfl
 have i0 : inB a 0 3 = true := by unfold inB;simp;omega
 have i1 : inB b 0 3 = true := by unfold inB;simp;omega
 have hge : ¬ a ≥ b := by clear e w3 w1 w2 w0;omega
 rw [ZL.v_eq,e,w3,hl,if_pos rfl,ZG.v_eq,hl,ZG.lv0_eq,hl,if_pos (by decide),if_pos (by decide),if_pos (by decide),r0,impl_within_v,i0,Option.bind_some,if_pos rfl,if_neg (by decide),w1,
  ZG.lv0_eq,hl,if_pos (by decide),if_pos (by decide),if_pos (by decide),r1,impl_within_v,i1,Option.bind_some,if_pos rfl,if_pos (by decide),w0,if_pos (by decide),if_pos (by decide),r0,if_neg hge,w2,ZG.lv0_eq,if_neg (by decide)]
 rfl
theorem enough_one (a : Int) : ZL.v 4 [a] = some false := by
 have e : wrap64 ((wrap64 (Int.tdiv (wrap64 (4 - 1)) 3)) + 1) = 2 := by decide +kernel
 have hl : (([a] : List Int).length : Int) = 1 := rfl
 rw [ZL.v_eq,e,hl,if_neg (by decide)]
theorem part_of (id : Int) (n : Nat) (hn : n < 8) (a : ByteArray) (b c d : Int) (hg : grantB a b c d = true) : ∃ (s t root : ByteArray) (o r q : List ByteArray),ZE.v id = some s ∧ s.size = 32 ∧ ZO.v a b c d = some t ∧ Zj.v s n t = some ((n : Int),o,r,q) ∧
  Zp.v s = some root ∧ Zi.v root t n o r q = some 0 ∧ o.length ≤ 1000 ∧ r.length ≤ 1000 ∧ q.length ≤ 1000 := by
 obtain ⟨s,_,s2,s3⟩ := root_seed id
 obtain ⟨t,_,t2,t3⟩ := grantText_small a b c d hg
 obtain ⟨o,r,q,root,e1,e2,_,l1,l2,l3,e7⟩ := sign_checks s t (by omega) (by omega) n hn
 exact ⟨s,t,root,o,r,q,s2,s3,t2,e1,e2,e7,by omega,by omega,by omega⟩
theorem nodes4 : ZX.v 4 = some true := by decide +kernel
theorem made_two (x y : Int) (h0 : 0 ≤ x) (h1 : x < y) (h2 : y ≤ 3) (n : Nat) (hn : n < 8) (a : ByteArray) (b c d : Int) (ha : a.size ≤ 9223372036854775807) (hg : grantB a b c d = true) :
  ∃ sx sy : S37,Zg.v 4 a b c d [x,y] n = some (a,b,c,d,[x,y],[sx,sy],0) ∧ Zh.v 4 a b c d [x,y] [sx,sy] = some 0 ∧
   Zt.v y n a b c d = some (sy.f0,sy.f1,sy.f2,sy.f3,0) ∧ Zh.v 4 a b c d [x] [sx] = some 19 ∧ sy.f1.length ≤ 1000 ∧ sy.f2.length ≤ 1000 ∧ sy.f3.length ≤ 1000 := by
 obtain ⟨s,t,root,o,r,q,s1,s2,t1,e1,e2,e3,-,-,-⟩ := part_of x n hn a b c d hg
 obtain ⟨s',t',root',o',r',q',s1',s2',t1',e1',e2',e3',ly1,ly2,ly3⟩ := part_of y n hn a b c d hg
 rw [t1] at t1'
 obtain rfl := Option.some.inj t1'
 have hok : ZI.v a b c d = some true := by rw [grantOK_v a b c d ha];exact congrArg some hg
 have hix : ZW.v (n : Int) = some true := by
  have ix : inB (n : Int) 0 7 = true := by unfold inB;simp;omega
  rw [ZW.v_eq,impl_within_v,ix];rfl
 have hy6 : inB y 0 6 = true := by unfold inB;simp;omega
 have hl : (([x,y] : List Int).length : Int) = 2 := rfl
 have w1 : wrap64 (0 + 1) = 1 := by decide +kernel
 have w2 : wrap64 (1 + 1) = 2 := by decide +kernel
 have r0 : rd [x,y] 0 = x := rfl
 have r1 : rd [x,y] 1 = y := rfl
 refine ⟨⟨n,o,r,q⟩,⟨n,o',r',q'⟩,?_,?_,?_,?_,ly1,ly2,ly3⟩
 ·have hcl : Yd.v [x,y] = some [x,y] := by
   rw [Yd.v_eq,Option.bind_some,if_pos (by simp)];rfl
  rw [Zg.v_eq,Yc.v_eq,hl,Option.bind_some,if_neg (by decide),hok,Option.bind_some,if_pos rfl,nodes4,Option.bind_some,if_pos rfl,hix,Option.bind_some,Zg.jv0_eq,if_neg (by decide),enough_two x y h0 h1 h2,Option.bind_some,if_pos rfl,hcl,Option.bind_some,hl,
   Zg.lv0_eq,hl,if_pos (by decide),if_pos (by decide),if_pos (by decide),r0,s1,Option.bind_some,t1,Option.bind_some,e1,Option.bind_some,if_pos (by decide),w1,
   Zg.lv0_eq,hl,if_pos (by decide),if_pos (by decide),if_pos (by decide),r1,s1',Option.bind_some,t1,Option.bind_some,e1',Option.bind_some,if_pos (by simp),w2,Zg.lv0_eq,if_neg (by decide)]
  rfl
 ·have hs : (([⟨n,o,r,q⟩,⟨n,o',r',q'⟩] : List S37).length : Int) = 2 := rfl
  have g0 : rd_T37 [⟨n,o,r,q⟩,⟨n,o',r',q'⟩] 0 = ⟨n,o,r,q⟩ := rfl
  have g1 : rd_T37 [⟨n,o,r,q⟩,⟨n,o',r',q'⟩] 1 = ⟨n,o',r',q'⟩ := rfl
  rw [Zh.v_eq,hok,Option.bind_some,if_pos rfl,nodes4,Option.bind_some,if_pos rfl,enough_two x y h0 h1 h2,Option.bind_some,if_pos rfl,hs,hl,if_pos rfl,
   Zh.lv0_eq,hl,if_pos (by decide),if_pos (by decide),if_pos (by decide),r0,s1,Option.bind_some,e2,Option.bind_some,t1,Option.bind_some,hs,if_pos (by decide),g0,e3,Option.bind_some,if_pos rfl,w1,
   Zh.lv0_eq,hl,if_pos (by decide),if_pos (by decide),if_pos (by decide),r1,s1',Option.bind_some,e2',Option.bind_some,t1,Option.bind_some,hs,if_pos (by decide),g1,e3',Option.bind_some,if_pos rfl,w2,Zh.lv0_eq,if_neg (by decide)]
 ·rw [Zt.v_eq,hok,Option.bind_some,if_pos rfl,impl_within_v,hy6,Option.bind_some,if_pos rfl,hix,Option.bind_some,Zt.jv0_eq,if_neg (by decide),s1',Option.bind_some,t1,Option.bind_some,e1',Option.bind_some]
 ·rw [Zh.v_eq,hok,Option.bind_some,if_pos rfl,nodes4,Option.bind_some,if_pos rfl,enough_one,Option.bind_some,if_neg (by decide)]
def Src (m a s : Int) : Prop := 0 ≤ a ∧ a ≤ m ∧ 0 ≤ s ∧ s < 2147483648
theorem Src.mono {m m' a s : Int} (h : Src m a s) (hm : m ≤ m') : Src m' a s := ⟨h.1,Int.le_trans h.2.1 hm,h.2.2⟩
theorem rd_byte (l : List Int) (h : ∀ y ∈ l,(Lit.int .u8 y).wf = true) (i : Int) : 0 ≤ rd l i ∧ rd l i ≤ 255 := by
 unfold rd
 rw [List.getD]
 cases hq : l[i.toNat]? with
 | none => simp
 | some y => exact wf8 (h y (List.mem_of_getElem? hq))
theorem tmod_nn (x n : Int) (hx : 0 ≤ x) (hn : 0 < n) : 0 ≤ Int.tmod x n ∧ Int.tmod x n < n := by
 rw [Int.tmod_eq_emod_of_nonneg hx]
 exact ⟨Int.emod_nonneg _ (by omega),Int.emod_lt_of_pos _ hn⟩
theorem src_byte (code : List Int) (hc : ∀ y ∈ code,(Lit.int .u8 y).wf = true) (m a s : Int) (h : Src m a s) (hm : m ≤ 1000000000000) :
  ∃ r a' s',Zv.v code a s = some (r,a',s') ∧ 0 ≤ r ∧ r ≤ 255 ∧ Src (m + 1) a' s' := by
 obtain ⟨h1,h2,h3,h4⟩ := h
 have w1 : wrap64 (a + 1) = a + 1 := wrap_id (by omega) (by omega)
 have w2 : wrap64 (a + 1 - 1) = a := by rw [wrap_id (by omega) (by omega)];omega
 rw [Zv.v_eq]
 simp only [w1,w2]
 clear w1 w2
 have hb := rd_byte code hc a
 by_cases hl : a + 1 ≤ (code.length : Int)
 ·have c1 : a < (code.length : Int) := by omega
  rw [if_pos hl,if_pos h1,if_pos c1]
  have w3 : wrap64 (rd code a) = rd code a := wrap_id (by omega) (by omega)
  have w4 : wrap64 (s * 31) = s * 31 := wrap_id (by omega) (by omega)
  have w5 : wrap64 (s * 31 + rd code a) = s * 31 + rd code a := wrap_id (by omega) (by omega)
  have w6 : wrap64 (s * 31 + rd code a + 7) = s * 31 + rd code a + 7 := wrap_id (by omega) (by omega)
  simp only [w3,w4,w5,w6]
  clear w3 w4 w5 w6
  have ht := tmod_nn (s * 31 + rd code a + 7) 2147483648 (by omega) (by omega)
  exact ⟨_,_,_,rfl,hb.1,hb.2,by omega,by omega,ht.1,ht.2⟩
 ·rw [if_neg hl]
  by_cases h5 : a + 1 > 3000
  ·rw [if_pos h5]
   exact ⟨_,_,_,rfl,by omega,by omega,by omega,by omega,h3,h4⟩
  ·rw [if_neg h5]
   have w3 : wrap64 (s * 1103515245) = s * 1103515245 := wrap_id (by omega) (by omega)
   have w4 : wrap64 (s * 1103515245 + 12345) = s * 1103515245 + 12345 := wrap_id (by omega) (by omega)
   simp only [w3,w4]
   clear w3 w4
   have ht := tmod_nn (s * 1103515245 + 12345) 2147483648 (by omega) (by omega)
   generalize Int.tmod (s * 1103515245 + 12345) 2147483648 = u at ht
   have hd : Int.tdiv u 65536 = u / 65536 := Int.tdiv_eq_ediv_of_nonneg ht.1
   have w5 : wrap64 (u / 65536) = u / 65536 := wrap_id (by omega) (by omega)
   rw [hd,w5]
   clear w5
   have h6 := tmod_nn (u / 65536) 256 (by omega) (by omega)
   exact ⟨_,_,_,rfl,h6.1,by omega,by omega,by omega,ht.1,ht.2⟩
theorem src_next (code : List Int) (hc : ∀ y ∈ code,(Lit.int .u8 y).wf = true) (m a s n : Int) (h : Src m a s) (hm : m ≤ 900000000000) (hn : 1 ≤ n) :
  ∃ r a' s',ZQ.v code a s n = some (r,a',s') ∧ 0 ≤ r ∧ r < n ∧ Src (m + 3) a' s' := by
 rw [ZQ.v_eq]
 by_cases h1 : n ≤ 1
 ·rw [if_pos h1]
  obtain ⟨h2,h3,h4,h5⟩ := h
  exact ⟨_,_,_,rfl,by omega,by omega,h2,by omega,h4,h5⟩
 ·rw [if_neg h1]
  obtain ⟨r,a1,s1,e1,r0,r1,i1⟩ := src_byte code hc m a s h (by omega)
  have n0 : ¬ n = 0 := by omega
  by_cases h2 : n ≤ 256
  ·rw [if_pos h2,e1,Option.bind_some,if_neg n0]
   have := tmod_nn r n r0 (by omega)
   exact ⟨_,_,_,rfl,this.1,this.2,i1.mono (by omega)⟩
  ·obtain ⟨q,a2,s2,e2,q0,q1,i2⟩ := src_byte code hc (m + 1) a1 s1 i1 (by omega)
   obtain ⟨p,a3,s3,e3,p0,p1,i3⟩ := src_byte code hc (m + 1 + 1) a2 s2 i2 (by omega)
   rw [if_neg h2,e1,Option.bind_some]
   simp only
   rw [e2,Option.bind_some]
   simp only
   rw [e3,Option.bind_some,if_neg n0]
   have w1 : wrap64 (r * 65536) = r * 65536 := wrap_id (by omega) (by omega)
   have w2 : wrap64 (q * 256) = q * 256 := wrap_id (by omega) (by omega)
   have w3 : wrap64 (r * 65536 + q * 256) = r * 65536 + q * 256 := wrap_id (by omega) (by omega)
   have w4 : wrap64 (r * 65536 + q * 256 + p) = r * 65536 + q * 256 + p := wrap_id (by omega) (by omega)
   simp only [w1,w2,w3,w4]
   clear w1 w2 w3 w4
   have := tmod_nn (r * 65536 + q * 256 + p) n (by omega) (by omega)
   exact ⟨_,_,_,rfl,this.1,this.2,i3.mono (by omega)⟩
theorem src_pick (code : List Int) (hc : ∀ y ∈ code,(Lit.int .u8 y).wf = true) (m a s : Int) (l : List ByteArray) (h : Src m a s) (hm : m ≤ 900000000000) (hl : 1 ≤ l.length) :
  ∃ x a' s',Yp.v code a s l = some (x,a',s') ∧ x ∈ l ∧ Src (m + 3) a' s' := by
 obtain ⟨r,a1,s1,e1,r0,r1,i1⟩ := src_next code hc m a s l.length h hm (by omega)
 rw [Yp.v_eq,if_neg (by omega),e1,Option.bind_some,if_pos r0,if_pos r1]
 refine ⟨_,_,_,rfl,?_,i1⟩
 unfold rdOf
 rw [List.getD_eq_getElem?_getD,List.getElem?_eq_getElem (by omega)]
 exact List.getElem_mem _
theorem src_start (code : List Int) : ∃ s,Yw.v code = some (code,0,s) ∧ Src 0 0 s := by
 rw [Yw.v_eq]
 refine ⟨_,rfl,by omega,by omega,?_,?_⟩ <;> omega
theorem sameTexts_v (l : List ByteArray) (h : l.length ≤ 281474976710656) : Zn.v l l = some true := by
 rw [Zn.v_eq,if_pos rfl,loop_all (L := fun i => Zn.lv0 l l i) (fun _ => true) l.length (by omega) (fun i h0 h1 => by
  show Zn.lv0 l l i = _
  rw [Zn.lv0_eq,if_pos h1,if_pos h0,if_pos h1,if_pos rfl];rfl) (fun i h0 h1 => by
  show Zn.lv0 l l i = _
  rw [Zn.lv0_eq,if_neg (by omega)]) _ 0 rfl (by omega),(allI_iff _ _ _ _ rfl).2 (fun _ _ _ => rfl)]
theorem at_nc (l : List Int) (g : ∀ y ∈ l,(Lit.int .u8 y).wf = true) (hl : l.length ≤ 1048576) (i : Int) (h0 : 0 ≤ i) (h1 : i ≤ 1000) (n : Int) (n0 : 2 ≤ n) (n1 : n ≤ 300) : ∃ t,Yy.v l i n = some t ∧ 0 ≤ t ∧ t < n := by
 rw [Yy.v_eq,if_neg (by omega)]
 by_cases c : (l.length : Int) = 0
 ·rw [if_pos c,if_neg (by omega)]
  have := tmod_nn (wrap64 (i * 7)) n (by rw [wrap_id (by omega) (by omega)];omega) (by omega)
  exact ⟨_,rfl,this.1,this.2⟩
 ·have m1 := tmod_nn i l.length h0 (by omega)
  have m2 := tmod_nn (wrap64 (i + 1)) l.length (by rw [wrap_id (by omega) (by omega)];omega) (by omega)
  rw [if_neg c,if_pos m1.1,if_pos m1.2,if_pos m2.1,if_pos m2.2,if_neg (by omega)]
  obtain ⟨a,ha⟩ : ∃ a,a = rd l (Int.tmod i l.length) := ⟨_,rfl⟩
  obtain ⟨b,hb⟩ : ∃ b,b = rd l (Int.tmod (wrap64 (i + 1)) l.length) := ⟨_,rfl⟩
  have ra := rd_byte l g (Int.tmod i l.length)
  have rb := rd_byte l g (Int.tmod (wrap64 (i + 1)) l.length)
  rw [← ha] at ra
  rw [← hb] at rb
  rw [← ha,← hb]
  obtain ⟨e,he⟩ : ∃ e,e = Int.tdiv i l.length := ⟨_,rfl⟩
  have re : 0 ≤ e ∧ e ≤ 1000 := by
   rw [he,Int.tdiv_eq_ediv_of_nonneg h0]
   exact ⟨Int.ediv_nonneg h0 (by omega),Int.le_trans (Int.ediv_le_self _ h0) h1⟩
  rw [← he]
  clear ha hb he m1 m2
  have w1 : wrap64 a = a := wrap_id (by omega) (by omega)
  have w2 : wrap64 b = b := wrap_id (by omega) (by omega)
  have w3 : wrap64 e = e := wrap_id (by omega) (by omega)
  have w4 : wrap64 (a * 31) = a * 31 := wrap_id (by omega) (by omega)
  have w5 : wrap64 (a * 31 + b) = a * 31 + b := wrap_id (by omega) (by omega)
  have w6 : wrap64 (a * 31 + b + e) = a * 31 + b + e := wrap_id (by omega) (by omega)
  rw [w1,w2,w3,w4,w5,w6]
  have := tmod_nn (a * 31 + b + e) n (by omega) (by omega)
  exact ⟨_,rfl,this.1,this.2⟩
def gnamesC : List ByteArray := [⟨#[97]⟩,⟨#[98]⟩,⟨#[108,111,99,107]⟩]
theorem gnamesC_facts : ∀ t ∈ gnamesC,t.size ≤ 4 ∧ nameB t = true ∧ (32 : UInt8) ∉ t.data.toList := by
 intro t h
 unfold gnamesC at h
 simp only [List.mem_cons,List.not_mem_nil,or_false] at h
 rcases h with rfl | rfl | rfl <;> exact ⟨by decide,by decide,by decide⟩
theorem grantOf_c (code : List Int) (hc : ∀ y ∈ code,(Lit.int .u8 y).wf = true) : ∃ a b c d,Yv.v code = some (a,b,c,d) ∧ a ∈ gnamesC ∧ (0 ≤ b ∧ b ≤ 2) ∧ (1 ≤ c ∧ c ≤ 3) ∧ (0 ≤ d ∧ d ≤ 20) := by
 obtain ⟨s,e0,i0⟩ := src_start code
 obtain ⟨nm,a1,s1,e1,hn,i1⟩ := src_pick code hc _ 0 s gnamesC i0 (by omega) (by decide)
 obtain ⟨b,a2,s2,e2,b0,b1,i2⟩ := src_next code hc _ a1 s1 3 i1 (by omega) (by omega)
 obtain ⟨c,a3,s3,e3,c0,c1,i3⟩ := src_next code hc _ a2 s2 3 i2 (by omega) (by omega)
 obtain ⟨d,a4,s4,e4,d0,d1,i4⟩ := src_next code hc _ a3 s3 3 i3 (by omega) (by omega)
 have e1' : Yp.v code 0 s (([(⟨#[97]⟩ : ByteArray),(⟨#[98]⟩ : ByteArray),(⟨#[108,111,99,107]⟩ : ByteArray)] : List ByteArray)) = some (nm,a1,s1) := e1
 have w1 : wrap64 (1 + c) = 1 + c := wrap_id (by omega) (by omega)
 have w2 : wrap64 (d * 10) = d * 10 := wrap_id (by omega) (by omega)
 rw [Yv.v_eq,e0,Option.bind_some,Yu.v_eq]
 simp only [e1',e2,e3,e4,Option.bind_some,w1,w2]
 clear w1 w2
 exact ⟨_,_,_,_,rfl,hn,by omega,by omega,by omega⟩
theorem gBc (a : ByteArray) (b c d : Int) (ha : a ∈ gnamesC) (hb : 0 ≤ b ∧ b ≤ 2) (hc : 1 ≤ c ∧ c ≤ 3) (hd : 0 ≤ d ∧ d ≤ 20) : grantB a b c d = true := by
 obtain ⟨h1,h2,-⟩ := gnamesC_facts a ha
 unfold grantB inB
 rw [h2,decide_eq_true (show (a.size : Int) ≤ 12 by omega),decide_eq_true (show (0 : Int) ≤ b ∧ b ≤ 255 by omega),decide_eq_true (show (1 : Int) ≤ c ∧ c ≤ 1000000 by omega),decide_eq_true (show (0 : Int) ≤ d ∧ d ≤ 2000000000 by omega)]
 rfl
theorem drawn_grant (code : List Int) (hc : ∀ y ∈ code,(Lit.int .u8 y).wf = true) : ∃ a b c d,Yv.v code = some (a,b,c,d) ∧ a.size ≤ 9223372036854775807 ∧ grantB a b c d = true ∧ 1 ≤ c ∧ c ≤ 3 := by
 obtain ⟨a,b,c,d,e,ha,hb,hcc,hd⟩ := grantOf_c code hc
 exact ⟨a,b,c,d,e,by have := (gnamesC_facts a ha).1;omega,gBc a b c d ha hb hcc hd,hcc.1,hcc.2⟩
def pairC (t : Int) : List Int := if t = 0 then [0,1] else if t = 1 then [0,2] else if t = 2 then [1,3] else [2,3]
theorem pairC_two (t : Int) : ∃ x y : Int,pairC t = [x,y] ∧ 0 ≤ x ∧ x < y ∧ y ≤ 3 := by
 unfold pairC
 split
 ·exact ⟨0,1,rfl,by decide,by decide,by decide⟩
 ·split
  ·exact ⟨0,2,rfl,by decide,by decide,by decide⟩
  ·split
   ·exact ⟨1,3,rfl,by decide,by decide,by decide⟩
   ·exact ⟨2,3,rfl,by decide,by decide,by decide⟩
theorem node_root (y : Int) (h0 : 0 ≤ y) (h1 : y ≤ 6) : ∃ s root,ZY.v y = some (s,0) ∧ ZZ.v y = some (root,0) ∧ ZS.v s = some (root,0) := by
 obtain ⟨s,_,s2,s3⟩ := root_seed y
 obtain ⟨l,t,k1,k2,k3,k4⟩ := chain_one s (by omega)
 have hy : inB y 0 6 = true := by unfold inB;simp;omega
 refine ⟨s,t,?_,?_,?_⟩
 ·rw [ZY.v_eq,impl_within_v,hy,Option.bind_some,if_pos rfl,s2,Option.bind_some]
 ·rw [ZZ.v_eq,impl_within_v,hy,Option.bind_some,if_pos rfl,s2,Option.bind_some,k3,Option.bind_some]
 ·rw [ZS.v_eq,if_neg (by omega),if_pos (by omega),k1,Option.bind_some,k2,Option.bind_some]
theorem same_sig (i : Int) (o r q : List ByteArray) (h1 : o.length ≤ 1000) (h2 : r.length ≤ 1000) (h3 : q.length ≤ 1000) : ZN.v i o r q i o r q = some true := by
 rw [ZN.v_eq,if_pos rfl,sameTexts_v o (by omega),Option.bind_some,if_pos rfl,sameTexts_v r (by omega),Option.bind_some,if_pos rfl,sameTexts_v q (by omega),Option.bind_some]
theorem pick_pair {t : Int} (h0 : 0 ≤ t) (h1 : t < 4) : ([[0,1],[0,2],[1,3],[2,3]] : List (List Int)).getD t.toNat [] = pairC t := by
 obtain ⟨n,rfl⟩ := Int.eq_ofNat_of_zero_le h0
 have hn : n < 4 := by omega
 match n,hn with
 | 0,_ => rfl
 | 1,_ => rfl
 | 2,_ => rfl
 | 3,_ => rfl
theorem FnCertificates_pure (y0 : List Int) (y1 : List Int) : (y0.length ≤ 9223372036854775807 ∧ ∀ y ∈ y0,(Lit.int .u8 y).wf = true) → (y1.length ≤ 9223372036854775807 ∧ ∀ y ∈ y1,(Lit.int .u8 y).wf = true) → Zc.v y0 y1 = some true := by
 rintro ⟨-,hc⟩ ⟨-,hm⟩
 rw [Zc.v_eq]
 by_cases c1 : (y0.length : Int) > 1048576
 ·rw [if_pos c1,Zc.jv0_eq,if_pos rfl]
 rw [if_neg c1]
 by_cases c2 : (y1.length : Int) > 1048576
 ·rw [decide_eq_true c2,Zc.jv0_eq,if_pos rfl]
 rw [decide_eq_false c2,Zc.jv0_eq,if_neg (by decide)]
 obtain ⟨a,b,c,d,e,ha,hg,hc1,hc3⟩ := drawn_grant y0 hc
 obtain ⟨t,e1,t0,t1⟩ := at_nc y1 hm (by omega) 0 (by decide) (by decide) 4 (by decide) (by decide)
 obtain ⟨k,e2,k0,k1⟩ := at_nc y1 hm (by omega) 1 (by decide) (by decide) 8 (by decide) (by decide)
 have hr : Yz.v y1 = some (pairC t) := by rw [Yz.v_eq,e1,Option.bind_some,if_pos ⟨t0,t1⟩,pick_pair t0 t1]
 obtain ⟨x,y,hp,x0,xy,y3⟩ := pairC_two t
 obtain ⟨n,rfl⟩ := Int.eq_ofNat_of_zero_le k0
 obtain ⟨sx,sy,m1,m2,m3,m4,l1,l2,l3⟩ := made_two x y x0 xy y3 n (by omega) a b c d ha hg
 obtain ⟨s,root,n1,n2,n3⟩ := node_root y (by omega) (by omega)
 have hl : (([x,y] : List Int).length : Int) = 2 := rfl
 have hs : (([sx,sy] : List S37).length : Int) = 2 := rfl
 have hx : rd [x,y] 1 = y := rfl
 have hy : rd_T37 [sx,sy] 1 = sy := rfl
 have w : wrap64 (c + 1) = c + 1 := wrap_id (by omega) (by omega)
 obtain ⟨r,o1,o2⟩ := checkCert_one 4 a b (wrap64 (c + 1)) d [x,y] [sx,sy] ha (by simp)
 have hn0 : ((0 : Int) != 0) = false := rfl
 have tx : ([x,y] : List Int).take (1 : Int).toNat = [x] := rfl
 have ty : ([sx,sy] : List S37).take (1 : Int).toNat = [sx] := rfl
 rw [e,Option.bind_some,hr,Option.bind_some,e2,Option.bind_some,hp]
 simp only [Int.ofNat_eq_natCast] at m1 m3 ⊢
 rw [m1,Option.bind_some]
 simp only [hl,hs,if_true,m2,Option.bind_some,hn0]
 rw [Zc.jv1_eq,if_neg (by decide),hl,if_pos (by decide),hx,m3,Option.bind_some,n1,Option.bind_some,n2,Option.bind_some]
 simp only [n3,Option.bind_some,if_true,hs,hy]
 rw [if_pos (by decide),same_sig _ _ _ _ l1 l2 l3,Option.bind_some,Zc.jv2_eq,if_neg (by decide),hl,hs,if_pos (by decide),if_pos (by decide),o2,Option.bind_some,o1,Option.bind_some,if_pos rfl,tx,ty,m4,Option.bind_some]
 rfl
end Go.Proofs.YtkfhejklnmkfmaaDoor.A
end
