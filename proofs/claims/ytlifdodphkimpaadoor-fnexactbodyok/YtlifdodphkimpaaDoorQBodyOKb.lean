/- A part of the proof that FnExactBodyOK returns true at every input: plain functions, contracts and lemmas. No conditions. -/
import Derived.Test.YtlifdodphkimpaaDoorQBodyOKa
set_option linter.unusedVariables false
set_option linter.unusedSimpArgs false
set_option linter.unusedSectionVars false
section
namespace Go.Proofs.YtlifdodphkimpaaDoor.C
open Go.RowKit Go.Proofs.YtlifdodphkimpaaDoorW.PrintWords Go.Proofs.YtlifdodphkimpaaDoorW.PrintLast Go.Proofs.YtlifdodphkimpaaDoorW.PrintMore
attribute [local go_sem] max2_int min2_int max_two min_two max_three min_three max_four min_four
def spec_l02ReadRequest.j0 : Nat → ByteArray → Bool → Option (Int × Int × Int × Int × ByteArray × Bool)
  | 0, _, _ => none
  | k + 1, x0, x16 => if x16 = true then (some (0, 0, 0, 0, (⟨#[]⟩ : ByteArray), false)) else (if 0 < (x0.size : Int) then (if 1 ≤ 3 then (if 3 ≤ (x0.size : Int) then ((spec_l02Of.f k (x0.extract 1 3)).bind fun t1306 => (if 3 < (x0.size : Int) then (if 4 ≤ 6 then (if 6 ≤ (x0.size : Int) then ((spec_l02Of.f k (x0.extract 4 6)).bind fun t1307 => (if 7 ≤ (x0.size : Int) then ((spec_RequestOK.f k (wrap64 (bt x0 0)) t1306 (wrap64 (bt x0 3)) t1307 (x0.extract 7 x0.size)).bind fun t1309 => (some (wrap64 (bt x0 0), t1306, wrap64 (bt x0 3), t1307, x0.extract 7 x0.size, t1309))) else (none))) else (none)) else (none)) else (none))) else (none)) else (none)) else (none))
def spec_l02ReadRequest.f (k : Nat) (a0 : ByteArray) : Option (Int × Int × Int × Int × ByteArray × Bool) := if (a0.size : Int) < 7 then (spec_l02ReadRequest.j0 k a0 true) else (if 6 < (a0.size : Int) then (spec_l02ReadRequest.j0 k a0 ((a0.size : Int) != (wrap64 (7 + (wrap64 (bt a0 6)))))) else (none))
theorem spec_l02ReadRequest.mono_l : ∀ k, (∀ y0 y1, LeO (spec_l02ReadRequest.j0 k y0 y1) (spec_l02ReadRequest.j0 (k + 1) y0 y1))
  | 0 => fun _ _ r h => by simp [spec_l02ReadRequest.j0] at h
  | k + 1 => by
    have ih0 := spec_l02ReadRequest.mono_l k
    · intro y0 y1
      unfold spec_l02ReadRequest.j0
      repeat' first
      | (with_reducible exact ih0 _ _)
      | (with_reducible exact spec_RequestOK.mono _ _ _ _ _ _)
      | (with_reducible exact spec_l02Of.mono _ _)
      | (with_reducible exact LeO.refl _)
      | (with_reducible exact LeO.none _)
      | (with_reducible refine LeO.ite ?_ ?_)
      | (with_reducible refine LeO.bind ?_ (fun _ => ?_))
      | exact ih0 _ _
      | exact spec_RequestOK.mono _ _ _ _ _ _
      | exact spec_l02Of.mono _ _
      | exact LeO.none _
      | refine LeO.ite ?_ ?_
      | refine LeO.bind ?_ (fun _ => ?_)
theorem spec_l02ReadRequest.mono : ∀ a0 k, LeO (spec_l02ReadRequest.f k a0) (spec_l02ReadRequest.f (k + 1) a0) := by
  intro a0 k
  have ih0 := spec_l02ReadRequest.mono_l k
  unfold spec_l02ReadRequest.f
  repeat' first
      | (with_reducible exact ih0 _ _)
      | (with_reducible exact spec_RequestOK.mono _ _ _ _ _ _)
      | (with_reducible exact spec_l02Of.mono _ _)
      | (with_reducible exact LeO.refl _)
      | (with_reducible exact LeO.none _)
      | (with_reducible refine LeO.ite ?_ ?_)
      | (with_reducible refine LeO.bind ?_ (fun _ => ?_))
      | exact ih0 _ _
      | exact spec_RequestOK.mono _ _ _ _ _ _
      | exact spec_l02Of.mono _ _
      | exact LeO.none _
      | refine LeO.ite ?_ ?_
      | refine LeO.bind ?_ (fun _ => ?_)
noncomputable def spec_l02ReadRequest.jv0 (x0 : ByteArray) (x16 : Bool) : Option (Int × Int × Int × Int × ByteArray × Bool) := lim (fun k_ => spec_l02ReadRequest.j0 k_ x0 x16)
noncomputable def spec_l02ReadRequest.v (a0 : ByteArray) : Option (Int × Int × Int × Int × ByteArray × Bool) := lim (fun k_ => spec_l02ReadRequest.f k_ a0)
theorem spec_l02ReadRequest.jv0_lim (x0 : ByteArray) (x16 : Bool) : LimIs (fun k_ => spec_l02ReadRequest.j0 k_ x0 x16) (spec_l02ReadRequest.jv0 x0 x16) := lim_is (fun k_ => (spec_l02ReadRequest.mono_l k_) x0 x16)
theorem spec_l02ReadRequest.v_lim (a0 : ByteArray) : LimIs (fun k_ => spec_l02ReadRequest.f k_ a0) (spec_l02ReadRequest.v a0) := lim_is (fun k_ => spec_l02ReadRequest.mono a0 k_)
theorem spec_l02ReadRequest.jv0_eq (x0 : ByteArray) (x16 : Bool) : spec_l02ReadRequest.jv0 x0 x16 = (if x16 = true then (some (0, 0, 0, 0, (⟨#[]⟩ : ByteArray), false)) else (if 0 < (x0.size : Int) then (if 1 ≤ 3 then (if 3 ≤ (x0.size : Int) then ((spec_l02Of.v (x0.extract 1 3)).bind fun t1306 => (if 3 < (x0.size : Int) then (if 4 ≤ 6 then (if 6 ≤ (x0.size : Int) then ((spec_l02Of.v (x0.extract 4 6)).bind fun t1307 => (if 7 ≤ (x0.size : Int) then ((spec_RequestOK.v (wrap64 (bt x0 0)) t1306 (wrap64 (bt x0 3)) t1307 (x0.extract 7 x0.size)).bind fun t1309 => (some (wrap64 (bt x0 0), t1306, wrap64 (bt x0 3), t1307, x0.extract 7 x0.size, t1309))) else (none))) else (none)) else (none)) else (none))) else (none)) else (none)) else (none)) : Option (Int × Int × Int × Int × ByteArray × Bool)) := by
  refine LimIs.eq (spec_l02ReadRequest.jv0_lim x0 x16) ?_
  refine LimIs.step (fun k_ => (spec_l02ReadRequest.mono_l k_) x0 x16) ?_
  simp only [spec_l02ReadRequest.j0]
  repeat' (with_reducible first | exact spec_RequestOK.v_lim _ _ _ _ _ | exact spec_l02Of.v_lim _ | exact LimIs.const _ | refine LimIs.ite ?_ ?_ | refine LimIs.bind ?_ (fun _ => ?_))
theorem spec_l02ReadRequest.v_eq (a0 : ByteArray) : spec_l02ReadRequest.v a0 = (if (a0.size : Int) < 7 then (spec_l02ReadRequest.jv0 a0 true) else (if 6 < (a0.size : Int) then (spec_l02ReadRequest.jv0 a0 ((a0.size : Int) != (wrap64 (7 + (wrap64 (bt a0 6)))))) else (none)) : Option (Int × Int × Int × Int × ByteArray × Bool)) := by
  refine LimIs.eq (spec_l02ReadRequest.v_lim a0) ?_
  simp only [spec_l02ReadRequest.f]
  repeat' (with_reducible first | exact spec_l02ReadRequest.jv0_lim _ _ | exact LimIs.const _ | refine LimIs.ite ?_ ?_ | refine LimIs.bind ?_ (fun _ => ?_))
def spec_l02Reading.f (a0_0 : Int) (a0_1 : Int) (a0_2 : ByteArray) : Option (Bool) := (spec_l01In.f a0_0 0 6).bind fun t1311 => (if t1311 = true then ((spec_l01In.f a0_1 0 1000000000).bind fun t1312 => (if t1312 = true then (some ((a0_2.size : Int) == 8)) else (some false))) else (some false))
def spec_l02Reading.v (a0_0 : Int) (a0_1 : Int) (a0_2 : ByteArray) : Option (Bool) := spec_l02Reading.f a0_0 a0_1 a0_2
theorem spec_l02Reading.v_lim (a0_0 : Int) (a0_1 : Int) (a0_2 : ByteArray) : LimIs (fun _ => spec_l02Reading.f a0_0 a0_1 a0_2) (spec_l02Reading.v a0_0 a0_1 a0_2) := LimIs.const _
theorem spec_l02Reading.v_eq (a0_0 : Int) (a0_1 : Int) (a0_2 : ByteArray) : spec_l02Reading.v a0_0 a0_1 a0_2 = ((spec_l01In.v a0_0 0 6).bind fun t1311 => (if t1311 = true then ((spec_l01In.v a0_1 0 1000000000).bind fun t1312 => (if t1312 = true then (some ((a0_2.size : Int) == 8)) else (some false))) else (some false)) : Option (Bool)) := rfl
mutual
def spec_l02BatchOK.j0 : Nat → Bool → Bool → Int → Int → Int → Int → ByteArray → List (S185) → Option (Bool)
  | 0, _, _, _, _, _, _, _, _ => none
  | k + 1, x25, x1314000, x1314001, x1314002, x1314003, x1314004, x1314005, x1314006 => if x25 = true then (some false) else (spec_l02BatchOK.l0 k 0 x1314000 x1314001 x1314002 x1314003 x1314004 x1314005 x1314006)
def spec_l02BatchOK.l0 : Nat → Int → Bool → Int → Int → Int → Int → ByteArray → List (S185) → Option (Bool)
  | 0, _, _, _, _, _, _, _, _ => none
  | k + 1, x3, x1314000, x1314001, x1314002, x1314003, x1314004, x1314005, x1314006 => if x3 < (x1314006.length : Int) then (if 0 ≤ x3 then ((spec_l02Reading.f ((rd_T185 x1314006 x3).f0) ((rd_T185 x1314006 x3).f1) ((rd_T185 x1314006 x3).f2)).bind fun t1316 => (if t1316 = true then (if x3 > 0 then (if 0 ≤ (wrap64 (x3 - 1)) then (if (wrap64 (x3 - 1)) < (x1314006.length : Int) then (if ((rd_T185 x1314006 (wrap64 (x3 - 1))).f0) ≥ ((rd_T185 x1314006 x3).f0) then (some false) else (spec_l02BatchOK.l0 k (wrap64 (x3 + 1)) x1314000 x1314001 x1314002 x1314003 x1314004 x1314005 x1314006)) else (none)) else (none)) else (spec_l02BatchOK.l0 k (wrap64 (x3 + 1)) x1314000 x1314001 x1314002 x1314003 x1314004 x1314005 x1314006)) else (some false))) else (none)) else (some true)
end
def spec_l02BatchOK.f (k : Nat) (a0_0 : Bool) (a0_1 : Int) (a0_2 : Int) (a0_3 : Int) (a0_4 : Int) (a0_5 : ByteArray) (l0_6 : List (S185)) : Option (Bool) := if a0_0 = true then (if (a0_1 == 0 && (a0_2 == 0 && (a0_3 == 0 && (a0_4 == 0 && (a0_5.toList == ([] : List UInt8)))))) = true then (some ((l0_6.length : Int) == 0)) else (some false)) else ((spec_RequestOK.f k a0_1 a0_2 a0_3 a0_4 a0_5).bind fun t1314 => (if t1314 = true then (spec_l02BatchOK.j0 k (decide ((l0_6.length : Int) > 7)) a0_0 a0_1 a0_2 a0_3 a0_4 a0_5 l0_6) else (spec_l02BatchOK.j0 k true a0_0 a0_1 a0_2 a0_3 a0_4 a0_5 l0_6)))
theorem spec_l02BatchOK.mono_l : ∀ k, (∀ y0 y1 y2 y3 y4 y5 y6 y7, LeO (spec_l02BatchOK.j0 k y0 y1 y2 y3 y4 y5 y6 y7) (spec_l02BatchOK.j0 (k + 1) y0 y1 y2 y3 y4 y5 y6 y7)) ∧ (∀ y0 y1 y2 y3 y4 y5 y6 y7, LeO (spec_l02BatchOK.l0 k y0 y1 y2 y3 y4 y5 y6 y7) (spec_l02BatchOK.l0 (k + 1) y0 y1 y2 y3 y4 y5 y6 y7))
  | 0 => ⟨fun _ _ _ _ _ _ _ _ r h => by simp [spec_l02BatchOK.j0] at h, fun _ _ _ _ _ _ _ _ r h => by simp [spec_l02BatchOK.l0] at h⟩
  | k + 1 => by
    obtain ⟨ih0, ih1⟩ := spec_l02BatchOK.mono_l k
    refine ⟨?_, ?_⟩
    · intro y0 y1 y2 y3 y4 y5 y6 y7
      unfold spec_l02BatchOK.j0
      repeat' first
      | (with_reducible exact ih0 _ _ _ _ _ _ _ _)
      | (with_reducible exact ih1 _ _ _ _ _ _ _ _)
      | (with_reducible exact spec_RequestOK.mono _ _ _ _ _ _)
      | (with_reducible exact LeO.refl _)
      | (with_reducible exact LeO.none _)
      | (with_reducible refine LeO.ite ?_ ?_)
      | (with_reducible refine LeO.bind ?_ (fun _ => ?_))
      | exact ih0 _ _ _ _ _ _ _ _
      | exact ih1 _ _ _ _ _ _ _ _
      | exact spec_RequestOK.mono _ _ _ _ _ _
      | exact LeO.none _
      | refine LeO.ite ?_ ?_
      | refine LeO.bind ?_ (fun _ => ?_)
    · intro y0 y1 y2 y3 y4 y5 y6 y7
      unfold spec_l02BatchOK.l0
      repeat' first
      | (with_reducible exact ih0 _ _ _ _ _ _ _ _)
      | (with_reducible exact ih1 _ _ _ _ _ _ _ _)
      | (with_reducible exact spec_RequestOK.mono _ _ _ _ _ _)
      | (with_reducible exact LeO.refl _)
      | (with_reducible exact LeO.none _)
      | (with_reducible refine LeO.ite ?_ ?_)
      | (with_reducible refine LeO.bind ?_ (fun _ => ?_))
      | exact ih0 _ _ _ _ _ _ _ _
      | exact ih1 _ _ _ _ _ _ _ _
      | exact spec_RequestOK.mono _ _ _ _ _ _
      | exact LeO.none _
      | refine LeO.ite ?_ ?_
      | refine LeO.bind ?_ (fun _ => ?_)
theorem spec_l02BatchOK.mono : ∀ a0 a1 a2 a3 a4 a5 a6 k, LeO (spec_l02BatchOK.f k a0 a1 a2 a3 a4 a5 a6) (spec_l02BatchOK.f (k + 1) a0 a1 a2 a3 a4 a5 a6) := by
  intro a0 a1 a2 a3 a4 a5 a6 k
  obtain ⟨ih0, ih1⟩ := spec_l02BatchOK.mono_l k
  unfold spec_l02BatchOK.f
  repeat' first
      | (with_reducible exact ih0 _ _ _ _ _ _ _ _)
      | (with_reducible exact ih1 _ _ _ _ _ _ _ _)
      | (with_reducible exact spec_RequestOK.mono _ _ _ _ _ _)
      | (with_reducible exact LeO.refl _)
      | (with_reducible exact LeO.none _)
      | (with_reducible refine LeO.ite ?_ ?_)
      | (with_reducible refine LeO.bind ?_ (fun _ => ?_))
      | exact ih0 _ _ _ _ _ _ _ _
      | exact ih1 _ _ _ _ _ _ _ _
      | exact spec_RequestOK.mono _ _ _ _ _ _
      | exact LeO.none _
      | refine LeO.ite ?_ ?_
      | refine LeO.bind ?_ (fun _ => ?_)
noncomputable def spec_l02BatchOK.jv0 (x25 : Bool) (x1314000 : Bool) (x1314001 : Int) (x1314002 : Int) (x1314003 : Int) (x1314004 : Int) (x1314005 : ByteArray) (x1314006 : List (S185)) : Option (Bool) := lim (fun k_ => spec_l02BatchOK.j0 k_ x25 x1314000 x1314001 x1314002 x1314003 x1314004 x1314005 x1314006)
noncomputable def spec_l02BatchOK.lv0 (x3 : Int) (x1314000 : Bool) (x1314001 : Int) (x1314002 : Int) (x1314003 : Int) (x1314004 : Int) (x1314005 : ByteArray) (x1314006 : List (S185)) : Option (Bool) := lim (fun k_ => spec_l02BatchOK.l0 k_ x3 x1314000 x1314001 x1314002 x1314003 x1314004 x1314005 x1314006)
noncomputable def spec_l02BatchOK.v (a0_0 : Bool) (a0_1 : Int) (a0_2 : Int) (a0_3 : Int) (a0_4 : Int) (a0_5 : ByteArray) (l0_6 : List (S185)) : Option (Bool) := lim (fun k_ => spec_l02BatchOK.f k_ a0_0 a0_1 a0_2 a0_3 a0_4 a0_5 l0_6)
theorem spec_l02BatchOK.jv0_lim (x25 : Bool) (x1314000 : Bool) (x1314001 : Int) (x1314002 : Int) (x1314003 : Int) (x1314004 : Int) (x1314005 : ByteArray) (x1314006 : List (S185)) : LimIs (fun k_ => spec_l02BatchOK.j0 k_ x25 x1314000 x1314001 x1314002 x1314003 x1314004 x1314005 x1314006) (spec_l02BatchOK.jv0 x25 x1314000 x1314001 x1314002 x1314003 x1314004 x1314005 x1314006) := lim_is (fun k_ => (spec_l02BatchOK.mono_l k_).1 x25 x1314000 x1314001 x1314002 x1314003 x1314004 x1314005 x1314006)
theorem spec_l02BatchOK.lv0_lim (x3 : Int) (x1314000 : Bool) (x1314001 : Int) (x1314002 : Int) (x1314003 : Int) (x1314004 : Int) (x1314005 : ByteArray) (x1314006 : List (S185)) : LimIs (fun k_ => spec_l02BatchOK.l0 k_ x3 x1314000 x1314001 x1314002 x1314003 x1314004 x1314005 x1314006) (spec_l02BatchOK.lv0 x3 x1314000 x1314001 x1314002 x1314003 x1314004 x1314005 x1314006) := lim_is (fun k_ => (spec_l02BatchOK.mono_l k_).2 x3 x1314000 x1314001 x1314002 x1314003 x1314004 x1314005 x1314006)
theorem spec_l02BatchOK.v_lim (a0_0 : Bool) (a0_1 : Int) (a0_2 : Int) (a0_3 : Int) (a0_4 : Int) (a0_5 : ByteArray) (l0_6 : List (S185)) : LimIs (fun k_ => spec_l02BatchOK.f k_ a0_0 a0_1 a0_2 a0_3 a0_4 a0_5 l0_6) (spec_l02BatchOK.v a0_0 a0_1 a0_2 a0_3 a0_4 a0_5 l0_6) := lim_is (fun k_ => spec_l02BatchOK.mono a0_0 a0_1 a0_2 a0_3 a0_4 a0_5 l0_6 k_)
theorem spec_l02BatchOK.jv0_eq (x25 : Bool) (x1314000 : Bool) (x1314001 : Int) (x1314002 : Int) (x1314003 : Int) (x1314004 : Int) (x1314005 : ByteArray) (x1314006 : List (S185)) : spec_l02BatchOK.jv0 x25 x1314000 x1314001 x1314002 x1314003 x1314004 x1314005 x1314006 = (if x25 = true then (some false) else (spec_l02BatchOK.lv0 0 x1314000 x1314001 x1314002 x1314003 x1314004 x1314005 x1314006) : Option (Bool)) := by
  refine LimIs.eq (spec_l02BatchOK.jv0_lim x25 x1314000 x1314001 x1314002 x1314003 x1314004 x1314005 x1314006) ?_
  refine LimIs.step (fun k_ => (spec_l02BatchOK.mono_l k_).1 x25 x1314000 x1314001 x1314002 x1314003 x1314004 x1314005 x1314006) ?_
  simp only [spec_l02BatchOK.j0]
  repeat' (with_reducible first | exact spec_l02BatchOK.lv0_lim _ _ _ _ _ _ _ _ | exact LimIs.const _ | refine LimIs.ite ?_ ?_ | refine LimIs.bind ?_ (fun _ => ?_))
theorem spec_l02BatchOK.lv0_eq (x3 : Int) (x1314000 : Bool) (x1314001 : Int) (x1314002 : Int) (x1314003 : Int) (x1314004 : Int) (x1314005 : ByteArray) (x1314006 : List (S185)) : spec_l02BatchOK.lv0 x3 x1314000 x1314001 x1314002 x1314003 x1314004 x1314005 x1314006 = (if x3 < (x1314006.length : Int) then (if 0 ≤ x3 then ((spec_l02Reading.v ((rd_T185 x1314006 x3).f0) ((rd_T185 x1314006 x3).f1) ((rd_T185 x1314006 x3).f2)).bind fun t1316 => (if t1316 = true then (if x3 > 0 then (if 0 ≤ (wrap64 (x3 - 1)) then (if (wrap64 (x3 - 1)) < (x1314006.length : Int) then (if ((rd_T185 x1314006 (wrap64 (x3 - 1))).f0) ≥ ((rd_T185 x1314006 x3).f0) then (some false) else (spec_l02BatchOK.lv0 (wrap64 (x3 + 1)) x1314000 x1314001 x1314002 x1314003 x1314004 x1314005 x1314006)) else (none)) else (none)) else (spec_l02BatchOK.lv0 (wrap64 (x3 + 1)) x1314000 x1314001 x1314002 x1314003 x1314004 x1314005 x1314006)) else (some false))) else (none)) else (some true) : Option (Bool)) := by
  refine LimIs.eq (spec_l02BatchOK.lv0_lim x3 x1314000 x1314001 x1314002 x1314003 x1314004 x1314005 x1314006) ?_
  refine LimIs.step (fun k_ => (spec_l02BatchOK.mono_l k_).2 x3 x1314000 x1314001 x1314002 x1314003 x1314004 x1314005 x1314006) ?_
  simp only [spec_l02BatchOK.l0]
  repeat' (with_reducible first | exact spec_l02BatchOK.lv0_lim _ _ _ _ _ _ _ _ | exact spec_l02Reading.v_lim _ _ _ | exact LimIs.const _ | refine LimIs.ite ?_ ?_ | refine LimIs.bind ?_ (fun _ => ?_))
theorem spec_l02BatchOK.v_eq (a0_0 : Bool) (a0_1 : Int) (a0_2 : Int) (a0_3 : Int) (a0_4 : Int) (a0_5 : ByteArray) (l0_6 : List (S185)) : spec_l02BatchOK.v a0_0 a0_1 a0_2 a0_3 a0_4 a0_5 l0_6 = (if a0_0 = true then (if (a0_1 == 0 && (a0_2 == 0 && (a0_3 == 0 && (a0_4 == 0 && (a0_5.toList == ([] : List UInt8)))))) = true then (some ((l0_6.length : Int) == 0)) else (some false)) else ((spec_RequestOK.v a0_1 a0_2 a0_3 a0_4 a0_5).bind fun t1314 => (if t1314 = true then (spec_l02BatchOK.jv0 (decide ((l0_6.length : Int) > 7)) a0_0 a0_1 a0_2 a0_3 a0_4 a0_5 l0_6) else (spec_l02BatchOK.jv0 true a0_0 a0_1 a0_2 a0_3 a0_4 a0_5 l0_6))) : Option (Bool)) := by
  refine LimIs.eq (spec_l02BatchOK.v_lim a0_0 a0_1 a0_2 a0_3 a0_4 a0_5 l0_6) ?_
  simp only [spec_l02BatchOK.f]
  repeat' (with_reducible first | exact spec_RequestOK.v_lim _ _ _ _ _ | exact spec_l02BatchOK.jv0_lim _ _ _ _ _ _ _ _ | exact LimIs.const _ | refine LimIs.ite ?_ ?_ | refine LimIs.bind ?_ (fun _ => ?_))
def spec_l02ReadBatch.l0 : Nat → ByteArray → Int → Int → Bool → Int → Int → Int → Int → ByteArray → List (S185) → Option (Bool × Int × Int × Int × Int × ByteArray × (List (S185)) × Bool)
  | 0, _, _, _, _, _, _, _, _, _, _ => none
  | k + 1, x0, x4, x6, x1327000, x1327001, x1327002, x1327003, x1327004, x1327005, x1327006 => if x6 < (wrap64 (x4 - 1)) then (if 0 ≤ (wrap64 (1 + (wrap64 (13 * x6)))) then (if (wrap64 (1 + (wrap64 (13 * x6)))) ≤ (wrap64 (14 + (wrap64 (13 * x6)))) then (if (wrap64 (14 + (wrap64 (13 * x6)))) ≤ (x0.size : Int) then (if 0 < ((x0.extract ((wrap64 (1 + (wrap64 (13 * x6)))) : Int).toNat ((wrap64 (14 + (wrap64 (13 * x6)))) : Int).toNat).size : Int) then (if 1 ≤ 5 then (if 5 ≤ ((x0.extract ((wrap64 (1 + (wrap64 (13 * x6)))) : Int).toNat ((wrap64 (14 + (wrap64 (13 * x6)))) : Int).toNat).size : Int) then ((spec_l02Of.f k ((x0.extract ((wrap64 (1 + (wrap64 (13 * x6)))) : Int).toNat ((wrap64 (14 + (wrap64 (13 * x6)))) : Int).toNat).extract 1 5)).bind fun t1327 => (if x1327006.length < 4398046511104 then (spec_l02ReadBatch.l0 k x0 x4 (wrap64 (x6 + 1)) x1327000 x1327001 x1327002 x1327003 x1327004 x1327005 (x1327006 ++ [(⟨wrap64 (bt (x0.extract ((wrap64 (1 + (wrap64 (13 * x6)))) : Int).toNat ((wrap64 (14 + (wrap64 (13 * x6)))) : Int).toNat) 0), t1327, (x0.extract ((wrap64 (1 + (wrap64 (13 * x6)))) : Int).toNat ((wrap64 (14 + (wrap64 (13 * x6)))) : Int).toNat).extract 5 (((wrap64 (14 + (wrap64 (13 * x6)))) : Int).toNat - ((wrap64 (1 + (wrap64 (13 * x6)))) : Int).toNat)⟩ : S185)])) else (none))) else (none)) else (none)) else (none)) else (none)) else (none)) else (none)) else (if 0 ≤ (wrap64 (1 + (wrap64 (13 * (wrap64 (x4 - 1)))))) then (if (wrap64 (1 + (wrap64 (13 * (wrap64 (x4 - 1)))))) ≤ (x0.size : Int) then ((spec_l02ReadRequest.f k (x0.extract ((wrap64 (1 + (wrap64 (13 * (wrap64 (x4 - 1)))))) : Int).toNat x0.size)).bind fun bt1331 => (if bt1331.2.2.2.2.2 = true then ((spec_l02BatchOK.f k x1327000 bt1331.1 bt1331.2.1 bt1331.2.2.1 bt1331.2.2.2.1 bt1331.2.2.2.2.1 x1327006).bind fun t1338 => (some (x1327000, bt1331.1, bt1331.2.1, bt1331.2.2.1, bt1331.2.2.2.1, bt1331.2.2.2.2.1, x1327006, t1338))) else (some (x1327000, bt1331.1, bt1331.2.1, bt1331.2.2.1, bt1331.2.2.2.1, bt1331.2.2.2.2.1, x1327006, false)))) else (none)) else (none))
def spec_l02ReadBatch.f (k : Nat) (a0 : ByteArray) : Option (Bool × Int × Int × Int × Int × ByteArray × (List (S185)) × Bool) := if a0.toList = ([] : List UInt8) then (some (false, 0, 0, 0, 0, (⟨#[]⟩ : ByteArray), ([] : List (S185)), false)) else (if 0 < (a0.size : Int) then (if (wrap64 (bt a0 0)) = 0 then (some (true, 0, 0, 0, 0, (⟨#[]⟩ : ByteArray), (([] : List (S185))), ((a0.size : Int) == 1))) else (if (a0.size : Int) < (wrap64 (1 + (wrap64 (13 * (wrap64 ((wrap64 (bt a0 0)) - 1)))))) then (some (false, 0, 0, 0, 0, (⟨#[]⟩ : ByteArray), ([] : List (S185)), false)) else (spec_l02ReadBatch.l0 k a0 (wrap64 (bt a0 0)) 0 false 0 0 0 0 (⟨#[]⟩ : ByteArray) (([] : List (S185)))))) else (none))
theorem spec_l02ReadBatch.mono_l : ∀ k, (∀ y0 y1 y2 y3 y4 y5 y6 y7 y8 y9, LeO (spec_l02ReadBatch.l0 k y0 y1 y2 y3 y4 y5 y6 y7 y8 y9) (spec_l02ReadBatch.l0 (k + 1) y0 y1 y2 y3 y4 y5 y6 y7 y8 y9))
  | 0 => fun _ _ _ _ _ _ _ _ _ _ r h => by simp [spec_l02ReadBatch.l0] at h
  | k + 1 => by
    have ih0 := spec_l02ReadBatch.mono_l k
    · intro y0 y1 y2 y3 y4 y5 y6 y7 y8 y9
      unfold spec_l02ReadBatch.l0
      repeat' first
      | (with_reducible exact ih0 _ _ _ _ _ _ _ _ _ _)
      | (with_reducible exact spec_l02BatchOK.mono _ _ _ _ _ _ _ _)
      | (with_reducible exact spec_l02Of.mono _ _)
      | (with_reducible exact spec_l02ReadRequest.mono _ _)
      | (with_reducible exact LeO.refl _)
      | (with_reducible exact LeO.none _)
      | (with_reducible refine LeO.ite ?_ ?_)
      | (with_reducible refine LeO.bind ?_ (fun _ => ?_))
      | exact ih0 _ _ _ _ _ _ _ _ _ _
      | exact spec_l02BatchOK.mono _ _ _ _ _ _ _ _
      | exact spec_l02Of.mono _ _
      | exact spec_l02ReadRequest.mono _ _
      | exact LeO.none _
      | refine LeO.ite ?_ ?_
      | refine LeO.bind ?_ (fun _ => ?_)
theorem spec_l02ReadBatch.mono : ∀ a0 k, LeO (spec_l02ReadBatch.f k a0) (spec_l02ReadBatch.f (k + 1) a0) := by
  intro a0 k
  have ih0 := spec_l02ReadBatch.mono_l k
  unfold spec_l02ReadBatch.f
  repeat' first
      | (with_reducible exact ih0 _ _ _ _ _ _ _ _ _ _)
      | (with_reducible exact spec_l02BatchOK.mono _ _ _ _ _ _ _ _)
      | (with_reducible exact spec_l02Of.mono _ _)
      | (with_reducible exact spec_l02ReadRequest.mono _ _)
      | (with_reducible exact LeO.refl _)
      | (with_reducible exact LeO.none _)
      | (with_reducible refine LeO.ite ?_ ?_)
      | (with_reducible refine LeO.bind ?_ (fun _ => ?_))
      | exact ih0 _ _ _ _ _ _ _ _ _ _
      | exact spec_l02BatchOK.mono _ _ _ _ _ _ _ _
      | exact spec_l02Of.mono _ _
      | exact spec_l02ReadRequest.mono _ _
      | exact LeO.none _
      | refine LeO.ite ?_ ?_
      | refine LeO.bind ?_ (fun _ => ?_)
noncomputable def spec_l02ReadBatch.lv0 (x0 : ByteArray) (x4 : Int) (x6 : Int) (x1327000 : Bool) (x1327001 : Int) (x1327002 : Int) (x1327003 : Int) (x1327004 : Int) (x1327005 : ByteArray) (x1327006 : List (S185)) : Option (Bool × Int × Int × Int × Int × ByteArray × (List (S185)) × Bool) := lim (fun k_ => spec_l02ReadBatch.l0 k_ x0 x4 x6 x1327000 x1327001 x1327002 x1327003 x1327004 x1327005 x1327006)
noncomputable def spec_l02ReadBatch.v (a0 : ByteArray) : Option (Bool × Int × Int × Int × Int × ByteArray × (List (S185)) × Bool) := lim (fun k_ => spec_l02ReadBatch.f k_ a0)
theorem spec_l02ReadBatch.lv0_lim (x0 : ByteArray) (x4 : Int) (x6 : Int) (x1327000 : Bool) (x1327001 : Int) (x1327002 : Int) (x1327003 : Int) (x1327004 : Int) (x1327005 : ByteArray) (x1327006 : List (S185)) : LimIs (fun k_ => spec_l02ReadBatch.l0 k_ x0 x4 x6 x1327000 x1327001 x1327002 x1327003 x1327004 x1327005 x1327006) (spec_l02ReadBatch.lv0 x0 x4 x6 x1327000 x1327001 x1327002 x1327003 x1327004 x1327005 x1327006) := lim_is (fun k_ => (spec_l02ReadBatch.mono_l k_) x0 x4 x6 x1327000 x1327001 x1327002 x1327003 x1327004 x1327005 x1327006)
theorem spec_l02ReadBatch.v_lim (a0 : ByteArray) : LimIs (fun k_ => spec_l02ReadBatch.f k_ a0) (spec_l02ReadBatch.v a0) := lim_is (fun k_ => spec_l02ReadBatch.mono a0 k_)
theorem spec_l02ReadBatch.lv0_eq (x0 : ByteArray) (x4 : Int) (x6 : Int) (x1327000 : Bool) (x1327001 : Int) (x1327002 : Int) (x1327003 : Int) (x1327004 : Int) (x1327005 : ByteArray) (x1327006 : List (S185)) : spec_l02ReadBatch.lv0 x0 x4 x6 x1327000 x1327001 x1327002 x1327003 x1327004 x1327005 x1327006 = (if x6 < (wrap64 (x4 - 1)) then (if 0 ≤ (wrap64 (1 + (wrap64 (13 * x6)))) then (if (wrap64 (1 + (wrap64 (13 * x6)))) ≤ (wrap64 (14 + (wrap64 (13 * x6)))) then (if (wrap64 (14 + (wrap64 (13 * x6)))) ≤ (x0.size : Int) then (if 0 < ((x0.extract ((wrap64 (1 + (wrap64 (13 * x6)))) : Int).toNat ((wrap64 (14 + (wrap64 (13 * x6)))) : Int).toNat).size : Int) then (if 1 ≤ 5 then (if 5 ≤ ((x0.extract ((wrap64 (1 + (wrap64 (13 * x6)))) : Int).toNat ((wrap64 (14 + (wrap64 (13 * x6)))) : Int).toNat).size : Int) then ((spec_l02Of.v ((x0.extract ((wrap64 (1 + (wrap64 (13 * x6)))) : Int).toNat ((wrap64 (14 + (wrap64 (13 * x6)))) : Int).toNat).extract 1 5)).bind fun t1327 => (if x1327006.length < 4398046511104 then (spec_l02ReadBatch.lv0 x0 x4 (wrap64 (x6 + 1)) x1327000 x1327001 x1327002 x1327003 x1327004 x1327005 (x1327006 ++ [(⟨wrap64 (bt (x0.extract ((wrap64 (1 + (wrap64 (13 * x6)))) : Int).toNat ((wrap64 (14 + (wrap64 (13 * x6)))) : Int).toNat) 0), t1327, (x0.extract ((wrap64 (1 + (wrap64 (13 * x6)))) : Int).toNat ((wrap64 (14 + (wrap64 (13 * x6)))) : Int).toNat).extract 5 (((wrap64 (14 + (wrap64 (13 * x6)))) : Int).toNat - ((wrap64 (1 + (wrap64 (13 * x6)))) : Int).toNat)⟩ : S185)])) else (none))) else (none)) else (none)) else (none)) else (none)) else (none)) else (none)) else (if 0 ≤ (wrap64 (1 + (wrap64 (13 * (wrap64 (x4 - 1)))))) then (if (wrap64 (1 + (wrap64 (13 * (wrap64 (x4 - 1)))))) ≤ (x0.size : Int) then ((spec_l02ReadRequest.v (x0.extract ((wrap64 (1 + (wrap64 (13 * (wrap64 (x4 - 1)))))) : Int).toNat x0.size)).bind fun bt1331 => (if bt1331.2.2.2.2.2 = true then ((spec_l02BatchOK.v x1327000 bt1331.1 bt1331.2.1 bt1331.2.2.1 bt1331.2.2.2.1 bt1331.2.2.2.2.1 x1327006).bind fun t1338 => (some (x1327000, bt1331.1, bt1331.2.1, bt1331.2.2.1, bt1331.2.2.2.1, bt1331.2.2.2.2.1, x1327006, t1338))) else (some (x1327000, bt1331.1, bt1331.2.1, bt1331.2.2.1, bt1331.2.2.2.1, bt1331.2.2.2.2.1, x1327006, false)))) else (none)) else (none)) : Option (Bool × Int × Int × Int × Int × ByteArray × (List (S185)) × Bool)) := by
  refine LimIs.eq (spec_l02ReadBatch.lv0_lim x0 x4 x6 x1327000 x1327001 x1327002 x1327003 x1327004 x1327005 x1327006) ?_
  refine LimIs.step (fun k_ => (spec_l02ReadBatch.mono_l k_) x0 x4 x6 x1327000 x1327001 x1327002 x1327003 x1327004 x1327005 x1327006) ?_
  simp only [spec_l02ReadBatch.l0]
  repeat' (with_reducible first | exact spec_l02BatchOK.v_lim _ _ _ _ _ _ _ | exact spec_l02Of.v_lim _ | exact spec_l02ReadBatch.lv0_lim _ _ _ _ _ _ _ _ _ _ | exact spec_l02ReadRequest.v_lim _ | exact LimIs.const _ | refine LimIs.ite ?_ ?_ | refine LimIs.bind ?_ (fun _ => ?_))
theorem spec_l02ReadBatch.v_eq (a0 : ByteArray) : spec_l02ReadBatch.v a0 = (if a0.toList = ([] : List UInt8) then (some (false, 0, 0, 0, 0, (⟨#[]⟩ : ByteArray), ([] : List (S185)), false)) else (if 0 < (a0.size : Int) then (if (wrap64 (bt a0 0)) = 0 then (some (true, 0, 0, 0, 0, (⟨#[]⟩ : ByteArray), (([] : List (S185))), ((a0.size : Int) == 1))) else (if (a0.size : Int) < (wrap64 (1 + (wrap64 (13 * (wrap64 ((wrap64 (bt a0 0)) - 1)))))) then (some (false, 0, 0, 0, 0, (⟨#[]⟩ : ByteArray), ([] : List (S185)), false)) else (spec_l02ReadBatch.lv0 a0 (wrap64 (bt a0 0)) 0 false 0 0 0 0 (⟨#[]⟩ : ByteArray) (([] : List (S185)))))) else (none)) : Option (Bool × Int × Int × Int × Int × ByteArray × (List (S185)) × Bool)) := by
  refine LimIs.eq (spec_l02ReadBatch.v_lim a0) ?_
  simp only [spec_l02ReadBatch.f]
  repeat' (with_reducible first | exact spec_l02ReadBatch.lv0_lim _ _ _ _ _ _ _ _ _ _ | exact LimIs.const _ | refine LimIs.ite ?_ ?_ | refine LimIs.bind ?_ (fun _ => ?_))
def spec_l04Reading.f (k : Nat) (a0 : Int) (a1 : Int) : Option (ByteArray) := (some (([99, 108, 111, 99, 107] : List Int) : List Int)).bind fun y1339 => ((spec_l02Number.f k a1 4).bind fun t1342 => (if y1339.length + t1342.length < 140737488355328 then ((spec_l04Mac.f k a0 (y1339 ++ t1342)).bind fun t1348 => (some t1348)) else (none)))
theorem spec_l04Reading.mono : ∀ a0 a1 k, LeO (spec_l04Reading.f k a0 a1) (spec_l04Reading.f (k + 1) a0 a1) := by
  intro a0 a1 k
  unfold spec_l04Reading.f
  repeat' first
      | (with_reducible exact spec_l02Number.mono _ _ _)
      | (with_reducible exact spec_l04Mac.mono _ _ _)
      | (with_reducible exact LeO.refl _)
      | (with_reducible exact LeO.none _)
      | (with_reducible refine LeO.ite ?_ ?_)
      | (with_reducible refine LeO.bind ?_ (fun _ => ?_))
      | exact spec_l02Number.mono _ _ _
      | exact spec_l04Mac.mono _ _ _
      | exact LeO.none _
      | refine LeO.ite ?_ ?_
      | refine LeO.bind ?_ (fun _ => ?_)
noncomputable def spec_l04Reading.v (a0 : Int) (a1 : Int) : Option (ByteArray) := lim (fun k_ => spec_l04Reading.f k_ a0 a1)
theorem spec_l04Reading.v_lim (a0 : Int) (a1 : Int) : LimIs (fun k_ => spec_l04Reading.f k_ a0 a1) (spec_l04Reading.v a0 a1) := lim_is (fun k_ => spec_l04Reading.mono a0 a1 k_)
theorem spec_l04Reading.v_eq (a0 : Int) (a1 : Int) : spec_l04Reading.v a0 a1 = ((some (([99, 108, 111, 99, 107] : List Int) : List Int)).bind fun y1339 => ((spec_l02Number.v a1 4).bind fun t1342 => (if y1339.length + t1342.length < 140737488355328 then ((spec_l04Mac.v a0 (y1339 ++ t1342)).bind fun t1348 => (some t1348)) else (none))) : Option (ByteArray)) := by
  refine LimIs.eq (spec_l04Reading.v_lim a0 a1) ?_
  simp only [spec_l04Reading.f]
  repeat' (with_reducible first | exact spec_l02Number.v_lim _ _ | exact spec_l04Mac.v_lim _ _ | exact LimIs.const _ | refine LimIs.ite ?_ ?_ | refine LimIs.bind ?_ (fun _ => ?_))
mutual
def spec_l04Sorted.l0 : Nat → List Int → Int → Option (List Int)
  | 0, _, _ => none
  | k + 1, x3, x4 => if x4 < (x3.length : Int) then (spec_l04Sorted.l1 k x3 x4 x4) else (some x3)
def spec_l04Sorted.l1 : Nat → List Int → Int → Int → Option (List Int)
  | 0, _, _, _ => none
  | k + 1, x3, x4, x5 => if x5 > 0 then (if 0 ≤ (wrap64 (x5 - 1)) then (if (wrap64 (x5 - 1)) < (x3.length : Int) then (if 0 ≤ x5 then (if x5 < (x3.length : Int) then (if (rd x3 (wrap64 (x5 - 1))) > (rd x3 x5) then (spec_l04Sorted.l1 k ((x3.set (x5 : Int).toNat (rd x3 (wrap64 (x5 - 1)))).set ((wrap64 (x5 - 1)) : Int).toNat (rd x3 x5)) x4 (wrap64 (x5 - 1))) else (spec_l04Sorted.l0 k x3 (wrap64 (x4 + 1)))) else (none)) else (none)) else (none)) else (none)) else (spec_l04Sorted.l0 k x3 (wrap64 (x4 + 1)))
end
def spec_l04Sorted.f (k : Nat) (l0 : List Int) : Option (List Int) := (some (([] : List Int) : List Int)).bind fun y1349 => (if y1349.length + l0.length < 17592186044416 then (spec_l04Sorted.l0 k (y1349 ++ l0) 1) else (none))
theorem spec_l04Sorted.mono_l : ∀ k, (∀ y0 y1, LeO (spec_l04Sorted.l0 k y0 y1) (spec_l04Sorted.l0 (k + 1) y0 y1)) ∧ (∀ y0 y1 y2, LeO (spec_l04Sorted.l1 k y0 y1 y2) (spec_l04Sorted.l1 (k + 1) y0 y1 y2))
  | 0 => ⟨fun _ _ r h => by simp [spec_l04Sorted.l0] at h, fun _ _ _ r h => by simp [spec_l04Sorted.l1] at h⟩
  | k + 1 => by
    obtain ⟨ih0, ih1⟩ := spec_l04Sorted.mono_l k
    refine ⟨?_, ?_⟩
    · intro y0 y1
      unfold spec_l04Sorted.l0
      repeat' first
      | (with_reducible exact ih0 _ _)
      | (with_reducible exact ih1 _ _ _)
      | (with_reducible exact LeO.refl _)
      | (with_reducible exact LeO.none _)
      | (with_reducible refine LeO.ite ?_ ?_)
      | (with_reducible refine LeO.bind ?_ (fun _ => ?_))
      | exact ih0 _ _
      | exact ih1 _ _ _
      | exact LeO.none _
      | refine LeO.ite ?_ ?_
      | refine LeO.bind ?_ (fun _ => ?_)
    · intro y0 y1 y2
      unfold spec_l04Sorted.l1
      repeat' first
      | (with_reducible exact ih0 _ _)
      | (with_reducible exact ih1 _ _ _)
      | (with_reducible exact LeO.refl _)
      | (with_reducible exact LeO.none _)
      | (with_reducible refine LeO.ite ?_ ?_)
      | (with_reducible refine LeO.bind ?_ (fun _ => ?_))
      | exact ih0 _ _
      | exact ih1 _ _ _
      | exact LeO.none _
      | refine LeO.ite ?_ ?_
      | refine LeO.bind ?_ (fun _ => ?_)
theorem spec_l04Sorted.mono : ∀ a0 k, LeO (spec_l04Sorted.f k a0) (spec_l04Sorted.f (k + 1) a0) := by
  intro a0 k
  obtain ⟨ih0, ih1⟩ := spec_l04Sorted.mono_l k
  unfold spec_l04Sorted.f
  repeat' first
      | (with_reducible exact ih0 _ _)
      | (with_reducible exact ih1 _ _ _)
      | (with_reducible exact LeO.refl _)
      | (with_reducible exact LeO.none _)
      | (with_reducible refine LeO.ite ?_ ?_)
      | (with_reducible refine LeO.bind ?_ (fun _ => ?_))
      | exact ih0 _ _
      | exact ih1 _ _ _
      | exact LeO.none _
      | refine LeO.ite ?_ ?_
      | refine LeO.bind ?_ (fun _ => ?_)
noncomputable def spec_l04Sorted.lv0 (x3 : List Int) (x4 : Int) : Option (List Int) := lim (fun k_ => spec_l04Sorted.l0 k_ x3 x4)
noncomputable def spec_l04Sorted.lv1 (x3 : List Int) (x4 : Int) (x5 : Int) : Option (List Int) := lim (fun k_ => spec_l04Sorted.l1 k_ x3 x4 x5)
noncomputable def spec_l04Sorted.v (l0 : List Int) : Option (List Int) := lim (fun k_ => spec_l04Sorted.f k_ l0)
theorem spec_l04Sorted.lv0_lim (x3 : List Int) (x4 : Int) : LimIs (fun k_ => spec_l04Sorted.l0 k_ x3 x4) (spec_l04Sorted.lv0 x3 x4) := lim_is (fun k_ => (spec_l04Sorted.mono_l k_).1 x3 x4)
theorem spec_l04Sorted.lv1_lim (x3 : List Int) (x4 : Int) (x5 : Int) : LimIs (fun k_ => spec_l04Sorted.l1 k_ x3 x4 x5) (spec_l04Sorted.lv1 x3 x4 x5) := lim_is (fun k_ => (spec_l04Sorted.mono_l k_).2 x3 x4 x5)
theorem spec_l04Sorted.v_lim (l0 : List Int) : LimIs (fun k_ => spec_l04Sorted.f k_ l0) (spec_l04Sorted.v l0) := lim_is (fun k_ => spec_l04Sorted.mono l0 k_)
theorem spec_l04Sorted.lv0_eq (x3 : List Int) (x4 : Int) : spec_l04Sorted.lv0 x3 x4 = (if x4 < (x3.length : Int) then (spec_l04Sorted.lv1 x3 x4 x4) else (some x3) : Option (List Int)) := by
  refine LimIs.eq (spec_l04Sorted.lv0_lim x3 x4) ?_
  refine LimIs.step (fun k_ => (spec_l04Sorted.mono_l k_).1 x3 x4) ?_
  simp only [spec_l04Sorted.l0]
  repeat' (with_reducible first | exact spec_l04Sorted.lv1_lim _ _ _ | exact LimIs.const _ | refine LimIs.ite ?_ ?_ | refine LimIs.bind ?_ (fun _ => ?_))
theorem spec_l04Sorted.lv1_eq (x3 : List Int) (x4 : Int) (x5 : Int) : spec_l04Sorted.lv1 x3 x4 x5 = (if x5 > 0 then (if 0 ≤ (wrap64 (x5 - 1)) then (if (wrap64 (x5 - 1)) < (x3.length : Int) then (if 0 ≤ x5 then (if x5 < (x3.length : Int) then (if (rd x3 (wrap64 (x5 - 1))) > (rd x3 x5) then (spec_l04Sorted.lv1 ((x3.set (x5 : Int).toNat (rd x3 (wrap64 (x5 - 1)))).set ((wrap64 (x5 - 1)) : Int).toNat (rd x3 x5)) x4 (wrap64 (x5 - 1))) else (spec_l04Sorted.lv0 x3 (wrap64 (x4 + 1)))) else (none)) else (none)) else (none)) else (none)) else (spec_l04Sorted.lv0 x3 (wrap64 (x4 + 1))) : Option (List Int)) := by
  refine LimIs.eq (spec_l04Sorted.lv1_lim x3 x4 x5) ?_
  refine LimIs.step (fun k_ => (spec_l04Sorted.mono_l k_).2 x3 x4 x5) ?_
  simp only [spec_l04Sorted.l1]
  repeat' (with_reducible first | exact spec_l04Sorted.lv0_lim _ _ | exact spec_l04Sorted.lv1_lim _ _ _ | exact LimIs.const _ | refine LimIs.ite ?_ ?_ | refine LimIs.bind ?_ (fun _ => ?_))
theorem spec_l04Sorted.v_eq (l0 : List Int) : spec_l04Sorted.v l0 = ((some (([] : List Int) : List Int)).bind fun y1349 => (if y1349.length + l0.length < 17592186044416 then (spec_l04Sorted.lv0 (y1349 ++ l0) 1) else (none)) : Option (List Int)) := by
  refine LimIs.eq (spec_l04Sorted.v_lim l0) ?_
  simp only [spec_l04Sorted.f]
  repeat' (with_reducible first | exact spec_l04Sorted.lv0_lim _ _ | exact LimIs.const _ | refine LimIs.ite ?_ ?_ | refine LimIs.bind ?_ (fun _ => ?_))
def spec_l04Time.l0 : Nat → Int → List (S185) → Int → List Int → Int → Option (Int × Bool)
  | 0, _, _, _, _, _ => none
  | k + 1, x0, x1, x6, x7, x8 => if x8 < (x1.length : Int) then (if 0 ≤ x8 then ((spec_l02Reading.f ((rd_T185 x1 x8).f0) ((rd_T185 x1 x8).f1) ((rd_T185 x1 x8).f2)).bind fun t1370 => (if t1370 = true then (if ((rd_T185 x1 x8).f0) ≥ x0 then (some (0, false)) else (if x8 > 0 then (if 0 ≤ (wrap64 (x8 - 1)) then (if (wrap64 (x8 - 1)) < (x1.length : Int) then (if ((rd_T185 x1 (wrap64 (x8 - 1))).f0) ≥ ((rd_T185 x1 x8).f0) then (some (0, false)) else ((spec_l04Reading.f k ((rd_T185 x1 x8).f0) ((rd_T185 x1 x8).f1)).bind fun t1372 => (if t1372.toList = ((rd_T185 x1 x8).f2).toList then (if x7.length < 17592186044416 then (spec_l04Time.l0 k x0 x1 x6 (x7 ++ [(rd_T185 x1 x8).f1]) (wrap64 (x8 + 1))) else (none)) else (some (0, false))))) else (none)) else (none)) else ((spec_l04Reading.f k ((rd_T185 x1 x8).f0) ((rd_T185 x1 x8).f1)).bind fun t1376 => (if t1376.toList = ((rd_T185 x1 x8).f2).toList then (if x7.length < 17592186044416 then (spec_l04Time.l0 k x0 x1 x6 (x7 ++ [(rd_T185 x1 x8).f1]) (wrap64 (x8 + 1))) else (none)) else (some (0, false)))))) else (some (0, false)))) else (none)) else ((spec_l04Sorted.f k x7).bind fun t1364 => (if 0 ≤ x6 then (if x6 < (t1364.length : Int) then (some (rd t1364 x6, true)) else (none)) else (none)))
def spec_l04Time.f (k : Nat) (a0 : Int) (l1 : List (S185)) : Option (Int × Bool) := if (l1.length : Int) = (wrap64 ((wrap64 (2 * (wrap64 (Int.tdiv (wrap64 (a0 - 1)) 3)))) + 1)) then (spec_l04Time.l0 k a0 l1 (wrap64 (Int.tdiv (wrap64 (a0 - 1)) 3)) (([] : List Int)) 0) else (some (0, false))
theorem spec_l04Time.mono_l : ∀ k, (∀ y0 y1 y2 y3 y4, LeO (spec_l04Time.l0 k y0 y1 y2 y3 y4) (spec_l04Time.l0 (k + 1) y0 y1 y2 y3 y4))
  | 0 => fun _ _ _ _ _ r h => by simp [spec_l04Time.l0] at h
  | k + 1 => by
    have ih0 := spec_l04Time.mono_l k
    · intro y0 y1 y2 y3 y4
      unfold spec_l04Time.l0
      repeat' first
      | (with_reducible exact ih0 _ _ _ _ _)
      | (with_reducible exact spec_l04Reading.mono _ _ _)
      | (with_reducible exact spec_l04Sorted.mono _ _)
      | (with_reducible exact LeO.refl _)
      | (with_reducible exact LeO.none _)
      | (with_reducible refine LeO.ite ?_ ?_)
      | (with_reducible refine LeO.bind ?_ (fun _ => ?_))
      | exact ih0 _ _ _ _ _
      | exact spec_l04Reading.mono _ _ _
      | exact spec_l04Sorted.mono _ _
      | exact LeO.none _
      | refine LeO.ite ?_ ?_
      | refine LeO.bind ?_ (fun _ => ?_)
theorem spec_l04Time.mono : ∀ a0 a1 k, LeO (spec_l04Time.f k a0 a1) (spec_l04Time.f (k + 1) a0 a1) := by
  intro a0 a1 k
  have ih0 := spec_l04Time.mono_l k
  unfold spec_l04Time.f
  repeat' first
      | (with_reducible exact ih0 _ _ _ _ _)
      | (with_reducible exact spec_l04Reading.mono _ _ _)
      | (with_reducible exact spec_l04Sorted.mono _ _)
      | (with_reducible exact LeO.refl _)
      | (with_reducible exact LeO.none _)
      | (with_reducible refine LeO.ite ?_ ?_)
      | (with_reducible refine LeO.bind ?_ (fun _ => ?_))
      | exact ih0 _ _ _ _ _
      | exact spec_l04Reading.mono _ _ _
      | exact spec_l04Sorted.mono _ _
      | exact LeO.none _
      | refine LeO.ite ?_ ?_
      | refine LeO.bind ?_ (fun _ => ?_)
noncomputable def spec_l04Time.lv0 (x0 : Int) (x1 : List (S185)) (x6 : Int) (x7 : List Int) (x8 : Int) : Option (Int × Bool) := lim (fun k_ => spec_l04Time.l0 k_ x0 x1 x6 x7 x8)
noncomputable def spec_l04Time.v (a0 : Int) (l1 : List (S185)) : Option (Int × Bool) := lim (fun k_ => spec_l04Time.f k_ a0 l1)
theorem spec_l04Time.lv0_lim (x0 : Int) (x1 : List (S185)) (x6 : Int) (x7 : List Int) (x8 : Int) : LimIs (fun k_ => spec_l04Time.l0 k_ x0 x1 x6 x7 x8) (spec_l04Time.lv0 x0 x1 x6 x7 x8) := lim_is (fun k_ => (spec_l04Time.mono_l k_) x0 x1 x6 x7 x8)
theorem spec_l04Time.v_lim (a0 : Int) (l1 : List (S185)) : LimIs (fun k_ => spec_l04Time.f k_ a0 l1) (spec_l04Time.v a0 l1) := lim_is (fun k_ => spec_l04Time.mono a0 l1 k_)
theorem spec_l04Time.lv0_eq (x0 : Int) (x1 : List (S185)) (x6 : Int) (x7 : List Int) (x8 : Int) : spec_l04Time.lv0 x0 x1 x6 x7 x8 = (if x8 < (x1.length : Int) then (if 0 ≤ x8 then ((spec_l02Reading.v ((rd_T185 x1 x8).f0) ((rd_T185 x1 x8).f1) ((rd_T185 x1 x8).f2)).bind fun t1370 => (if t1370 = true then (if ((rd_T185 x1 x8).f0) ≥ x0 then (some (0, false)) else (if x8 > 0 then (if 0 ≤ (wrap64 (x8 - 1)) then (if (wrap64 (x8 - 1)) < (x1.length : Int) then (if ((rd_T185 x1 (wrap64 (x8 - 1))).f0) ≥ ((rd_T185 x1 x8).f0) then (some (0, false)) else ((spec_l04Reading.v ((rd_T185 x1 x8).f0) ((rd_T185 x1 x8).f1)).bind fun t1372 => (if t1372.toList = ((rd_T185 x1 x8).f2).toList then (if x7.length < 17592186044416 then (spec_l04Time.lv0 x0 x1 x6 (x7 ++ [(rd_T185 x1 x8).f1]) (wrap64 (x8 + 1))) else (none)) else (some (0, false))))) else (none)) else (none)) else ((spec_l04Reading.v ((rd_T185 x1 x8).f0) ((rd_T185 x1 x8).f1)).bind fun t1376 => (if t1376.toList = ((rd_T185 x1 x8).f2).toList then (if x7.length < 17592186044416 then (spec_l04Time.lv0 x0 x1 x6 (x7 ++ [(rd_T185 x1 x8).f1]) (wrap64 (x8 + 1))) else (none)) else (some (0, false)))))) else (some (0, false)))) else (none)) else ((spec_l04Sorted.v x7).bind fun t1364 => (if 0 ≤ x6 then (if x6 < (t1364.length : Int) then (some (rd t1364 x6, true)) else (none)) else (none))) : Option (Int × Bool)) := by
  refine LimIs.eq (spec_l04Time.lv0_lim x0 x1 x6 x7 x8) ?_
  refine LimIs.step (fun k_ => (spec_l04Time.mono_l k_) x0 x1 x6 x7 x8) ?_
  simp only [spec_l04Time.l0]
  repeat' (with_reducible first | exact spec_l02Reading.v_lim _ _ _ | exact spec_l04Reading.v_lim _ _ | exact spec_l04Sorted.v_lim _ | exact spec_l04Time.lv0_lim _ _ _ _ _ | exact LimIs.const _ | refine LimIs.ite ?_ ?_ | refine LimIs.bind ?_ (fun _ => ?_))
theorem spec_l04Time.v_eq (a0 : Int) (l1 : List (S185)) : spec_l04Time.v a0 l1 = (if (l1.length : Int) = (wrap64 ((wrap64 (2 * (wrap64 (Int.tdiv (wrap64 (a0 - 1)) 3)))) + 1)) then (spec_l04Time.lv0 a0 l1 (wrap64 (Int.tdiv (wrap64 (a0 - 1)) 3)) (([] : List Int)) 0) else (some (0, false)) : Option (Int × Bool)) := by
  refine LimIs.eq (spec_l04Time.v_lim a0 l1) ?_
  simp only [spec_l04Time.f]
  repeat' (with_reducible first | exact spec_l04Time.lv0_lim _ _ _ _ _ | exact LimIs.const _ | refine LimIs.ite ?_ ?_ | refine LimIs.bind ?_ (fun _ => ?_))
def spec_l06Body.f (k : Nat) (a0 : Int) (a1 : ByteArray) : Option (Bool) := (spec_l02ReadBatch.f k a1).bind fun bt1380 => (if bt1380.2.2.2.2.2.2.2 = true then (if bt1380.1 = true then (some true) else ((spec_l04Time.f k a0 bt1380.2.2.2.2.2.2.1).bind fun bt1391 => (some bt1391.2))) else (some false))
theorem spec_l06Body.mono : ∀ a0 a1 k, LeO (spec_l06Body.f k a0 a1) (spec_l06Body.f (k + 1) a0 a1) := by
  intro a0 a1 k
  unfold spec_l06Body.f
  repeat' first
      | (with_reducible exact spec_l02ReadBatch.mono _ _)
      | (with_reducible exact spec_l04Time.mono _ _ _)
      | (with_reducible exact LeO.refl _)
      | (with_reducible exact LeO.none _)
      | (with_reducible refine LeO.ite ?_ ?_)
      | (with_reducible refine LeO.bind ?_ (fun _ => ?_))
      | exact spec_l02ReadBatch.mono _ _
      | exact spec_l04Time.mono _ _ _
      | exact LeO.none _
      | refine LeO.ite ?_ ?_
      | refine LeO.bind ?_ (fun _ => ?_)
noncomputable def spec_l06Body.v (a0 : Int) (a1 : ByteArray) : Option (Bool) := lim (fun k_ => spec_l06Body.f k_ a0 a1)
theorem spec_l06Body.v_lim (a0 : Int) (a1 : ByteArray) : LimIs (fun k_ => spec_l06Body.f k_ a0 a1) (spec_l06Body.v a0 a1) := lim_is (fun k_ => spec_l06Body.mono a0 a1 k_)
theorem spec_l06Body.v_eq (a0 : Int) (a1 : ByteArray) : spec_l06Body.v a0 a1 = ((spec_l02ReadBatch.v a1).bind fun bt1380 => (if bt1380.2.2.2.2.2.2.2 = true then (if bt1380.1 = true then (some true) else ((spec_l04Time.v a0 bt1380.2.2.2.2.2.2.1).bind fun bt1391 => (some bt1391.2))) else (some false)) : Option (Bool)) := by
  refine LimIs.eq (spec_l06Body.v_lim a0 a1) ?_
  simp only [spec_l06Body.f]
  repeat' (with_reducible first | exact spec_l02ReadBatch.v_lim _ | exact spec_l04Time.v_lim _ _ | exact LimIs.const _ | refine LimIs.ite ?_ ?_ | refine LimIs.bind ?_ (fun _ => ?_))
def spec_BodyOK.f (k : Nat) (a0 : Int) (a1 : ByteArray) : Option (Bool) := if (a1.size : Int) > 65536 then (some false) else ((spec_l04Nodes.f a0).bind fun t1393 => (if t1393 = true then (if (a1.size : Int) ≤ 20000 then ((spec_l06Body.f k a0 a1).bind fun t1394 => (some t1394)) else (some false)) else (some false)))
theorem spec_BodyOK.mono : ∀ a0 a1 k, LeO (spec_BodyOK.f k a0 a1) (spec_BodyOK.f (k + 1) a0 a1) := by
  intro a0 a1 k
  unfold spec_BodyOK.f
  repeat' first
      | (with_reducible exact spec_l06Body.mono _ _ _)
      | (with_reducible exact LeO.refl _)
      | (with_reducible exact LeO.none _)
      | (with_reducible refine LeO.ite ?_ ?_)
      | (with_reducible refine LeO.bind ?_ (fun _ => ?_))
      | exact spec_l06Body.mono _ _ _
      | exact LeO.none _
      | refine LeO.ite ?_ ?_
      | refine LeO.bind ?_ (fun _ => ?_)
noncomputable def spec_BodyOK.v (a0 : Int) (a1 : ByteArray) : Option (Bool) := lim (fun k_ => spec_BodyOK.f k_ a0 a1)
theorem spec_BodyOK.v_lim (a0 : Int) (a1 : ByteArray) : LimIs (fun k_ => spec_BodyOK.f k_ a0 a1) (spec_BodyOK.v a0 a1) := lim_is (fun k_ => spec_BodyOK.mono a0 a1 k_)
theorem spec_BodyOK.v_eq (a0 : Int) (a1 : ByteArray) : spec_BodyOK.v a0 a1 = (if (a1.size : Int) > 65536 then (some false) else ((spec_l04Nodes.v a0).bind fun t1393 => (if t1393 = true then (if (a1.size : Int) ≤ 20000 then ((spec_l06Body.v a0 a1).bind fun t1394 => (some t1394)) else (some false)) else (some false))) : Option (Bool)) := by
  refine LimIs.eq (spec_BodyOK.v_lim a0 a1) ?_
  simp only [spec_BodyOK.f]
  repeat' (with_reducible first | exact spec_l04Nodes.v_lim _ | exact spec_l06Body.v_lim _ _ | exact LimIs.const _ | refine LimIs.ite ?_ ?_ | refine LimIs.bind ?_ (fun _ => ?_))
def impl_reader_take.f (s0_0 : ByteArray) (s0_1 : Bool) (a1 : Int) : Option (ByteArray × ByteArray × Bool) := if s0_1 = true then (some ((⟨#[]⟩ : ByteArray), s0_0, true)) else (if a1 > (s0_0.size : Int) then (some ((⟨#[]⟩ : ByteArray), s0_0, true)) else (if 0 ≤ a1 then (if a1 ≤ (s0_0.size : Int) then (some (s0_0.extract 0 (a1 : Int).toNat, s0_0.extract (a1 : Int).toNat s0_0.size, s0_1)) else (none)) else (none)))
def impl_reader_take.v (s0_0 : ByteArray) (s0_1 : Bool) (a1 : Int) : Option (ByteArray × ByteArray × Bool) := impl_reader_take.f s0_0 s0_1 a1
theorem impl_reader_take.v_lim (s0_0 : ByteArray) (s0_1 : Bool) (a1 : Int) : LimIs (fun _ => impl_reader_take.f s0_0 s0_1 a1) (impl_reader_take.v s0_0 s0_1 a1) := LimIs.const _
theorem impl_reader_take.v_eq (s0_0 : ByteArray) (s0_1 : Bool) (a1 : Int) : impl_reader_take.v s0_0 s0_1 a1 = (if s0_1 = true then (some ((⟨#[]⟩ : ByteArray), s0_0, true)) else (if a1 > (s0_0.size : Int) then (some ((⟨#[]⟩ : ByteArray), s0_0, true)) else (if 0 ≤ a1 then (if a1 ≤ (s0_0.size : Int) then (some (s0_0.extract 0 (a1 : Int).toNat, s0_0.extract (a1 : Int).toNat s0_0.size, s0_1)) else (none)) else (none))) : Option (ByteArray × ByteArray × Bool)) := rfl
def impl_reader_number.l0 : Nat → Int → List Int → Int → Int → ByteArray → Bool → Option (Int × ByteArray × Bool)
  | 0, _, _, _, _, _, _ => none
  | k + 1, x5, x11, x12, x13, x1000, x1001 => if x13 < x12 then (if 0 ≤ x13 then (if x13 < (x11.length : Int) then (impl_reader_number.l0 k (Go.bits .or .i64 (wrap64 (x5 * 256)) (wrap64 (rd x11 x13))) x11 x12 (wrap64 (x13 + 1)) x1000 x1001) else (none)) else (none)) else (some (x5, x1000, x1001))
def impl_reader_number.f (k : Nat) (s0_0 : ByteArray) (s0_1 : Bool) (a1 : Int) : Option (Int × ByteArray × Bool) := (impl_reader_take.f s0_0 s0_1 a1).bind fun bt1395 => (if bt1395.1.size ≤ 140737488355328 then ((some (bytesOf bt1395.1 : List Int)).bind fun y1398 => (impl_reader_number.l0 k 0 y1398 (y1398.length : Int) 0 bt1395.2.1 bt1395.2.2)) else (none))
theorem impl_reader_number.mono_l : ∀ k, (∀ y0 y1 y2 y3 y4 y5, LeO (impl_reader_number.l0 k y0 y1 y2 y3 y4 y5) (impl_reader_number.l0 (k + 1) y0 y1 y2 y3 y4 y5))
  | 0 => fun _ _ _ _ _ _ r h => by simp [impl_reader_number.l0] at h
  | k + 1 => by
    have ih0 := impl_reader_number.mono_l k
    · intro y0 y1 y2 y3 y4 y5
      unfold impl_reader_number.l0
      repeat' first
      | (with_reducible exact ih0 _ _ _ _ _ _)
      | (with_reducible exact LeO.refl _)
      | (with_reducible exact LeO.none _)
      | (with_reducible refine LeO.ite ?_ ?_)
      | (with_reducible refine LeO.bind ?_ (fun _ => ?_))
      | exact ih0 _ _ _ _ _ _
      | exact LeO.none _
      | refine LeO.ite ?_ ?_
      | refine LeO.bind ?_ (fun _ => ?_)
theorem impl_reader_number.mono : ∀ a0 a1 a2 k, LeO (impl_reader_number.f k a0 a1 a2) (impl_reader_number.f (k + 1) a0 a1 a2) := by
  intro a0 a1 a2 k
  have ih0 := impl_reader_number.mono_l k
  unfold impl_reader_number.f
  repeat' first
      | (with_reducible exact ih0 _ _ _ _ _ _)
      | (with_reducible exact LeO.refl _)
      | (with_reducible exact LeO.none _)
      | (with_reducible refine LeO.ite ?_ ?_)
      | (with_reducible refine LeO.bind ?_ (fun _ => ?_))
      | exact ih0 _ _ _ _ _ _
      | exact LeO.none _
      | refine LeO.ite ?_ ?_
      | refine LeO.bind ?_ (fun _ => ?_)
noncomputable def impl_reader_number.lv0 (x5 : Int) (x11 : List Int) (x12 : Int) (x13 : Int) (x1000 : ByteArray) (x1001 : Bool) : Option (Int × ByteArray × Bool) := lim (fun k_ => impl_reader_number.l0 k_ x5 x11 x12 x13 x1000 x1001)
noncomputable def impl_reader_number.v (s0_0 : ByteArray) (s0_1 : Bool) (a1 : Int) : Option (Int × ByteArray × Bool) := lim (fun k_ => impl_reader_number.f k_ s0_0 s0_1 a1)
theorem impl_reader_number.lv0_lim (x5 : Int) (x11 : List Int) (x12 : Int) (x13 : Int) (x1000 : ByteArray) (x1001 : Bool) : LimIs (fun k_ => impl_reader_number.l0 k_ x5 x11 x12 x13 x1000 x1001) (impl_reader_number.lv0 x5 x11 x12 x13 x1000 x1001) := lim_is (fun k_ => (impl_reader_number.mono_l k_) x5 x11 x12 x13 x1000 x1001)
theorem impl_reader_number.v_lim (s0_0 : ByteArray) (s0_1 : Bool) (a1 : Int) : LimIs (fun k_ => impl_reader_number.f k_ s0_0 s0_1 a1) (impl_reader_number.v s0_0 s0_1 a1) := lim_is (fun k_ => impl_reader_number.mono s0_0 s0_1 a1 k_)
theorem impl_reader_number.lv0_eq (x5 : Int) (x11 : List Int) (x12 : Int) (x13 : Int) (x1000 : ByteArray) (x1001 : Bool) : impl_reader_number.lv0 x5 x11 x12 x13 x1000 x1001 = (if x13 < x12 then (if 0 ≤ x13 then (if x13 < (x11.length : Int) then (impl_reader_number.lv0 (Go.bits .or .i64 (wrap64 (x5 * 256)) (wrap64 (rd x11 x13))) x11 x12 (wrap64 (x13 + 1)) x1000 x1001) else (none)) else (none)) else (some (x5, x1000, x1001)) : Option (Int × ByteArray × Bool)) := by
  refine LimIs.eq (impl_reader_number.lv0_lim x5 x11 x12 x13 x1000 x1001) ?_
  refine LimIs.step (fun k_ => (impl_reader_number.mono_l k_) x5 x11 x12 x13 x1000 x1001) ?_
  simp only [impl_reader_number.l0]
  repeat' (with_reducible first | exact impl_reader_number.lv0_lim _ _ _ _ _ _ | exact LimIs.const _ | refine LimIs.ite ?_ ?_ | refine LimIs.bind ?_ (fun _ => ?_))
theorem impl_reader_number.v_eq (s0_0 : ByteArray) (s0_1 : Bool) (a1 : Int) : impl_reader_number.v s0_0 s0_1 a1 = ((impl_reader_take.v s0_0 s0_1 a1).bind fun bt1395 => (if bt1395.1.size ≤ 140737488355328 then ((some (bytesOf bt1395.1 : List Int)).bind fun y1398 => (impl_reader_number.lv0 0 y1398 (y1398.length : Int) 0 bt1395.2.1 bt1395.2.2)) else (none)) : Option (Int × ByteArray × Bool)) := by
  refine LimIs.eq (impl_reader_number.v_lim s0_0 s0_1 a1) ?_
  simp only [impl_reader_number.f]
  repeat' (with_reducible first | exact impl_reader_number.lv0_lim _ _ _ _ _ _ | exact impl_reader_take.v_lim _ _ _ | exact LimIs.const _ | refine LimIs.ite ?_ ?_ | refine LimIs.bind ?_ (fun _ => ?_))
def impl_reader_sized.f (k : Nat) (s0_0 : ByteArray) (s0_1 : Bool) (a1 : Int) : Option (ByteArray × ByteArray × Bool) := (impl_reader_number.f k s0_0 s0_1 a1).bind fun bt1402 => ((impl_reader_take.f bt1402.2.1 bt1402.2.2 bt1402.1).bind fun bt1405 => (some (bt1405.1, bt1405.2.1, bt1405.2.2)))
theorem impl_reader_sized.mono : ∀ a0 a1 a2 k, LeO (impl_reader_sized.f k a0 a1 a2) (impl_reader_sized.f (k + 1) a0 a1 a2) := by
  intro a0 a1 a2 k
  unfold impl_reader_sized.f
  repeat' first
      | (with_reducible exact impl_reader_number.mono _ _ _ _)
      | (with_reducible exact LeO.refl _)
      | (with_reducible exact LeO.none _)
      | (with_reducible refine LeO.ite ?_ ?_)
      | (with_reducible refine LeO.bind ?_ (fun _ => ?_))
      | exact impl_reader_number.mono _ _ _ _
      | exact LeO.none _
      | refine LeO.ite ?_ ?_
      | refine LeO.bind ?_ (fun _ => ?_)
noncomputable def impl_reader_sized.v (s0_0 : ByteArray) (s0_1 : Bool) (a1 : Int) : Option (ByteArray × ByteArray × Bool) := lim (fun k_ => impl_reader_sized.f k_ s0_0 s0_1 a1)
theorem impl_reader_sized.v_lim (s0_0 : ByteArray) (s0_1 : Bool) (a1 : Int) : LimIs (fun k_ => impl_reader_sized.f k_ s0_0 s0_1 a1) (impl_reader_sized.v s0_0 s0_1 a1) := lim_is (fun k_ => impl_reader_sized.mono s0_0 s0_1 a1 k_)
theorem impl_reader_sized.v_eq (s0_0 : ByteArray) (s0_1 : Bool) (a1 : Int) : impl_reader_sized.v s0_0 s0_1 a1 = ((impl_reader_number.v s0_0 s0_1 a1).bind fun bt1402 => ((impl_reader_take.v bt1402.2.1 bt1402.2.2 bt1402.1).bind fun bt1405 => (some (bt1405.1, bt1405.2.1, bt1405.2.2))) : Option (ByteArray × ByteArray × Bool)) := by
  refine LimIs.eq (impl_reader_sized.v_lim s0_0 s0_1 a1) ?_
  simp only [impl_reader_sized.f]
  repeat' (with_reducible first | exact impl_reader_number.v_lim _ _ _ | exact impl_reader_take.v_lim _ _ _ | exact LimIs.const _ | refine LimIs.ite ?_ ?_ | refine LimIs.bind ?_ (fun _ => ?_))
def impl_reader_request.f (k : Nat) (s0_0 : ByteArray) (s0_1 : Bool) : Option (Int × Int × Int × Int × ByteArray × ByteArray × Bool) := (impl_reader_number.f k s0_0 s0_1 1).bind fun bt1409 => ((impl_reader_number.f k bt1409.2.1 bt1409.2.2 2).bind fun bt1412 => ((impl_reader_number.f k bt1412.2.1 bt1412.2.2 1).bind fun bt1415 => ((impl_reader_number.f k bt1415.2.1 bt1415.2.2 2).bind fun bt1418 => ((impl_reader_sized.f k bt1418.2.1 bt1418.2.2 1).bind fun bt1421 => (some (bt1409.1, bt1412.1, bt1415.1, bt1418.1, bt1421.1, bt1421.2.1, bt1421.2.2))))))
theorem impl_reader_request.mono : ∀ a0 a1 k, LeO (impl_reader_request.f k a0 a1) (impl_reader_request.f (k + 1) a0 a1) := by
  intro a0 a1 k
  unfold impl_reader_request.f
  repeat' first
      | (with_reducible exact impl_reader_number.mono _ _ _ _)
      | (with_reducible exact impl_reader_sized.mono _ _ _ _)
      | (with_reducible exact LeO.refl _)
      | (with_reducible exact LeO.none _)
      | (with_reducible refine LeO.ite ?_ ?_)
      | (with_reducible refine LeO.bind ?_ (fun _ => ?_))
      | exact impl_reader_number.mono _ _ _ _
      | exact impl_reader_sized.mono _ _ _ _
      | exact LeO.none _
      | refine LeO.ite ?_ ?_
      | refine LeO.bind ?_ (fun _ => ?_)
noncomputable def impl_reader_request.v (s0_0 : ByteArray) (s0_1 : Bool) : Option (Int × Int × Int × Int × ByteArray × ByteArray × Bool) := lim (fun k_ => impl_reader_request.f k_ s0_0 s0_1)
theorem impl_reader_request.v_lim (s0_0 : ByteArray) (s0_1 : Bool) : LimIs (fun k_ => impl_reader_request.f k_ s0_0 s0_1) (impl_reader_request.v s0_0 s0_1) := lim_is (fun k_ => impl_reader_request.mono s0_0 s0_1 k_)
theorem impl_reader_request.v_eq (s0_0 : ByteArray) (s0_1 : Bool) : impl_reader_request.v s0_0 s0_1 = ((impl_reader_number.v s0_0 s0_1 1).bind fun bt1409 => ((impl_reader_number.v bt1409.2.1 bt1409.2.2 2).bind fun bt1412 => ((impl_reader_number.v bt1412.2.1 bt1412.2.2 1).bind fun bt1415 => ((impl_reader_number.v bt1415.2.1 bt1415.2.2 2).bind fun bt1418 => ((impl_reader_sized.v bt1418.2.1 bt1418.2.2 1).bind fun bt1421 => (some (bt1409.1, bt1412.1, bt1415.1, bt1418.1, bt1421.1, bt1421.2.1, bt1421.2.2)))))) : Option (Int × Int × Int × Int × ByteArray × ByteArray × Bool)) := by
  refine LimIs.eq (impl_reader_request.v_lim s0_0 s0_1) ?_
  simp only [impl_reader_request.f]
  repeat' (with_reducible first | exact impl_reader_number.v_lim _ _ _ | exact impl_reader_sized.v_lim _ _ _ | exact LimIs.const _ | refine LimIs.ite ?_ ?_ | refine LimIs.bind ?_ (fun _ => ?_))
def impl_reader_done.f (s0_0 : ByteArray) (s0_1 : Bool) : Option (Bool × ByteArray × Bool) := if s0_1 = true then (some (false, s0_0, s0_1)) else (some ((s0_0.toList == ([] : List UInt8)), s0_0, s0_1))
def impl_reader_done.v (s0_0 : ByteArray) (s0_1 : Bool) : Option (Bool × ByteArray × Bool) := impl_reader_done.f s0_0 s0_1
theorem impl_reader_done.v_lim (s0_0 : ByteArray) (s0_1 : Bool) : LimIs (fun _ => impl_reader_done.f s0_0 s0_1) (impl_reader_done.v s0_0 s0_1) := LimIs.const _
theorem impl_reader_done.v_eq (s0_0 : ByteArray) (s0_1 : Bool) : impl_reader_done.v s0_0 s0_1 = (if s0_1 = true then (some (false, s0_0, s0_1)) else (some ((s0_0.toList == ([] : List UInt8)), s0_0, s0_1)) : Option (Bool × ByteArray × Bool)) := rfl
def impl_isReading.f (a0_0 : Int) (a0_1 : Int) (a0_2 : ByteArray) : Option (Bool) := (impl_within.f a0_0 0 6).bind fun t1425 => (if t1425 = true then ((impl_within.f a0_1 0 1000000000).bind fun t1426 => (if t1426 = true then (some ((a0_2.size : Int) == 8)) else (some false))) else (some false))
def impl_isReading.v (a0_0 : Int) (a0_1 : Int) (a0_2 : ByteArray) : Option (Bool) := impl_isReading.f a0_0 a0_1 a0_2
theorem impl_isReading.v_lim (a0_0 : Int) (a0_1 : Int) (a0_2 : ByteArray) : LimIs (fun _ => impl_isReading.f a0_0 a0_1 a0_2) (impl_isReading.v a0_0 a0_1 a0_2) := LimIs.const _
theorem impl_isReading.v_eq (a0_0 : Int) (a0_1 : Int) (a0_2 : ByteArray) : impl_isReading.v a0_0 a0_1 a0_2 = ((impl_within.v a0_0 0 6).bind fun t1425 => (if t1425 = true then ((impl_within.v a0_1 0 1000000000).bind fun t1426 => (if t1426 = true then (some ((a0_2.size : Int) == 8)) else (some false))) else (some false)) : Option (Bool)) := rfl
mutual
def impl_isBatch.j0 : Nat → Bool → Bool → Int → Int → Int → Int → ByteArray → List (S185) → Option (Bool)
  | 0, _, _, _, _, _, _, _, _ => none
  | k + 1, x26, x1428000, x1428001, x1428002, x1428003, x1428004, x1428005, x1428006 => if x26 = true then (some false) else (impl_isBatch.l0 k x1428006 (x1428006.length : Int) 0 x1428000 x1428001 x1428002 x1428003 x1428004 x1428005 x1428006)
def impl_isBatch.l0 : Nat → List (S185) → Int → Int → Bool → Int → Int → Int → Int → ByteArray → List (S185) → Option (Bool)
  | 0, _, _, _, _, _, _, _, _, _, _ => none
  | k + 1, x28, x29, x30, x1428000, x1428001, x1428002, x1428003, x1428004, x1428005, x1428006 => if x30 < x29 then (if 0 ≤ x30 then (if x30 < (x28.length : Int) then ((impl_isReading.f ((rd_T185 x28 x30).f0) ((rd_T185 x28 x30).f1) ((rd_T185 x28 x30).f2)).bind fun t1431 => (if t1431 = true then (if x30 > 0 then (if 0 ≤ (wrap64 (x30 - 1)) then (if (wrap64 (x30 - 1)) < (x1428006.length : Int) then (if ((rd_T185 x1428006 (wrap64 (x30 - 1))).f0) ≥ ((rd_T185 x28 x30).f0) then (some false) else (impl_isBatch.l0 k x28 x29 (wrap64 (x30 + 1)) x1428000 x1428001 x1428002 x1428003 x1428004 x1428005 x1428006)) else (none)) else (none)) else (impl_isBatch.l0 k x28 x29 (wrap64 (x30 + 1)) x1428000 x1428001 x1428002 x1428003 x1428004 x1428005 x1428006)) else (some false))) else (none)) else (none)) else (some true)
end
def impl_isBatch.f (k : Nat) (a0_0 : Bool) (a0_1 : Int) (a0_2 : Int) (a0_3 : Int) (a0_4 : Int) (a0_5 : ByteArray) (l0_6 : List (S185)) : Option (Bool) := if a0_0 = true then (if (a0_1 == 0 && (a0_2 == 0 && (a0_3 == 0 && (a0_4 == 0 && (a0_5.toList == ([] : List UInt8)))))) = true then (some ((l0_6.length : Int) == 0)) else (some false)) else ((impl_RequestOK.f k a0_1 a0_2 a0_3 a0_4 a0_5).bind fun t1428 => (if t1428 = true then (impl_isBatch.j0 k (decide ((l0_6.length : Int) > 7)) a0_0 a0_1 a0_2 a0_3 a0_4 a0_5 l0_6) else (impl_isBatch.j0 k true a0_0 a0_1 a0_2 a0_3 a0_4 a0_5 l0_6)))
theorem impl_isBatch.mono_l : ∀ k, (∀ y0 y1 y2 y3 y4 y5 y6 y7, LeO (impl_isBatch.j0 k y0 y1 y2 y3 y4 y5 y6 y7) (impl_isBatch.j0 (k + 1) y0 y1 y2 y3 y4 y5 y6 y7)) ∧ (∀ y0 y1 y2 y3 y4 y5 y6 y7 y8 y9, LeO (impl_isBatch.l0 k y0 y1 y2 y3 y4 y5 y6 y7 y8 y9) (impl_isBatch.l0 (k + 1) y0 y1 y2 y3 y4 y5 y6 y7 y8 y9))
  | 0 => ⟨fun _ _ _ _ _ _ _ _ r h => by simp [impl_isBatch.j0] at h, fun _ _ _ _ _ _ _ _ _ _ r h => by simp [impl_isBatch.l0] at h⟩
  | k + 1 => by
    obtain ⟨ih0, ih1⟩ := impl_isBatch.mono_l k
    refine ⟨?_, ?_⟩
    · intro y0 y1 y2 y3 y4 y5 y6 y7
      unfold impl_isBatch.j0
      repeat' first
      | (with_reducible exact ih0 _ _ _ _ _ _ _ _)
      | (with_reducible exact ih1 _ _ _ _ _ _ _ _ _ _)
      | (with_reducible exact impl_RequestOK.mono _ _ _ _ _ _)
      | (with_reducible exact LeO.refl _)
      | (with_reducible exact LeO.none _)
      | (with_reducible refine LeO.ite ?_ ?_)
      | (with_reducible refine LeO.bind ?_ (fun _ => ?_))
      | exact ih0 _ _ _ _ _ _ _ _
      | exact ih1 _ _ _ _ _ _ _ _ _ _
      | exact impl_RequestOK.mono _ _ _ _ _ _
      | exact LeO.none _
      | refine LeO.ite ?_ ?_
      | refine LeO.bind ?_ (fun _ => ?_)
    · intro y0 y1 y2 y3 y4 y5 y6 y7 y8 y9
      unfold impl_isBatch.l0
      repeat' first
      | (with_reducible exact ih0 _ _ _ _ _ _ _ _)
      | (with_reducible exact ih1 _ _ _ _ _ _ _ _ _ _)
      | (with_reducible exact impl_RequestOK.mono _ _ _ _ _ _)
      | (with_reducible exact LeO.refl _)
      | (with_reducible exact LeO.none _)
      | (with_reducible refine LeO.ite ?_ ?_)
      | (with_reducible refine LeO.bind ?_ (fun _ => ?_))
      | exact ih0 _ _ _ _ _ _ _ _
      | exact ih1 _ _ _ _ _ _ _ _ _ _
      | exact impl_RequestOK.mono _ _ _ _ _ _
      | exact LeO.none _
      | refine LeO.ite ?_ ?_
      | refine LeO.bind ?_ (fun _ => ?_)
theorem impl_isBatch.mono : ∀ a0 a1 a2 a3 a4 a5 a6 k, LeO (impl_isBatch.f k a0 a1 a2 a3 a4 a5 a6) (impl_isBatch.f (k + 1) a0 a1 a2 a3 a4 a5 a6) := by
  intro a0 a1 a2 a3 a4 a5 a6 k
  obtain ⟨ih0, ih1⟩ := impl_isBatch.mono_l k
  unfold impl_isBatch.f
  repeat' first
      | (with_reducible exact ih0 _ _ _ _ _ _ _ _)
      | (with_reducible exact ih1 _ _ _ _ _ _ _ _ _ _)
      | (with_reducible exact impl_RequestOK.mono _ _ _ _ _ _)
      | (with_reducible exact LeO.refl _)
      | (with_reducible exact LeO.none _)
      | (with_reducible refine LeO.ite ?_ ?_)
      | (with_reducible refine LeO.bind ?_ (fun _ => ?_))
      | exact ih0 _ _ _ _ _ _ _ _
      | exact ih1 _ _ _ _ _ _ _ _ _ _
      | exact impl_RequestOK.mono _ _ _ _ _ _
      | exact LeO.none _
      | refine LeO.ite ?_ ?_
      | refine LeO.bind ?_ (fun _ => ?_)
noncomputable def impl_isBatch.jv0 (x26 : Bool) (x1428000 : Bool) (x1428001 : Int) (x1428002 : Int) (x1428003 : Int) (x1428004 : Int) (x1428005 : ByteArray) (x1428006 : List (S185)) : Option (Bool) := lim (fun k_ => impl_isBatch.j0 k_ x26 x1428000 x1428001 x1428002 x1428003 x1428004 x1428005 x1428006)
noncomputable def impl_isBatch.lv0 (x28 : List (S185)) (x29 : Int) (x30 : Int) (x1428000 : Bool) (x1428001 : Int) (x1428002 : Int) (x1428003 : Int) (x1428004 : Int) (x1428005 : ByteArray) (x1428006 : List (S185)) : Option (Bool) := lim (fun k_ => impl_isBatch.l0 k_ x28 x29 x30 x1428000 x1428001 x1428002 x1428003 x1428004 x1428005 x1428006)
noncomputable def impl_isBatch.v (a0_0 : Bool) (a0_1 : Int) (a0_2 : Int) (a0_3 : Int) (a0_4 : Int) (a0_5 : ByteArray) (l0_6 : List (S185)) : Option (Bool) := lim (fun k_ => impl_isBatch.f k_ a0_0 a0_1 a0_2 a0_3 a0_4 a0_5 l0_6)
theorem impl_isBatch.jv0_lim (x26 : Bool) (x1428000 : Bool) (x1428001 : Int) (x1428002 : Int) (x1428003 : Int) (x1428004 : Int) (x1428005 : ByteArray) (x1428006 : List (S185)) : LimIs (fun k_ => impl_isBatch.j0 k_ x26 x1428000 x1428001 x1428002 x1428003 x1428004 x1428005 x1428006) (impl_isBatch.jv0 x26 x1428000 x1428001 x1428002 x1428003 x1428004 x1428005 x1428006) := lim_is (fun k_ => (impl_isBatch.mono_l k_).1 x26 x1428000 x1428001 x1428002 x1428003 x1428004 x1428005 x1428006)
theorem impl_isBatch.lv0_lim (x28 : List (S185)) (x29 : Int) (x30 : Int) (x1428000 : Bool) (x1428001 : Int) (x1428002 : Int) (x1428003 : Int) (x1428004 : Int) (x1428005 : ByteArray) (x1428006 : List (S185)) : LimIs (fun k_ => impl_isBatch.l0 k_ x28 x29 x30 x1428000 x1428001 x1428002 x1428003 x1428004 x1428005 x1428006) (impl_isBatch.lv0 x28 x29 x30 x1428000 x1428001 x1428002 x1428003 x1428004 x1428005 x1428006) := lim_is (fun k_ => (impl_isBatch.mono_l k_).2 x28 x29 x30 x1428000 x1428001 x1428002 x1428003 x1428004 x1428005 x1428006)
theorem impl_isBatch.v_lim (a0_0 : Bool) (a0_1 : Int) (a0_2 : Int) (a0_3 : Int) (a0_4 : Int) (a0_5 : ByteArray) (l0_6 : List (S185)) : LimIs (fun k_ => impl_isBatch.f k_ a0_0 a0_1 a0_2 a0_3 a0_4 a0_5 l0_6) (impl_isBatch.v a0_0 a0_1 a0_2 a0_3 a0_4 a0_5 l0_6) := lim_is (fun k_ => impl_isBatch.mono a0_0 a0_1 a0_2 a0_3 a0_4 a0_5 l0_6 k_)
theorem impl_isBatch.jv0_eq (x26 : Bool) (x1428000 : Bool) (x1428001 : Int) (x1428002 : Int) (x1428003 : Int) (x1428004 : Int) (x1428005 : ByteArray) (x1428006 : List (S185)) : impl_isBatch.jv0 x26 x1428000 x1428001 x1428002 x1428003 x1428004 x1428005 x1428006 = (if x26 = true then (some false) else (impl_isBatch.lv0 x1428006 (x1428006.length : Int) 0 x1428000 x1428001 x1428002 x1428003 x1428004 x1428005 x1428006) : Option (Bool)) := by
  refine LimIs.eq (impl_isBatch.jv0_lim x26 x1428000 x1428001 x1428002 x1428003 x1428004 x1428005 x1428006) ?_
  refine LimIs.step (fun k_ => (impl_isBatch.mono_l k_).1 x26 x1428000 x1428001 x1428002 x1428003 x1428004 x1428005 x1428006) ?_
  simp only [impl_isBatch.j0]
  repeat' (with_reducible first | exact impl_isBatch.lv0_lim _ _ _ _ _ _ _ _ _ _ | exact LimIs.const _ | refine LimIs.ite ?_ ?_ | refine LimIs.bind ?_ (fun _ => ?_))
theorem impl_isBatch.lv0_eq (x28 : List (S185)) (x29 : Int) (x30 : Int) (x1428000 : Bool) (x1428001 : Int) (x1428002 : Int) (x1428003 : Int) (x1428004 : Int) (x1428005 : ByteArray) (x1428006 : List (S185)) : impl_isBatch.lv0 x28 x29 x30 x1428000 x1428001 x1428002 x1428003 x1428004 x1428005 x1428006 = (if x30 < x29 then (if 0 ≤ x30 then (if x30 < (x28.length : Int) then ((impl_isReading.v ((rd_T185 x28 x30).f0) ((rd_T185 x28 x30).f1) ((rd_T185 x28 x30).f2)).bind fun t1431 => (if t1431 = true then (if x30 > 0 then (if 0 ≤ (wrap64 (x30 - 1)) then (if (wrap64 (x30 - 1)) < (x1428006.length : Int) then (if ((rd_T185 x1428006 (wrap64 (x30 - 1))).f0) ≥ ((rd_T185 x28 x30).f0) then (some false) else (impl_isBatch.lv0 x28 x29 (wrap64 (x30 + 1)) x1428000 x1428001 x1428002 x1428003 x1428004 x1428005 x1428006)) else (none)) else (none)) else (impl_isBatch.lv0 x28 x29 (wrap64 (x30 + 1)) x1428000 x1428001 x1428002 x1428003 x1428004 x1428005 x1428006)) else (some false))) else (none)) else (none)) else (some true) : Option (Bool)) := by
  refine LimIs.eq (impl_isBatch.lv0_lim x28 x29 x30 x1428000 x1428001 x1428002 x1428003 x1428004 x1428005 x1428006) ?_
  refine LimIs.step (fun k_ => (impl_isBatch.mono_l k_).2 x28 x29 x30 x1428000 x1428001 x1428002 x1428003 x1428004 x1428005 x1428006) ?_
  simp only [impl_isBatch.l0]
  repeat' (with_reducible first | exact impl_isBatch.lv0_lim _ _ _ _ _ _ _ _ _ _ | exact impl_isReading.v_lim _ _ _ | exact LimIs.const _ | refine LimIs.ite ?_ ?_ | refine LimIs.bind ?_ (fun _ => ?_))
theorem impl_isBatch.v_eq (a0_0 : Bool) (a0_1 : Int) (a0_2 : Int) (a0_3 : Int) (a0_4 : Int) (a0_5 : ByteArray) (l0_6 : List (S185)) : impl_isBatch.v a0_0 a0_1 a0_2 a0_3 a0_4 a0_5 l0_6 = (if a0_0 = true then (if (a0_1 == 0 && (a0_2 == 0 && (a0_3 == 0 && (a0_4 == 0 && (a0_5.toList == ([] : List UInt8)))))) = true then (some ((l0_6.length : Int) == 0)) else (some false)) else ((impl_RequestOK.v a0_1 a0_2 a0_3 a0_4 a0_5).bind fun t1428 => (if t1428 = true then (impl_isBatch.jv0 (decide ((l0_6.length : Int) > 7)) a0_0 a0_1 a0_2 a0_3 a0_4 a0_5 l0_6) else (impl_isBatch.jv0 true a0_0 a0_1 a0_2 a0_3 a0_4 a0_5 l0_6))) : Option (Bool)) := by
  refine LimIs.eq (impl_isBatch.v_lim a0_0 a0_1 a0_2 a0_3 a0_4 a0_5 l0_6) ?_
  simp only [impl_isBatch.f]
  repeat' (with_reducible first | exact impl_RequestOK.v_lim _ _ _ _ _ | exact impl_isBatch.jv0_lim _ _ _ _ _ _ _ _ | exact LimIs.const _ | refine LimIs.ite ?_ ?_ | refine LimIs.bind ?_ (fun _ => ?_))
def impl_readBatch.l0 : Nat → Int → Int → Int → ByteArray → Bool → Bool → Int → Int → Int → Int → ByteArray → List (S185) → Option (Bool × Int × Int × Int × Int × ByteArray × (List (S185)) × Bool)
  | 0, _, _, _, _, _, _, _, _, _, _, _, _ => none
  | k + 1, x5, x20, x21, x1435000, x1435001, x1439000, x1439001, x1439002, x1439003, x1439004, x1439005, x1439006 => if x21 < x20 then ((impl_reader_number.f k x1435000 x1435001 1).bind fun bt1439 => ((impl_reader_number.f k bt1439.2.1 bt1439.2.2 4).bind fun bt1442 => ((impl_reader_take.f bt1442.2.1 bt1442.2.2 8).bind fun bt1445 => (if x1439006.length < 4398046511104 then (impl_readBatch.l0 k x5 x20 (wrap64 (x21 + 1)) bt1445.2.1 bt1445.2.2 x1439000 x1439001 x1439002 x1439003 x1439004 x1439005 (x1439006 ++ [(⟨bt1439.1, bt1442.1, bt1445.1⟩ : S185)])) else (none))))) else ((impl_reader_request.f k x1435000 x1435001).bind fun bt1451 => (if x5 < 0 then (some (false, 0, 0, 0, 0, (⟨#[]⟩ : ByteArray), ([] : List (S185)), false)) else ((impl_reader_done.f bt1451.2.2.2.2.2.1 bt1451.2.2.2.2.2.2).bind fun bt1458 => (if bt1458.1 = true then ((impl_isBatch.f k x1439000 bt1451.1 bt1451.2.1 bt1451.2.2.1 bt1451.2.2.2.1 bt1451.2.2.2.2.1 x1439006).bind fun t1461 => (if t1461 = true then (some (x1439000, bt1451.1, bt1451.2.1, bt1451.2.2.1, bt1451.2.2.2.1, bt1451.2.2.2.2.1, x1439006, true)) else (some (false, 0, 0, 0, 0, (⟨#[]⟩ : ByteArray), ([] : List (S185)), false)))) else (some (false, 0, 0, 0, 0, (⟨#[]⟩ : ByteArray), ([] : List (S185)), false))))))
def impl_readBatch.f (k : Nat) (a0 : ByteArray) : Option (Bool × Int × Int × Int × Int × ByteArray × (List (S185)) × Bool) := if a0.toList = ([0] : List UInt8) then (some (true, 0, 0, 0, 0, (⟨#[]⟩ : ByteArray), ([] : List (S185)), true)) else ((impl_reader_number.f k a0 false 1).bind fun bt1435 => (if (wrap64 (bt1435.1 - 1)) > 7 then (some (false, 0, 0, 0, 0, (⟨#[]⟩ : ByteArray), ([] : List (S185)), false)) else (impl_readBatch.l0 k (wrap64 (bt1435.1 - 1)) (mx (wrap64 (bt1435.1 - 1)) 0) 0 bt1435.2.1 bt1435.2.2 false 0 0 0 0 (⟨#[]⟩ : ByteArray) ([] : List (S185)))))
theorem impl_readBatch.mono_l : ∀ k, (∀ y0 y1 y2 y3 y4 y5 y6 y7 y8 y9 y10 y11, LeO (impl_readBatch.l0 k y0 y1 y2 y3 y4 y5 y6 y7 y8 y9 y10 y11) (impl_readBatch.l0 (k + 1) y0 y1 y2 y3 y4 y5 y6 y7 y8 y9 y10 y11))
  | 0 => fun _ _ _ _ _ _ _ _ _ _ _ _ r h => by simp [impl_readBatch.l0] at h
  | k + 1 => by
    have ih0 := impl_readBatch.mono_l k
    · intro y0 y1 y2 y3 y4 y5 y6 y7 y8 y9 y10 y11
      unfold impl_readBatch.l0
      repeat' first
      | (with_reducible exact ih0 _ _ _ _ _ _ _ _ _ _ _ _)
      | (with_reducible exact impl_isBatch.mono _ _ _ _ _ _ _ _)
      | (with_reducible exact impl_reader_number.mono _ _ _ _)
      | (with_reducible exact impl_reader_request.mono _ _ _)
      | (with_reducible exact LeO.refl _)
      | (with_reducible exact LeO.none _)
      | (with_reducible refine LeO.ite ?_ ?_)
      | (with_reducible refine LeO.bind ?_ (fun _ => ?_))
      | exact ih0 _ _ _ _ _ _ _ _ _ _ _ _
      | exact impl_isBatch.mono _ _ _ _ _ _ _ _
      | exact impl_reader_number.mono _ _ _ _
      | exact impl_reader_request.mono _ _ _
      | exact LeO.none _
      | refine LeO.ite ?_ ?_
      | refine LeO.bind ?_ (fun _ => ?_)
theorem impl_readBatch.mono : ∀ a0 k, LeO (impl_readBatch.f k a0) (impl_readBatch.f (k + 1) a0) := by
  intro a0 k
  have ih0 := impl_readBatch.mono_l k
  unfold impl_readBatch.f
  repeat' first
      | (with_reducible exact ih0 _ _ _ _ _ _ _ _ _ _ _ _)
      | (with_reducible exact impl_isBatch.mono _ _ _ _ _ _ _ _)
      | (with_reducible exact impl_reader_number.mono _ _ _ _)
      | (with_reducible exact impl_reader_request.mono _ _ _)
      | (with_reducible exact LeO.refl _)
      | (with_reducible exact LeO.none _)
      | (with_reducible refine LeO.ite ?_ ?_)
      | (with_reducible refine LeO.bind ?_ (fun _ => ?_))
      | exact ih0 _ _ _ _ _ _ _ _ _ _ _ _
      | exact impl_isBatch.mono _ _ _ _ _ _ _ _
      | exact impl_reader_number.mono _ _ _ _
      | exact impl_reader_request.mono _ _ _
      | exact LeO.none _
      | refine LeO.ite ?_ ?_
      | refine LeO.bind ?_ (fun _ => ?_)
noncomputable def impl_readBatch.lv0 (x5 : Int) (x20 : Int) (x21 : Int) (x1435000 : ByteArray) (x1435001 : Bool) (x1439000 : Bool) (x1439001 : Int) (x1439002 : Int) (x1439003 : Int) (x1439004 : Int) (x1439005 : ByteArray) (x1439006 : List (S185)) : Option (Bool × Int × Int × Int × Int × ByteArray × (List (S185)) × Bool) := lim (fun k_ => impl_readBatch.l0 k_ x5 x20 x21 x1435000 x1435001 x1439000 x1439001 x1439002 x1439003 x1439004 x1439005 x1439006)
noncomputable def impl_readBatch.v (a0 : ByteArray) : Option (Bool × Int × Int × Int × Int × ByteArray × (List (S185)) × Bool) := lim (fun k_ => impl_readBatch.f k_ a0)
theorem impl_readBatch.lv0_lim (x5 : Int) (x20 : Int) (x21 : Int) (x1435000 : ByteArray) (x1435001 : Bool) (x1439000 : Bool) (x1439001 : Int) (x1439002 : Int) (x1439003 : Int) (x1439004 : Int) (x1439005 : ByteArray) (x1439006 : List (S185)) : LimIs (fun k_ => impl_readBatch.l0 k_ x5 x20 x21 x1435000 x1435001 x1439000 x1439001 x1439002 x1439003 x1439004 x1439005 x1439006) (impl_readBatch.lv0 x5 x20 x21 x1435000 x1435001 x1439000 x1439001 x1439002 x1439003 x1439004 x1439005 x1439006) := lim_is (fun k_ => (impl_readBatch.mono_l k_) x5 x20 x21 x1435000 x1435001 x1439000 x1439001 x1439002 x1439003 x1439004 x1439005 x1439006)
theorem impl_readBatch.v_lim (a0 : ByteArray) : LimIs (fun k_ => impl_readBatch.f k_ a0) (impl_readBatch.v a0) := lim_is (fun k_ => impl_readBatch.mono a0 k_)
theorem impl_readBatch.lv0_eq (x5 : Int) (x20 : Int) (x21 : Int) (x1435000 : ByteArray) (x1435001 : Bool) (x1439000 : Bool) (x1439001 : Int) (x1439002 : Int) (x1439003 : Int) (x1439004 : Int) (x1439005 : ByteArray) (x1439006 : List (S185)) : impl_readBatch.lv0 x5 x20 x21 x1435000 x1435001 x1439000 x1439001 x1439002 x1439003 x1439004 x1439005 x1439006 = (if x21 < x20 then ((impl_reader_number.v x1435000 x1435001 1).bind fun bt1439 => ((impl_reader_number.v bt1439.2.1 bt1439.2.2 4).bind fun bt1442 => ((impl_reader_take.v bt1442.2.1 bt1442.2.2 8).bind fun bt1445 => (if x1439006.length < 4398046511104 then (impl_readBatch.lv0 x5 x20 (wrap64 (x21 + 1)) bt1445.2.1 bt1445.2.2 x1439000 x1439001 x1439002 x1439003 x1439004 x1439005 (x1439006 ++ [(⟨bt1439.1, bt1442.1, bt1445.1⟩ : S185)])) else (none))))) else ((impl_reader_request.v x1435000 x1435001).bind fun bt1451 => (if x5 < 0 then (some (false, 0, 0, 0, 0, (⟨#[]⟩ : ByteArray), ([] : List (S185)), false)) else ((impl_reader_done.v bt1451.2.2.2.2.2.1 bt1451.2.2.2.2.2.2).bind fun bt1458 => (if bt1458.1 = true then ((impl_isBatch.v x1439000 bt1451.1 bt1451.2.1 bt1451.2.2.1 bt1451.2.2.2.1 bt1451.2.2.2.2.1 x1439006).bind fun t1461 => (if t1461 = true then (some (x1439000, bt1451.1, bt1451.2.1, bt1451.2.2.1, bt1451.2.2.2.1, bt1451.2.2.2.2.1, x1439006, true)) else (some (false, 0, 0, 0, 0, (⟨#[]⟩ : ByteArray), ([] : List (S185)), false)))) else (some (false, 0, 0, 0, 0, (⟨#[]⟩ : ByteArray), ([] : List (S185)), false)))))) : Option (Bool × Int × Int × Int × Int × ByteArray × (List (S185)) × Bool)) := by
  refine LimIs.eq (impl_readBatch.lv0_lim x5 x20 x21 x1435000 x1435001 x1439000 x1439001 x1439002 x1439003 x1439004 x1439005 x1439006) ?_
  refine LimIs.step (fun k_ => (impl_readBatch.mono_l k_) x5 x20 x21 x1435000 x1435001 x1439000 x1439001 x1439002 x1439003 x1439004 x1439005 x1439006) ?_
  simp only [impl_readBatch.l0]
  repeat' (with_reducible first | exact impl_isBatch.v_lim _ _ _ _ _ _ _ | exact impl_readBatch.lv0_lim _ _ _ _ _ _ _ _ _ _ _ _ | exact impl_reader_done.v_lim _ _ | exact impl_reader_number.v_lim _ _ _ | exact impl_reader_request.v_lim _ _ | exact impl_reader_take.v_lim _ _ _ | exact LimIs.const _ | refine LimIs.ite ?_ ?_ | refine LimIs.bind ?_ (fun _ => ?_))
theorem impl_readBatch.v_eq (a0 : ByteArray) : impl_readBatch.v a0 = (if a0.toList = ([0] : List UInt8) then (some (true, 0, 0, 0, 0, (⟨#[]⟩ : ByteArray), ([] : List (S185)), true)) else ((impl_reader_number.v a0 false 1).bind fun bt1435 => (if (wrap64 (bt1435.1 - 1)) > 7 then (some (false, 0, 0, 0, 0, (⟨#[]⟩ : ByteArray), ([] : List (S185)), false)) else (impl_readBatch.lv0 (wrap64 (bt1435.1 - 1)) (mx (wrap64 (bt1435.1 - 1)) 0) 0 bt1435.2.1 bt1435.2.2 false 0 0 0 0 (⟨#[]⟩ : ByteArray) ([] : List (S185))))) : Option (Bool × Int × Int × Int × Int × ByteArray × (List (S185)) × Bool)) := by
  refine LimIs.eq (impl_readBatch.v_lim a0) ?_
  simp only [impl_readBatch.f]
  repeat' (with_reducible first | exact impl_readBatch.lv0_lim _ _ _ _ _ _ _ _ _ _ _ _ | exact impl_reader_number.v_lim _ _ _ | exact LimIs.const _ | refine LimIs.ite ?_ ?_ | refine LimIs.bind ?_ (fun _ => ?_))
def impl_quorum.f (a0 : Int) : Option (Int) := some (wrap64 ((wrap64 ((wrap64 (Int.tdiv (wrap64 (a0 - 1)) 3)) * 2)) + 1))
def impl_quorum.v (a0 : Int) : Option (Int) := impl_quorum.f a0
theorem impl_quorum.v_lim (a0 : Int) : LimIs (fun _ => impl_quorum.f a0) (impl_quorum.v a0) := LimIs.const _
theorem impl_quorum.v_eq (a0 : Int) : impl_quorum.v a0 = (some (wrap64 ((wrap64 ((wrap64 (Int.tdiv (wrap64 (a0 - 1)) 3)) * 2)) + 1)) : Option (Int)) := rfl
def impl_readingMac.f (k : Nat) (a0 : Int) (a1 : Int) : Option (ByteArray) := (impl_number.f k a1 4).bind fun t1462 => (if 5 + t1462.size ≤ 9223372036854775807 then ((impl_mark.f k a0 ((⟨#[99, 108, 111, 99, 107]⟩ : ByteArray) ++ t1462)).bind fun t1463 => (some t1463)) else (none))
theorem impl_readingMac.mono : ∀ a0 a1 k, LeO (impl_readingMac.f k a0 a1) (impl_readingMac.f (k + 1) a0 a1) := by
  intro a0 a1 k
  unfold impl_readingMac.f
  repeat' first
      | (with_reducible exact impl_mark.mono _ _ _)
      | (with_reducible exact impl_number.mono _ _ _)
      | (with_reducible exact LeO.refl _)
      | (with_reducible exact LeO.none _)
      | (with_reducible refine LeO.ite ?_ ?_)
      | (with_reducible refine LeO.bind ?_ (fun _ => ?_))
      | exact impl_mark.mono _ _ _
      | exact impl_number.mono _ _ _
      | exact LeO.none _
      | refine LeO.ite ?_ ?_
      | refine LeO.bind ?_ (fun _ => ?_)
noncomputable def impl_readingMac.v (a0 : Int) (a1 : Int) : Option (ByteArray) := lim (fun k_ => impl_readingMac.f k_ a0 a1)
theorem impl_readingMac.v_lim (a0 : Int) (a1 : Int) : LimIs (fun k_ => impl_readingMac.f k_ a0 a1) (impl_readingMac.v a0 a1) := lim_is (fun k_ => impl_readingMac.mono a0 a1 k_)
theorem impl_readingMac.v_eq (a0 : Int) (a1 : Int) : impl_readingMac.v a0 a1 = ((impl_number.v a1 4).bind fun t1462 => (if 5 + t1462.size ≤ 9223372036854775807 then ((impl_mark.v a0 ((⟨#[99, 108, 111, 99, 107]⟩ : ByteArray) ++ t1462)).bind fun t1463 => (some t1463)) else (none)) : Option (ByteArray)) := by
  refine LimIs.eq (impl_readingMac.v_lim a0 a1) ?_
  simp only [impl_readingMac.f]
  repeat' (with_reducible first | exact impl_mark.v_lim _ _ | exact impl_number.v_lim _ _ | exact LimIs.const _ | refine LimIs.ite ?_ ?_ | refine LimIs.bind ?_ (fun _ => ?_))
def cmp_isNaN_int.f (a0 : Int) : Option (Bool) := some (a0 != a0)
def cmp_isNaN_int.v (a0 : Int) : Option (Bool) := cmp_isNaN_int.f a0
theorem cmp_isNaN_int.v_eq (a0 : Int) : cmp_isNaN_int.v a0 = (some (a0 != a0) : Option (Bool)) := rfl
def cmp_Less_int.f (a0 : Int) (a1 : Int) : Option (Bool) := (cmp_isNaN_int.f a0).bind fun t1464 => (if t1464 = true then ((cmp_isNaN_int.f a1).bind fun t1465 => (if t1465 = true then (some (decide (a0 < a1))) else (some true))) else (some (decide (a0 < a1))))
def cmp_Less_int.v (a0 : Int) (a1 : Int) : Option (Bool) := cmp_Less_int.f a0 a1
theorem cmp_Less_int.v_lim (a0 : Int) (a1 : Int) : LimIs (fun _ => cmp_Less_int.f a0 a1) (cmp_Less_int.v a0 a1) := LimIs.const _
theorem cmp_Less_int.v_eq (a0 : Int) (a1 : Int) : cmp_Less_int.v a0 a1 = ((cmp_isNaN_int.v a0).bind fun t1464 => (if t1464 = true then ((cmp_isNaN_int.v a1).bind fun t1465 => (if t1465 = true then (some (decide (a0 < a1))) else (some true))) else (some (decide (a0 < a1)))) : Option (Bool)) := rfl
mutual
def slices_insertionSortOrdered_int.l0 : Nat → List Int → Int → Int → Int → Option (List Int)
  | 0, _, _, _, _ => none
  | k + 1, x0, x1, x2, x6 => if x6 < x2 then (slices_insertionSortOrdered_int.l1 k x0 x1 x2 x6 x6) else (some x0)
def slices_insertionSortOrdered_int.l1 : Nat → List Int → Int → Int → Int → Int → Option (List Int)
  | 0, _, _, _, _, _ => none
  | k + 1, x0, x1, x2, x6, x7 => if x7 > x1 then (if 0 ≤ x7 then (if x7 < (x0.length : Int) then (if 0 ≤ (wrap64 (x7 - 1)) then (if (wrap64 (x7 - 1)) < (x0.length : Int) then ((cmp_Less_int.f (rd x0 x7) (rd x0 (wrap64 (x7 - 1)))).bind fun t1468 => (if t1468 = true then (slices_insertionSortOrdered_int.l1 k ((x0.set (x7 : Int).toNat (rd x0 (wrap64 (x7 - 1)))).set ((wrap64 (x7 - 1)) : Int).toNat (rd x0 x7)) x1 x2 x6 (wrap64 (x7 - 1))) else (slices_insertionSortOrdered_int.l0 k x0 x1 x2 (wrap64 (x6 + 1))))) else (none)) else (none)) else (none)) else (none)) else (slices_insertionSortOrdered_int.l0 k x0 x1 x2 (wrap64 (x6 + 1)))
end
def slices_insertionSortOrdered_int.f (k : Nat) (l0 : List Int) (a1 : Int) (a2 : Int) : Option (List Int) := slices_insertionSortOrdered_int.l0 k l0 a1 a2 (wrap64 (a1 + 1))
theorem slices_insertionSortOrdered_int.mono_l : ∀ k, (∀ y0 y1 y2 y3, LeO (slices_insertionSortOrdered_int.l0 k y0 y1 y2 y3) (slices_insertionSortOrdered_int.l0 (k + 1) y0 y1 y2 y3)) ∧ (∀ y0 y1 y2 y3 y4, LeO (slices_insertionSortOrdered_int.l1 k y0 y1 y2 y3 y4) (slices_insertionSortOrdered_int.l1 (k + 1) y0 y1 y2 y3 y4))
  | 0 => ⟨fun _ _ _ _ r h => by simp [slices_insertionSortOrdered_int.l0] at h, fun _ _ _ _ _ r h => by simp [slices_insertionSortOrdered_int.l1] at h⟩
  | k + 1 => by
    obtain ⟨ih0, ih1⟩ := slices_insertionSortOrdered_int.mono_l k
    refine ⟨?_, ?_⟩
    · intro y0 y1 y2 y3
      unfold slices_insertionSortOrdered_int.l0
      repeat' first
      | (with_reducible exact ih0 _ _ _ _)
      | (with_reducible exact ih1 _ _ _ _ _)
      | (with_reducible exact LeO.refl _)
      | (with_reducible exact LeO.none _)
      | (with_reducible refine LeO.ite ?_ ?_)
      | (with_reducible refine LeO.bind ?_ (fun _ => ?_))
      | exact ih0 _ _ _ _
      | exact ih1 _ _ _ _ _
      | exact LeO.none _
      | refine LeO.ite ?_ ?_
      | refine LeO.bind ?_ (fun _ => ?_)
    · intro y0 y1 y2 y3 y4
      unfold slices_insertionSortOrdered_int.l1
      repeat' first
      | (with_reducible exact ih0 _ _ _ _)
      | (with_reducible exact ih1 _ _ _ _ _)
      | (with_reducible exact LeO.refl _)
      | (with_reducible exact LeO.none _)
      | (with_reducible refine LeO.ite ?_ ?_)
      | (with_reducible refine LeO.bind ?_ (fun _ => ?_))
      | exact ih0 _ _ _ _
      | exact ih1 _ _ _ _ _
      | exact LeO.none _
      | refine LeO.ite ?_ ?_
      | refine LeO.bind ?_ (fun _ => ?_)
theorem slices_insertionSortOrdered_int.mono : ∀ a0 a1 a2 k, LeO (slices_insertionSortOrdered_int.f k a0 a1 a2) (slices_insertionSortOrdered_int.f (k + 1) a0 a1 a2) := by
  intro a0 a1 a2 k
  obtain ⟨ih0, ih1⟩ := slices_insertionSortOrdered_int.mono_l k
  unfold slices_insertionSortOrdered_int.f
  repeat' first
      | (with_reducible exact ih0 _ _ _ _)
      | (with_reducible exact ih1 _ _ _ _ _)
      | (with_reducible exact LeO.refl _)
      | (with_reducible exact LeO.none _)
      | (with_reducible refine LeO.ite ?_ ?_)
      | (with_reducible refine LeO.bind ?_ (fun _ => ?_))
      | exact ih0 _ _ _ _
      | exact ih1 _ _ _ _ _
      | exact LeO.none _
      | refine LeO.ite ?_ ?_
      | refine LeO.bind ?_ (fun _ => ?_)
noncomputable def slices_insertionSortOrdered_int.lv0 (x0 : List Int) (x1 : Int) (x2 : Int) (x6 : Int) : Option (List Int) := lim (fun k_ => slices_insertionSortOrdered_int.l0 k_ x0 x1 x2 x6)
noncomputable def slices_insertionSortOrdered_int.lv1 (x0 : List Int) (x1 : Int) (x2 : Int) (x6 : Int) (x7 : Int) : Option (List Int) := lim (fun k_ => slices_insertionSortOrdered_int.l1 k_ x0 x1 x2 x6 x7)
noncomputable def slices_insertionSortOrdered_int.v (l0 : List Int) (a1 : Int) (a2 : Int) : Option (List Int) := lim (fun k_ => slices_insertionSortOrdered_int.f k_ l0 a1 a2)
theorem slices_insertionSortOrdered_int.lv0_lim (x0 : List Int) (x1 : Int) (x2 : Int) (x6 : Int) : LimIs (fun k_ => slices_insertionSortOrdered_int.l0 k_ x0 x1 x2 x6) (slices_insertionSortOrdered_int.lv0 x0 x1 x2 x6) := lim_is (fun k_ => (slices_insertionSortOrdered_int.mono_l k_).1 x0 x1 x2 x6)
theorem slices_insertionSortOrdered_int.lv1_lim (x0 : List Int) (x1 : Int) (x2 : Int) (x6 : Int) (x7 : Int) : LimIs (fun k_ => slices_insertionSortOrdered_int.l1 k_ x0 x1 x2 x6 x7) (slices_insertionSortOrdered_int.lv1 x0 x1 x2 x6 x7) := lim_is (fun k_ => (slices_insertionSortOrdered_int.mono_l k_).2 x0 x1 x2 x6 x7)
theorem slices_insertionSortOrdered_int.v_lim (l0 : List Int) (a1 : Int) (a2 : Int) : LimIs (fun k_ => slices_insertionSortOrdered_int.f k_ l0 a1 a2) (slices_insertionSortOrdered_int.v l0 a1 a2) := lim_is (fun k_ => slices_insertionSortOrdered_int.mono l0 a1 a2 k_)
theorem slices_insertionSortOrdered_int.lv0_eq (x0 : List Int) (x1 : Int) (x2 : Int) (x6 : Int) : slices_insertionSortOrdered_int.lv0 x0 x1 x2 x6 = (if x6 < x2 then (slices_insertionSortOrdered_int.lv1 x0 x1 x2 x6 x6) else (some x0) : Option (List Int)) := by
  refine LimIs.eq (slices_insertionSortOrdered_int.lv0_lim x0 x1 x2 x6) ?_
  refine LimIs.step (fun k_ => (slices_insertionSortOrdered_int.mono_l k_).1 x0 x1 x2 x6) ?_
  simp only [slices_insertionSortOrdered_int.l0]
  repeat' (with_reducible first | exact slices_insertionSortOrdered_int.lv1_lim _ _ _ _ _ | exact LimIs.const _ | refine LimIs.ite ?_ ?_ | refine LimIs.bind ?_ (fun _ => ?_))
theorem slices_insertionSortOrdered_int.lv1_eq (x0 : List Int) (x1 : Int) (x2 : Int) (x6 : Int) (x7 : Int) : slices_insertionSortOrdered_int.lv1 x0 x1 x2 x6 x7 = (if x7 > x1 then (if 0 ≤ x7 then (if x7 < (x0.length : Int) then (if 0 ≤ (wrap64 (x7 - 1)) then (if (wrap64 (x7 - 1)) < (x0.length : Int) then ((cmp_Less_int.v (rd x0 x7) (rd x0 (wrap64 (x7 - 1)))).bind fun t1468 => (if t1468 = true then (slices_insertionSortOrdered_int.lv1 ((x0.set (x7 : Int).toNat (rd x0 (wrap64 (x7 - 1)))).set ((wrap64 (x7 - 1)) : Int).toNat (rd x0 x7)) x1 x2 x6 (wrap64 (x7 - 1))) else (slices_insertionSortOrdered_int.lv0 x0 x1 x2 (wrap64 (x6 + 1))))) else (none)) else (none)) else (none)) else (none)) else (slices_insertionSortOrdered_int.lv0 x0 x1 x2 (wrap64 (x6 + 1))) : Option (List Int)) := by
  refine LimIs.eq (slices_insertionSortOrdered_int.lv1_lim x0 x1 x2 x6 x7) ?_
  refine LimIs.step (fun k_ => (slices_insertionSortOrdered_int.mono_l k_).2 x0 x1 x2 x6 x7) ?_
  simp only [slices_insertionSortOrdered_int.l1]
  repeat' (with_reducible first | exact cmp_Less_int.v_lim _ _ | exact slices_insertionSortOrdered_int.lv0_lim _ _ _ _ | exact slices_insertionSortOrdered_int.lv1_lim _ _ _ _ _ | exact LimIs.const _ | refine LimIs.ite ?_ ?_ | refine LimIs.bind ?_ (fun _ => ?_))
theorem slices_insertionSortOrdered_int.v_eq (l0 : List Int) (a1 : Int) (a2 : Int) : slices_insertionSortOrdered_int.v l0 a1 a2 = (slices_insertionSortOrdered_int.lv0 l0 a1 a2 (wrap64 (a1 + 1)) : Option (List Int)) := by
  refine LimIs.eq (slices_insertionSortOrdered_int.v_lim l0 a1 a2) ?_
  simp only [slices_insertionSortOrdered_int.f]
  repeat' (with_reducible first | exact slices_insertionSortOrdered_int.lv0_lim _ _ _ _ | exact LimIs.const _ | refine LimIs.ite ?_ ?_ | refine LimIs.bind ?_ (fun _ => ?_))
def impl_median.f (k : Nat) (l0 : List Int) : Option (Int) := if l0.length = 1 ∨ l0.length = 3 ∨ l0.length = 5 then ((slices_insertionSortOrdered_int.f k l0 0 (l0.length : Int)).bind fun t1 => (some (rd t1 (Int.tdiv (l0.length : Int) 2)))) else (none)
theorem impl_median.mono : ∀ l0 k, LeO (impl_median.f k l0) (impl_median.f (k + 1) l0) := by
  intro l0 k
  unfold impl_median.f
  repeat' first
      | (with_reducible exact slices_insertionSortOrdered_int.mono _ _ _ _)
      | (with_reducible exact LeO.refl _)
      | refine LeO.ite ?_ ?_
      | refine LeO.bind ?_ (fun _ => ?_)
noncomputable def impl_median.v (l0 : List Int) : Option (Int) := lim (fun k_ => impl_median.f k_ l0)
theorem impl_median.v_lim (l0 : List Int) : LimIs (fun k_ => impl_median.f k_ l0) (impl_median.v l0) := lim_is (fun k_ => impl_median.mono l0 k_)
theorem impl_median.v_eq (l0 : List Int) : impl_median.v l0 = (if l0.length = 1 ∨ l0.length = 3 ∨ l0.length = 5 then ((slices_insertionSortOrdered_int.v l0 0 (l0.length : Int)).bind fun t1 => (some (rd t1 (Int.tdiv (l0.length : Int) 2)))) else (none) : Option (Int)) := by
  refine LimIs.eq (impl_median.v_lim l0) ?_
  simp only [impl_median.f]
  repeat' (with_reducible first | exact slices_insertionSortOrdered_int.v_lim _ _ _ | exact LimIs.const _ | refine LimIs.ite ?_ ?_ | refine LimIs.bind ?_ (fun _ => ?_))
def impl_readingsTime.l0 : Nat → Int → List (S185) → List Int → List (S185) → Int → Int → Option (Int × Bool)
  | 0, _, _, _, _, _, _ => none
  | k + 1, x0, x1, x6, x14, x15, x16 => if x16 < x15 then (if 0 ≤ x16 then (if x16 < (x14.length : Int) then ((impl_isReading.f ((rd_T185 x14 x16).f0) ((rd_T185 x14 x16).f1) ((rd_T185 x14 x16).f2)).bind fun t1477 => (if t1477 = true then (if ((rd_T185 x14 x16).f0) ≥ x0 then (some (0, false)) else (if x16 > 0 then (if 0 ≤ (wrap64 (x16 - 1)) then (if (wrap64 (x16 - 1)) < (x1.length : Int) then (if ((rd_T185 x1 (wrap64 (x16 - 1))).f0) ≥ ((rd_T185 x14 x16).f0) then (some (0, false)) else ((impl_readingMac.f k ((rd_T185 x14 x16).f0) ((rd_T185 x14 x16).f1)).bind fun t1479 => (if ((rd_T185 x14 x16).f2).toList = t1479.toList then (if x6.length < 17592186044416 then (impl_readingsTime.l0 k x0 x1 (x6 ++ [(rd_T185 x14 x16).f1]) x14 x15 (wrap64 (x16 + 1))) else (none)) else (some (0, false))))) else (none)) else (none)) else ((impl_readingMac.f k ((rd_T185 x14 x16).f0) ((rd_T185 x14 x16).f1)).bind fun t1483 => (if ((rd_T185 x14 x16).f2).toList = t1483.toList then (if x6.length < 17592186044416 then (impl_readingsTime.l0 k x0 x1 (x6 ++ [(rd_T185 x14 x16).f1]) x14 x15 (wrap64 (x16 + 1))) else (none)) else (some (0, false)))))) else (some (0, false)))) else (none)) else (none)) else ((impl_median.f k x6).bind fun t1474 => (some (t1474, true)))
def impl_readingsTime.f (k : Nat) (a0 : Int) (l1 : List (S185)) : Option (Int × Bool) := (impl_quorum.f a0).bind fun t1473 => (if (l1.length : Int) = t1473 then (impl_readingsTime.l0 k a0 l1 ([] : List Int) l1 (l1.length : Int) 0) else (some (0, false)))
theorem impl_readingsTime.mono_l : ∀ k, (∀ y0 y1 y2 y3 y4 y5, LeO (impl_readingsTime.l0 k y0 y1 y2 y3 y4 y5) (impl_readingsTime.l0 (k + 1) y0 y1 y2 y3 y4 y5))
  | 0 => fun _ _ _ _ _ _ r h => by simp [impl_readingsTime.l0] at h
  | k + 1 => by
    have ih0 := impl_readingsTime.mono_l k
    · intro y0 y1 y2 y3 y4 y5
      unfold impl_readingsTime.l0
      repeat' first
      | (with_reducible exact ih0 _ _ _ _ _ _)
      | (with_reducible exact impl_median.mono _ _)
      | (with_reducible exact impl_readingMac.mono _ _ _)
      | (with_reducible exact LeO.refl _)
      | (with_reducible exact LeO.none _)
      | (with_reducible refine LeO.ite ?_ ?_)
      | (with_reducible refine LeO.bind ?_ (fun _ => ?_))
      | exact ih0 _ _ _ _ _ _
      | exact impl_median.mono _ _
      | exact impl_readingMac.mono _ _ _
      | exact LeO.none _
      | refine LeO.ite ?_ ?_
      | refine LeO.bind ?_ (fun _ => ?_)
theorem impl_readingsTime.mono : ∀ a0 a1 k, LeO (impl_readingsTime.f k a0 a1) (impl_readingsTime.f (k + 1) a0 a1) := by
  intro a0 a1 k
  have ih0 := impl_readingsTime.mono_l k
  unfold impl_readingsTime.f
  repeat' first
      | (with_reducible exact ih0 _ _ _ _ _ _)
      | (with_reducible exact impl_median.mono _ _)
      | (with_reducible exact impl_readingMac.mono _ _ _)
      | (with_reducible exact LeO.refl _)
      | (with_reducible exact LeO.none _)
      | (with_reducible refine LeO.ite ?_ ?_)
      | (with_reducible refine LeO.bind ?_ (fun _ => ?_))
      | exact ih0 _ _ _ _ _ _
      | exact impl_median.mono _ _
      | exact impl_readingMac.mono _ _ _
      | exact LeO.none _
      | refine LeO.ite ?_ ?_
      | refine LeO.bind ?_ (fun _ => ?_)
noncomputable def impl_readingsTime.lv0 (x0 : Int) (x1 : List (S185)) (x6 : List Int) (x14 : List (S185)) (x15 : Int) (x16 : Int) : Option (Int × Bool) := lim (fun k_ => impl_readingsTime.l0 k_ x0 x1 x6 x14 x15 x16)
noncomputable def impl_readingsTime.v (a0 : Int) (l1 : List (S185)) : Option (Int × Bool) := lim (fun k_ => impl_readingsTime.f k_ a0 l1)
theorem impl_readingsTime.lv0_lim (x0 : Int) (x1 : List (S185)) (x6 : List Int) (x14 : List (S185)) (x15 : Int) (x16 : Int) : LimIs (fun k_ => impl_readingsTime.l0 k_ x0 x1 x6 x14 x15 x16) (impl_readingsTime.lv0 x0 x1 x6 x14 x15 x16) := lim_is (fun k_ => (impl_readingsTime.mono_l k_) x0 x1 x6 x14 x15 x16)
theorem impl_readingsTime.v_lim (a0 : Int) (l1 : List (S185)) : LimIs (fun k_ => impl_readingsTime.f k_ a0 l1) (impl_readingsTime.v a0 l1) := lim_is (fun k_ => impl_readingsTime.mono a0 l1 k_)
theorem impl_readingsTime.lv0_eq (x0 : Int) (x1 : List (S185)) (x6 : List Int) (x14 : List (S185)) (x15 : Int) (x16 : Int) : impl_readingsTime.lv0 x0 x1 x6 x14 x15 x16 = (if x16 < x15 then (if 0 ≤ x16 then (if x16 < (x14.length : Int) then ((impl_isReading.v ((rd_T185 x14 x16).f0) ((rd_T185 x14 x16).f1) ((rd_T185 x14 x16).f2)).bind fun t1477 => (if t1477 = true then (if ((rd_T185 x14 x16).f0) ≥ x0 then (some (0, false)) else (if x16 > 0 then (if 0 ≤ (wrap64 (x16 - 1)) then (if (wrap64 (x16 - 1)) < (x1.length : Int) then (if ((rd_T185 x1 (wrap64 (x16 - 1))).f0) ≥ ((rd_T185 x14 x16).f0) then (some (0, false)) else ((impl_readingMac.v ((rd_T185 x14 x16).f0) ((rd_T185 x14 x16).f1)).bind fun t1479 => (if ((rd_T185 x14 x16).f2).toList = t1479.toList then (if x6.length < 17592186044416 then (impl_readingsTime.lv0 x0 x1 (x6 ++ [(rd_T185 x14 x16).f1]) x14 x15 (wrap64 (x16 + 1))) else (none)) else (some (0, false))))) else (none)) else (none)) else ((impl_readingMac.v ((rd_T185 x14 x16).f0) ((rd_T185 x14 x16).f1)).bind fun t1483 => (if ((rd_T185 x14 x16).f2).toList = t1483.toList then (if x6.length < 17592186044416 then (impl_readingsTime.lv0 x0 x1 (x6 ++ [(rd_T185 x14 x16).f1]) x14 x15 (wrap64 (x16 + 1))) else (none)) else (some (0, false)))))) else (some (0, false)))) else (none)) else (none)) else ((impl_median.v x6).bind fun t1474 => (some (t1474, true))) : Option (Int × Bool)) := by
  refine LimIs.eq (impl_readingsTime.lv0_lim x0 x1 x6 x14 x15 x16) ?_
  refine LimIs.step (fun k_ => (impl_readingsTime.mono_l k_) x0 x1 x6 x14 x15 x16) ?_
  simp only [impl_readingsTime.l0]
  repeat' (with_reducible first | exact impl_isReading.v_lim _ _ _ | exact impl_median.v_lim _ | exact impl_readingMac.v_lim _ _ | exact impl_readingsTime.lv0_lim _ _ _ _ _ _ | exact LimIs.const _ | refine LimIs.ite ?_ ?_ | refine LimIs.bind ?_ (fun _ => ?_))
theorem impl_readingsTime.v_eq (a0 : Int) (l1 : List (S185)) : impl_readingsTime.v a0 l1 = ((impl_quorum.v a0).bind fun t1473 => (if (l1.length : Int) = t1473 then (impl_readingsTime.lv0 a0 l1 ([] : List Int) l1 (l1.length : Int) 0) else (some (0, false))) : Option (Int × Bool)) := by
  refine LimIs.eq (impl_readingsTime.v_lim a0 l1) ?_
  simp only [impl_readingsTime.f]
  repeat' (with_reducible first | exact impl_quorum.v_lim _ | exact impl_readingsTime.lv0_lim _ _ _ _ _ _ | exact LimIs.const _ | refine LimIs.ite ?_ ?_ | refine LimIs.bind ?_ (fun _ => ?_))
def impl_bodyTime.f (k : Nat) (a0 : Int) (a1 : ByteArray) : Option (Bool × Int × Int × Int × Int × ByteArray × (List (S185)) × Int × Bool) := (impl_readBatch.f k a1).bind fun bt1488 => (if bt1488.2.2.2.2.2.2.2 = true then (if bt1488.1 = true then (some (bt1488.1, bt1488.2.1, bt1488.2.2.1, bt1488.2.2.2.1, bt1488.2.2.2.2.1, bt1488.2.2.2.2.2.1, bt1488.2.2.2.2.2.2.1, 0, bt1488.2.2.2.2.2.2.2)) else ((impl_readingsTime.f k a0 bt1488.2.2.2.2.2.2.1).bind fun bt1499 => (some (bt1488.1, bt1488.2.1, bt1488.2.2.1, bt1488.2.2.2.1, bt1488.2.2.2.2.1, bt1488.2.2.2.2.2.1, bt1488.2.2.2.2.2.2.1, bt1499.1, bt1499.2)))) else (some (bt1488.1, bt1488.2.1, bt1488.2.2.1, bt1488.2.2.2.1, bt1488.2.2.2.2.1, bt1488.2.2.2.2.2.1, bt1488.2.2.2.2.2.2.1, 0, bt1488.2.2.2.2.2.2.2)))
theorem impl_bodyTime.mono : ∀ a0 a1 k, LeO (impl_bodyTime.f k a0 a1) (impl_bodyTime.f (k + 1) a0 a1) := by
  intro a0 a1 k
  unfold impl_bodyTime.f
  repeat' first
      | (with_reducible exact impl_readBatch.mono _ _)
      | (with_reducible exact impl_readingsTime.mono _ _ _)
      | (with_reducible exact LeO.refl _)
      | (with_reducible exact LeO.none _)
      | (with_reducible refine LeO.ite ?_ ?_)
      | (with_reducible refine LeO.bind ?_ (fun _ => ?_))
      | exact impl_readBatch.mono _ _
      | exact impl_readingsTime.mono _ _ _
      | exact LeO.none _
      | refine LeO.ite ?_ ?_
      | refine LeO.bind ?_ (fun _ => ?_)
noncomputable def impl_bodyTime.v (a0 : Int) (a1 : ByteArray) : Option (Bool × Int × Int × Int × Int × ByteArray × (List (S185)) × Int × Bool) := lim (fun k_ => impl_bodyTime.f k_ a0 a1)
theorem impl_bodyTime.v_lim (a0 : Int) (a1 : ByteArray) : LimIs (fun k_ => impl_bodyTime.f k_ a0 a1) (impl_bodyTime.v a0 a1) := lim_is (fun k_ => impl_bodyTime.mono a0 a1 k_)
theorem impl_bodyTime.v_eq (a0 : Int) (a1 : ByteArray) : impl_bodyTime.v a0 a1 = ((impl_readBatch.v a1).bind fun bt1488 => (if bt1488.2.2.2.2.2.2.2 = true then (if bt1488.1 = true then (some (bt1488.1, bt1488.2.1, bt1488.2.2.1, bt1488.2.2.2.1, bt1488.2.2.2.2.1, bt1488.2.2.2.2.2.1, bt1488.2.2.2.2.2.2.1, 0, bt1488.2.2.2.2.2.2.2)) else ((impl_readingsTime.v a0 bt1488.2.2.2.2.2.2.1).bind fun bt1499 => (some (bt1488.1, bt1488.2.1, bt1488.2.2.1, bt1488.2.2.2.1, bt1488.2.2.2.2.1, bt1488.2.2.2.2.2.1, bt1488.2.2.2.2.2.2.1, bt1499.1, bt1499.2)))) else (some (bt1488.1, bt1488.2.1, bt1488.2.2.1, bt1488.2.2.2.1, bt1488.2.2.2.2.1, bt1488.2.2.2.2.2.1, bt1488.2.2.2.2.2.2.1, 0, bt1488.2.2.2.2.2.2.2))) : Option (Bool × Int × Int × Int × Int × ByteArray × (List (S185)) × Int × Bool)) := by
  refine LimIs.eq (impl_bodyTime.v_lim a0 a1) ?_
  simp only [impl_bodyTime.f]
  repeat' (with_reducible first | exact impl_readBatch.v_lim _ | exact impl_readingsTime.v_lim _ _ | exact LimIs.const _ | refine LimIs.ite ?_ ?_ | refine LimIs.bind ?_ (fun _ => ?_))
def impl_isBody.f (k : Nat) (a0 : Int) (a1 : ByteArray) : Option (Bool) := (impl_bodyTime.f k a0 a1).bind fun bt1501 => (some bt1501.2.2.2.2.2.2.2.2)
theorem impl_isBody.mono : ∀ a0 a1 k, LeO (impl_isBody.f k a0 a1) (impl_isBody.f (k + 1) a0 a1) := by
  intro a0 a1 k
  unfold impl_isBody.f
  repeat' first
      | (with_reducible exact impl_bodyTime.mono _ _ _)
      | (with_reducible exact LeO.refl _)
      | (with_reducible exact LeO.none _)
      | (with_reducible refine LeO.ite ?_ ?_)
      | (with_reducible refine LeO.bind ?_ (fun _ => ?_))
      | exact impl_bodyTime.mono _ _ _
      | exact LeO.none _
      | refine LeO.ite ?_ ?_
      | refine LeO.bind ?_ (fun _ => ?_)
noncomputable def impl_isBody.v (a0 : Int) (a1 : ByteArray) : Option (Bool) := lim (fun k_ => impl_isBody.f k_ a0 a1)
theorem impl_isBody.v_lim (a0 : Int) (a1 : ByteArray) : LimIs (fun k_ => impl_isBody.f k_ a0 a1) (impl_isBody.v a0 a1) := lim_is (fun k_ => impl_isBody.mono a0 a1 k_)
theorem impl_isBody.v_eq (a0 : Int) (a1 : ByteArray) : impl_isBody.v a0 a1 = ((impl_bodyTime.v a0 a1).bind fun bt1501 => (some bt1501.2.2.2.2.2.2.2.2) : Option (Bool)) := by
  refine LimIs.eq (impl_isBody.v_lim a0 a1) ?_
  simp only [impl_isBody.f]
  repeat' (with_reducible first | exact impl_bodyTime.v_lim _ _ | exact LimIs.const _ | refine LimIs.ite ?_ ?_ | refine LimIs.bind ?_ (fun _ => ?_))
def impl_BodyOK.f (k : Nat) (a0 : Int) (a1 : ByteArray) : Option (Bool) := (impl_areLong.f (([a1] : List ByteArray))).bind fun t1516 => (if t1516 = true then (some false) else ((impl_areNodes.f a0).bind fun t1517 => (if t1517 = true then ((impl_isBody.f k a0 a1).bind fun t1518 => (some t1518)) else (some false))))
theorem impl_BodyOK.mono : ∀ a0 a1 k, LeO (impl_BodyOK.f k a0 a1) (impl_BodyOK.f (k + 1) a0 a1) := by
  intro a0 a1 k
  unfold impl_BodyOK.f
  repeat' first
      | (with_reducible exact impl_isBody.mono _ _ _)
      | (with_reducible exact LeO.refl _)
      | (with_reducible exact LeO.none _)
      | (with_reducible refine LeO.ite ?_ ?_)
      | (with_reducible refine LeO.bind ?_ (fun _ => ?_))
      | exact impl_isBody.mono _ _ _
      | exact LeO.none _
      | refine LeO.ite ?_ ?_
      | refine LeO.bind ?_ (fun _ => ?_)
noncomputable def impl_BodyOK.v (a0 : Int) (a1 : ByteArray) : Option (Bool) := lim (fun k_ => impl_BodyOK.f k_ a0 a1)
theorem impl_BodyOK.v_lim (a0 : Int) (a1 : ByteArray) : LimIs (fun k_ => impl_BodyOK.f k_ a0 a1) (impl_BodyOK.v a0 a1) := lim_is (fun k_ => impl_BodyOK.mono a0 a1 k_)
theorem impl_BodyOK.v_eq (a0 : Int) (a1 : ByteArray) : impl_BodyOK.v a0 a1 = ((impl_areLong.v (([a1] : List ByteArray))).bind fun t1516 => (if t1516 = true then (some false) else ((impl_areNodes.v a0).bind fun t1517 => (if t1517 = true then ((impl_isBody.v a0 a1).bind fun t1518 => (some t1518)) else (some false)))) : Option (Bool)) := by
  refine LimIs.eq (impl_BodyOK.v_lim a0 a1) ?_
  simp only [impl_BodyOK.f]
  repeat' (with_reducible first | exact impl_areLong.v_lim _ | exact impl_areNodes.v_lim _ | exact impl_isBody.v_lim _ _ | exact LimIs.const _ | refine LimIs.ite ?_ ?_ | refine LimIs.bind ?_ (fun _ => ?_))
def laws_FnExactBodyOK.f (k : Nat) (a0 : Int) (a1 : ByteArray) : Option (Bool) := if (a1.size : Int) > 1048576 then (some true) else ((spec_BodyOK.f k a0 a1).bind fun t1519 => ((impl_BodyOK.f k a0 a1).bind fun t1520 => (if (t1520 != t1519) = true then (some false) else (some true))))
theorem laws_FnExactBodyOK.mono : ∀ a0 a1 k, LeO (laws_FnExactBodyOK.f k a0 a1) (laws_FnExactBodyOK.f (k + 1) a0 a1) := by
  intro a0 a1 k
  unfold laws_FnExactBodyOK.f
  repeat' first
      | (with_reducible exact impl_BodyOK.mono _ _ _)
      | (with_reducible exact spec_BodyOK.mono _ _ _)
      | (with_reducible exact LeO.refl _)
      | (with_reducible exact LeO.none _)
      | (with_reducible refine LeO.ite ?_ ?_)
      | (with_reducible refine LeO.bind ?_ (fun _ => ?_))
      | exact impl_BodyOK.mono _ _ _
      | exact spec_BodyOK.mono _ _ _
      | exact LeO.none _
      | refine LeO.ite ?_ ?_
      | refine LeO.bind ?_ (fun _ => ?_)
noncomputable def laws_FnExactBodyOK.v (a0 : Int) (a1 : ByteArray) : Option (Bool) := lim (fun k_ => laws_FnExactBodyOK.f k_ a0 a1)
theorem laws_FnExactBodyOK.v_lim (a0 : Int) (a1 : ByteArray) : LimIs (fun k_ => laws_FnExactBodyOK.f k_ a0 a1) (laws_FnExactBodyOK.v a0 a1) := lim_is (fun k_ => laws_FnExactBodyOK.mono a0 a1 k_)
theorem laws_FnExactBodyOK.v_eq (a0 : Int) (a1 : ByteArray) : laws_FnExactBodyOK.v a0 a1 = (if (a1.size : Int) > 1048576 then (some true) else ((spec_BodyOK.v a0 a1).bind fun t1519 => ((impl_BodyOK.v a0 a1).bind fun t1520 => (if (t1520 != t1519) = true then (some false) else (some true)))) : Option (Bool)) := by
  refine LimIs.eq (laws_FnExactBodyOK.v_lim a0 a1) ?_
  simp only [laws_FnExactBodyOK.f]
  repeat' (with_reducible first | exact impl_BodyOK.v_lim _ _ | exact spec_BodyOK.v_lim _ _ | exact LimIs.const _ | refine LimIs.ite ?_ ?_ | refine LimIs.bind ?_ (fun _ => ?_))
end Go.Proofs.YtlifdodphkimpaaDoor.C
end

section
namespace Go.Proofs.YtlifdodphkimpaaDoorW.PrintWords
open Go.RowKit
theorem add0 (g j : Nat) : (⟨g, 0, none⟩ : Addr).add j = ⟨g, j, none⟩ := by rw [add_plain]; first | done | rw [Nat.zero_add]
/-- Block g holds the bytes l at its head; it has cap cells, none of them marked. -/
structure Bm (W : World) (g cap : Nat) (l : List Int) : Prop where
  cell : ∀ j, j < l.length → W.cell? ⟨g, j, none⟩ = some (.int .u8 (l.getD j 0))
  there : ∀ j, j < cap → (W.cell? ⟨g, j, none⟩).isSome = true
  free : ∀ j, j < cap → W.frozen? ⟨g, j, none⟩ = false
  room : l.length ≤ cap
theorem Bm.at {W W' : World} {g cap : Nat} {l : List Int} (h : Bm W g cap l) (e : W'.heap[g]? = W.heap[g]?) : Bm W' g cap l :=
  ⟨fun j hj => (World.cell?_of_block (a := ⟨g, j, none⟩) e).trans (h.cell j hj), fun j hj => by rw [World.cell?_of_block (a := ⟨g, j, none⟩) e]; exact h.there j hj, fun j hj => (World.frozen?_of_block (a := ⟨g, j, none⟩) e).trans (h.free j hj), h.room⟩
theorem Bm.conv (W : World) (e : Nat) (s : ByteArray) : Bm (Lib.bytesWorld W e s) W.heap.size (grownCap W s.size 0 e) (bytesOf s) := by
  have hc : s.size ≤ grownCap W s.size 0 e := grownCap_ge _ _ _ _
  have hsz : (Lib.bytesCells W e s).size = grownCap W s.size 0 e := by simp [Lib.bytesCells]; omega
  refine ⟨fun j hj => ?_, fun j hj => ?_, fun j hj => ?_, by rw [bytesOf_length]; exact hc⟩
  · rw [bytesOf_length] at hj
    rw [Lib.bytesWorld_cell W e s j hj]
    simp [bytesOf, List.getD, hj]
  · unfold World.cell?
    rw [Lib.bytesWorld_at_new]
    simp [hsz, hj]
  · unfold World.frozen?
    rw [Lib.bytesWorld_at_new]
    simp [hsz]
    omega
section
variable {P : Program} {ops : Array Oper} {rest : List Oper} {o : Oper} {a : Act} {Q : Exit → Act → World → Prop}
theorem Bm.grown {W : World} {g cap : Nat} {l ys : List Int} {e : Nat} {n : Nat} {fill : List Value} (h : Bm W g cap l) (hn : n = l.length + ys.length) :
    ∀ w1, w1.heap[W.heap.size]? = some (.cells (((nums .u8 l) ++ (nums .u8 ys) ++ fill).toArray) e (0, 0)) → Bm w1 W.heap.size (n + fill.length) (l ++ ys) := by
  intro w1 hw
  have hl : (nums .u8 l ++ nums .u8 ys ++ fill).length = n + fill.length := by simp [nums]; omega
  refine ⟨fun j hj => ?_, fun j hj => ?_, fun j hj => ?_, by simp; omega⟩
  · unfold World.cell?
    rw [hw]
    rw [List.length_append] at hj
    simp only [Option.isSome_none, Bool.false_eq_true, if_false, List.getElem?_toArray]
    rw [← nums_append, List.getElem?_append_left (by simp [nums]; omega)]
    have hjl : j < (l ++ ys).length := by rw [List.length_append]; exact hj
    simp only [nums, List.getElem?_map, List.getElem?_eq_getElem hjl, Option.map_some, List.getD, Option.getD_some]
  · unfold World.cell?
    rw [hw]
    simp only [Option.isSome_none, Bool.false_eq_true, if_false, List.getElem?_toArray]
    rw [List.getElem?_eq_getElem (by omega)]
    rfl
  · unfold World.frozen?
    rw [hw]
    simp
theorem Bm.set {W : World} {g cap : Nat} {l ys : List Int} (h : Bm W g cap l) (hr : l.length + ys.length ≤ cap) : Bm (W.setCells g l.length (nums .u8 ys)) g cap (l ++ ys) := by
  have hlen : (nums .u8 ys).length = ys.length := nums_length _ _
  refine ⟨fun j hj => ?_, fun j hj => ?_, fun j hj => ?_, by simp; omega⟩
  · rw [List.length_append] at hj
    by_cases c : j < l.length
    · rw [World.cell?_setCells_out g _ _ _ _ (fun _ _ => by dsimp only; omega), h.cell j c]
      simp [List.getD, List.getElem?_append_left c]
    · have := World.cell?_setCells_in g (nums .u8 ys) l.length W (fun i hi => h.there _ (by omega)) (j - l.length) (by omega)
      rw [show l.length + (j - l.length) = j by omega] at this
      rw [this]
      simp [nums, List.getD, List.getElem?_append_right (show l.length ≤ j by omega), List.getElem?_eq_getElem (show j - l.length < ys.length by omega)]
  · by_cases c : l.length ≤ j ∧ j < l.length + ys.length
    · have := World.cell?_setCells_in g (nums .u8 ys) l.length W (fun i hi => h.there _ (by omega)) (j - l.length) (by omega)
      rw [show l.length + (j - l.length) = j by omega] at this
      rw [this]
      rfl
    · rw [World.cell?_setCells_out g _ _ _ _ (fun _ _ => by dsimp only; omega)]
      exact h.there j hj
  · rw [World.frozen?_setCells]
    exact h.free j hj
theorem setCells_old (b : Nat) : ∀ (vs : List Value) (o : Nat) (w : World), (w.setCells b o vs).os = w.os ∧ (w.setCells b o vs).tape = w.tape ∧ (w.setCells b o vs).output = w.output ∧ (w.setCells b o vs).heap.size = w.heap.size ∧ ∀ k, k ≠ b → (w.setCells b o vs).heap[k]? = w.heap[k]?
  | [], _, w => ⟨rfl, rfl, rfl, rfl, fun _ _ => rfl⟩
  | v :: r, o, w => by
    obtain ⟨h1, h2, h3, h4, h5⟩ := setCells_old b r (o + 1) (w.setCell ⟨b, o, none⟩ v)
    refine ⟨h1, h2, h3, ?_, fun k hk => ?_⟩
    · rw [World.setCells, h4]; simp [World.setCell]
    · rw [World.setCells, h5 k hk]
      simp [World.setCell, Array.getElem?_modify, Ne.symm hk]
/-- An append to such a row. -/
theorem run_append_bm {W : World} {g cap : Nat} {l : List Int} (t u ty e : TypeId) (ht : P.underlying t = some (.slice e)) (hu : P.underlying u = some .string ∨ P.underlying u = some (.slice e)) (hinfo : (P.info? e).map (fun i => (i.zero, i.size, i.bytes)) = some (some (.int .u8 0), 1, 1))
    (x : Value) (ys : List Int) (hlen : ∀ W', (Builtin.lenOf x).run P W' = .ok ys.length W') (hf : ∀ W', W'.heap = W.heap → (Builtin.firstCells 1 ys.length x).run P W' = .ok (nums .u8 ys).toArray W')
    (HB : Bm W g cap l) (hl : l.length + ys.length ≤ 140737488355328) :
    ∃ g' cap' w1, (Builtin.append_ #[t, u] ty #[.slice (some ⟨g, 0, none⟩) l.length cap, x]).run P W = .ok (.slice (some ⟨g', 0, none⟩) (l.length + ys.length) cap') w1 ∧ Bm w1 g' cap' (l ++ ys) ∧ W.grownBy w1 (some g) ∧ (g' = g ∨ W.heap.size ≤ g') := by
  obtain ⟨i, hi, hzz⟩ := Option.map_eq_some_iff.1 hinfo
  simp only [Prod.mk.injEq] at hzz
  obtain ⟨hz, hs1, hb1⟩ := hzz
  have hnl : (nums .u8 ys).length = ys.length := nums_length _ _
  have hnl2 : (nums .u8 l).length = l.length := nums_length _ _
  by_cases hroom : l.length + ys.length ≤ cap
  · have hst := run_storeCells_cells (P := P) g l.length (nums .u8 ys) 0 W (fun j hj => HB.there _ (by omega)) (fun j hj => HB.free _ (by omega)) (fun v hv => by
      obtain ⟨z, _, rfl⟩ := List.mem_map.1 hv; rfl)
    simp only [Nat.add_zero] at hst
    refine ⟨g, cap, W.setCells g l.length (nums .u8 ys), ?_, HB.set hroom, ?_, Or.inl rfl⟩
    · rcases hu with hu | hu <;> simp [Builtin.append_, run_underlying ht, run_underlying hu, sizeOf, typeInfo, hi, hs1, hlen, hroom, hf W rfl, add0, hst]
    · obtain ⟨h1, h2, h3, h4, h5⟩ := setCells_old g (nums .u8 ys) l.length W
      exact ⟨h1, h2, h3, by omega, fun k hk hn => h5 k (by intro e; exact hn (by rw [e]))⟩
  · have h63' : ¬ (9223372036854775807 < ((l.length : Int) + (ys.length : Int))) := by omega
    have hfit : Builtin.nextslicecap (l.length + ys.length) cap * i.bytes ≤ 281474976710656 := by rw [hb1]; exact growslice_fits (by omega) (by omega)
    have h48' : ¬ (281474976710656 < Builtin.nextslicecap (l.length + ys.length) cap * i.bytes) := by omega
    have hfo := run_firstCells_some (P := P) W.drew 1 l.length ⟨g, 0, none⟩ l.length cap (nums .u8 l) (by omega) (fun j v hj => by
      rw [add0]
      have hjl : j < l.length := by
        have := (List.getElem?_eq_some_iff.1 hj).1
        omega
      have := HB.cell j hjl
      simp only [nums, List.getElem?_map, List.getElem?_eq_getElem hjl, Option.map_some, Option.some.injEq] at hj
      subst hj
      simpa [List.getD, hjl] using this)
    have hfs := hf W.drew rfl
    have hr : (Builtin.append_ #[t, u] ty #[.slice (some ⟨g, 0, none⟩) l.length cap, x]).run P W = .ok (.slice (some ⟨W.heap.size, 0, none⟩) (l.length + ys.length) (grownCap W (l.length + ys.length) cap e))
        (W.drew.alloc (.cells ((nums .u8 l).toArray ++ (nums .u8 ys).toArray ++ Builtin.zeroCells #[.int .u8 0] (grownCap W (l.length + ys.length) cap e - (l.length + ys.length))) e)) := by
      rw [← hs1] at hfo hfs
      have hzc : (Value.int .u8 0).cells = #[.int .u8 0] := rfl
      rcases hu with hu | hu <;> simp [Builtin.append_, run_underlying ht, run_underlying hu, sizeOf, typeInfo, zeroValue, hi, hz, hlen, hroom, h63', h48', Question.forced, hfs, hfo, newRow, grownCap, hzc]
      all_goals (congr 2; apply Array.ext'; simp [List.append_assoc])
    have hge : l.length + ys.length ≤ grownCap W (l.length + ys.length) cap e := grownCap_ge _ _ _ _
    refine ⟨W.heap.size, _, _, hr, ?_, ?_, Or.inr (Nat.le_refl _)⟩
    · have := HB.grown (e := e) (ys := ys) (n := l.length + ys.length) (fill := (Builtin.zeroCells #[.int .u8 0] (grownCap W (l.length + ys.length) cap e - (l.length + ys.length))).toList) rfl (W.drew.alloc (.cells ((nums .u8 l).toArray ++ (nums .u8 ys).toArray ++ Builtin.zeroCells #[.int .u8 0] (grownCap W (l.length + ys.length) cap e - (l.length + ys.length))) e)) (by
        simp [World.alloc, World.drew, -World.alloc_eq, -World.drew_eq])
      have hz2 : (Builtin.zeroCells #[.int .u8 0] (grownCap W (l.length + ys.length) cap e - (l.length + ys.length))).toList.length = grownCap W (l.length + ys.length) cap e - (l.length + ys.length) := by simp [Builtin.zeroCells]
      rw [hz2, show l.length + ys.length + (grownCap W (l.length + ys.length) cap e - (l.length + ys.length)) = grownCap W (l.length + ys.length) cap e by omega] at this
      exact this
    · exact ⟨rfl, rfl, rfl, by simp [World.alloc, World.drew, -World.alloc_eq, -World.drew_eq], fun k hk hn => by
        have : W.heap.size ≠ k := by omega
        simp [World.alloc, World.drew, -World.alloc_eq, -World.drew_eq, Array.getElem?_push, Ne.symm this]⟩
end
end Go.Proofs.YtlifdodphkimpaaDoorW.PrintWords
end

section
namespace Go.Proofs.YtlifdodphkimpaaDoorW.PrintWords
open Go.RowKit
/-- What a walk keeps of a row of bytes of its own: block g, behind block n. -/
structure Hs (w W : World) (n g cap : Nat) (l : List Int) : Prop where
  row : Bm W g cap l
  mine : n ≤ g
  lt : g < W.heap.size
  below : Below n w W
theorem Hs.alloc {w W : World} {n g cap : Nat} {l : List Int} (h : Hs w W n g cap l) (o : Obj) : Hs w (W.alloc o) n g cap l := by
  have hs : (W.alloc o).heap.size = W.heap.size + 1 := by simp [World.alloc, -World.alloc_eq]
  have e : ∀ k, k < W.heap.size → (W.alloc o).heap[k]? = W.heap[k]? := fun k hk => by
    have : W.heap.size ≠ k := by omega
    simp [World.alloc, -World.alloc_eq, Array.getElem?_push, Ne.symm this]
  refine ⟨h.row.at (e _ h.lt), h.mine, by rw [hs]; have := h.lt; omega, ⟨h.below.os, h.below.tape, h.below.output, by rw [hs]; have := h.below.size; omega, fun k hk => ?_⟩⟩
  rw [e k (by have := h.mine; have := h.lt; omega)]
  exact h.below.block k hk
theorem Hs.on {w W W' : World} {n g cap : Nat} {l : List Int} (h : Hs w W n g cap l) (b : Below W.heap.size W W') : Hs w W' n g cap l := by
  have := h.lt
  have := h.mine
  exact ⟨h.row.at (b.block g h.lt), h.mine, by have := b.size; omega, ⟨b.os.trans h.below.os, b.tape.trans h.below.tape, b.output.trans h.below.output, Nat.le_trans h.below.size b.size, fun k hk => (b.block k (by omega)).trans (h.below.block k hk)⟩⟩
section
variable {P : Program} {ops : Array Oper} {rest : List Oper} {o : Oper} {a : Act} {Q : Exit → Act → World → Prop}
theorem conv_hs {w : World} (e : Nat) (hgd : o.guard = none) (src dst : TypeId) (x : Operand) (ho : o.op = .convert src dst x) (s : ByteArray) (hx : a.eval x = .string s)
    (hs : P.underlying src = some .string) (ht : P.underlying dst = some (.slice e)) (he : P.underlying e = some (.int .u8))
    (h : ∀ g cap w1, Hs w w1 w.heap.size g cap (bytesOf s) → wpList P ops Q rest (a.put o.dst (.slice (some ⟨g, 0, none⟩) s.size cap)) w1) : wpList P ops Q (o :: rest) a w := by
  have hrun : (execOp a.eval o).run P w = .ok (.value (.slice (some ⟨w.heap.size, 0, none⟩) s.size (grownCap w s.size 0 e))) (Lib.bytesWorld w e s) := by
    simp [execOp, ho, hx, Lib.run_convert_string_bytes w src dst e s hs ht he]
  exact Kd.event_run hgd hrun (h _ _ _ ⟨Bm.conv w e s, Nat.le_refl _, by rw [Lib.bytesWorld_size]; omega, ⟨rfl, rfl, rfl, by rw [Lib.bytesWorld_size]; omega, fun i hi => Lib.bytesWorld_at_old w e s i (by omega)⟩⟩)
theorem Hs.after {w W w1 : World} {n g g' cap cap' : Nat} {l l' : List Int} (h : Hs w W n g cap l) (hb : Bm w1 g' cap' l') (hc : 0 < cap') (hg : W.grownBy w1 (some g)) (hat : g' = g ∨ W.heap.size ≤ g') : Hs w w1 n g' cap' l' := by
  have h1 := h.lt
  have h2 := h.mine
  refine ⟨hb, by rcases hat with rfl | h3 <;> omega, ?_, ⟨hg.os.trans h.below.os, hg.tape.trans h.below.tape, hg.output.trans h.below.output, Nat.le_trans h.below.size hg.size, fun k hk => ?_⟩⟩
  · obtain ⟨v, hv⟩ := Option.isSome_iff_exists.1 (hb.there 0 hc)
    exact World.block_lt_of_cell? w1 _ hv
  · rw [hg.block k (by omega) (by intro e; injection e with e; omega)]
    exact h.below.block k hk
theorem append1_hs {w W : World} {n g cap : Nat} {l : List Int} (t e : TypeId) (hgd : o.guard = none) (s x : Operand) (ho : o.op = .call { callee := .builtin .append, args := #[s, x], argTypes := #[t, t] })
    (ht : P.underlying t = some (.slice e)) (hinfo : (P.info? e).map (fun i => (i.zero, i.size, i.bytes)) = some (some (.int .u8 0), 1, 1)) (z : Int)
    (hs : a.eval s = .slice (some ⟨g, 0, none⟩) l.length cap) (hx : a.eval x = .slice (some ⟨W.heap.size, 0, none⟩) 1 1) (HB : Hs w W n g cap l) (hl : l.length + 1 ≤ 140737488355328)
    (h : ∀ g' cap' w1, Hs w w1 n g' cap' (l ++ [z]) → wpList P ops Q rest (a.put o.dst (.slice (some ⟨g', 0, none⟩) (l ++ [z]).length cap')) w1) :
    wpList P ops Q (o :: rest) a (W.alloc (.cells #[.int .u8 z] e)) := by
  have H2 := HB.alloc (.cells #[.int .u8 z] e)
  obtain ⟨g', cap', w1, hr, hb, hg, hat⟩ := run_append_bm (P := P) (W := W.alloc (.cells #[.int .u8 z] e)) t t o.type e ht (Or.inr ht) hinfo (.slice (some ⟨W.heap.size, 0, none⟩) 1 1) [z] (fun W' => by simp [Builtin.lenOf]) (fun W' hW => by
    have hc : W'.cell? ⟨W.heap.size, 0, none⟩ = some (.int .u8 z) := by
      unfold World.cell?
      rw [hW]
      simp [World.alloc, -World.alloc_eq]
    exact run_firstCells_some (P := P) W' 1 1 ⟨W.heap.size, 0, none⟩ 1 1 (nums .u8 [z]) (by simp [nums]) (fun j v hj => by
      cases j with
      | zero => rw [add0]; rw [hc]; simpa [nums] using hj
      | succ j => simp [nums] at hj)) H2.row (by simpa using hl)
  refine wpList_plain hgd fun K hK => ?_
  unfold Oper.wp execOp
  simp only [ho, resolve, invoke, builtin, Sem.run_bind, Sem.run_pure, Result.andThen_ok, List.map_toArray, List.map_cons, List.map_nil, hs, hx, hr]
  refine hK _ _ ?_
  have := h g' cap' w1 (H2.after hb (by have := hb.room; rw [List.length_append, List.length_singleton] at this; omega) hg hat)
  rwa [List.length_append] at this
theorem appendS_hs {w W : World} {n g cap : Nat} {l : List Int} (t u e : TypeId) (hgd : o.guard = none) (s x : Operand) (ho : o.op = .call { callee := .builtin .append, args := #[s, x], argTypes := #[t, u] })
    (ht : P.underlying t = some (.slice e)) (hu : P.underlying u = some .string) (hinfo : (P.info? e).map (fun i => (i.zero, i.size, i.bytes)) = some (some (.int .u8 0), 1, 1)) (y : ByteArray)
    (hs : a.eval s = .slice (some ⟨g, 0, none⟩) l.length cap) (hx : a.eval x = .string y) (hy : 0 < y.size) (HB : Hs w W n g cap l) (hl : l.length + y.size ≤ 140737488355328)
    (h : ∀ g' cap' w1, Hs w w1 n g' cap' (l ++ bytesOf y) → wpList P ops Q rest (a.put o.dst (.slice (some ⟨g', 0, none⟩) (l ++ bytesOf y).length cap')) w1) :
    wpList P ops Q (o :: rest) a W := by
  have hyl : (bytesOf y).length = y.size := bytesOf_length y
  obtain ⟨g', cap', w1, hr, hb, hg, hat⟩ := run_append_bm (P := P) (W := W) t u o.type e ht (Or.inl hu) hinfo (.string y) (bytesOf y) (fun W' => by simp [Builtin.lenOf, hyl]) (fun W' hW => by
    rw [hyl, Lib.run_firstCells_string (P := P) W' 1 y]
    congr 1
    simp [nums, bytesOf, Lib.strCells]) HB.row (by omega)
  refine wpList_plain hgd fun K hK => ?_
  unfold Oper.wp execOp
  simp only [ho, resolve, invoke, builtin, Sem.run_bind, Sem.run_pure, Result.andThen_ok, List.map_toArray, List.map_cons, List.map_nil, hs, hx, hr]
  refine hK _ _ ?_
  have := h g' cap' w1 (HB.after hb (by have := hb.room; rw [List.length_append] at this; omega) hg hat)
  rwa [List.length_append] at this
end
end Go.Proofs.YtlifdodphkimpaaDoorW.PrintWords
end

section
namespace Go.Proofs.YtlifdodphkimpaaDoorW.PrintWords
open Go.RowKit
section
variable {P : Program} {ops : Array Oper} {rest : List Oper} {o : Oper} {a : Act} {Q : Exit → Act → World → Prop}
theorem lit_at (w : World) (o : Obj) : (w.alloc o).heap[w.heap.size]? = some o := by simp [World.alloc, -World.alloc_eq]
theorem lit_old (w : World) (o : Obj) {k : Nat} (hk : k < w.heap.size) : (w.alloc o).heap[k]? = w.heap[k]? := by
  have : w.heap.size ≠ k := by omega
  simp [World.alloc, -World.alloc_eq, Array.getElem?_push, Ne.symm this]
theorem lit_size (w : World) (o : Obj) : (w.alloc o).heap.size = w.heap.size + 1 := by simp [World.alloc, -World.alloc_eq]
theorem lit_bm (w : World) (e : TypeId) (l : List Int) (p : Nat × Nat) (hp : l.length ≤ p.1) : Bm (w.alloc (.cells (nums .u8 l).toArray e p)) w.heap.size l.length l := by
  have hn : (nums .u8 l).length = l.length := nums_length _ _
  refine ⟨fun j hj => ?_, fun j hj => ?_, fun j hj => ?_, Nat.le_refl _⟩
  · unfold World.cell?
    rw [lit_at]
    simp [nums, List.getD, hj]
  · unfold World.cell?
    rw [lit_at]
    simp [nums, hj]
  · unfold World.frozen?
    rw [lit_at]
    obtain ⟨p1, p2⟩ := p
    simp
    intro h
    omega
theorem conv_lit {w : World} (t e : TypeId) {C : Array Value} {n : Nat} (hgd : o.guard = none) (x : Operand) (ho : o.op = .convert t t x)
    (ht : P.underlying t = some (.slice e)) (he : P.underlying e = some (.int .u8)) (hx : a.eval x = .slice (some ⟨w.heap.size, 0, none⟩) n n)
    (h : wpList P ops Q rest (a.put o.dst (.slice (some ⟨w.heap.size, 0, none⟩) n n)) (w.alloc (.cells C e (C.size, C.size + 1)))) : wpList P ops Q (o :: rest) a (w.alloc (.cells C e)) := by
  have hrun : (execOp a.eval o).run P (w.alloc (.cells C e)) = .ok (.value (.slice (some ⟨w.heap.size, 0, none⟩) n n)) (w.alloc (.cells C e (C.size, C.size + 1))) := by
    have h1 := Lib.run_convert_bytes_const (P := P) w t e C n n ht he
    simp only [execOp, ho, hx, Sem.run_bind, h1, Result.andThen_ok, Sem.run_pure]
  exact Kd.event_run hgd hrun h
theorem convlit_hs {w : World} (t e : TypeId) (l : List Int) {C : Array Value} {n : Nat} (hgd : o.guard = none) (x : Operand) (ho : o.op = .convert t t x)
    (ht : P.underlying t = some (.slice e)) (he : P.underlying e = some (.int .u8)) (hC : C = (nums .u8 l).toArray) (hn : n = l.length) (h0 : 0 < l.length) (hx : a.eval x = .slice (some ⟨w.heap.size, 0, none⟩) n n)
    (h : ∀ g cap w1, Hs w w1 w.heap.size g cap l → wpList P ops Q rest (a.put o.dst (.slice (some ⟨g, 0, none⟩) l.length cap)) w1) : wpList P ops Q (o :: rest) a (w.alloc (.cells C e)) := by
  subst hC hn
  refine conv_lit t e hgd x ho ht he hx (h _ _ _ ⟨lit_bm w e l _ (by simp [nums]), Nat.le_refl _, by rw [lit_size]; omega, ⟨rfl, rfl, rfl, by rw [lit_size]; omega, fun k hk => lit_old w _ hk⟩⟩)
theorem bmC {W : World} {g cap : Nat} {l : List Int} (h : Bm W g cap l) (hl : l.length ≤ 140737488355328) : Kd.C (Kd.int .u8) W (some ⟨g, 0, none⟩) l.length l :=
  Kd.C_of_reads (enc := Value.int .u8) (d := (0 : Int)) (h1 := fun _ => rfl) ⟨rfl, by omega, fun hn => ⟨⟨g, 0, none⟩, rfl, fun j hj => by rw [add0]; exact h.cell j hj⟩⟩
end
end Go.Proofs.YtlifdodphkimpaaDoorW.PrintWords
end

section
namespace Go.Proofs.YtlifdodphkimpaaDoor.C
open Go.RowKit Go.Proofs.YtlifdodphkimpaaDoorW.PrintWords Go.Proofs.YtlifdodphkimpaaDoorW.PrintLast Go.Proofs.YtlifdodphkimpaaDoorW.PrintMore
attribute [local go_sem] max2_int min2_int max_two min_two max_three min_three max_four min_four
end Go.Proofs.YtlifdodphkimpaaDoor.C
end

section
namespace Go.Proofs.YtlifdodphkimpaaDoorW.PrintWords
open Go.RowKit
theorem wrap_id {x : Int} (h0 : -9223372036854775808 ≤ x) (h1 : x ≤ 9223372036854775807) : wrap64 x = x := by unfold wrap64; omega
/-- p at d places from i on. -/
def allB (p : Int → Bool) : Nat → Int → Bool
  | 0, _ => true
  | d + 1, i => p i && allB p d (i + 1)
def allI (p : Int → Bool) (i n : Int) : Bool := allB p (n - i).toNat i
theorem allI_step {p : Int → Bool} {i n : Int} (h : i < n) : allI p i n = (p i && allI p (i + 1) n) := by
  unfold allI
  obtain ⟨d, hd⟩ : ∃ d : Nat, (n - i).toNat = d + 1 := ⟨(n - i).toNat - 1, by omega⟩
  rw [hd, show (n - (i + 1)).toNat = d by omega]
  rfl
theorem allI_end {p : Int → Bool} {i n : Int} (h : n ≤ i) : allI p i n = true := by
  unfold allI
  rw [show (n - i).toNat = 0 by omega]
  rfl
/-- A loop that asks p at each place. -/
theorem loop_all {L : Int → Option Bool} (p : Int → Bool) (n : Int) (hn : n ≤ 9223372036854775807) (hL : ∀ i, 0 ≤ i → i < n → L i = if p i = true then L (wrap64 (i + 1)) else some false) (hE : ∀ i, 0 ≤ i → n ≤ i → L i = some true) :
    ∀ (d : Nat) (i : Int), (n - i).toNat = d → 0 ≤ i → L i = some (allI p i n)
  | 0, i, h, h0 => by rw [hE i h0 (by omega), allI_end (by omega)]
  | d + 1, i, h, h0 => by
    rw [hL i h0 (by omega), allI_step (by omega), wrap_id (by omega) (by omega), loop_all p n hn hL hE d (i + 1) (by omega) (by omega)]
    cases p i <;> simp
def letterB (c : Int) : Bool := decide ((97 ≤ c ∧ c ≤ 122) ∨ (65 ≤ c ∧ c ≤ 90) ∨ c = 95)
def digitB (c : Int) : Bool := decide (48 ≤ c ∧ c ≤ 57)
def inB (n low high : Int) : Bool := decide (low ≤ n ∧ n ≤ high)
def nameB (s : ByteArray) : Bool := decide (1 ≤ s.size ∧ s.size ≤ 40) && (letterB (bt s 0) && allI (fun j => letterB (bt s j) || digitB (bt s j)) 1 s.size)
theorem ba_toList (a : ByteArray) : a.toList = a.data.toList := ByteArray.toList_eq a
theorem ba_inj {a b : ByteArray} : a.toList = b.toList ↔ a = b := by
  rw [ba_toList, ba_toList]
  refine ⟨fun h => ?_, fun h => by rw [h]⟩
  cases a; cases b
  simp only [ByteArray.mk.injEq]
  exact Array.toList_inj.1 h
theorem strOf_size (l : List Int) : (strOfNums l).size = l.length := by
  show (strOfNums l).data.size = _
  simp [strOfNums]
end Go.Proofs.YtlifdodphkimpaaDoorW.PrintWords
end

section
namespace Go.Proofs.YtlifdodphkimpaaDoor.C
open Go.RowKit Go.Proofs.YtlifdodphkimpaaDoorW.PrintWords
def numL (l : List Int) : Int := l.foldl (fun n c => n * 256 + c) 0
def numM (s : ByteArray) : Int := numL (bytesOf s)
theorem or_byte (n c : Int) (h0 : 0 ≤ n) (h1 : n < 4503599627370496) (h2 : 0 ≤ c) (h3 : c < 256) : Go.bits .or .i64 (wrap64 (n * 256)) (wrap64 c) = n * 256 + c := by
  rw [wrap_id (by omega) (by omega), wrap_id (by omega) (by omega)]
  exact Go.bits_join .i64 62 (by decide) (fun n h0 h1 => by rw [IntKind.wrap_i64]; omega) 8 (n * 256) c (by omega) (by omega) (by omega) (by omega) (by omega) (by omega)
theorem bytesOf_rd (s : ByteArray) (i : Int) (h0 : 0 ≤ i) (h1 : i < s.size) : rd (bytesOf s) i = bt s i := by
  unfold rd bt
  rw [dif_pos (by omega)]
  unfold bytesOf
  rw [List.getD, List.getElem?_map, List.getElem?_eq_getElem (by rw [Array.length_toList]; show _ < s.size; omega)]
  simp
  rfl
theorem bytesOf_range (s : ByteArray) : ∀ c ∈ bytesOf s, 0 ≤ c ∧ c ≤ 255 := by
  intro c hc
  unfold bytesOf at hc
  obtain ⟨b, _, rfl⟩ := List.mem_map.1 hc
  have := b.toNat_lt
  omega
theorem foldl_range (l : List Int) : ∀ (n : Int), (∀ c ∈ l, 0 ≤ c ∧ c ≤ 255) → 0 ≤ n → 0 ≤ l.foldl (fun n c => n * 256 + c) n ∧ l.foldl (fun n c => n * 256 + c) n < (n + 1) * 256 ^ l.length := by
  induction l with
  | nil => intro n _ hn; simp; omega
  | cons c l ih =>
    intro n h hn
    have h1 := h c (by simp)
    obtain ⟨h2, h3⟩ := ih (n * 256 + c) (fun x hx => h x (by simp [hx])) (by omega)
    refine ⟨h2, ?_⟩
    simp only [List.foldl_cons, List.length_cons]
    refine Int.lt_of_lt_of_le h3 ?_
    rw [Int.pow_succ, Int.mul_comm (256 ^ l.length) 256, ← Int.mul_assoc]
    exact Int.mul_le_mul_of_nonneg_right (by omega) (Int.pow_nonneg (by omega))
theorem at_zero (x : ByteArray) : x = x.extract 0 x.size := by
  apply ByteArray.ext
  rw [ByteArray.data_extract]
  show x.data = x.data.extract 0 x.data.size
  rw [Array.extract_size]
theorem numM_one (x : ByteArray) (p : Nat) (h : p < x.size) : numM (x.extract p (p + 1)) = bt x p := by
  unfold numM numL bytesOf
  rw [ByteArray.data_extract, Array.toList_extract]
  have h2 : (x.data.toList.extract p (p + 1)) = [x[p]] := by
    rw [List.extract_eq_take_drop, show p + 1 - p = 1 by omega, List.drop_eq_getElem_cons (by rw [Array.length_toList]; exact h)]
    rfl
  rw [h2, bt, dif_pos (by omega)]
  simp
theorem extract_sub (x : ByteArray) (a b c d : Nat) (h : a + d ≤ b) : (x.extract a b).extract c d = x.extract (a + c) (a + d) := by
  apply ByteArray.ext
  simp only [ByteArray.data_extract, Array.extract_extract]
  congr 1; omega
theorem impl_number_l (s : ByteArray) (hs : s.size ≤ 6) (t : ByteArray) (b : Bool) : ∀ (d i : Nat), s.size - i = d → i ≤ s.size → ∀ n : Int, n = numL ((bytesOf s).take i) → impl_reader_number.lv0 n (bytesOf s) ((bytesOf s).length : Int) i t b = some (numM s, t, b)
  | 0, i, h, hi, n, hn => by
    rw [impl_reader_number.lv0_eq, if_neg (by rw [bytesOf_length]; omega), hn, List.take_of_length_le (by rw [bytesOf_length]; omega)]; rfl
  | d + 1, i, h, hi, n, hn => by
    have hlt : i < s.size := by omega
    have hr := foldl_range ((bytesOf s).take i) 0 (fun c hc => bytesOf_range s c (List.mem_of_mem_take hc)) (by omega)
    have hlen : ((bytesOf s).take i).length = i := by rw [List.length_take, bytesOf_length]; omega
    rw [hlen] at hr
    have hp : (256 : Int) ^ i ≤ 256 ^ 5 := by
      have h5 : i = 0 ∨ i = 1 ∨ i = 2 ∨ i = 3 ∨ i = 4 ∨ i = 5 := by omega
      rcases h5 with rfl | rfl | rfl | rfl | rfl | rfl <;> decide
    have hn2 : 0 ≤ n ∧ n < 256 ^ 5 := by rw [hn]; unfold numL; omega
    have hb := bt_range s i
    rw [impl_reader_number.lv0_eq, if_pos (by rw [bytesOf_length]; omega), if_pos (by omega), if_pos (by rw [bytesOf_length]; omega), bytesOf_rd s i (by omega) (by omega), or_byte n _ hn2.1 (by omega) hb.1 (by omega), wrap_id (x := (i : Int) + 1) (by omega) (by omega)]
    refine impl_number_l s hs t b d (i + 1) (by omega) (by omega) _ ?_
    rw [List.take_succ_eq_append_getElem (by rw [bytesOf_length]; omega)]
    unfold numL
    rw [List.foldl_append]
    simp only [List.foldl_cons, List.foldl_nil]
    have h1 : (bytesOf s)[i]'(by rw [bytesOf_length]; omega) = bt s i := by
      rw [← bytesOf_rd s i (by omega) (by omega)]
      unfold rd
      rw [Int.toNat_natCast, List.getD, List.getElem?_eq_getElem (by rw [bytesOf_length]; omega)]
      rfl
    rw [h1, hn]
    rfl
/-- The reader at place p of x. -/
theorem take_ok (x : ByteArray) (p n : Nat) (h : p + n ≤ x.size) : impl_reader_take.v (x.extract p x.size) false n = some (x.extract p (p + n), x.extract (p + n) x.size, false) := by
  have hs : (x.extract p x.size).size = x.size - p := by rw [ByteArray.size_extract]; omega
  rw [impl_reader_take.v_eq, if_neg (by simp), if_neg (by omega), if_pos (by omega), if_pos (by omega), Int.toNat_natCast, hs]
  congr 1
  refine Prod.ext ?_ (Prod.ext ?_ rfl)
  · apply ByteArray.ext
    simp only [ByteArray.data_extract, Array.extract_extract]
    congr 1; omega
  · apply ByteArray.ext
    simp only [ByteArray.data_extract, Array.extract_extract]
    congr 1; omega
theorem take_short (x : ByteArray) (p n : Nat) (hp : p ≤ x.size) (h : x.size < p + n) : impl_reader_take.v (x.extract p x.size) false n = some (⟨#[]⟩, x.extract p x.size, true) := by
  have hs : (x.extract p x.size).size = x.size - p := by rw [ByteArray.size_extract]; omega
  rw [impl_reader_take.v_eq, if_neg (by simp), if_pos (by omega)]
theorem take_bad (t : ByteArray) (n : Int) : impl_reader_take.v t true n = some (⟨#[]⟩, t, true) := by rw [impl_reader_take.v_eq, if_pos rfl]
theorem number_of (t u v : ByteArray) (b c : Bool) (n : Int) (h : impl_reader_take.v t b n = some (u, v, c)) (hu : u.size ≤ 6) : impl_reader_number.v t b n = some (numM u, v, c) := by
  rw [impl_reader_number.v_eq, h]
  simp only [Option.bind_some]
  rw [if_pos (by omega)]
  exact impl_number_l u hu v c u.size 0 rfl (by omega) 0 rfl
theorem number_ok (x : ByteArray) (p n : Nat) (h : p + n ≤ x.size) (hn : n ≤ 6) : impl_reader_number.v (x.extract p x.size) false n = some (numM (x.extract p (p + n)), x.extract (p + n) x.size, false) :=
  number_of _ _ _ _ _ _ (take_ok x p n h) (by rw [ByteArray.size_extract]; omega)
theorem number_short (x : ByteArray) (p n : Nat) (hp : p ≤ x.size) (h : x.size < p + n) : impl_reader_number.v (x.extract p x.size) false n = some (0, x.extract p x.size, true) :=
  number_of _ _ _ _ _ _ (take_short x p n hp h) (by show 0 ≤ 6; omega)
theorem number_bad (t : ByteArray) (n : Int) : impl_reader_number.v t true n = some (0, t, true) := number_of _ _ _ _ _ _ (take_bad t n) (by show 0 ≤ 6; omega)
theorem done_bad (t : ByteArray) : impl_reader_done.v t true = some (false, t, true) := by rw [impl_reader_done.v_eq, if_pos rfl]
theorem ba_nil' (s : ByteArray) : (s.toList == ([] : List UInt8)) = decide (s.size = 0) := by
  rw [Bool.eq_iff_iff]
  simp only [beq_iff_eq, decide_eq_true_eq]
  rw [ba_toList]
  constructor
  · intro h; show s.data.size = 0; rw [← Array.length_toList, h]; rfl
  · intro h; have h2 : s.data.toList.length = 0 := by rw [Array.length_toList]; exact h
    exact List.eq_nil_of_length_eq_zero h2
theorem done_at (x : ByteArray) (p : Nat) (h : p ≤ x.size) : impl_reader_done.v (x.extract p x.size) false = some (decide (p = x.size), x.extract p x.size, false) := by
  rw [impl_reader_done.v_eq, if_neg (by simp), ba_nil', ByteArray.size_extract]
  congr 2
  by_cases h2 : p = x.size
  · simp [h2]
  · simp [h2]; omega
theorem spec_l02Of_l (s : ByteArray) (hs : s.size ≤ 6) : ∀ (d i : Nat), s.size - i = d → i ≤ s.size → ∀ n : Int, n = numL ((bytesOf s).take i) → spec_l02Of.lv0 s n i = some (numM s)
  | 0, i, h, hi, n, hn => by
    rw [spec_l02Of.lv0_eq, if_neg (by omega), hn, List.take_of_length_le (by rw [bytesOf_length]; omega)]; rfl
  | d + 1, i, h, hi, n, hn => by
    have hlt : i < s.size := by omega
    have hr := foldl_range ((bytesOf s).take i) 0 (fun c hc => bytesOf_range s c (List.mem_of_mem_take hc)) (by omega)
    have hlen : ((bytesOf s).take i).length = i := by rw [List.length_take, bytesOf_length]; omega
    rw [hlen] at hr
    have hp : (256 : Int) ^ i ≤ 256 ^ 5 := by
      have h5 : i = 0 ∨ i = 1 ∨ i = 2 ∨ i = 3 ∨ i = 4 ∨ i = 5 := by omega
      rcases h5 with rfl | rfl | rfl | rfl | rfl | rfl <;> decide
    have hn2 : 0 ≤ n ∧ n < 256 ^ 5 := by rw [hn]; unfold numL; omega
    have hb := bt_range s i
    rw [spec_l02Of.lv0_eq, if_pos (by omega), if_pos (by omega), wrap_id (x := n * 256) (by omega) (by omega), wrap_id (x := bt s i) (by omega) (by omega), wrap_id (x := n * 256 + bt s i) (by omega) (by omega), wrap_id (x := (i : Int) + 1) (by omega) (by omega)]
    refine spec_l02Of_l s hs d (i + 1) (by omega) (by omega) _ ?_
    rw [List.take_succ_eq_append_getElem (by rw [bytesOf_length]; omega)]
    unfold numL
    rw [List.foldl_append]
    simp only [List.foldl_cons, List.foldl_nil]
    have h1 : (bytesOf s)[i]'(by rw [bytesOf_length]; omega) = bt s i := by
      rw [← bytesOf_rd s i (by omega) (by omega)]
      unfold rd
      rw [Int.toNat_natCast, List.getD, List.getElem?_eq_getElem (by rw [bytesOf_length]; omega)]
      rfl
    rw [h1, hn]
    rfl
theorem spec_l02Of_v (s : ByteArray) (hs : s.size ≤ 6) : spec_l02Of.v s = some (numM s) := by
  rw [spec_l02Of.v_eq]
  exact spec_l02Of_l s hs s.size 0 rfl (by omega) 0 rfl
theorem wrap_bt (x : ByteArray) (i : Int) : wrap64 (bt x i) = bt x i := by
  have := bt_range x i
  exact wrap_id (by omega) (by omega)
theorem spec_l01In_v (n low high : Int) : spec_l01In.v n low high = some (inB n low high) := by
  rw [spec_l01In.v_eq]; unfold inB; split <;> simp <;> omega
theorem impl_within_v (n low high : Int) : impl_within.v n low high = some (inB n low high) := by
  rw [impl_within.v_eq]; unfold inB; split <;> simp <;> omega
theorem spec_l00Letter_v (c : Int) : spec_l00Letter.v c = some (letterB c) := by
  rw [spec_l00Letter.v_eq]; unfold letterB; repeat' split
  all_goals (congr 1; rw [Bool.eq_iff_iff]; simp <;> omega)
theorem impl_isLetter_v (c : Int) : impl_isLetter.v c = some (letterB c) := by
  rw [impl_isLetter.v_eq]; unfold letterB; repeat' split
  all_goals (congr 1; rw [Bool.eq_iff_iff]; simp <;> omega)
theorem spec_l00Digit_v (c : Int) : spec_l00Digit.v c = some (digitB c) := by
  rw [spec_l00Digit.v_eq]; unfold digitB; split <;> simp <;> omega
theorem spec_l00Word_l (s : ByteArray) (hs : s.size ≤ 9223372036854775807) (i : Int) (h : 0 ≤ i) : spec_l00Word.lv0 s i = some (allI (fun j => letterB (bt s j) || digitB (bt s j)) i s.size) := by
  refine loop_all _ s.size (by omega) (fun i h0 h1 => ?_) (fun i h0 h1 => ?_) _ i rfl h
  · rw [spec_l00Word.lv0_eq, if_pos h1, if_pos h0, spec_l00Letter_v, spec_l00Digit_v]
    simp only [Option.bind_some]
    cases letterB (bt s i) <;> cases digitB (bt s i) <;> simp
  · rw [spec_l00Word.lv0_eq, if_neg (by omega)]
theorem impl_NameOK_l (s : ByteArray) (hs : s.size ≤ 9223372036854775807) (i : Int) (h : 0 ≤ i) : impl_NameOK.lv0 s s.size i = some (allI (fun j => letterB (bt s j) || digitB (bt s j)) i s.size) := by
  refine loop_all (L := fun i => impl_NameOK.lv0 s s.size i) _ s.size (by omega) (fun i h0 h1 => ?_) (fun i h0 h1 => ?_) _ i rfl h
  · rw [impl_NameOK.lv0_eq, if_pos h1, if_pos h0, if_pos h1, impl_isLetter_v]
    simp only [Option.bind_some]
    cases letterB (bt s i) <;> simp [digitB]
    by_cases h2 : bt s i < 48
    · simp [h2, show ¬ 48 ≤ bt s i by omega]
    · by_cases h3 : 57 < bt s i
      · simp [h2, h3, show ¬ bt s i ≤ 57 by omega]
      · simp [h2, h3, show 48 ≤ bt s i by omega, show bt s i ≤ 57 by omega]
  · rw [impl_NameOK.lv0_eq, if_neg (by omega)]
theorem spec_NameOK_v (s : ByteArray) (hs : s.size ≤ 9223372036854775807) : spec_NameOK.v s = some (nameB s) := by
  rw [spec_NameOK.v_eq, spec_l00Word.v_eq]
  simp only [spec_l00Letter_v, spec_l00Word.jv0_eq, spec_l00Word_l s hs 1 (by omega), Option.bind_some, nameB]
  by_cases h1 : (s.size : Int) < 1
  · simp [h1]; omega
  · by_cases h2 : (s.size : Int) > 40
    · simp [h1, h2]; omega
    · simp only [if_neg h1, if_neg h2, if_pos (show 0 < (s.size : Int) by omega), Option.bind_some, show (1 ≤ s.size ∧ s.size ≤ 40) = True by simp; omega]
      cases letterB (bt s 0) <;> simp
theorem impl_NameOK_v (s : ByteArray) (hs : s.size ≤ 9223372036854775807) : impl_NameOK.v s = some (nameB s) := by
  rw [impl_NameOK.v_eq]
  simp only [impl_isLetter_v, impl_NameOK.jv0_eq, impl_NameOK_l s hs 0 (by omega), Option.bind_some, nameB]
  by_cases h1 : (s.size : Int) < 1
  · simp [h1]; omega
  · by_cases h2 : (s.size : Int) > 40
    · simp [h1, h2]; omega
    · simp only [if_neg h1, if_neg h2, if_pos (show 0 < (s.size : Int) by omega), Option.bind_some, show (1 ≤ s.size ∧ s.size ≤ 40) = True by simp; omega]
      rw [allI_step (i := 0) (by omega)]
      cases letterB (bt s 0) <;> simp
theorem spec_l02Text_v (s : ByteArray) (n : Int) (hs : s.size ≤ 9223372036854775807) : spec_l02Text.v s n = some (decide ((s.size : Int) ≤ n) && nameB s) := by
  rw [spec_l02Text.v_eq, spec_l01In_v, spec_NameOK_v s hs]
  simp only [Option.bind_some, inB]
  by_cases h : (1 : Int) ≤ s.size ∧ (s.size : Int) ≤ n
  · simp [h]
  · by_cases h2 : (s.size : Int) ≤ n
    · simp [h, h2, nameB, show ¬ (1 ≤ s.size) by omega]
    · simp [h, h2]
theorem impl_isOpName_v (s : ByteArray) (hs : s.size ≤ 9223372036854775807) : impl_isOpName.v s = some (decide ((s.size : Int) ≤ 12) && nameB s) := by
  rw [impl_isOpName.v_eq, impl_NameOK_v s hs]
  by_cases h : (s.size : Int) ≤ 12 <;> simp [h]
def reqB (c st k ls : Int) (nm : ByteArray) : Bool :=
  inB c 0 255 && inB st 1 65535 && inB k 1 4 && inB ls 0 1000 && (decide ((nm.size : Int) ≤ 12) && nameB nm) && (decide (ls > 0) == decide (k = 1 ∨ k = 3))
theorem spec_RequestOK_v (c st k ls : Int) (nm : ByteArray) (h : nm.size ≤ 9223372036854775807) : spec_RequestOK.v c st k ls nm = some (reqB c st k ls nm) := by
  rw [spec_RequestOK.v_eq]
  simp only [spec_l01In_v, Option.bind_some, spec_l02Text_v nm 12 h, reqB]
  generalize (decide ((nm.size : Int) ≤ 12) && nameB nm) = q
  cases inB c 0 255 <;> cases inB st 1 65535 <;> cases inB k 1 4 <;> cases inB ls 0 1000 <;> cases q <;> simp
  by_cases h1 : k = 1
  · simp [h1]
  · by_cases h2 : k = 3
    · simp [h2]
    · simp [h1, h2, show (k == 3) = false by simpa using h2]
theorem impl_RequestOK_v (c st k ls : Int) (nm : ByteArray) (h : nm.size ≤ 9223372036854775807) : impl_RequestOK.v c st k ls nm = some (reqB c st k ls nm) := by
  have e : impl_RequestOK.v c st k ls nm = impl_RequestOK.jv1 (if k = 1 ∨ k = 3 then 1 else 0) (if k = 1 ∨ k = 3 then 1000 else 0) c st k ls nm := by
    rw [impl_RequestOK.v_eq]
    by_cases h1 : k = 1
    · simp [h1, impl_RequestOK.jv0_eq]
    · by_cases h2 : k = 3
      · simp [h2, impl_RequestOK.jv0_eq]
      · simp [h1, h2, impl_RequestOK.jv0_eq, show (k == 3) = false by simpa using h2]
  rw [e, impl_RequestOK.jv1_eq]
  simp only [impl_within_v, Option.bind_some, impl_isOpName_v nm h, reqB]
  generalize (decide ((nm.size : Int) ≤ 12) && nameB nm) = q
  by_cases hk : k = 1 ∨ k = 3
  · have e2 : inB ls 1 1000 = (inB ls 0 1000 && decide (ls > 0)) := by unfold inB; rw [Bool.eq_iff_iff]; simp; omega
    simp only [if_pos hk, e2, decide_eq_true hk]
    cases inB c 0 255 <;> cases inB st 1 65535 <;> cases inB k 1 4 <;> cases inB ls 0 1000 <;> cases q <;> cases decide (ls > 0) <;> simp
  · have e2 : inB ls 0 0 = (inB ls 0 1000 && !decide (ls > 0)) := by unfold inB; rw [Bool.eq_iff_iff]; simp; omega
    simp only [if_neg hk, e2, decide_eq_false hk]
    cases inB c 0 255 <;> cases inB st 1 65535 <;> cases inB k 1 4 <;> cases inB ls 0 1000 <;> cases q <;> cases decide (ls > 0) <;> simp
/-- A request at place p of x: how long its name is; its parts. -/
def rN (x : ByteArray) (p : Nat) : Nat := (bt x (p + 6 : Nat)).toNat
def rB (x : ByteArray) (p : Nat) : Bool := reqB (bt x p) (numM (x.extract (p + 1) (p + 3))) (bt x (p + 3 : Nat)) (numM (x.extract (p + 4) (p + 6))) (x.extract (p + 7) (p + 7 + rN x p))
abbrev Req7 := Int × Int × Int × Int × ByteArray × ByteArray × Bool
theorem impl_request_ok (x : ByteArray) (p : Nat) (h : p + 7 + rN x p ≤ x.size) : impl_reader_request.v (x.extract p x.size) false =
    some (bt x p, numM (x.extract (p + 1) (p + 3)), bt x (p + 3 : Nat), numM (x.extract (p + 4) (p + 6)), x.extract (p + 7) (p + 7 + rN x p), x.extract (p + 7 + rN x p) x.size, false) := by
  rw [impl_reader_request.v_eq]
  rw [show (1 : Int) = ((1 : Nat) : Int) from rfl, show (2 : Int) = ((2 : Nat) : Int) from rfl]
  rw [number_ok x p 1 (by omega) (by omega), Option.bind_some]
  simp only
  rw [number_ok x (p + 1) 2 (by omega) (by omega), Option.bind_some]
  simp only
  rw [number_ok x (p + 1 + 2) 1 (by omega) (by omega), Option.bind_some]
  simp only
  rw [number_ok x (p + 1 + 2 + 1) 2 (by omega) (by omega), Option.bind_some]
  simp only
  rw [impl_reader_sized.v_eq, number_ok x (p + 1 + 2 + 1 + 2) 1 (by omega) (by omega), Option.bind_some]
  simp only
  have hb := bt_range x (p + 6 : Nat)
  have e6 : numM (x.extract (p + 1 + 2 + 1 + 2) (p + 1 + 2 + 1 + 2 + 1)) = ((rN x p : Nat) : Int) := by
    rw [numM_one x _ (by omega)]
    unfold rN
    rw [Int.toNat_of_nonneg hb.1]
  rw [e6, take_ok x (p + 1 + 2 + 1 + 2 + 1) (rN x p) (by omega), Option.bind_some, Option.bind_some]
  rw [numM_one x p (by omega), numM_one x (p + 1 + 2) (by omega)]
theorem impl_request_bad (t : ByteArray) : impl_reader_request.v t true = some (0, 0, 0, 0, ⟨#[]⟩, t, true) := by
  rw [impl_reader_request.v_eq]
  simp [number_bad, impl_reader_sized.v_eq, take_bad]
theorem impl_request_short (x : ByteArray) (p : Nat) (hp : p ≤ x.size) (h : x.size < p + 7 ∨ x.size < p + 7 + rN x p) : ∃ r : Req7, impl_reader_request.v (x.extract p x.size) false = some r ∧ r.2.2.2.2.2.2 = true := by
  rw [impl_reader_request.v_eq]
  have sized : ∀ (t : ByteArray) (b : Bool) (n : Int), impl_reader_sized.v t b n = (impl_reader_number.v t b n).bind fun r => (impl_reader_take.v r.2.1 r.2.2 r.1).bind fun q => some (q.1, q.2.1, q.2.2) := fun t b n => impl_reader_sized.v_eq t b n
  rw [show (1 : Int) = ((1 : Nat) : Int) from rfl, show (2 : Int) = ((2 : Nat) : Int) from rfl]
  rcases Nat.lt_or_ge x.size (p + 1) with h0 | h0
  · rw [number_short x p 1 hp h0]
    exact ⟨_, by simp [number_bad, sized, take_bad]; rfl, rfl⟩
  rw [number_ok x p 1 (by omega) (by omega), Option.bind_some]
  simp only
  rcases Nat.lt_or_ge x.size (p + 1 + 2) with h1 | h1
  · rw [number_short x (p + 1) 2 h0 h1]
    exact ⟨_, by simp [number_bad, sized, take_bad]; rfl, rfl⟩
  rw [number_ok x (p + 1) 2 (by omega) (by omega), Option.bind_some]
  simp only
  rcases Nat.lt_or_ge x.size (p + 1 + 2 + 1) with h2 | h2
  · rw [number_short x (p + 1 + 2) 1 h1 h2]
    exact ⟨_, by simp [number_bad, sized, take_bad]; rfl, rfl⟩
  rw [number_ok x (p + 1 + 2) 1 (by omega) (by omega), Option.bind_some]
  simp only
  rcases Nat.lt_or_ge x.size (p + 1 + 2 + 1 + 2) with h3 | h3
  · rw [number_short x (p + 1 + 2 + 1) 2 h2 h3]
    exact ⟨_, by simp [number_bad, sized, take_bad]; rfl, rfl⟩
  rw [number_ok x (p + 1 + 2 + 1) 2 (by omega) (by omega), Option.bind_some]
  simp only
  rcases Nat.lt_or_ge x.size (p + 1 + 2 + 1 + 2 + 1) with h4 | h4
  · rw [sized, number_short x (p + 1 + 2 + 1 + 2) 1 h3 h4]
    exact ⟨_, by simp [take_bad]; rfl, rfl⟩
  rw [sized, number_ok x (p + 1 + 2 + 1 + 2) 1 (by omega) (by omega), Option.bind_some]
  simp only
  have hb := bt_range x (p + 6 : Nat)
  have e6 : numM (x.extract (p + 1 + 2 + 1 + 2) (p + 1 + 2 + 1 + 2 + 1)) = ((rN x p : Nat) : Int) := by
    rw [numM_one x _ (by omega)]
    unfold rN
    rw [Int.toNat_of_nonneg hb.1]
  rw [e6, take_short x (p + 1 + 2 + 1 + 2 + 1) (rN x p) h4 (by omega)]
  exact ⟨_, rfl, rfl⟩
/-- The reference's way, from place p on to the end. -/
def rFits (x : ByteArray) (p : Nat) : Bool := decide (p + 7 + rN x p = x.size)
abbrev Req6 := Int × Int × Int × Int × ByteArray × Bool
def rYes (x : ByteArray) (p : Nat) : Req6 := (bt x p, numM (x.extract (p + 1) (p + 3)), bt x (p + 3 : Nat), numM (x.extract (p + 4) (p + 6)), x.extract (p + 7) (p + 7 + rN x p), true)
theorem spec_l02ReadRequest_v (x : ByteArray) (hx : x.size ≤ 9223372036854775000) : ∃ r : Req6, spec_l02ReadRequest.v x = some r ∧ (((rFits x 0 && rB x 0) = true ∧ r = rYes x 0) ∨ ((rFits x 0 && rB x 0) = false ∧ r.2.2.2.2.2 = false)) := by
  rw [spec_l02ReadRequest.v_eq]
  by_cases h7 : (x.size : Int) < 7
  · rw [if_pos h7, spec_l02ReadRequest.jv0_eq, if_pos rfl]
    refine ⟨_, rfl, .inr ⟨?_, rfl⟩⟩
    have : rFits x 0 = false := by unfold rFits; simp; omega
    rw [this]; rfl
  have hN : bt x 6 = ((rN x 0 : Nat) : Int) := by unfold rN; rw [Int.toNat_of_nonneg (bt_range x _).1]; rfl
  have hNr : rN x 0 ≤ 255 := by have := bt_range x 6; omega
  have w1 : wrap64 (7 + ((rN x 0 : Nat) : Int)) = ((7 + rN x 0 : Nat) : Int) := by rw [wrap_id (by omega) (by omega)]; omega
  rw [if_neg h7, if_pos (by omega), spec_l02ReadRequest.jv0_eq, wrap_bt, hN, w1]
  clear w1
  by_cases h8 : (x.size : Int) = ((7 + rN x 0 : Nat) : Int)
  · have c1 : (0 : Int) < x.size := by omega
    have c2 : (3 : Int) ≤ x.size := by omega
    have c3 : (3 : Int) < x.size := by omega
    have c4 : (6 : Int) ≤ x.size := by omega
    have c5 : (7 : Int) ≤ x.size := by omega
    have d5 := spec_l02Of_v (x.extract 1 3) (by rw [ByteArray.size_extract]; omega)
    have d6 := spec_l02Of_v (x.extract 4 6) (by rw [ByteArray.size_extract]; omega)
    have hne : ((x.size : Int) != ((7 + rN x 0 : Nat) : Int)) = false := by simp [h8]
    simp only [hne, Bool.false_eq_true, if_false, if_pos c1, if_pos c2, if_pos c3, if_pos c4, if_pos c5, if_pos (show (1 : Int) ≤ 3 by omega), if_pos (show (4 : Int) ≤ 6 by omega), d5, d6, wrap_bt, Option.bind_some]
    rw [spec_RequestOK_v _ _ _ _ _ (by rw [ByteArray.size_extract]; omega), Option.bind_some]
    have e7 : x.extract 7 x.size = x.extract (0 + 7) (0 + 7 + rN x 0) := by rw [show x.size = 0 + 7 + rN x 0 by omega]
    refine ⟨_, rfl, ?_⟩
    have hf : rFits x 0 = true := by unfold rFits; simp; omega
    cases hq : rB x 0
    · exact .inr ⟨by simp, by rw [e7]; exact hq⟩
    · refine .inl ⟨by rw [hf]; rfl, ?_⟩
      have hq2 : reqB (bt x 0) (numM (x.extract 1 3)) (bt x 3) (numM (x.extract 4 6)) (x.extract 7 x.size) = true := by rw [e7]; exact hq
      rw [hq2, e7]
      rfl
  · rw [if_pos (by simpa using h8)]
    refine ⟨_, rfl, .inr ⟨?_, rfl⟩⟩
    have : rFits x 0 = false := by unfold rFits; simp; omega
    rw [this]; rfl
def readingB (f v : Int) (m : ByteArray) : Bool := inB f 0 6 && (inB v 0 1000000000 && decide (m.size = 8))
theorem size_beq (m : ByteArray) (n : Nat) : ((m.size : Int) == (n : Int)) = decide (m.size = n) := by
  rw [Bool.eq_iff_iff, beq_iff_eq, decide_eq_true_eq]; omega
theorem impl_isReading_v (f v : Int) (m : ByteArray) : impl_isReading.v f v m = some (readingB f v m) := by
  rw [impl_isReading.v_eq, impl_within_v, impl_within_v]; unfold readingB
  have := size_beq m 8
  cases inB f 0 6 <;> cases inB v 0 1000000000 <;> simp_all
theorem spec_l02Reading_v (f v : Int) (m : ByteArray) : spec_l02Reading.v f v m = some (readingB f v m) := by
  rw [spec_l02Reading.v_eq, spec_l01In_v, spec_l01In_v]; unfold readingB
  have := size_beq m 8
  cases inB f 0 6 <;> cases inB v 0 1000000000 <;> simp_all
theorem batch_loop (n : Bool) (a b c d : Int) (e : ByteArray) (rs : List S185) (hl : rs.length ≤ 1000000) : ∀ k i : Nat, rs.length - i = k → i ≤ rs.length →
    ∃ r, impl_isBatch.lv0 rs rs.length i n a b c d e rs = some r ∧ spec_l02BatchOK.lv0 i n a b c d e rs = some r
  | 0, i, h, hi => by
    refine ⟨true, ?_, ?_⟩
    · rw [impl_isBatch.lv0_eq, if_neg (by omega)]
    · rw [spec_l02BatchOK.lv0_eq, if_neg (by omega)]
  | k + 1, i, h, hi => by
    obtain ⟨r, e1, e2⟩ := batch_loop n a b c d e rs hl k (i + 1) (by omega) (by omega)
    have hw : wrap64 ((i : Int) + 1) = ((i + 1 : Nat) : Int) := by rw [wrap_id (by omega) (by omega)]; omega
    have c1 : (i : Int) < (rs.length : Int) := by omega
    have c2 : (0 : Int) ≤ (i : Int) := by omega
    rw [impl_isBatch.lv0_eq, spec_l02BatchOK.lv0_eq]
    simp only [if_pos c1, if_pos c2, impl_isReading_v, spec_l02Reading_v, Option.bind_some, hw, e1, e2]
    clear hw
    cases readingB ((rd_T185 rs i).f0) ((rd_T185 rs i).f1) ((rd_T185 rs i).f2)
    · exact ⟨false, rfl, rfl⟩
    · simp only [if_true]
      by_cases h0 : (i : Int) > 0
      · have hw : wrap64 ((i : Int) - 1) = (i : Int) - 1 := wrap_id (by omega) (by omega)
        have c3 : (0 : Int) ≤ (i : Int) - 1 := by omega
        have c4 : (i : Int) - 1 < (rs.length : Int) := by omega
        simp only [if_pos h0, hw, if_pos c3, if_pos c4]
        split
        · exact ⟨false, rfl, rfl⟩
        · exact ⟨r, rfl, rfl⟩
      · simp only [if_neg h0]
        exact ⟨r, rfl, rfl⟩
theorem batch_both (n : Bool) (a b c d : Int) (e : ByteArray) (rs : List S185) (he : e.size ≤ 9223372036854775807) :
    ∃ r, impl_isBatch.v n a b c d e rs = some r ∧ spec_l02BatchOK.v n a b c d e rs = some r ∧ (n = false → reqB a b c d e = false → r = false) ∧ (n = false → rs.length > 7 → r = false) := by
  rw [impl_isBatch.v_eq, spec_l02BatchOK.v_eq]
  cases n
  · rw [if_neg (by simp), if_neg (by simp), impl_RequestOK_v _ _ _ _ _ he, spec_RequestOK_v _ _ _ _ _ he, Option.bind_some, Option.bind_some]
    cases reqB a b c d e
    · refine ⟨false, ?_, ?_, fun _ _ => rfl, fun _ _ => rfl⟩
      · rw [if_neg (by simp), impl_isBatch.jv0_eq, if_pos rfl]
      · rw [if_neg (by simp), spec_l02BatchOK.jv0_eq, if_pos rfl]
    · rw [if_pos rfl, if_pos rfl, impl_isBatch.jv0_eq, spec_l02BatchOK.jv0_eq]
      by_cases h7 : (rs.length : Int) > 7
      · rw [if_pos (decide_eq_true h7), if_pos (decide_eq_true h7)]
        exact ⟨false, rfl, rfl, fun _ _ => rfl, fun _ _ => rfl⟩
      · rw [if_neg (by simpa using h7), if_neg (by simpa using h7)]
        obtain ⟨r, e1, e2⟩ := batch_loop false a b c d e rs (by omega) rs.length 0 (by omega) (by omega)
        exact ⟨r, e1, e2, (fun _ h => by cases h), fun _ h => by omega⟩
  · rw [if_pos rfl, if_pos rfl]
    split
    · exact ⟨_, rfl, rfl, (fun h => by cases h), fun h => by cases h⟩
    · exact ⟨_, rfl, rfl, (fun h => by cases h), fun h => by cases h⟩
abbrev Batch8 := Bool × Int × Int × Int × Int × ByteArray × List S185 × Bool
def bNo : Batch8 := (false, 0, 0, 0, 0, ⟨#[]⟩, [], false)
def bAgree (r s : Batch8) : Prop := (r = s ∧ r.2.2.2.2.2.2.2 = true) ∨ (r = bNo ∧ s.2.2.2.2.2.2.2 = false)
theorem batch_end (y : ByteArray) (hy : y.size ≤ 1048576) (m n : Int) (hm : 0 ≤ m) (acc : List S185) :
    ∃ r s : Batch8, impl_readBatch.lv0 m n n y false false 0 0 0 0 ⟨#[]⟩ acc = some r ∧
      ((spec_l02ReadRequest.v y).bind fun q => if q.2.2.2.2.2 = true then ((spec_l02BatchOK.v false q.1 q.2.1 q.2.2.1 q.2.2.2.1 q.2.2.2.2.1 acc).bind fun t => (some (false, q.1, q.2.1, q.2.2.1, q.2.2.2.1, q.2.2.2.2.1, acc, t) : Option Batch8)) else some (false, q.1, q.2.1, q.2.2.1, q.2.2.2.1, q.2.2.2.2.1, acc, false)) = some s ∧ bAgree r s ∧ (r.2.2.2.2.2.2.1 = acc ∨ r = bNo) := by
  obtain ⟨q, e, h2⟩ := spec_l02ReadRequest_v y (by omega)
  rw [impl_readBatch.lv0_eq, if_neg (by omega), e, Option.bind_some]
  clear e
  rcases Decidable.em (0 + 7 + rN y 0 ≤ y.size) with h3 | h3
  · have hi := impl_request_ok y 0 h3
    rw [← at_zero y] at hi
    rw [hi, Option.bind_some]
    clear hi
    simp only
    rw [if_neg (by omega), done_at y _ h3, Option.bind_some]
    simp only
    by_cases h4 : 0 + 7 + rN y 0 = y.size
    · rw [if_pos (decide_eq_true h4)]
      obtain ⟨b, b1, b2, b3, _⟩ := batch_both false (bt y ((0 : Nat) : Int)) (numM (y.extract (0 + 1) (0 + 3))) (bt y ((0 + 3 : Nat) : Int)) (numM (y.extract (0 + 4) (0 + 6))) (y.extract (0 + 7) (0 + 7 + rN y 0)) acc (by rw [ByteArray.size_extract]; omega)
      rw [b1, Option.bind_some]
      have hf : rFits y 0 = true := by unfold rFits; exact decide_eq_true h4
      rcases h2 with ⟨h2, rfl⟩ | ⟨h2, h5⟩
      · have e3 : (rYes y 0).2.2.2.2.2 = true := rfl
        have e4 : spec_l02BatchOK.v false (rYes y 0).1 (rYes y 0).2.1 (rYes y 0).2.2.1 (rYes y 0).2.2.2.1 (rYes y 0).2.2.2.2.1 acc = some b := b2
        rw [if_pos e3, e4, Option.bind_some]
        cases b
        · exact ⟨_, _, rfl, rfl, .inr ⟨rfl, rfl⟩, .inr rfl⟩
        · exact ⟨_, _, rfl, rfl, .inl ⟨rfl, rfl⟩, .inl rfl⟩
      · have hb : rB y 0 = false := by rw [hf] at h2; exact h2
        have hb2 : b = false := b3 rfl hb
        subst hb2
        rw [h5]
        exact ⟨_, _, rfl, rfl, .inr ⟨rfl, rfl⟩, .inr rfl⟩
    · rw [if_neg (show ¬ decide (0 + 7 + rN y 0 = y.size) = true by rw [decide_eq_false h4]; simp)]
      have hf : rFits y 0 = false := by unfold rFits; exact decide_eq_false h4
      rcases h2 with ⟨h2, _⟩ | ⟨h2, h5⟩
      · rw [hf] at h2; cases h2
      · rw [h5]; exact ⟨_, _, rfl, rfl, .inr ⟨rfl, rfl⟩, .inr rfl⟩
  · obtain ⟨w, e2, e3⟩ := impl_request_short y 0 (by omega) (.inr (by omega))
    rw [← at_zero y] at e2
    rw [e2, Option.bind_some, if_neg (by omega), e3, done_bad, Option.bind_some]
    have hf : rFits y 0 = false := by unfold rFits; exact decide_eq_false (by omega)
    rcases h2 with ⟨h2, _⟩ | ⟨h2, h5⟩
    · rw [hf] at h2; cases h2
    · rw [h5]; exact ⟨_, _, rfl, rfl, .inr ⟨rfl, rfl⟩, .inr rfl⟩
theorem batch_many (y : ByteArray) (hy : y.size ≤ 1048576) (acc : List S185) (ha : acc.length > 7) :
    ∃ s : Batch8, ((spec_l02ReadRequest.v y).bind fun q => if q.2.2.2.2.2 = true then ((spec_l02BatchOK.v false q.1 q.2.1 q.2.2.1 q.2.2.2.1 q.2.2.2.2.1 acc).bind fun t => (some (false, q.1, q.2.1, q.2.2.1, q.2.2.2.1, q.2.2.2.2.1, acc, t) : Option Batch8)) else some (false, q.1, q.2.1, q.2.2.1, q.2.2.2.1, q.2.2.2.2.1, acc, false)) = some s ∧ s.2.2.2.2.2.2.2 = false := by
  obtain ⟨q, e, h2⟩ := spec_l02ReadRequest_v y (by omega)
  rw [e, Option.bind_some]
  rcases h2 with ⟨h2, rfl⟩ | ⟨h2, h5⟩
  · obtain ⟨b, b1, b2, b3, b4⟩ := batch_both false (rYes y 0).1 (rYes y 0).2.1 (rYes y 0).2.2.1 (rYes y 0).2.2.2.1 (rYes y 0).2.2.2.2.1 acc (by show (y.extract (0 + 7) (0 + 7 + rN y 0)).size ≤ _; rw [ByteArray.size_extract]; omega)
    have e3 : (rYes y 0).2.2.2.2.2 = true := rfl
    rw [if_pos e3, b2, b4 rfl ha, Option.bind_some]
    exact ⟨_, rfl, rfl⟩
  · rw [h5]; exact ⟨_, rfl, rfl⟩
/-- c readings from place p on. -/
def rdL (x : ByteArray) : Nat → Nat → List S185
  | _, 0 => []
  | p, c + 1 => ⟨bt x p, numM (x.extract (p + 1) (p + 5)), x.extract (p + 5) (p + 13)⟩ :: rdL x (p + 13) c
theorem rdL_len (x : ByteArray) : ∀ (c p : Nat), (rdL x p c).length = c
  | 0, p => rfl
  | c + 1, p => by simp [rdL, rdL_len x c]
theorem batch_impl (x : ByteArray) (m n : Int) (hn : n ≤ 1000) : ∀ (c p i : Nat) (acc : List S185), n - i = c → i ≤ 1000 → acc.length = i → p + 13 * c ≤ x.size →
    impl_readBatch.lv0 m n i (x.extract p x.size) false false 0 0 0 0 ⟨#[]⟩ acc = impl_readBatch.lv0 m n n (x.extract (p + 13 * c) x.size) false false 0 0 0 0 ⟨#[]⟩ (acc ++ rdL x p c)
  | 0, p, i, acc, h, hi, ha, hp => by
    have : n = i := by omega
    subst this
    simp [rdL]
  | c + 1, p, i, acc, h, hi, ha, hp => by
    have ih := batch_impl x m n hn c (p + 13) (i + 1) (acc ++ [⟨bt x p, numM (x.extract (p + 1) (p + 5)), x.extract (p + 5) (p + 13)⟩]) (by omega) (by omega) (by simp [ha]) (by omega)
    have hw : wrap64 ((i : Int) + 1) = ((i + 1 : Nat) : Int) := by rw [wrap_id (by omega) (by omega)]; omega
    rw [impl_readBatch.lv0_eq, if_pos (by omega), hw]
    clear hw
    rw [show (1 : Int) = ((1 : Nat) : Int) from rfl, show (4 : Int) = ((4 : Nat) : Int) from rfl, show (8 : Int) = ((8 : Nat) : Int) from rfl]
    rw [number_ok x p 1 (by omega) (by omega), Option.bind_some]
    simp only
    rw [number_ok x (p + 1) 4 (by omega) (by omega), Option.bind_some]
    simp only
    rw [take_ok x (p + 1 + 4) 8 (by omega), Option.bind_some]
    simp only
    rw [if_pos (by omega), numM_one x p (by omega)]
    rw [show p + 13 * (c + 1) = p + 13 + 13 * c by omega]
    show _ = impl_readBatch.lv0 m n n (x.extract (p + 13 + 13 * c) x.size) false false 0 0 0 0 ⟨#[]⟩ (acc ++ (⟨bt x p, numM (x.extract (p + 1) (p + 5)), x.extract (p + 5) (p + 13)⟩ :: rdL x (p + 13) c))
    rw [List.append_assoc] at ih
    exact ih
theorem batch_bad (m n : Int) (hn : n ≤ 1000) : ∀ (c i : Nat) (t : ByteArray) (acc : List S185), n - i = c → i ≤ 1000 → acc.length ≤ i →
    impl_readBatch.lv0 m n i t true false 0 0 0 0 ⟨#[]⟩ acc = some bNo
  | 0, i, t, acc, h, hi, ha => by
    rw [impl_readBatch.lv0_eq, if_neg (by omega), impl_request_bad, Option.bind_some]
    simp only [done_bad, Option.bind_some]
    split <;> rfl
  | c + 1, i, t, acc, h, hi, ha => by
    have ih := batch_bad m n hn c (i + 1)
    have hw : wrap64 ((i : Int) + 1) = ((i + 1 : Nat) : Int) := by rw [wrap_id (by omega) (by omega)]; omega
    rw [impl_readBatch.lv0_eq, if_pos (by omega), hw]
    clear hw
    rw [number_bad, Option.bind_some]
    simp only
    rw [number_bad, Option.bind_some]
    simp only
    rw [take_bad, Option.bind_some]
    simp only
    rw [if_pos (by omega)]
    exact ih _ _ (by omega) (by omega) (by simp; omega)
theorem batch_short (x : ByteArray) (m n : Int) (hn : n ≤ 1000) : ∀ (c p i : Nat) (acc : List S185), n - i = c → i ≤ 1000 → acc.length ≤ i → p ≤ x.size → x.size < p + 13 * c →
    impl_readBatch.lv0 m n i (x.extract p x.size) false false 0 0 0 0 ⟨#[]⟩ acc = some bNo
  | 0, p, i, acc, h, hi, ha, hp, hs => by omega
  | c + 1, p, i, acc, h, hi, ha, hp, hs => by
    have ih := batch_short x m n hn c (p + 1 + 4 + 8) (i + 1)
    have hb := batch_bad m n hn c (i + 1)
    have hw : wrap64 ((i : Int) + 1) = ((i + 1 : Nat) : Int) := by rw [wrap_id (by omega) (by omega)]; omega
    rw [impl_readBatch.lv0_eq, if_pos (by omega), hw]
    clear hw
    rw [show (1 : Int) = ((1 : Nat) : Int) from rfl, show (4 : Int) = ((4 : Nat) : Int) from rfl, show (8 : Int) = ((8 : Nat) : Int) from rfl]
    rcases Nat.lt_or_ge x.size (p + 1) with h0 | h0
    · rw [number_short x p 1 hp h0, Option.bind_some]
      simp only
      rw [number_bad, Option.bind_some]
      simp only
      rw [take_bad, Option.bind_some]
      simp only
      rw [if_pos (by omega)]
      exact hb _ _ (by omega) (by omega) (by simp; omega)
    rw [number_ok x p 1 (by omega) (by omega), Option.bind_some]
    simp only
    rcases Nat.lt_or_ge x.size (p + 1 + 4) with h1 | h1
    · rw [number_short x (p + 1) 4 h0 h1, Option.bind_some]
      simp only
      rw [take_bad, Option.bind_some]
      simp only
      rw [if_pos (by omega)]
      exact hb _ _ (by omega) (by omega) (by simp; omega)
    rw [number_ok x (p + 1) 4 (by omega) (by omega), Option.bind_some]
    simp only
    rcases Nat.lt_or_ge x.size (p + 1 + 4 + 8) with h2 | h2
    · rw [take_short x (p + 1 + 4) 8 h1 h2, Option.bind_some]
      simp only
      rw [if_pos (by omega)]
      exact hb _ _ (by omega) (by omega) (by simp; omega)
    rw [take_ok x (p + 1 + 4) 8 (by omega), Option.bind_some]
    simp only
    rw [if_pos (by omega)]
    exact ih _ (by omega) (by omega) (by simp; omega) (by omega) (by omega)
theorem bt_extract (x : ByteArray) (a b i : Nat) (h : i < b - a) (h2 : b ≤ x.size) : bt (x.extract a b) i = bt x (a + i : Nat) := by
  have h3 : i < (x.extract a b).size := by rw [ByteArray.size_extract]; omega
  unfold bt
  rw [dif_pos (by rw [Int.toNat_natCast]; exact h3), dif_pos (by rw [Int.toNat_natCast]; omega)]
  simp only [Int.toNat_natCast, ByteArray.getElem_extract]
theorem batch_spec (x : ByteArray) (hx : x.size ≤ 1048576) (n : Nat) (h1 : 1 ≤ n) (hn : n ≤ 255) (hs : 1 + 13 * (n - 1) ≤ x.size) : ∀ (c i : Nat) (acc : List S185), n - 1 - i = c → i ≤ n - 1 → acc.length = i →
    spec_l02ReadBatch.lv0 x n i false 0 0 0 0 ⟨#[]⟩ acc = spec_l02ReadBatch.lv0 x n (n - 1 : Nat) false 0 0 0 0 ⟨#[]⟩ (acc ++ rdL x (1 + 13 * i) c)
  | 0, i, acc, h, hi, ha => by
    have : i = n - 1 := by omega
    subst this
    simp [rdL]
  | c + 1, i, acc, h, hi, ha => by
    have ih := batch_spec x hx n h1 hn hs c (i + 1) (acc ++ [⟨bt x (1 + 13 * i : Nat), numM (x.extract (1 + 13 * i + 1) (1 + 13 * i + 5)), x.extract (1 + 13 * i + 5) (1 + 13 * i + 13)⟩]) (by omega) (by omega) (by simp [ha])
    have w1 : wrap64 ((i : Int) + 1) = ((i + 1 : Nat) : Int) := by rw [wrap_id (by omega) (by omega)]; omega
    have w2 : wrap64 ((n : Int) - 1) = ((n - 1 : Nat) : Int) := by rw [wrap_id (by omega) (by omega)]; omega
    have w3 : wrap64 (13 * (i : Int)) = ((13 * i : Nat) : Int) := by rw [wrap_id (by omega) (by omega)]; omega
    have w4 : wrap64 (1 + ((13 * i : Nat) : Int)) = ((1 + 13 * i : Nat) : Int) := by rw [wrap_id (by omega) (by omega)]; omega
    have w5 : wrap64 (14 + ((13 * i : Nat) : Int)) = ((14 + 13 * i : Nat) : Int) := by rw [wrap_id (by omega) (by omega)]; omega
    rw [spec_l02ReadBatch.lv0_eq]
    simp only [w1, w2, w3, w4, w5, Int.toNat_natCast]
    clear w1 w2 w3 w4 w5
    have c1 : ((i : Int) < ((n - 1 : Nat) : Int)) := by omega
    have c2 : (0 : Int) ≤ ((1 + 13 * i : Nat) : Int) := by omega
    have c3 : ((1 + 13 * i : Nat) : Int) ≤ ((14 + 13 * i : Nat) : Int) := by omega
    have c4 : ((14 + 13 * i : Nat) : Int) ≤ (x.size : Int) := by omega
    have sz : (x.extract (1 + 13 * i) (14 + 13 * i)).size = 13 := by rw [ByteArray.size_extract]; omega
    have d13 : 14 + 13 * i - (1 + 13 * i) = 13 := by omega
    simp only [if_pos c1, if_pos c2, if_pos c3, if_pos c4, sz, d13]
    rw [if_pos (by omega), if_pos (by omega), if_pos (by omega)]
    rw [extract_sub x _ _ 1 5 (by omega), extract_sub x _ _ 5 13 (by omega), spec_l02Of_v _ (by rw [ByteArray.size_extract]; omega), Option.bind_some, if_pos (by omega), wrap_bt, show bt (x.extract (1 + 13 * i) (14 + 13 * i)) 0 = bt x (1 + 13 * i : Nat) from bt_extract x (1 + 13 * i) (14 + 13 * i) 0 (by omega) (by omega)]
    rw [show 1 + 13 * (i + 1) = 1 + 13 * i + 13 by omega] at ih
    show _ = spec_l02ReadBatch.lv0 x n (n - 1 : Nat) false 0 0 0 0 ⟨#[]⟩ (acc ++ (⟨bt x (1 + 13 * i : Nat), numM (x.extract (1 + 13 * i + 1) (1 + 13 * i + 5)), x.extract (1 + 13 * i + 5) (1 + 13 * i + 13)⟩ :: rdL x (1 + 13 * i + 13) c))
    rw [List.append_assoc] at ih
    exact ih
theorem readBatch_nil (x : ByteArray) (h0 : x.size = 0) : impl_readBatch.v x = some bNo := by
  have e1 : x.toList = [] := by rw [ba_toList]; exact List.length_eq_zero_iff.1 (by rw [Array.length_toList]; exact h0)
  have hn : impl_reader_number.v x false 1 = some (0, x, true) := by
    have hn := number_short x 0 1 (by omega) (by omega)
    rwa [← at_zero x] at hn
  have w : wrap64 (0 - 1) = -1 := by rw [wrap_id (by omega) (by omega)]; rfl
  rw [impl_readBatch.v_eq, if_neg (by rw [e1]; simp), hn, Option.bind_some]
  simp only [w]
  rw [if_neg (by omega)]
  exact batch_bad (-1) 0 (by omega) 0 0 x [] (by omega) (by omega) (by simp)
theorem toList_nil (x : ByteArray) (h : x.toList = []) : x.size = 0 := by
  rw [ba_toList] at h
  have := congrArg List.length h
  rw [Array.length_toList] at this
  exact this
theorem toList_zero (x : ByteArray) : x.toList = [0] ↔ x.size = 1 ∧ bt x 0 = 0 := by
  rw [ba_toList]
  constructor
  · intro h
    have h1 : x.size = 1 := by have := congrArg List.length h; rwa [Array.length_toList] at this
    refine ⟨h1, ?_⟩
    have h2 : x.data.toList[0]? = some 0 := by rw [h]; rfl
    unfold bt
    rw [dif_pos (by rw [h1]; decide)]
    rw [Array.getElem?_toList, Array.getElem?_eq_getElem (by show 0 < x.size; omega)] at h2
    injection h2 with h2
    show (((x.data[0]'(by show 0 < x.size; omega)).toNat : Nat) : Int) = 0
    rw [h2]; rfl
  · rintro ⟨h1, h2⟩
    apply List.ext_getElem?
    intro i
    rcases Nat.lt_or_ge i 1 with h | h
    · have : i = 0 := by omega
      subst this
      unfold bt at h2
      rw [dif_pos (by rw [h1]; decide)] at h2
      rw [Array.getElem?_toList, Array.getElem?_eq_getElem (by show 0 < x.size; omega)]
      have h3 : (x.data[0]'(by show 0 < x.size; omega)).toNat = 0 := by
        have h4 : (((x.data[0]'(by show 0 < x.size; omega)).toNat : Nat) : Int) = 0 := h2
        omega
      have h5 : x.data[0]'(by show 0 < x.size; omega) = 0 := UInt8.toNat_inj.1 h3
      rw [h5]; rfl
    · rw [List.getElem?_eq_none (by rw [Array.length_toList]; show x.size ≤ i; omega), List.getElem?_eq_none (by simp; omega)]
theorem readBatch_both (x : ByteArray) (hx : x.size ≤ 1048576) : ∃ r s : Batch8, impl_readBatch.v x = some r ∧ spec_l02ReadBatch.v x = some s ∧ bAgree r s ∧ r.2.2.2.2.2.2.1.length ≤ 1000 := by
  by_cases h0 : x.size = 0
  · have e1 : x.toList = [] := by rw [ba_toList]; exact List.length_eq_zero_iff.1 (by rw [Array.length_toList]; exact h0)
    rw [readBatch_nil x h0, spec_l02ReadBatch.v_eq, if_pos e1]
    exact ⟨_, _, rfl, rfl, .inr ⟨rfl, rfl⟩, by simp [bNo]⟩
  · have e1 : ¬ x.toList = [] := fun h => h0 (toList_nil x h)
    have hn : impl_reader_number.v x false 1 = some (bt x 0, x.extract (0 + 1) x.size, false) := by
      have hn := number_ok x 0 1 (by omega) (by omega)
      rw [← at_zero x, numM_one x 0 (by omega)] at hn
      exact hn
    have hr := bt_range x 0
    have hz := toList_zero x
    rw [spec_l02ReadBatch.v_eq, if_neg e1, if_pos (by omega)]
    simp only [wrap_bt]
    rw [impl_readBatch.v_eq, hn, Option.bind_some]
    clear hn
    obtain ⟨n, hb⟩ : ∃ n : Nat, bt x 0 = n := ⟨(bt x 0).toNat, by omega⟩
    rw [hb] at hr hz
    simp only [hb]
    by_cases h1 : n = 0
    · subst h1
      rw [if_pos (show ((0 : Nat) : Int) = 0 from rfl)]
      by_cases h2 : x.size = 1
      · rw [if_pos (hz.2 ⟨h2, rfl⟩)]
        refine ⟨_, _, rfl, rfl, .inl ⟨?_, rfl⟩, by simp⟩
        rw [h2]; rfl
      · rw [if_neg (fun h => h2 (hz.1 h).1)]
        have w : wrap64 (((0 : Nat) : Int) - 1) = -1 := by rw [wrap_id (by omega) (by omega)]; rfl
        rw [w, if_neg (by omega)]
        have hm : mx (-1) 0 = 0 := rfl
        have h3 : ((x.size : Int) == 1) = false := by rw [beq_eq_false_iff_ne]; omega
        rw [hm, h3, impl_readBatch.lv0_eq, if_neg (by omega)]
        have hsz : ∃ q : Req7, impl_reader_request.v (x.extract (0 + 1) x.size) false = some q := by
          rcases Decidable.em (1 + 7 + rN x 1 ≤ x.size) with h4 | h4
          · exact ⟨_, impl_request_ok x 1 h4⟩
          · obtain ⟨w, e2, _⟩ := impl_request_short x 1 (by omega) (.inr (by omega))
            exact ⟨w, e2⟩
        obtain ⟨q, e2⟩ := hsz
        rw [e2, Option.bind_some, if_pos (by omega)]
        exact ⟨_, _, rfl, rfl, .inr ⟨rfl, rfl⟩, by simp [bNo]⟩
    · have h2 : ¬ x.toList = [0] := fun h => h1 (by have := (hz.1 h).2; omega)
      have w1 : wrap64 ((n : Int) - 1) = ((n - 1 : Nat) : Int) := by rw [wrap_id (by omega) (by omega)]; omega
      have w2 : wrap64 (13 * ((n - 1 : Nat) : Int)) = ((13 * (n - 1) : Nat) : Int) := by rw [wrap_id (by omega) (by omega)]; omega
      have w3 : wrap64 (1 + ((13 * (n - 1) : Nat) : Int)) = ((1 + 13 * (n - 1) : Nat) : Int) := by rw [wrap_id (by omega) (by omega)]; omega
      rw [if_neg h2, if_neg (show ¬ ((n : Int) = 0) by omega)]
      simp only [w1, w2, w3]
      have hm : mx ((n - 1 : Nat) : Int) 0 = ((n - 1 : Nat) : Int) := by unfold mx; split <;> omega
      rw [hm]
      by_cases h3 : (x.size : Int) < ((1 + 13 * (n - 1) : Nat) : Int)
      · rw [if_pos h3]
        split
        · exact ⟨_, _, rfl, rfl, .inr ⟨rfl, rfl⟩, by simp [bNo]⟩
        · clear w1 w2 w3
          have h5 := batch_short x ((n - 1 : Nat) : Int) ((n - 1 : Nat) : Int) (by omega) (n - 1) 1 0 [] (by omega) (by omega) (by simp) (by omega) (by omega)
          exact ⟨_, _, h5, rfl, .inr ⟨rfl, rfl⟩, by simp [bNo]⟩
      · rw [if_neg h3]
        have h6 := batch_spec x hx n (by omega) (by omega) (by clear w1 w2 w3; omega) (n - 1) 0 [] (by omega) (by omega) rfl
        have h6' : spec_l02ReadBatch.lv0 x (n : Int) 0 false 0 0 0 0 ⟨#[]⟩ [] = spec_l02ReadBatch.lv0 x n (n - 1 : Nat) false 0 0 0 0 ⟨#[]⟩ (rdL x 1 (n - 1)) := h6
        rw [h6', spec_l02ReadBatch.lv0_eq]
        simp only [w1, w2, w3, Int.toNat_natCast]
        clear w1 w2 w3
        have c1 : ¬ (((n - 1 : Nat) : Int) < ((n - 1 : Nat) : Int)) := by omega
        have c2 : (0 : Int) ≤ ((1 + 13 * (n - 1) : Nat) : Int) := by omega
        have c3 : ((1 + 13 * (n - 1) : Nat) : Int) ≤ (x.size : Int) := by omega
        simp only [if_neg c1, if_pos c2, if_pos c3]
        have hy : (x.extract (1 + 13 * (n - 1)) x.size).size ≤ 1048576 := by rw [ByteArray.size_extract]; omega
        by_cases h7 : ((n - 1 : Nat) : Int) > 7
        · obtain ⟨s, e6, e7⟩ := batch_many _ hy (rdL x 1 (n - 1)) (by rw [rdL_len]; omega)
          rw [e6, if_pos h7]
          exact ⟨_, _, rfl, rfl, .inr ⟨rfl, e7⟩, by simp [bNo]⟩
        obtain ⟨r, s, e5, e6, e7, e8⟩ := batch_end (x.extract (1 + 13 * (n - 1)) x.size) hy ((n - 1 : Nat) : Int) ((n - 1 : Nat) : Int) (by omega) (rdL x 1 (n - 1))
        rw [e6]
        · rw [if_neg h7]
          have h8 := batch_impl x ((n - 1 : Nat) : Int) ((n - 1 : Nat) : Int) (by omega) (n - 1) 1 0 [] (by omega) (by omega) rfl (by omega)
          have h8' : impl_readBatch.lv0 ((n - 1 : Nat) : Int) ((n - 1 : Nat) : Int) 0 (x.extract (0 + 1) x.size) false false 0 0 0 0 ⟨#[]⟩ [] = impl_readBatch.lv0 ((n - 1 : Nat) : Int) ((n - 1 : Nat) : Int) ((n - 1 : Nat) : Int) (x.extract (1 + 13 * (n - 1)) x.size) false false 0 0 0 0 ⟨#[]⟩ (rdL x 1 (n - 1)) := h8
          rw [h8']
          refine ⟨r, s, e5, rfl, e7, ?_⟩
          rcases e8 with e8 | rfl
          · rw [e8, rdL_len]; omega
          · simp [bNo]
def byteL (l : List Int) : Prop := ∀ y ∈ l, 0 ≤ y ∧ y ≤ 255
theorem byteL_nil : byteL [] := fun y h => by cases h
theorem byteL_cons {a : Int} {l : List Int} (h0 : 0 ≤ a) (h1 : a ≤ 255) (h : byteL l) : byteL (a :: l) := by
  intro y hy
  rcases List.mem_cons.1 hy with rfl | hy
  · exact ⟨h0, h1⟩
  · exact h y hy
theorem byteL_append {a b : List Int} (ha : byteL a) (hb : byteL b) : byteL (a ++ b) := by
  intro y hy
  rcases List.mem_append.1 hy with hy | hy
  · exact ha y hy
  · exact hb y hy
theorem bytes_str (l : List Int) (h : byteL l) : bytesOf (strOfNums l) = l := by
  unfold bytesOf
  rw [strOfNums_data, List.map_map]
  conv => rhs; rw [← List.map_id l]
  apply List.map_congr_left
  intro y hy
  have := h y hy
  simp only [Function.comp, id]
  rw [UInt8.toNat_ofNat']
  omega
theorem byteL_bytes (s : ByteArray) : byteL (bytesOf s) := bytesOf_range s
theorem bytes_append (a b : ByteArray) : bytesOf (a ++ b) = bytesOf a ++ bytesOf b := by
  unfold bytesOf
  rw [ByteArray.data_append, Array.toList_append, List.map_append]
theorem bytes_extract (x : ByteArray) (a b : Nat) : bytesOf (x.extract a b) = ((bytesOf x).take b).drop a := by
  unfold bytesOf
  rw [ByteArray.data_extract, Array.toList_extract, List.extract_eq_take_drop, List.map_take, List.map_drop, List.drop_take]
/-- n in k bytes, the high one first. -/
def beL (n : Int) : Nat → List Int
  | 0 => []
  | k + 1 => beL (n / 256) k ++ [n % 256]
theorem beL_len (n : Int) (k : Nat) : (beL n k).length = k := by
  induction k generalizing n with
  | zero => rfl
  | succ k ih => simp [beL, ih]
theorem byteL_be (n : Int) (k : Nat) : byteL (beL n k) := by
  induction k generalizing n with
  | zero => exact byteL_nil
  | succ k ih => exact byteL_append (ih _) (byteL_cons (by omega) (by omega) byteL_nil)
theorem numL_append (l : List Int) (a : Int) : numL (l ++ [a]) = numL l * 256 + a := by unfold numL; rw [List.foldl_append]; rfl
theorem be_numL : ∀ (k : Nat) (l : List Int), l.length = k → byteL l → beL (numL l) k = l
  | 0, l, h, hb => by rw [List.length_eq_zero_iff.1 h]; rfl
  | k + 1, l, h, hb => by
    have hne : l ≠ [] := by intro e; rw [e] at h; cases h
    have e := (List.dropLast_concat_getLast hne).symm
    generalize l.dropLast = d at e
    generalize l.getLast hne = a at e
    subst e
    have h2 : d.length = k := by simpa using h
    have ha := hb a (by simp)
    have ih := be_numL k d h2 (fun y hy => hb y (List.mem_append.2 (.inl hy)))
    rw [numL_append, beL, show (numL d * 256 + a) / 256 = numL d by omega, show (numL d * 256 + a) % 256 = a by omega, ih]
theorem impl_number1 (n : Int) : impl_number.v n 1 = some (strOfNums (beL n 1)) := by
  have w0 : wrap64 (1 - 1) = 0 := by rw [wrap_id (by omega) (by omega)]; rfl
  have w1 : wrap64 (0 - 1) = -1 := by rw [wrap_id (by omega) (by omega)]; rfl
  rw [impl_number.v_eq, if_pos (by omega), if_pos (by simp), w0, impl_number.lv0_eq, if_pos (by omega), if_pos (by omega), if_pos (by simp), w1, impl_number.lv0_eq, if_neg (by omega)]
  rfl
theorem impl_number4 (n : Int) : impl_number.v n 4 = some (strOfNums (beL n 4)) := by
  have w4 : wrap64 (4 - 1) = 3 := by rw [wrap_id (by omega) (by omega)]; rfl
  have w3 : wrap64 (3 - 1) = 2 := by rw [wrap_id (by omega) (by omega)]; rfl
  have w2 : wrap64 (2 - 1) = 1 := by rw [wrap_id (by omega) (by omega)]; rfl
  have w0 : wrap64 (1 - 1) = 0 := by rw [wrap_id (by omega) (by omega)]; rfl
  have w1 : wrap64 (0 - 1) = -1 := by rw [wrap_id (by omega) (by omega)]; rfl
  rw [impl_number.v_eq, if_pos (by omega), if_pos (by simp), w4, impl_number.lv0_eq, if_pos (by omega), if_pos (by omega), if_pos (by simp), w3, impl_number.lv0_eq, if_pos (by omega), if_pos (by omega), if_pos (by simp), w2, impl_number.lv0_eq, if_pos (by omega), if_pos (by omega), if_pos (by simp), w0, impl_number.lv0_eq, if_pos (by omega), if_pos (by omega), if_pos (by simp), w1, impl_number.lv0_eq, if_neg (by omega)]
  rfl
theorem be_front (j : Nat) : ∀ n : Int, beL n (j + 1) = (n / 256 ^ j % 256) :: beL n j := by
  induction j with
  | zero => intro n; simp [beL]
  | succ j ih =>
    intro n
    have h : beL n (j + 1 + 1) = beL (n / 256) (j + 1) ++ [n % 256] := rfl
    have h2 : n / 256 / 256 ^ j = n / 256 ^ (j + 1) := by
      rw [Int.ediv_ediv_of_nonneg (by omega), Int.pow_succ, Int.mul_comm]
    rw [h, ih, h2]
    rfl
theorem shr_be (n : Int) (j : Nat) (hj : j ≤ 7) : shr .i64 n (IntKind.u64.wrap (wrap64 (8 * (j : Int)))) = n / 256 ^ j := by
  have w : wrap64 (8 * (j : Int)) = ((8 * j : Nat) : Int) := by rw [wrap_id (by omega) (by omega)]; omega
  have w2 : IntKind.u64.wrap ((8 * j : Nat) : Int) = ((8 * j : Nat) : Int) := by
    have : 8 * j < 18446744073709551616 := by omega
    unfold IntKind.wrap
    simp [IntKind.bits, IntKind.signed]
    omega
  rw [w, w2]
  clear w w2
  unfold shr
  rw [Int.toNat_natCast, Nat.min_eq_left (by show 8 * j ≤ 64; omega), Int.pow_mul]
  rfl
theorem spec_number_l (n : Int) : ∀ (j : Nat) (acc : List Int), j ≤ 8 → acc.length + j ≤ 1000000 → spec_l02Number.lv0 n acc ((j : Int) - 1) = some (acc ++ beL n j)
  | 0, acc, hj, ha => by rw [spec_l02Number.lv0_eq, if_neg (by omega)]; simp [beL]
  | j + 1, acc, hj, ha => by
    have ih := spec_number_l n j (acc ++ [n / 256 ^ j % 256]) (by omega) (by rw [List.length_append]; show acc.length + 1 + j ≤ _; omega)
    have e : (((j + 1 : Nat) : Int) - 1) = (j : Int) := by omega
    have hs := shr_be n j (by omega)
    have h0 : 0 ≤ IntKind.u64.wrap (wrap64 (8 * (j : Int))) := by
      have w : wrap64 (8 * (j : Int)) = ((8 * j : Nat) : Int) := by rw [wrap_id (by omega) (by omega)]; omega
      rw [w]
      clear w hs
      unfold IntKind.wrap
      simp [IntKind.bits, IntKind.signed]
      omega
    have w : wrap64 ((j : Int) - 1) = (j : Int) - 1 := wrap_id (by omega) (by omega)
    have c1 : (j : Int) ≥ 0 := by omega
    have c2 : acc.length < 140737488355328 := by omega
    rw [e, spec_l02Number.lv0_eq, if_pos c1, if_pos h0, if_pos c2, hs, w, ih, be_front, List.append_assoc]
    rfl
theorem spec_number_v (n : Int) (k : Nat) (hk : k ≤ 8) : spec_l02Number.v n k = some (beL n k) := by
  have w : wrap64 ((k : Int) - 1) = (k : Int) - 1 := wrap_id (by omega) (by omega)
  rw [spec_l02Number.v_eq, w, spec_number_l n k [] hk (by simp; omega)]
  rfl
def reqL (c st k ls : Int) (nm : ByteArray) : List Int := beL c 1 ++ (beL st 2 ++ (beL k 1 ++ (beL ls 2 ++ (beL nm.size 1 ++ bytesOf nm))))
theorem reqL_len (c st k ls : Int) (nm : ByteArray) : (reqL c st k ls nm).length = 7 + nm.size := by
  unfold reqL
  simp only [List.length_append, beL_len, bytesOf_length]
  omega
theorem reqB_facts {c st k ls : Int} {nm : ByteArray} (h : reqB c st k ls nm = true) : 0 ≤ c ∧ c ≤ 255 ∧ 1 ≤ st ∧ st ≤ 65535 ∧ 1 ≤ k ∧ k ≤ 4 ∧ 0 ≤ ls ∧ ls ≤ 1000 ∧ nm.size ≤ 12 := by
  unfold reqB inB at h
  simp only [Bool.and_eq_true, decide_eq_true_eq] at h
  obtain ⟨⟨⟨⟨⟨h1, h2⟩, h3⟩, h4⟩, h5, _⟩, _⟩ := h
  omega
theorem drop_piece (x : ByteArray) (p k : Nat) (h : p + k ≤ x.size) : (bytesOf x).drop p = bytesOf (x.extract p (p + k)) ++ (bytesOf x).drop (p + k) := by
  rw [bytes_extract, ← List.drop_drop, List.drop_take, show p + k - p = k by omega, List.take_append_drop]
theorem num_back (x : ByteArray) (p k : Nat) (h : p + k ≤ x.size) : beL (numM (x.extract p (p + k))) k = bytesOf (x.extract p (p + k)) := by
  unfold numM
  exact be_numL k _ (by rw [bytesOf_length, ByteArray.size_extract]; omega) (byteL_bytes _)
/-- What was read, written, is what was there. -/
theorem req_back (x : ByteArray) (p : Nat) (h : p + 7 + rN x p ≤ x.size) :
    (bytesOf x).drop p = reqL (bt x p) (numM (x.extract (p + 1) (p + 3))) (bt x (p + 3 : Nat)) (numM (x.extract (p + 4) (p + 6))) (x.extract (p + 7) (p + 7 + rN x p)) ++ (bytesOf x).drop (p + 7 + rN x p) := by
  have b1 := num_back x p 1 (by omega)
  have b2 := num_back x (p + 1) 2 (by omega)
  have b3 := num_back x (p + 3) 1 (by omega)
  have b4 := num_back x (p + 4) 2 (by omega)
  have b5 := num_back x (p + 6) 1 (by omega)
  rw [numM_one x p (by omega)] at b1
  rw [numM_one x (p + 3) (by omega)] at b3
  rw [numM_one x (p + 6) (by omega)] at b5
  have hr := bt_range x (p + 6 : Nat)
  have hN : ((x.extract (p + 7) (p + 7 + rN x p)).size : Int) = bt x (p + 6 : Nat) := by
    rw [ByteArray.size_extract]
    have : ((rN x p : Nat) : Int) = bt x (p + 6 : Nat) := by unfold rN; omega
    omega
  unfold reqL
  rw [hN, b1, b2, b3, b4, b5]
  rw [drop_piece x p 1 (by omega), drop_piece x (p + 1) 2 (by omega), drop_piece x (p + 1 + 2) 1 (by omega), drop_piece x (p + 1 + 2 + 1) 2 (by omega), drop_piece x (p + 1 + 2 + 1 + 2) 1 (by omega), drop_piece x (p + 1 + 2 + 1 + 2 + 1) (rN x p) (by omega)]
  simp only [List.append_assoc]
def rdT (r : S185) : List Int := beL r.f0 1 ++ (beL r.f1 4 ++ bytesOf r.f2)
def rdsL : List S185 → List Int
  | [] => []
  | r :: t => rdT r ++ rdsL t
theorem rdT_len (r : S185) : (rdT r).length = 5 + r.f2.size := by
  unfold rdT
  simp only [List.length_append, beL_len, bytesOf_length]
  omega
theorem rdsL_len : ∀ (rs : List S185), (∀ r ∈ rs, r.f2.size = 8) → (rdsL rs).length = 13 * rs.length
  | [], _ => rfl
  | r :: t, h => by
    show (rdT r ++ rdsL t).length = 13 * (t.length + 1)
    rw [List.length_append, rdT_len, rdsL_len t (fun q hq => h q (List.mem_cons_of_mem _ hq)), h r List.mem_cons_self]
    omega
/-- The bytes of a batch. -/
def batL (n : Bool) (c st k ls : Int) (nm : ByteArray) (rs : List S185) : List Int :=
  if n = true then [0] else beL (1 + rs.length) 1 ++ (rdsL rs ++ reqL c st k ls nm)
theorem batL_len (c st k ls : Int) (nm : ByteArray) (rs : List S185) (h8 : ∀ r ∈ rs, r.f2.size = 8) : (batL false c st k ls nm rs).length = 8 + 13 * rs.length + nm.size := by
  unfold batL
  rw [if_neg (by simp)]
  simp only [List.length_append, beL_len, reqL_len, rdsL_len rs h8]
  omega
theorem batL_le (n : Bool) (c st k ls : Int) (nm : ByteArray) (rs : List S185) (h8 : ∀ r ∈ rs, r.f2.size = 8) : (batL n c st k ls nm rs).length ≤ 8 + 13 * rs.length + nm.size := by
  cases n
  · rw [batL_len _ _ _ _ _ _ h8]; omega
  · show 1 ≤ _; omega
theorem rdT_get (rs : List S185) (i : Nat) (h : i < rs.length) : rd_T185 rs i = rs[i] := by
  unfold rd_T185
  rw [Int.toNat_natCast, List.getD_eq_getElem?_getD, List.getElem?_eq_getElem h]
  rfl
/-- Readings that were written, read back. -/
def rdOK (r : S185) : Prop := 0 ≤ r.f0 ∧ r.f0 ≤ 255 ∧ 0 ≤ r.f1 ∧ r.f1 ≤ 4294967295 ∧ r.f2.size = 8
theorem rds_back (x : ByteArray) : ∀ (c p : Nat), p + 13 * c ≤ x.size → (bytesOf x).drop p = rdsL (rdL x p c) ++ (bytesOf x).drop (p + 13 * c)
  | 0, p, h => rfl
  | c + 1, p, h => by
    have ih := rds_back x c (p + 13) (by omega)
    have b1 := num_back x p 1 (by omega)
    have b2 := num_back x (p + 1) 4 (by omega)
    rw [numM_one x p (by omega)] at b1
    have e : rdsL (rdL x p (c + 1)) = (beL (bt x p) 1 ++ (beL (numM (x.extract (p + 1) (p + 5))) 4 ++ bytesOf (x.extract (p + 5) (p + 13)))) ++ rdsL (rdL x (p + 13) c) := rfl
    rw [e, b1, show p + 5 = p + 1 + 4 by omega, b2]
    rw [drop_piece x p 1 (by omega), drop_piece x (p + 1) 4 (by omega), drop_piece x (p + 1 + 4) 8 (by omega), show p + 1 + 4 + 8 = p + 13 by omega, ih, show p + 13 + 13 * c = p + 13 * (c + 1) by omega]
    simp only [List.append_assoc]
/-- A batch that is right, by its parts. -/
def batOK (n : Bool) (c st k ls : Int) (nm : ByteArray) (rs : List S185) : Prop := impl_isBatch.v n c st k ls nm rs = some true
theorem isBatch_l (n : Bool) (c st k ls : Int) (nm : ByteArray) (rs : List S185) (hl : rs.length ≤ 1000) : ∀ (j i : Nat), rs.length - i = j → i ≤ rs.length → impl_isBatch.lv0 rs rs.length i n c st k ls nm rs = some true →
    ∀ r ∈ rs.drop i, readingB r.f0 r.f1 r.f2 = true
  | 0, i, hj, hi, h, r, hr => by rw [List.drop_eq_nil_of_le (by omega)] at hr; cases hr
  | j + 1, i, hj, hi, h, r, hr => by
    have hi2 : i < rs.length := by omega
    have w : wrap64 ((i : Int) + 1) = ((i + 1 : Nat) : Int) := by rw [wrap_id (by omega) (by omega)]; omega
    rw [impl_isBatch.lv0_eq, w] at h
    clear w
    rw [if_pos (by omega), if_pos (by omega), if_pos (by omega), rdT_get rs i hi2, impl_isReading_v, Option.bind_some] at h
    cases hb : readingB rs[i].f0 rs[i].f1 rs[i].f2 with
    | false => rw [hb] at h; cases h
    | true =>
      rw [hb, if_pos rfl] at h
      have hn : impl_isBatch.lv0 rs rs.length (i + 1 : Nat) n c st k ls nm rs = some true := by
        by_cases h0 : (i : Int) > 0
        · rw [if_pos h0] at h
          split at h
          · split at h
            · split at h
              · cases h
              · exact h
            · cases h
          · cases h
        · rw [if_neg h0] at h; exact h
      rw [List.drop_eq_getElem_cons hi2] at hr
      rcases List.mem_cons.1 hr with rfl | hr
      · exact hb
      · exact isBatch_l n c st k ls nm rs hl j (i + 1) (by omega) (by omega) hn r hr
theorem batOK_facts {c st k ls : Int} {nm : ByteArray} {rs : List S185} (he : nm.size ≤ 9223372036854775807) (h : batOK false c st k ls nm rs) : reqB c st k ls nm = true ∧ rs.length ≤ 7 ∧ ∀ r ∈ rs, rdOK r := by
  unfold batOK at h
  rw [impl_isBatch.v_eq, if_neg (by simp), impl_RequestOK_v _ _ _ _ _ he, Option.bind_some] at h
  cases hq : reqB c st k ls nm with
  | false => rw [hq, if_neg (by simp), impl_isBatch.jv0_eq, if_pos rfl] at h; cases h
  | true =>
    rw [hq, if_pos rfl, impl_isBatch.jv0_eq] at h
    by_cases h7 : (rs.length : Int) > 7
    · rw [if_pos (decide_eq_true h7)] at h; cases h
    · rw [if_neg (by simpa using h7)] at h
      refine ⟨rfl, by omega, fun r hr => ?_⟩
      have := isBatch_l false c st k ls nm rs (by omega) rs.length 0 rfl (by omega) h r hr
      unfold readingB inB at this
      simp only [Bool.and_eq_true, decide_eq_true_eq] at this
      exact ⟨by omega, by omega, by omega, by omega, this.2.2⟩
theorem null_facts {c st k ls : Int} {nm : ByteArray} {rs : List S185} (h : batOK true c st k ls nm rs) : c = 0 ∧ st = 0 ∧ k = 0 ∧ ls = 0 ∧ nm = ⟨#[]⟩ ∧ rs = [] := by
  unfold batOK at h
  rw [impl_isBatch.v_eq, if_pos rfl] at h
  split at h
  · rename_i hc
    simp only [Bool.and_eq_true, beq_iff_eq] at hc
    obtain ⟨h1, h2, h3, h4, h5⟩ := hc
    have h6 := Option.some.inj h
    rw [beq_iff_eq] at h6
    refine ⟨h1, h2, h3, h4, ?_, List.length_eq_zero_iff.1 (by omega)⟩
    exact ba_inj.1 (h5.trans (ba_toList ⟨#[]⟩).symm)
  · cases h
theorem null_ok : batOK true 0 0 0 0 ⟨#[]⟩ [] := by unfold batOK; rw [impl_isBatch.v_eq, ba_toList]; rfl
/-- What is read is right, and its bytes are those that stood there. -/
theorem readBatch_inv (x : ByteArray) (hx : x.size ≤ 1048576) : ∃ r : Batch8, impl_readBatch.v x = some r ∧ (r.2.2.2.2.2.2.2 = true → batOK r.1 r.2.1 r.2.2.1 r.2.2.2.1 r.2.2.2.2.1 r.2.2.2.2.2.1 r.2.2.2.2.2.2.1 ∧ r.2.2.2.2.2.1.size ≤ 1048576 ∧ bytesOf x = batL r.1 r.2.1 r.2.2.1 r.2.2.2.1 r.2.2.2.2.1 r.2.2.2.2.2.1 r.2.2.2.2.2.2.1) := by
  by_cases h0 : x.size = 0
  · exact ⟨_, readBatch_nil x h0, fun h => by cases h⟩
  · have hn : impl_reader_number.v x false 1 = some (bt x 0, x.extract (0 + 1) x.size, false) := by
      have hn := number_ok x 0 1 (by omega) (by omega)
      rw [← at_zero x, numM_one x 0 (by omega)] at hn
      exact hn
    have hr := bt_range x 0
    have hz := toList_zero x
    rw [impl_readBatch.v_eq, hn, Option.bind_some]
    clear hn
    obtain ⟨n, hb⟩ : ∃ n : Nat, bt x 0 = n := ⟨(bt x 0).toNat, by omega⟩
    rw [hb] at hr hz
    simp only [hb]
    by_cases h1 : n = 0
    · subst h1
      by_cases h2 : x.size = 1
      · rw [if_pos (hz.2 ⟨h2, rfl⟩)]
        refine ⟨_, rfl, fun _ => ⟨null_ok, by show 0 ≤ _; omega, ?_⟩⟩
        have h3 := hz.2 ⟨h2, rfl⟩
        rw [ba_toList] at h3
        show bytesOf x = [0]
        unfold bytesOf
        rw [h3]
        rfl
      · rw [if_neg (fun h => h2 (hz.1 h).1)]
        have w : wrap64 (((0 : Nat) : Int) - 1) = -1 := by rw [wrap_id (by omega) (by omega)]; rfl
        rw [w, if_neg (by omega)]
        clear w
        have hm : mx (-1) 0 = 0 := rfl
        rw [hm, impl_readBatch.lv0_eq, if_neg (by omega)]
        have hsz : ∃ q : Req7, impl_reader_request.v (x.extract (0 + 1) x.size) false = some q := by
          rcases Decidable.em (1 + 7 + rN x 1 ≤ x.size) with h4 | h4
          · exact ⟨_, impl_request_ok x 1 h4⟩
          · obtain ⟨w, e2, _⟩ := impl_request_short x 1 (by omega) (.inr (by omega))
            exact ⟨w, e2⟩
        obtain ⟨q, e2⟩ := hsz
        rw [e2, Option.bind_some, if_pos (by omega)]
        exact ⟨_, rfl, fun h => by cases h⟩
    · have h2 : ¬ x.toList = [0] := fun h => h1 (by have := (hz.1 h).2; omega)
      have w1 : wrap64 ((n : Int) - 1) = ((n - 1 : Nat) : Int) := by rw [wrap_id (by omega) (by omega)]; omega
      rw [if_neg h2]
      simp only [w1]
      clear w1
      have hm : mx ((n - 1 : Nat) : Int) 0 = ((n - 1 : Nat) : Int) := by unfold mx; split <;> omega
      rw [hm]
      by_cases h7 : ((n - 1 : Nat) : Int) > 7
      · rw [if_pos h7]
        exact ⟨_, rfl, fun h => by cases h⟩
      rw [if_neg h7]
      by_cases h3 : x.size < 1 + 13 * (n - 1)
      · have h5 := batch_short x ((n - 1 : Nat) : Int) ((n - 1 : Nat) : Int) (by omega) (n - 1) 1 0 [] (by omega) (by omega) (by simp) (by omega) (by omega)
        exact ⟨_, h5, fun h => by cases h⟩
      · have h8 := batch_impl x ((n - 1 : Nat) : Int) ((n - 1 : Nat) : Int) (by omega) (n - 1) 1 0 [] (by omega) (by omega) rfl (by omega)
        have h8' : impl_readBatch.lv0 ((n - 1 : Nat) : Int) ((n - 1 : Nat) : Int) 0 (x.extract (0 + 1) x.size) false false 0 0 0 0 ⟨#[]⟩ [] = impl_readBatch.lv0 ((n - 1 : Nat) : Int) ((n - 1 : Nat) : Int) ((n - 1 : Nat) : Int) (x.extract (1 + 13 * (n - 1)) x.size) false false 0 0 0 0 ⟨#[]⟩ (rdL x 1 (n - 1)) := h8
        rw [h8', impl_readBatch.lv0_eq, if_neg (by omega)]
        clear h8 h8'
        obtain ⟨p, hp⟩ : ∃ p, p = 1 + 13 * (n - 1) := ⟨_, rfl⟩
        rw [← hp] at h3 ⊢
        rcases Decidable.em (p + 7 + rN x p ≤ x.size) with h4 | h4
        · rw [impl_request_ok x p h4, Option.bind_some]
          simp only
          rw [if_neg (by omega), done_at x _ h4, Option.bind_some]
          simp only
          by_cases h5 : p + 7 + rN x p = x.size
          · rw [if_pos (decide_eq_true h5)]
            obtain ⟨b, b1, b2, b3, b4⟩ := batch_both false (bt x p) (numM (x.extract (p + 1) (p + 3))) (bt x (p + 3 : Nat)) (numM (x.extract (p + 4) (p + 6))) (x.extract (p + 7) (p + 7 + rN x p)) (rdL x 1 (n - 1)) (by rw [ByteArray.size_extract]; omega)
            rw [b1, Option.bind_some]
            cases b
            · exact ⟨_, rfl, fun h => by cases h⟩
            · refine ⟨_, rfl, fun _ => ⟨b1, by show (x.extract (p + 7) (p + 7 + rN x p)).size ≤ _; rw [ByteArray.size_extract]; omega, ?_⟩⟩
              show bytesOf x = beL (1 + (rdL x 1 (n - 1)).length) 1 ++ (rdsL (rdL x 1 (n - 1)) ++ reqL _ _ _ _ _)
              have d1 := drop_piece x 0 1 (by omega)
              have d2 := rds_back x (n - 1) 1 (by omega)
              have d3 := req_back x p h4
              have d4 := num_back x 0 1 (by omega)
              rw [numM_one x 0 (by omega)] at d4
              have hlen : (1 + ((rdL x 1 (n - 1)).length : Int)) = bt x 0 := by rw [rdL_len, hb]; omega
              have d5 : (bytesOf x).drop (p + 7 + rN x p) = [] := List.drop_eq_nil_of_le (by rw [bytesOf_length]; omega)
              rw [← hp, d3, d5, List.append_nil] at d2
              have d1' : bytesOf x = bytesOf (x.extract 0 (0 + 1)) ++ (bytesOf x).drop 1 := d1
              rw [hlen, show (bt x 0) = bt x ((0 : Nat) : Int) from rfl, d4, ← d2]
              exact d1'
          · rw [if_neg (show ¬ decide (p + 7 + rN x p = x.size) = true by rw [decide_eq_false h5]; simp)]
            exact ⟨_, rfl, fun h => by cases h⟩
        · obtain ⟨w, e2, e3⟩ := impl_request_short x p (by omega) (.inr (by omega))
          rw [e2, Option.bind_some, if_neg (by omega), e3, done_bad, Option.bind_some]
          exact ⟨_, rfl, fun h => by cases h⟩
theorem bat_sizes {n : Bool} {c st k ls : Int} {nm : ByteArray} {rs : List S185} (he : nm.size ≤ 1048576) (h : batOK n c st k ls nm rs) : nm.size ≤ 12 ∧ rs.length ≤ 7 ∧ ∀ r ∈ rs, r.f2.size = 8 := by
  cases n
  · obtain ⟨hq, hl, hr⟩ := batOK_facts (by omega) h
    obtain ⟨c0, c1, s0, s1, k0, k1, l0, l1, n1⟩ := reqB_facts hq
    exact ⟨n1, hl, fun r hr2 => (hr r hr2).2.2.2.2⟩
  · obtain ⟨rfl, rfl, rfl, rfl, rfl, rfl⟩ := null_facts h
    exact ⟨by decide, by simp, fun r hr => by cases hr⟩
theorem nodes_one (a : Int) : ∃ r, spec_l04Nodes.v a = some r ∧ impl_areNodes.v a = some r := by
  rw [spec_l04Nodes.v_eq, impl_areNodes.v_eq, impl_FaultsOf.v_eq]
  by_cases h1 : a = 1
  · rw [if_pos h1, if_pos h1, Option.bind_some]; exact ⟨_, rfl, rfl⟩
  by_cases h4 : a = 4
  · rw [if_neg h1, if_neg h1, if_pos h4, if_pos h4, Option.bind_some]; exact ⟨_, rfl, rfl⟩
  by_cases h7 : a = 7
  · rw [if_neg h1, if_neg h1, if_neg h4, if_neg h4, if_pos h7, Option.bind_some, h7]; exact ⟨_, rfl, rfl⟩
  · rw [if_neg h1, if_neg h1, if_neg h4, if_neg h4, if_neg h7, Option.bind_some]
    exact ⟨false, by simp [h7], rfl⟩
def turnF (x n : Int) : Int := Go.bits .or .u32 (shr .u32 x n) (shl .u32 x (32 - n))
theorem u64_small (n : Int) (h0 : 0 ≤ n) (h1 : n < 18446744073709551616) : IntKind.u64.wrap n = n := by
  unfold IntKind.wrap
  simp [IntKind.bits, IntKind.signed]
  omega
theorem turn_v (x n : Int) (h0 : 0 ≤ n) (h1 : n ≤ 32) : spec_l01Turn.v x n = some (turnF x n) := by
  rw [spec_l01Turn.v_eq, if_pos h0, u64_small (32 - n) (by omega) (by omega), if_pos (by omega)]
  rfl
theorem block_l3 (v : List Int) (hv : v.length = 8) : ∀ (k i : Nat) (h : List Int), 8 - i = k → i ≤ 8 → h.length = 8 → ∃ r, spec_l01Block.lv3 h v i = some r ∧ r.length = 8
  | 0, i, h, hk, hi, hh => by
    rw [spec_l01Block.lv3_eq, if_neg (by omega)]
    exact ⟨h, rfl, hh⟩
  | k + 1, i, h, hk, hi, hh => by
    obtain ⟨r, e, hr⟩ := block_l3 v hv k (i + 1) (h.set (i : Int).toNat (((rd h i) + (rd v i)) % 4294967296)) (by omega) (by omega) (by rw [List.length_set]; exact hh)
    have w : wrap64 ((i : Int) + 1) = ((i + 1 : Nat) : Int) := by rw [wrap_id (by omega) (by omega)]; omega
    rw [spec_l01Block.lv3_eq, w, e]
    clear w
    rw [if_pos (by omega), if_pos (by omega), if_pos (by omega), if_pos (by omega)]
    exact ⟨r, rfl, hr⟩
theorem block_l2 (h ks ws : List Int) (hh : h.length = 8) (hk : ks.length = 64) (hw : ws.length = 64) : ∀ (k i : Nat) (v : List Int), 64 - i = k → i ≤ 64 → v.length = 8 → ∃ r, spec_l01Block.lv2 h ks ws v i = some r ∧ r.length = 8
  | 0, i, v, hi0, hi, hv => by
    rw [spec_l01Block.lv2_eq, if_neg (by omega)]
    exact block_l3 v hv 8 0 h rfl (by omega) hh
  | k + 1, i, v, hi0, hi, hv => by
    have ih := fun v' => block_l2 h ks ws hh hk hw k (i + 1) v' (by omega) (by omega)
    have w : wrap64 ((i : Int) + 1) = ((i + 1 : Nat) : Int) := by rw [wrap_id (by omega) (by omega)]; omega
    rw [spec_l01Block.lv2_eq, w]
    clear w
    have c1 : (i : Int) < 64 := by omega
    have c2 : (4 : Int) < (v.length : Int) := by omega
    have c3 : (0 : Int) < (v.length : Int) := by omega
    have c4 : (7 : Int) < (v.length : Int) := by omega
    have c5 : (5 : Int) < (v.length : Int) := by omega
    have c6 : (6 : Int) < (v.length : Int) := by omega
    have c7 : (0 : Int) ≤ (i : Int) := by omega
    have c8 : (i : Int) < (ks.length : Int) := by omega
    have c9 : (i : Int) < (ws.length : Int) := by omega
    have d1 : (1 : Int) < (v.length : Int) := by omega
    have d2 : (2 : Int) < (v.length : Int) := by omega
    have d3 : (3 : Int) < (v.length : Int) := by omega
    have t1 : ∀ x, spec_l01Turn.v x 6 = some (turnF x 6) := fun x => turn_v x 6 (by omega) (by omega)
    have t2 : ∀ x, spec_l01Turn.v x 11 = some (turnF x 11) := fun x => turn_v x 11 (by omega) (by omega)
    have t3 : ∀ x, spec_l01Turn.v x 25 = some (turnF x 25) := fun x => turn_v x 25 (by omega) (by omega)
    have t4 : ∀ x, spec_l01Turn.v x 2 = some (turnF x 2) := fun x => turn_v x 2 (by omega) (by omega)
    have t5 : ∀ x, spec_l01Turn.v x 13 = some (turnF x 13) := fun x => turn_v x 13 (by omega) (by omega)
    have t6 : ∀ x, spec_l01Turn.v x 22 = some (turnF x 22) := fun x => turn_v x 22 (by omega) (by omega)
    simp only [if_pos c1, if_pos c2, if_pos c3, if_pos c4, if_pos c5, if_pos c6, if_pos c7, if_pos c8, if_pos c9, if_pos d1, if_pos d2, if_pos d3, t1, t2, t3, t4, t5, t6, Option.bind_some]
    exact ih _ rfl
theorem block_l1 (h ks : List Int) (hh : h.length = 8) (hk : ks.length = 64) : ∀ (k i : Nat) (ws : List Int), 64 - i = k → 16 ≤ i → i ≤ 64 → ws.length = 64 → ∃ r, spec_l01Block.lv1 h ks ws i = some r ∧ r.length = 8
  | 0, i, ws, hi0, h16, hi, hw => by
    rw [spec_l01Block.lv1_eq, if_neg (by omega), Option.bind_some, if_pos (by simp; omega)]
    exact block_l2 h ks ws hh hk hw 64 0 _ rfl (by omega) (by simpa using hh)
  | k + 1, i, ws, hi0, h16, hi, hw => by
    have ih := fun ws' => block_l1 h ks hh hk k (i + 1) ws' (by omega) (by omega) (by omega)
    have c1 : (i : Int) < 64 := by omega
    have c2 : (0 : Int) ≤ (i : Int) - 15 := by omega
    have c3 : (i : Int) - 15 < (ws.length : Int) := by omega
    have c4 : (0 : Int) ≤ (i : Int) - 2 := by omega
    have c5 : (i : Int) - 2 < (ws.length : Int) := by omega
    have c6 : (0 : Int) ≤ (i : Int) - 16 := by omega
    have c7 : (i : Int) - 16 < (ws.length : Int) := by omega
    have c8 : (0 : Int) ≤ (i : Int) - 7 := by omega
    have c9 : (i : Int) - 7 < (ws.length : Int) := by omega
    have d1 : (0 : Int) ≤ (i : Int) := by omega
    have d2 : (i : Int) < (ws.length : Int) := by omega
    have t1 : ∀ x, spec_l01Turn.v x 7 = some (turnF x 7) := fun x => turn_v x 7 (by omega) (by omega)
    have t2 : ∀ x, spec_l01Turn.v x 18 = some (turnF x 18) := fun x => turn_v x 18 (by omega) (by omega)
    have t3 : ∀ x, spec_l01Turn.v x 17 = some (turnF x 17) := fun x => turn_v x 17 (by omega) (by omega)
    have t4 : ∀ x, spec_l01Turn.v x 19 = some (turnF x 19) := fun x => turn_v x 19 (by omega) (by omega)
    have w : wrap64 ((i : Int) + 1) = ((i + 1 : Nat) : Int) := by rw [wrap_id (by omega) (by omega)]; omega
    have w1 : wrap64 ((i : Int) - 15) = (i : Int) - 15 := wrap_id (by omega) (by omega)
    have w2 : wrap64 ((i : Int) - 2) = (i : Int) - 2 := wrap_id (by omega) (by omega)
    have w3 : wrap64 ((i : Int) - 16) = (i : Int) - 16 := wrap_id (by omega) (by omega)
    have w4 : wrap64 ((i : Int) - 7) = (i : Int) - 7 := wrap_id (by omega) (by omega)
    rw [spec_l01Block.lv1_eq]
    simp only [w, w1, w2, w3, w4, if_pos c1, if_pos c2, if_pos c3, if_pos c4, if_pos c5, if_pos c6, if_pos c7, if_pos c8, if_pos c9, if_pos d1, if_pos d2, t1, t2, t3, t4, Option.bind_some]
    clear w w1 w2 w3 w4
    exact ih _ (by rw [List.length_set]; exact hw)
theorem block_l0 (h b ks : List Int) (hh : h.length = 8) (hb : b.length = 64) (hk : ks.length = 64) : ∀ (k i : Nat) (ws : List Int), 16 - i = k → i ≤ 16 → ws.length = 64 → ∃ r, spec_l01Block.lv0 h b ks ws i = some r ∧ r.length = 8
  | 0, i, ws, hi0, hi, hw => by
    rw [spec_l01Block.lv0_eq, if_neg (by omega)]
    exact block_l1 h ks hh hk 48 16 ws rfl (by omega) (by omega) hw
  | k + 1, i, ws, hi0, hi, hw => by
    have ih := fun ws' => block_l0 h b ks hh hb hk k (i + 1) ws' (by omega) (by omega)
    have c1 : (i : Int) < 16 := by omega
    have c2 : (0 : Int) ≤ 4 * (i : Int) := by omega
    have c3 : 4 * (i : Int) < (b.length : Int) := by omega
    have c4 : (0 : Int) ≤ 4 * (i : Int) + 1 := by omega
    have c5 : 4 * (i : Int) + 1 < (b.length : Int) := by omega
    have c6 : (0 : Int) ≤ 4 * (i : Int) + 2 := by omega
    have c7 : 4 * (i : Int) + 2 < (b.length : Int) := by omega
    have c8 : (0 : Int) ≤ 4 * (i : Int) + 3 := by omega
    have c9 : 4 * (i : Int) + 3 < (b.length : Int) := by omega
    have d1 : (0 : Int) ≤ (i : Int) := by omega
    have d2 : (i : Int) < (ws.length : Int) := by omega
    have w : wrap64 ((i : Int) + 1) = ((i + 1 : Nat) : Int) := by rw [wrap_id (by omega) (by omega)]; omega
    have w0 : wrap64 (4 * (i : Int)) = 4 * (i : Int) := wrap_id (by omega) (by omega)
    have w1 : wrap64 (4 * (i : Int) + 1) = 4 * (i : Int) + 1 := wrap_id (by omega) (by omega)
    have w2 : wrap64 (4 * (i : Int) + 2) = 4 * (i : Int) + 2 := wrap_id (by omega) (by omega)
    have w3 : wrap64 (4 * (i : Int) + 3) = 4 * (i : Int) + 3 := wrap_id (by omega) (by omega)
    rw [spec_l01Block.lv0_eq]
    simp only [w, w0, w1, w2, w3, if_pos c1, if_pos c2, if_pos c3, if_pos c4, if_pos c5, if_pos c6, if_pos c7, if_pos c8, if_pos c9, if_pos d1, if_pos d2]
    clear w w0 w1 w2 w3
    exact ih _ (by rw [List.length_set]; exact hw)
theorem block_v (h b ks : List Int) (hh : h.length = 8) (hb : b.length = 64) (hk : ks.length = 64) : ∃ r, spec_l01Block.v h b ks = some r ∧ r.length = 8 := by
  rw [spec_l01Block.v_eq, if_pos ⟨hh, hb, hk⟩, if_pos (by omega)]
  exact block_l0 h b ks hh hb hk 16 0 _ rfl (by omega) (by simp)
theorem hash_l3 (h : List Int) (hh : h.length = 8) : ∀ (k i : Nat) (out : List Int), 8 - i = k → i ≤ 8 → out.length = 4 * i → ∃ t, spec_l01Hash.lv3 h out i = some t ∧ t.size = 32
  | 0, i, out, hi0, hi, ho => by
    rw [spec_l01Hash.lv3_eq, if_neg (by omega)]
    exact ⟨_, rfl, by rw [strOf_size]; omega⟩
  | k + 1, i, out, hi0, hi, ho => by
    have ih := fun out' => hash_l3 h hh k (i + 1) out' (by omega) (by omega)
    have w : wrap64 ((i : Int) + 1) = ((i + 1 : Nat) : Int) := by rw [wrap_id (by omega) (by omega)]; omega
    rw [spec_l01Hash.lv3_eq, w]
    clear w
    rw [if_pos (by omega), if_pos (by omega), if_pos (by omega), Option.bind_some, if_pos (by simp; omega)]
    exact ih _ (by simp; omega)
theorem hash_l2 (all ks : List Int) (hk : ks.length = 64) (n : Nat) (ha : all.length = 64 * n) (hn : n ≤ 1000000) : ∀ (k i : Nat) (h : List Int), n - i = k → i ≤ n → h.length = 8 → ∃ t, spec_l01Hash.lv2 h all ks ((64 * i : Nat) : Int) = some t ∧ t.size = 32
  | 0, i, h, hi0, hi, hh => by
    rw [spec_l01Hash.lv2_eq, if_neg (by omega)]
    exact hash_l3 h hh 8 0 [] rfl (by omega) rfl
  | k + 1, i, h, hi0, hi, hh => by
    have ih := fun h' => hash_l2 all ks hk n ha hn k (i + 1) h' (by omega) (by omega)
    obtain ⟨r, e, hr⟩ := block_v h ((all.take (64 * (i + 1))).drop (64 * i)) ks hh (by rw [List.length_drop, List.length_take]; omega) hk
    have w : wrap64 (((64 * i : Nat) : Int) + 64) = ((64 * (i + 1) : Nat) : Int) := by rw [wrap_id (by omega) (by omega)]; omega
    rw [spec_l01Hash.lv2_eq, w]
    clear w
    simp only [Int.toNat_natCast]
    rw [if_pos (by omega), if_pos (by omega), if_pos (by omega), if_pos (by omega), e, Option.bind_some]
    exact ih _ hr
theorem hash_l1 (x h : List Int) (hh : h.length = 8) : ∀ (k : Nat) (all : List Int), k ≤ 8 → all.length + k ≤ 60000000 → (all.length + k) % 64 = 0 → ∃ t, spec_l01Hash.lv1 x h all ((k : Int) - 1) = some t ∧ t.size = 32
  | 0, all, hk, ha, hm => by
    rw [spec_l01Hash.lv1_eq, if_neg (by omega), spec_l01Consts.v_eq, Option.bind_some]
    exact hash_l2 all _ rfl (all.length / 64) (by omega) (by omega) (all.length / 64) 0 h rfl (by omega) hh
  | k + 1, all, hk, ha, hm => by
    have ih := fun a => hash_l1 x h hh k (all ++ [a]) (by omega) (by simp; omega) (by simp; omega)
    have e : (((k + 1 : Nat) : Int) - 1) = (k : Int) := by omega
    have c1 : (k : Int) ≥ 0 := by omega
    have c2 : all.length < 140737488355328 := by omega
    have w : wrap64 ((k : Int) - 1) = (k : Int) - 1 := wrap_id (by omega) (by omega)
    have w1 : IntKind.u64.wrap (wrap64 (8 * (k : Int))) = 8 * (k : Int) := by
      rw [show wrap64 (8 * (k : Int)) = 8 * (k : Int) from wrap_id (by omega) (by omega), u64_small _ (by omega) (by omega)]
    have c3 : (0 : Int) ≤ 8 * (k : Int) := by clear w w1; omega
    rw [e, spec_l01Hash.lv1_eq, w, w1]
    clear w w1
    rw [if_pos c1, if_pos c3, if_pos c2]
    exact ih _
theorem hash_l0 (x h : List Int) (hh : h.length = 8) : ∀ (k : Nat) (all : List Int), (all.length + k) % 64 = 56 → k ≤ 64 → all.length + k ≤ 50000000 → ∃ t, spec_l01Hash.lv0 x h all = some t ∧ t.size = 32
  | 0, all, hm, hk, ha => by
    rw [spec_l01Hash.lv0_eq, if_pos (by omega)]
    exact hash_l1 x h hh 8 all (by omega) (by omega) (by omega)
  | k + 1, all, hm, hk, ha => by
    rw [spec_l01Hash.lv0_eq]
    by_cases c : ((all.length : Int) % 64) = 56
    · rw [if_pos c]
      exact hash_l1 x h hh 8 all (by omega) (by omega) (by omega)
    · rw [if_neg c, if_pos (by omega)]
      exact hash_l0 x h hh k (all ++ [0]) (by simp; omega) (by omega) (by simp; omega)
theorem hash_v (x : List Int) (hx : x.length ≤ 40000000) : ∃ t, spec_l01Hash.v x = some t ∧ t.size = 32 := by
  rw [spec_l01Hash.v_eq, Option.bind_some, if_pos (by simp; omega), Option.bind_some, if_pos (by simp; omega)]
  refine hash_l0 x _ rfl ((56 + 64 - (x.length + 1) % 64) % 64) _ ?_ (by omega) ?_
  · simp; omega
  · simp; omega
theorem be1 (n : Int) : beL n 1 = [n % 256] := rfl
theorem secret_v (n : Int) : ∃ t, spec_l04Secret.v n = some t ∧ impl_hash.v ((⟨#[110, 111, 100, 101, 32, 107, 101, 121]⟩ : ByteArray) ++ strOfNums [n % 256]) = some t ∧ t.size = 32 := by
  have h1 : (strOfNums [n % 256]).size = 1 := by rw [strOf_size]; rfl
  have h8 : (⟨#[110, 111, 100, 101, 32, 107, 101, 121]⟩ : ByteArray).size = 8 := rfl
  obtain ⟨s, hs⟩ : ∃ s, s = (⟨#[110, 111, 100, 101, 32, 107, 101, 121]⟩ : ByteArray) ++ strOfNums [n % 256] := ⟨_, rfl⟩
  have hz : s.size = 9 := by rw [hs, ByteArray.size_append, h1, h8]
  obtain ⟨t, ht, h32⟩ := hash_v (bytesOf s) (by rw [bytesOf_length, hz]; decide)
  refine ⟨t, ?_, ?_, h32⟩
  · rw [spec_l04Secret.v_eq, Option.bind_some, ← hs, h1, hz, if_pos (by decide), if_pos (by decide), ht, Option.bind_some]
  · rw [← hs, impl_hash.v_eq, hz, if_pos (by decide), ht]
theorem mac_both (n : Int) (S : ByteArray) (hS : S.size ≤ 30000000) : ∃ t, spec_l04Mac.v n (bytesOf S) = some t ∧ impl_mark.v n S = some t ∧ t.size = 8 := by
  obtain ⟨t1, h1, h2, hz⟩ := secret_v n
  obtain ⟨t2, ht, h32⟩ := hash_v (bytesOf (t1 ++ S)) (by rw [bytesOf_length, ByteArray.size_append]; omega)
  have hb : bytesOf t1 ++ bytesOf S = bytesOf (t1 ++ S) := (bytes_append t1 S).symm
  have hn : (strOfNums (beL n 1)).size = 1 := by rw [strOf_size]; rfl
  have c1 : t1.size + (bytesOf S).length < 140737488355328 ∧ 0 < t1.size := by rw [bytesOf_length]; omega
  have c2 : t1.size + S.size ≤ 9223372036854775807 := by omega
  have c3 : (t1 ++ S).size ≤ 40000000 := by rw [ByteArray.size_append]; omega
  have c4 : (8 : Int) ≤ (t2.size : Int) := by omega
  refine ⟨t2.extract 0 8, ?_, ?_, by rw [ByteArray.size_extract]; omega⟩
  · rw [spec_l04Mac.v_eq, h1, Option.bind_some, if_pos c1, hb, ht, Option.bind_some, if_pos (by omega)]
  · rw [impl_mark.v_eq, impl_number1, Option.bind_some, hn, if_pos (by decide), be1, h2, Option.bind_some, if_pos c2, impl_hash.v_eq, if_pos c3, ht, Option.bind_some, if_pos (by decide), if_pos c4]
theorem less_v (a b : Int) : cmp_Less_int.v a b = some (decide (a < b)) := by
  rw [cmp_Less_int.v_eq, cmp_isNaN_int.v_eq, Option.bind_some, bne_self_eq_false, if_neg (by decide)]
theorem wr_up (i : Nat) (h : i ≤ 1000000) : wrap64 ((i : Int) + 1) = ((i + 1 : Nat) : Int) := by rw [wrap_id (by omega) (by omega)]; omega
theorem wr_dn (i : Nat) (h : i ≤ 1000000) : wrap64 (((i + 1 : Nat) : Int) - 1) = (i : Int) := by rw [wrap_id (by omega) (by omega)]; omega
theorem sort_in (len i : Nat) (hlen : len ≤ 1000) (hi : i < len) (H : ∀ x : List Int, x.length = len → ∃ r, spec_l04Sorted.lv0 x ((i + 1 : Nat) : Int) = some r ∧ slices_insertionSortOrdered_int.lv0 x 0 (len : Int) ((i + 1 : Nat) : Int) = some r ∧ r.length = len) :
    ∀ (j : Nat) (x : List Int), x.length = len → j ≤ i → ∃ r, spec_l04Sorted.lv1 x (i : Int) (j : Int) = some r ∧ slices_insertionSortOrdered_int.lv1 x 0 (len : Int) (i : Int) (j : Int) = some r ∧ r.length = len
  | 0, x, hx, hj => by
    rw [spec_l04Sorted.lv1_eq, if_neg (by omega), slices_insertionSortOrdered_int.lv1_eq, if_neg (by omega), wr_up i (by omega)]
    exact H x hx
  | j + 1, x, hx, hj => by
    have a0 : ((j + 1 : Nat) : Int) > 0 := by omega
    rw [spec_l04Sorted.lv1_eq, slices_insertionSortOrdered_int.lv1_eq, if_pos a0, if_pos a0, wr_dn j (by omega), wr_up i (by omega)]
    have a1 : (0 : Int) ≤ (j : Int) := by omega
    have a2 : (j : Int) < (x.length : Int) := by omega
    have a3 : (0 : Int) ≤ ((j + 1 : Nat) : Int) := by omega
    have a4 : ((j + 1 : Nat) : Int) < (x.length : Int) := by omega
    rw [if_pos a1, if_pos a2, if_pos a3, if_pos a4, if_pos a3, if_pos a4, if_pos a1, if_pos a2, less_v, Option.bind_some]
    by_cases c : rd x ((j + 1 : Nat) : Int) < rd x (j : Int)
    · rw [if_pos c, decide_eq_true c, if_pos rfl]
      exact sort_in len i hlen hi H j _ (by simpa using hx) (by omega)
    · rw [if_neg c, decide_eq_false c, if_neg (by decide)]
      exact H x hx
theorem sort_out (len : Nat) (hlen : len ≤ 1000) : ∀ (d i : Nat) (x : List Int), x.length = len → len - i = d → ∃ r, spec_l04Sorted.lv0 x (i : Int) = some r ∧ slices_insertionSortOrdered_int.lv0 x 0 (len : Int) (i : Int) = some r ∧ r.length = len
  | 0, i, x, hx, h => by
    rw [spec_l04Sorted.lv0_eq, if_neg (by omega), slices_insertionSortOrdered_int.lv0_eq, if_neg (by omega)]
    exact ⟨x, rfl, rfl, hx⟩
  | d + 1, i, x, hx, h => by
    rw [spec_l04Sorted.lv0_eq, if_pos (by omega), slices_insertionSortOrdered_int.lv0_eq, if_pos (by omega)]
    exact sort_in len i hlen (by omega) (fun y hy => sort_out len hlen d (i + 1) y hy (by omega)) i x hx (Nat.le_refl _)
theorem sorted_one (l : List Int) (hl : l.length ≤ 1000) : ∃ r, spec_l04Sorted.v l = some r ∧ slices_insertionSortOrdered_int.v l 0 (l.length : Int) = some r ∧ r.length = l.length := by
  obtain ⟨r, h1, h2, h3⟩ := sort_out l.length hl _ 1 l rfl rfl
  refine ⟨r, ?_, ?_, h3⟩
  · rw [spec_l04Sorted.v_eq, Option.bind_some, if_pos (by simp; omega), List.nil_append]
    exact h1
  · rw [slices_insertionSortOrdered_int.v_eq, show wrap64 (0 + 1) = 1 from by rw [wrap_id (by omega) (by omega)]; rfl]
    exact h2
theorem reading_both (f v : Int) : ∃ t, spec_l04Reading.v f v = some t ∧ impl_readingMac.v f v = some t := by
  have zs : (strOfNums (beL v 4)).size = 4 := by rw [strOf_size, beL_len]
  have z5 : (⟨#[99, 108, 111, 99, 107]⟩ : ByteArray).size = 5 := rfl
  obtain ⟨t, h1, h2, -⟩ := mac_both f ((⟨#[99, 108, 111, 99, 107]⟩ : ByteArray) ++ strOfNums (beL v 4)) (by rw [ByteArray.size_append, zs, z5]; omega)
  have hb : bytesOf ((⟨#[99, 108, 111, 99, 107]⟩ : ByteArray) ++ strOfNums (beL v 4)) = ([99, 108, 111, 99, 107] : List Int) ++ beL v 4 := by
    rw [bytes_append, bytes_str _ (byteL_be _ _)]
    rfl
  refine ⟨t, ?_, ?_⟩
  · rw [spec_l04Reading.v_eq, Option.bind_some, (show spec_l02Number.v v 4 = some (beL v 4) from spec_number_v v 4 (by decide)), Option.bind_some, if_pos (by simp [beL_len]), ← hb, h1, Option.bind_some]
  · rw [impl_readingMac.v_eq, impl_number4, Option.bind_some, if_pos (by rw [zs]; decide), h2, Option.bind_some]
theorem rdt_nat (l : List S185) (i : Nat) (h : i < l.length) : rd_T185 l (i : Int) = l[i] := by
  unfold rd_T185
  rw [List.getD, Int.toNat_natCast, List.getElem?_eq_getElem h]; rfl
theorem time_l (n F : Int) (l : List S185) (hF : F = 0 ∨ F = 1 ∨ F = 2) (hl : (l.length : Int) = 2 * F + 1) : ∀ (d i : Nat) (acc : List Int), l.length - i = d → i ≤ l.length → acc.length = i →
    ∃ r, spec_l04Time.lv0 n l F acc i = some r ∧ impl_readingsTime.lv0 n l acc l (l.length : Int) i = some r
  | 0, i, acc, h, hi, ha => by
    obtain ⟨s, s1, s2, s3⟩ := sorted_one acc (by omega)
    rw [spec_l04Time.lv0_eq, if_neg (by omega), s1, Option.bind_some, if_pos (by omega), if_pos (by omega), impl_readingsTime.lv0_eq, if_neg (by omega), impl_median.v_eq, if_pos (by omega), s2, Option.bind_some, Option.bind_some]
    have hd : Int.tdiv (acc.length : Int) 2 = F := by
      rw [show (acc.length : Int) = 2 * F + 1 by omega]
      rcases hF with rfl | rfl | rfl <;> rfl
    rw [hd]
    exact ⟨_, rfl, rfl⟩
  | d + 1, i, acc, h, hi, ha => by
    have hlt : i < l.length := by omega
    obtain ⟨t, t1, t2⟩ := reading_both l[i].f0 l[i].f1
    have ih := time_l n F l hF hl d (i + 1) (acc ++ [l[i].f1]) (by omega) (by omega) (by simp; omega)
    have hc : (t.toList = l[i].f2.toList) = (l[i].f2.toList = t.toList) := propext eq_comm
    have mac : ∃ r, (if t.toList = l[i].f2.toList then (if acc.length < 17592186044416 then spec_l04Time.lv0 n l F (acc ++ [l[i].f1]) ((i + 1 : Nat) : Int) else none) else some ((0 : Int), false)) = some r ∧ (if l[i].f2.toList = t.toList then (if acc.length < 17592186044416 then impl_readingsTime.lv0 n l (acc ++ [l[i].f1]) l (l.length : Int) ((i + 1 : Nat) : Int) else none) else some ((0 : Int), false)) = some r := by
      rw [if_pos (show acc.length < 17592186044416 by omega), if_pos (show acc.length < 17592186044416 by omega)]
      by_cases e : t.toList = l[i].f2.toList
      · rw [if_pos e, if_pos e.symm]
        exact ih
      · rw [if_neg e, if_neg (fun e' => e e'.symm)]
        exact ⟨_, rfl, rfl⟩
    have b0 : (i : Int) < (l.length : Int) := by omega
    have b1 : (0 : Int) ≤ (i : Int) := by omega
    rw [spec_l04Time.lv0_eq, impl_readingsTime.lv0_eq, if_pos b0, if_pos b1, if_pos b0, if_pos b1, if_pos b0, rdt_nat l i hlt, spec_l02Reading_v, impl_isReading_v, Option.bind_some, Option.bind_some, wr_up i (by omega), t1, t2, Option.bind_some, Option.bind_some]
    cases readingB l[i].f0 l[i].f1 l[i].f2
    · exact ⟨_, rfl, rfl⟩
    rw [if_pos rfl, if_pos rfl]
    by_cases c1 : l[i].f0 ≥ n
    · rw [if_pos c1, if_pos c1]
      exact ⟨_, rfl, rfl⟩
    rw [if_neg c1, if_neg c1]
    by_cases c2 : (i : Int) > 0
    · obtain ⟨j, rfl⟩ : ∃ j, i = j + 1 := ⟨i - 1, by omega⟩
      have b2 : (0 : Int) ≤ (j : Int) := by omega
      have b3 : (j : Int) < (l.length : Int) := by omega
      rw [if_pos c2, if_pos c2, wr_dn j (by omega), if_pos b2, if_pos b3, if_pos b2, if_pos b3, rdt_nat l j (by omega)]
      by_cases c3 : l[j].f0 ≥ l[j + 1].f0
      · rw [if_pos c3, if_pos c3]
        exact ⟨_, rfl, rfl⟩
      · rw [if_neg c3, if_neg c3]
        exact mac
    · rw [if_neg c2, if_neg c2]
      exact mac
theorem nodes_F {n : Int} (hn : spec_l04Nodes.v n = some true) : ∃ F, wrap64 (Int.tdiv (wrap64 (n - 1)) 3) = F ∧ (F = 0 ∨ F = 1 ∨ F = 2) := by
  rw [spec_l04Nodes.v_eq] at hn
  by_cases e1 : n = 1
  · subst e1; exact ⟨0, by simp [wrap64], by simp⟩
  · rw [if_neg e1] at hn
    by_cases e4 : n = 4
    · subst e4; exact ⟨1, by simp [wrap64], by simp⟩
    · rw [if_neg e4] at hn
      have e7 : n = 7 := by simpa using hn
      subst e7; exact ⟨2, by simp [wrap64], by simp⟩
theorem time_one (n : Int) (l : List S185) (hl : l.length ≤ 1000) (hn : spec_l04Nodes.v n = some true) : ∃ r, spec_l04Time.v n l = some r ∧ impl_readingsTime.v n l = some r := by
  obtain ⟨F, hF, hc⟩ := nodes_F hn
  rw [spec_l04Time.v_eq, impl_readingsTime.v_eq, impl_quorum.v_eq, Option.bind_some, hF]
  have w1 : wrap64 (wrap64 (2 * F) + 1) = 2 * F + 1 := by rw [wrap_id (x := 2 * F) (by omega) (by omega), wrap_id (by omega) (by omega)]
  have w2 : wrap64 (wrap64 (F * 2) + 1) = 2 * F + 1 := by rw [wrap_id (x := F * 2) (by omega) (by omega), wrap_id (by omega) (by omega)]; omega
  rw [w1, w2]
  by_cases c : (l.length : Int) = 2 * F + 1
  · rw [if_pos c, if_pos c]
    exact time_l n F l hc c _ 0 [] rfl (by omega) rfl
  · rw [if_neg c, if_neg c]
    exact ⟨_, rfl, rfl⟩
/-- A body is right by the one where it is by the other; a right one is short. -/
theorem body_one (n : Int) (x : ByteArray) (hx : x.size ≤ 1048576) (hn : spec_l04Nodes.v n = some true) : ∃ b, spec_l06Body.v n x = some b ∧ impl_isBody.v n x = some b ∧ (b = true → x.size ≤ 200) := by
  obtain ⟨r, s, h1, h2, h3, h4⟩ := readBatch_both x hx
  obtain ⟨q, q1, q2⟩ := readBatch_inv x hx
  rw [h1] at q1
  obtain rfl := Option.some.inj q1
  have hsz : r.2.2.2.2.2.2.2 = true → x.size ≤ 200 := fun e => by
    obtain ⟨a1, a2, a3⟩ := q2 e
    obtain ⟨b1, b2, b3⟩ := bat_sizes a2 a1
    have hle := batL_le r.1 r.2.1 r.2.2.1 r.2.2.2.1 r.2.2.2.2.1 r.2.2.2.2.2.1 r.2.2.2.2.2.2.1 b3
    rw [← a3, bytesOf_length] at hle
    omega
  rw [spec_l06Body.v_eq, impl_isBody.v_eq, impl_bodyTime.v_eq, h1, h2, Option.bind_some, Option.bind_some]
  rcases h3 with ⟨e, hb⟩ | ⟨e, hb⟩
  · subst e
    rw [if_pos hb, if_pos hb]
    by_cases c : r.1 = true
    · rw [if_pos c, if_pos c, Option.bind_some]
      exact ⟨true, rfl, by rw [hb], fun _ => hsz hb⟩
    · obtain ⟨t, t1, t2⟩ := time_one n r.2.2.2.2.2.2.1 h4 hn
      rw [if_neg c, if_neg c, t1, t2, Option.bind_some, Option.bind_some, Option.bind_some]
      exact ⟨t.2, rfl, rfl, fun _ => hsz hb⟩
  · have hr : r.2.2.2.2.2.2.2 = false := by rw [e]; rfl
    rw [if_neg (by rw [hb]; decide), if_neg (by rw [hr]; decide), Option.bind_some]
    exact ⟨false, rfl, by rw [hr], fun h => by cases h⟩
theorem long1 (s : ByteArray) : impl_areLong.v [s] = some (decide ((s.size : Int) > 65536)) := by
  rw [impl_areLong.v_eq, contains_impl_areLong_1.v_eq]
  simp only [List.any_cons, List.any_nil, Bool.or_false, impl_areLong_1.v_eq, Option.getD_some, Option.bind_some]
theorem FnExactBodyOK_pure (a0 : Int) (a1 : ByteArray) : (Lit.int .i64 a0).wf = true → a1.size ≤ 9223372036854775807 → laws_FnExactBodyOK.v a0 a1 = some true := by
  intro _ _
  rw [laws_FnExactBodyOK.v_eq]
  by_cases c : (a1.size : Int) > 1048576
  · rw [if_pos c]
  have hx : a1.size ≤ 1048576 := by omega
  obtain ⟨m, m1, m2⟩ := nodes_one a0
  rw [if_neg c, spec_BodyOK.v_eq, impl_BodyOK.v_eq, long1, m1, m2, Option.bind_some, Option.bind_some]
  by_cases c1 : (a1.size : Int) > 65536
  · rw [if_pos c1, decide_eq_true c1, if_pos rfl, Option.bind_some, Option.bind_some]; rfl
  rw [if_neg c1, decide_eq_false c1]
  cases m
  · simp
  obtain ⟨b, b1, b2, b3⟩ := body_one a0 a1 hx m1
  by_cases c2 : (a1.size : Int) ≤ 20000
  · simp [c2, b1, b2]
  · cases b
    · simp [c2, b2]
    · have := b3 rfl
      omega
end Go.Proofs.YtlifdodphkimpaaDoor.C
end
