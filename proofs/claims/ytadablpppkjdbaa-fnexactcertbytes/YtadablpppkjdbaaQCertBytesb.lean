/- A part of the proof that FnExactCertBytes returns true at every input: plain functions, contracts and lemmas. No conditions. -/
import Derived.Test.YtadablpppkjdbaaQCertBytesa
set_option linter.unusedVariables false
set_option linter.unusedSimpArgs false
set_option linter.unusedSectionVars false
section
namespace Go.Proofs.Ytadablpppkjdbaa.A
open Go.RowKit Go.Proofs.YtadablpppkjdbaaW.PrintWords Go.Proofs.YtadablpppkjdbaaW.PrintLast Go.Proofs.YtadablpppkjdbaaW.PrintMore
attribute [local go_sem] max2_int min2_int max_two min_two max_three min_three max_four min_four
mutual
def impl_MessageOK.j0 : Nat → Bool → Int → Int → Int → Int → ByteArray → ByteArray → ByteArray → Option (Bool)
  | 0, _, _, _, _, _, _, _, _ => none
  | k + 1, x24, x296000, x296001, x296002, x296003, x296004, x296005, x296006 => if x24 = true then (some false) else (if x296000 = 1 then (impl_MessageOK.j1 k x296000 (x296000 == 1) x296000 x296001 x296002 x296003 x296004 x296005 x296006) else (if x296000 = 2 then (impl_MessageOK.j1 k x296000 (x296000 == 2) x296000 x296001 x296002 x296003 x296004 x296005 x296006) else (impl_MessageOK.j1 k x296000 (x296000 == 3) x296000 x296001 x296002 x296003 x296004 x296005 x296006)))
def impl_MessageOK.j1 : Nat → Int → Bool → Int → Int → Int → Int → ByteArray → ByteArray → ByteArray → Option (Bool)
  | 0, _, _, _, _, _, _, _, _, _ => none
  | k + 1, x26, x27, x296000, x296001, x296002, x296003, x296004, x296005, x296006 => if x27 = true then ((impl_within.f x296002 1 8).bind fun t298 => (if t298 = true then ((impl_isHash.f x296004).bind fun t299 => (if t299 = true then (some ((x296005.toList != ([] : List UInt8)) == (x296000 == 1))) else (some false))) else (some false))) else (if x26 = 4 then (if x296002 = 0 then (some (x296004.toList == ([] : List UInt8))) else (some false)) else (if x26 = 5 then (if x296002 = 0 then (some (x296004.toList == ([] : List UInt8))) else (some false)) else (some false)))
end
def impl_MessageOK.f (k : Nat) (a0_0 : Int) (a0_1 : Int) (a0_2 : Int) (a0_3 : Int) (a0_4 : ByteArray) (a0_5 : ByteArray) (a0_6 : ByteArray) : Option (Bool) := (impl_within.f a0_1 0 20).bind fun t296 => (if t296 = true then ((impl_within.f a0_3 0 6).bind fun t297 => (if t297 = true then (if (a0_6.size : Int) = 8 then (impl_MessageOK.j0 k (decide ((a0_5.size : Int) > 20000)) a0_0 a0_1 a0_2 a0_3 a0_4 a0_5 a0_6) else (impl_MessageOK.j0 k true a0_0 a0_1 a0_2 a0_3 a0_4 a0_5 a0_6)) else (impl_MessageOK.j0 k true a0_0 a0_1 a0_2 a0_3 a0_4 a0_5 a0_6))) else (impl_MessageOK.j0 k true a0_0 a0_1 a0_2 a0_3 a0_4 a0_5 a0_6))
theorem impl_MessageOK.mono_l : ∀ k, (∀ y0 y1 y2 y3 y4 y5 y6 y7, LeO (impl_MessageOK.j0 k y0 y1 y2 y3 y4 y5 y6 y7) (impl_MessageOK.j0 (k + 1) y0 y1 y2 y3 y4 y5 y6 y7)) ∧ (∀ y0 y1 y2 y3 y4 y5 y6 y7 y8, LeO (impl_MessageOK.j1 k y0 y1 y2 y3 y4 y5 y6 y7 y8) (impl_MessageOK.j1 (k + 1) y0 y1 y2 y3 y4 y5 y6 y7 y8))
  | 0 => ⟨fun _ _ _ _ _ _ _ _ r h => by simp [impl_MessageOK.j0] at h, fun _ _ _ _ _ _ _ _ _ r h => by simp [impl_MessageOK.j1] at h⟩
  | k + 1 => by
    obtain ⟨ih0, ih1⟩ := impl_MessageOK.mono_l k
    refine ⟨?_, ?_⟩
    · intro y0 y1 y2 y3 y4 y5 y6 y7
      unfold impl_MessageOK.j0
      repeat' first
      | (with_reducible exact ih0 _ _ _ _ _ _ _ _)
      | (with_reducible exact ih1 _ _ _ _ _ _ _ _ _)
      | (with_reducible exact LeO.refl _)
      | (with_reducible exact LeO.none _)
      | (with_reducible refine LeO.ite ?_ ?_)
      | (with_reducible refine LeO.bind ?_ (fun _ => ?_))
      | exact ih0 _ _ _ _ _ _ _ _
      | exact ih1 _ _ _ _ _ _ _ _ _
      | exact LeO.none _
      | refine LeO.ite ?_ ?_
      | refine LeO.bind ?_ (fun _ => ?_)
    · intro y0 y1 y2 y3 y4 y5 y6 y7 y8
      unfold impl_MessageOK.j1
      repeat' first
      | (with_reducible exact ih0 _ _ _ _ _ _ _ _)
      | (with_reducible exact ih1 _ _ _ _ _ _ _ _ _)
      | (with_reducible exact LeO.refl _)
      | (with_reducible exact LeO.none _)
      | (with_reducible refine LeO.ite ?_ ?_)
      | (with_reducible refine LeO.bind ?_ (fun _ => ?_))
      | exact ih0 _ _ _ _ _ _ _ _
      | exact ih1 _ _ _ _ _ _ _ _ _
      | exact LeO.none _
      | refine LeO.ite ?_ ?_
      | refine LeO.bind ?_ (fun _ => ?_)
theorem impl_MessageOK.mono : ∀ a0 a1 a2 a3 a4 a5 a6 k, LeO (impl_MessageOK.f k a0 a1 a2 a3 a4 a5 a6) (impl_MessageOK.f (k + 1) a0 a1 a2 a3 a4 a5 a6) := by
  intro a0 a1 a2 a3 a4 a5 a6 k
  obtain ⟨ih0, ih1⟩ := impl_MessageOK.mono_l k
  unfold impl_MessageOK.f
  repeat' first
      | (with_reducible exact ih0 _ _ _ _ _ _ _ _)
      | (with_reducible exact ih1 _ _ _ _ _ _ _ _ _)
      | (with_reducible exact LeO.refl _)
      | (with_reducible exact LeO.none _)
      | (with_reducible refine LeO.ite ?_ ?_)
      | (with_reducible refine LeO.bind ?_ (fun _ => ?_))
      | exact ih0 _ _ _ _ _ _ _ _
      | exact ih1 _ _ _ _ _ _ _ _ _
      | exact LeO.none _
      | refine LeO.ite ?_ ?_
      | refine LeO.bind ?_ (fun _ => ?_)
noncomputable def impl_MessageOK.jv0 (x24 : Bool) (x296000 : Int) (x296001 : Int) (x296002 : Int) (x296003 : Int) (x296004 : ByteArray) (x296005 : ByteArray) (x296006 : ByteArray) : Option (Bool) := lim (fun k_ => impl_MessageOK.j0 k_ x24 x296000 x296001 x296002 x296003 x296004 x296005 x296006)
noncomputable def impl_MessageOK.jv1 (x26 : Int) (x27 : Bool) (x296000 : Int) (x296001 : Int) (x296002 : Int) (x296003 : Int) (x296004 : ByteArray) (x296005 : ByteArray) (x296006 : ByteArray) : Option (Bool) := lim (fun k_ => impl_MessageOK.j1 k_ x26 x27 x296000 x296001 x296002 x296003 x296004 x296005 x296006)
noncomputable def impl_MessageOK.v (a0_0 : Int) (a0_1 : Int) (a0_2 : Int) (a0_3 : Int) (a0_4 : ByteArray) (a0_5 : ByteArray) (a0_6 : ByteArray) : Option (Bool) := lim (fun k_ => impl_MessageOK.f k_ a0_0 a0_1 a0_2 a0_3 a0_4 a0_5 a0_6)
theorem impl_MessageOK.jv0_lim (x24 : Bool) (x296000 : Int) (x296001 : Int) (x296002 : Int) (x296003 : Int) (x296004 : ByteArray) (x296005 : ByteArray) (x296006 : ByteArray) : LimIs (fun k_ => impl_MessageOK.j0 k_ x24 x296000 x296001 x296002 x296003 x296004 x296005 x296006) (impl_MessageOK.jv0 x24 x296000 x296001 x296002 x296003 x296004 x296005 x296006) := lim_is (fun k_ => (impl_MessageOK.mono_l k_).1 x24 x296000 x296001 x296002 x296003 x296004 x296005 x296006)
theorem impl_MessageOK.jv1_lim (x26 : Int) (x27 : Bool) (x296000 : Int) (x296001 : Int) (x296002 : Int) (x296003 : Int) (x296004 : ByteArray) (x296005 : ByteArray) (x296006 : ByteArray) : LimIs (fun k_ => impl_MessageOK.j1 k_ x26 x27 x296000 x296001 x296002 x296003 x296004 x296005 x296006) (impl_MessageOK.jv1 x26 x27 x296000 x296001 x296002 x296003 x296004 x296005 x296006) := lim_is (fun k_ => (impl_MessageOK.mono_l k_).2 x26 x27 x296000 x296001 x296002 x296003 x296004 x296005 x296006)
theorem impl_MessageOK.v_lim (a0_0 : Int) (a0_1 : Int) (a0_2 : Int) (a0_3 : Int) (a0_4 : ByteArray) (a0_5 : ByteArray) (a0_6 : ByteArray) : LimIs (fun k_ => impl_MessageOK.f k_ a0_0 a0_1 a0_2 a0_3 a0_4 a0_5 a0_6) (impl_MessageOK.v a0_0 a0_1 a0_2 a0_3 a0_4 a0_5 a0_6) := lim_is (fun k_ => impl_MessageOK.mono a0_0 a0_1 a0_2 a0_3 a0_4 a0_5 a0_6 k_)
theorem impl_MessageOK.jv0_eq (x24 : Bool) (x296000 : Int) (x296001 : Int) (x296002 : Int) (x296003 : Int) (x296004 : ByteArray) (x296005 : ByteArray) (x296006 : ByteArray) : impl_MessageOK.jv0 x24 x296000 x296001 x296002 x296003 x296004 x296005 x296006 = (if x24 = true then (some false) else (if x296000 = 1 then (impl_MessageOK.jv1 x296000 (x296000 == 1) x296000 x296001 x296002 x296003 x296004 x296005 x296006) else (if x296000 = 2 then (impl_MessageOK.jv1 x296000 (x296000 == 2) x296000 x296001 x296002 x296003 x296004 x296005 x296006) else (impl_MessageOK.jv1 x296000 (x296000 == 3) x296000 x296001 x296002 x296003 x296004 x296005 x296006))) : Option (Bool)) := by
  refine LimIs.eq (impl_MessageOK.jv0_lim x24 x296000 x296001 x296002 x296003 x296004 x296005 x296006) ?_
  refine LimIs.step (fun k_ => (impl_MessageOK.mono_l k_).1 x24 x296000 x296001 x296002 x296003 x296004 x296005 x296006) ?_
  simp only [impl_MessageOK.j0]
  repeat' (with_reducible first | exact impl_MessageOK.jv1_lim _ _ _ _ _ _ _ _ _ | exact LimIs.const _ | refine LimIs.ite ?_ ?_ | refine LimIs.bind ?_ (fun _ => ?_))
theorem impl_MessageOK.jv1_eq (x26 : Int) (x27 : Bool) (x296000 : Int) (x296001 : Int) (x296002 : Int) (x296003 : Int) (x296004 : ByteArray) (x296005 : ByteArray) (x296006 : ByteArray) : impl_MessageOK.jv1 x26 x27 x296000 x296001 x296002 x296003 x296004 x296005 x296006 = (if x27 = true then ((impl_within.v x296002 1 8).bind fun t298 => (if t298 = true then ((impl_isHash.v x296004).bind fun t299 => (if t299 = true then (some ((x296005.toList != ([] : List UInt8)) == (x296000 == 1))) else (some false))) else (some false))) else (if x26 = 4 then (if x296002 = 0 then (some (x296004.toList == ([] : List UInt8))) else (some false)) else (if x26 = 5 then (if x296002 = 0 then (some (x296004.toList == ([] : List UInt8))) else (some false)) else (some false))) : Option (Bool)) := by
  refine LimIs.eq (impl_MessageOK.jv1_lim x26 x27 x296000 x296001 x296002 x296003 x296004 x296005 x296006) ?_
  refine LimIs.step (fun k_ => (impl_MessageOK.mono_l k_).2 x26 x27 x296000 x296001 x296002 x296003 x296004 x296005 x296006) ?_
  simp only [impl_MessageOK.j1]
  repeat' (with_reducible first | exact impl_isHash.v_lim _ | exact impl_within.v_lim _ _ _ | exact LimIs.const _ | refine LimIs.ite ?_ ?_ | refine LimIs.bind ?_ (fun _ => ?_))
theorem impl_MessageOK.v_eq (a0_0 : Int) (a0_1 : Int) (a0_2 : Int) (a0_3 : Int) (a0_4 : ByteArray) (a0_5 : ByteArray) (a0_6 : ByteArray) : impl_MessageOK.v a0_0 a0_1 a0_2 a0_3 a0_4 a0_5 a0_6 = ((impl_within.v a0_1 0 20).bind fun t296 => (if t296 = true then ((impl_within.v a0_3 0 6).bind fun t297 => (if t297 = true then (if (a0_6.size : Int) = 8 then (impl_MessageOK.jv0 (decide ((a0_5.size : Int) > 20000)) a0_0 a0_1 a0_2 a0_3 a0_4 a0_5 a0_6) else (impl_MessageOK.jv0 true a0_0 a0_1 a0_2 a0_3 a0_4 a0_5 a0_6)) else (impl_MessageOK.jv0 true a0_0 a0_1 a0_2 a0_3 a0_4 a0_5 a0_6))) else (impl_MessageOK.jv0 true a0_0 a0_1 a0_2 a0_3 a0_4 a0_5 a0_6)) : Option (Bool)) := by
  refine LimIs.eq (impl_MessageOK.v_lim a0_0 a0_1 a0_2 a0_3 a0_4 a0_5 a0_6) ?_
  simp only [impl_MessageOK.f]
  repeat' (with_reducible first | exact impl_MessageOK.jv0_lim _ _ _ _ _ _ _ _ | exact impl_within.v_lim _ _ _ | exact LimIs.const _ | refine LimIs.ite ?_ ?_ | refine LimIs.bind ?_ (fun _ => ?_))
def impl_isPrepare.f (k : Nat) (a0_0 : Int) (a0_1 : Int) (a0_2 : Int) (a0_3 : Int) (a0_4 : ByteArray) (a0_5 : ByteArray) (a0_6 : ByteArray) : Option (Bool) := if a0_0 = 2 then ((impl_MessageOK.f k a0_0 a0_1 a0_2 a0_3 a0_4 a0_5 a0_6).bind fun t301 => (some t301)) else (some false)
theorem impl_isPrepare.mono : ∀ a0 a1 a2 a3 a4 a5 a6 k, LeO (impl_isPrepare.f k a0 a1 a2 a3 a4 a5 a6) (impl_isPrepare.f (k + 1) a0 a1 a2 a3 a4 a5 a6) := by
  intro a0 a1 a2 a3 a4 a5 a6 k
  unfold impl_isPrepare.f
  repeat' first
      | (with_reducible exact impl_MessageOK.mono _ _ _ _ _ _ _ _)
      | (with_reducible exact LeO.refl _)
      | (with_reducible exact LeO.none _)
      | (with_reducible refine LeO.ite ?_ ?_)
      | (with_reducible refine LeO.bind ?_ (fun _ => ?_))
      | exact impl_MessageOK.mono _ _ _ _ _ _ _ _
      | exact LeO.none _
      | refine LeO.ite ?_ ?_
      | refine LeO.bind ?_ (fun _ => ?_)
noncomputable def impl_isPrepare.v (a0_0 : Int) (a0_1 : Int) (a0_2 : Int) (a0_3 : Int) (a0_4 : ByteArray) (a0_5 : ByteArray) (a0_6 : ByteArray) : Option (Bool) := lim (fun k_ => impl_isPrepare.f k_ a0_0 a0_1 a0_2 a0_3 a0_4 a0_5 a0_6)
theorem impl_isPrepare.v_lim (a0_0 : Int) (a0_1 : Int) (a0_2 : Int) (a0_3 : Int) (a0_4 : ByteArray) (a0_5 : ByteArray) (a0_6 : ByteArray) : LimIs (fun k_ => impl_isPrepare.f k_ a0_0 a0_1 a0_2 a0_3 a0_4 a0_5 a0_6) (impl_isPrepare.v a0_0 a0_1 a0_2 a0_3 a0_4 a0_5 a0_6) := lim_is (fun k_ => impl_isPrepare.mono a0_0 a0_1 a0_2 a0_3 a0_4 a0_5 a0_6 k_)
theorem impl_isPrepare.v_eq (a0_0 : Int) (a0_1 : Int) (a0_2 : Int) (a0_3 : Int) (a0_4 : ByteArray) (a0_5 : ByteArray) (a0_6 : ByteArray) : impl_isPrepare.v a0_0 a0_1 a0_2 a0_3 a0_4 a0_5 a0_6 = (if a0_0 = 2 then ((impl_MessageOK.v a0_0 a0_1 a0_2 a0_3 a0_4 a0_5 a0_6).bind fun t301 => (some t301)) else (some false) : Option (Bool)) := by
  refine LimIs.eq (impl_isPrepare.v_lim a0_0 a0_1 a0_2 a0_3 a0_4 a0_5 a0_6) ?_
  simp only [impl_isPrepare.f]
  repeat' (with_reducible first | exact impl_MessageOK.v_lim _ _ _ _ _ _ _ | exact LimIs.const _ | refine LimIs.ite ?_ ?_ | refine LimIs.bind ?_ (fun _ => ?_))
def impl_number.l0 : Nat → Int → List Int → Int → Option (ByteArray)
  | 0, _, _, _ => none
  | k + 1, x0, x5, x6 => if x6 ≥ 0 then (if 0 ≤ x6 then (if x6 < (x5.length : Int) then (impl_number.l0 k (x0 / 256) (x5.set (x6 : Int).toNat ((x0) % 256)) (wrap64 (x6 - 1))) else (none)) else (none)) else (some (strOfNums x5))
def impl_number.f (k : Nat) (a0 : Int) (a1 : Int) : Option (ByteArray) := if 0 ≤ a1 then (if (a1 : Int).toNat ≤ 281474976710656 then (impl_number.l0 k a0 (List.replicate (a1 : Int).toNat 0) (wrap64 (a1 - 1))) else (none)) else (none)
theorem impl_number.mono_l : ∀ k, (∀ y0 y1 y2, LeO (impl_number.l0 k y0 y1 y2) (impl_number.l0 (k + 1) y0 y1 y2))
  | 0 => fun _ _ _ r h => by simp [impl_number.l0] at h
  | k + 1 => by
    have ih0 := impl_number.mono_l k
    · intro y0 y1 y2
      unfold impl_number.l0
      repeat' first
      | (with_reducible exact ih0 _ _ _)
      | (with_reducible exact LeO.refl _)
      | (with_reducible exact LeO.none _)
      | (with_reducible refine LeO.ite ?_ ?_)
      | (with_reducible refine LeO.bind ?_ (fun _ => ?_))
      | exact ih0 _ _ _
      | exact LeO.none _
      | refine LeO.ite ?_ ?_
      | refine LeO.bind ?_ (fun _ => ?_)
theorem impl_number.mono : ∀ a0 a1 k, LeO (impl_number.f k a0 a1) (impl_number.f (k + 1) a0 a1) := by
  intro a0 a1 k
  have ih0 := impl_number.mono_l k
  unfold impl_number.f
  repeat' first
      | (with_reducible exact ih0 _ _ _)
      | (with_reducible exact LeO.refl _)
      | (with_reducible exact LeO.none _)
      | (with_reducible refine LeO.ite ?_ ?_)
      | (with_reducible refine LeO.bind ?_ (fun _ => ?_))
      | exact ih0 _ _ _
      | exact LeO.none _
      | refine LeO.ite ?_ ?_
      | refine LeO.bind ?_ (fun _ => ?_)
noncomputable def impl_number.lv0 (x0 : Int) (x5 : List Int) (x6 : Int) : Option (ByteArray) := lim (fun k_ => impl_number.l0 k_ x0 x5 x6)
noncomputable def impl_number.v (a0 : Int) (a1 : Int) : Option (ByteArray) := lim (fun k_ => impl_number.f k_ a0 a1)
theorem impl_number.lv0_lim (x0 : Int) (x5 : List Int) (x6 : Int) : LimIs (fun k_ => impl_number.l0 k_ x0 x5 x6) (impl_number.lv0 x0 x5 x6) := lim_is (fun k_ => (impl_number.mono_l k_) x0 x5 x6)
theorem impl_number.v_lim (a0 : Int) (a1 : Int) : LimIs (fun k_ => impl_number.f k_ a0 a1) (impl_number.v a0 a1) := lim_is (fun k_ => impl_number.mono a0 a1 k_)
theorem impl_number.lv0_eq (x0 : Int) (x5 : List Int) (x6 : Int) : impl_number.lv0 x0 x5 x6 = (if x6 ≥ 0 then (if 0 ≤ x6 then (if x6 < (x5.length : Int) then (impl_number.lv0 (x0 / 256) (x5.set (x6 : Int).toNat ((x0) % 256)) (wrap64 (x6 - 1))) else (none)) else (none)) else (some (strOfNums x5)) : Option (ByteArray)) := by
  refine LimIs.eq (impl_number.lv0_lim x0 x5 x6) ?_
  refine LimIs.step (fun k_ => (impl_number.mono_l k_) x0 x5 x6) ?_
  simp only [impl_number.l0]
  repeat' (with_reducible first | exact impl_number.lv0_lim _ _ _ | exact LimIs.const _ | refine LimIs.ite ?_ ?_ | refine LimIs.bind ?_ (fun _ => ?_))
theorem impl_number.v_eq (a0 : Int) (a1 : Int) : impl_number.v a0 a1 = (if 0 ≤ a1 then (if (a1 : Int).toNat ≤ 281474976710656 then (impl_number.lv0 a0 (List.replicate (a1 : Int).toNat 0) (wrap64 (a1 - 1))) else (none)) else (none) : Option (ByteArray)) := by
  refine LimIs.eq (impl_number.v_lim a0 a1) ?_
  simp only [impl_number.f]
  repeat' (with_reducible first | exact impl_number.lv0_lim _ _ _ | exact LimIs.const _ | refine LimIs.ite ?_ ?_ | refine LimIs.bind ?_ (fun _ => ?_))
def impl_bareText.f (k : Nat) (a0_0 : Int) (a0_1 : Int) (a0_2 : Int) (a0_3 : Int) (a0_4 : ByteArray) (a0_5 : ByteArray) (a0_6 : ByteArray) : Option (ByteArray) := (impl_number.f k a0_0 1).bind fun t307 => ((impl_number.f k a0_1 1).bind fun t308 => (if t307.size + t308.size ≤ 9223372036854775807 then ((impl_number.f k a0_2 1).bind fun t309 => (if (t307 ++ t308).size + t309.size ≤ 9223372036854775807 then ((impl_number.f k a0_3 1).bind fun t310 => (if ((t307 ++ t308) ++ t309).size + t310.size ≤ 9223372036854775807 then ((impl_number.f k (a0_4.size : Int) 1).bind fun t311 => (if (((t307 ++ t308) ++ t309) ++ t310).size + t311.size ≤ 9223372036854775807 then (if ((((t307 ++ t308) ++ t309) ++ t310) ++ t311).size + a0_4.size ≤ 9223372036854775807 then ((impl_number.f k (a0_5.size : Int) 2).bind fun t312 => (if (((((t307 ++ t308) ++ t309) ++ t310) ++ t311) ++ a0_4).size + t312.size ≤ 9223372036854775807 then (if ((((((t307 ++ t308) ++ t309) ++ t310) ++ t311) ++ a0_4) ++ t312).size + a0_5.size ≤ 9223372036854775807 then (some (((((((t307 ++ t308) ++ t309) ++ t310) ++ t311) ++ a0_4) ++ t312) ++ a0_5)) else (none)) else (none))) else (none)) else (none))) else (none))) else (none))) else (none)))
theorem impl_bareText.mono : ∀ a0 a1 a2 a3 a4 a5 a6 k, LeO (impl_bareText.f k a0 a1 a2 a3 a4 a5 a6) (impl_bareText.f (k + 1) a0 a1 a2 a3 a4 a5 a6) := by
  intro a0 a1 a2 a3 a4 a5 a6 k
  unfold impl_bareText.f
  repeat' first
      | (with_reducible exact impl_number.mono _ _ _)
      | (with_reducible exact LeO.refl _)
      | (with_reducible exact LeO.none _)
      | (with_reducible refine LeO.ite ?_ ?_)
      | (with_reducible refine LeO.bind ?_ (fun _ => ?_))
      | exact impl_number.mono _ _ _
      | exact LeO.none _
      | refine LeO.ite ?_ ?_
      | refine LeO.bind ?_ (fun _ => ?_)
noncomputable def impl_bareText.v (a0_0 : Int) (a0_1 : Int) (a0_2 : Int) (a0_3 : Int) (a0_4 : ByteArray) (a0_5 : ByteArray) (a0_6 : ByteArray) : Option (ByteArray) := lim (fun k_ => impl_bareText.f k_ a0_0 a0_1 a0_2 a0_3 a0_4 a0_5 a0_6)
theorem impl_bareText.v_lim (a0_0 : Int) (a0_1 : Int) (a0_2 : Int) (a0_3 : Int) (a0_4 : ByteArray) (a0_5 : ByteArray) (a0_6 : ByteArray) : LimIs (fun k_ => impl_bareText.f k_ a0_0 a0_1 a0_2 a0_3 a0_4 a0_5 a0_6) (impl_bareText.v a0_0 a0_1 a0_2 a0_3 a0_4 a0_5 a0_6) := lim_is (fun k_ => impl_bareText.mono a0_0 a0_1 a0_2 a0_3 a0_4 a0_5 a0_6 k_)
theorem impl_bareText.v_eq (a0_0 : Int) (a0_1 : Int) (a0_2 : Int) (a0_3 : Int) (a0_4 : ByteArray) (a0_5 : ByteArray) (a0_6 : ByteArray) : impl_bareText.v a0_0 a0_1 a0_2 a0_3 a0_4 a0_5 a0_6 = ((impl_number.v a0_0 1).bind fun t307 => ((impl_number.v a0_1 1).bind fun t308 => (if t307.size + t308.size ≤ 9223372036854775807 then ((impl_number.v a0_2 1).bind fun t309 => (if (t307 ++ t308).size + t309.size ≤ 9223372036854775807 then ((impl_number.v a0_3 1).bind fun t310 => (if ((t307 ++ t308) ++ t309).size + t310.size ≤ 9223372036854775807 then ((impl_number.v (a0_4.size : Int) 1).bind fun t311 => (if (((t307 ++ t308) ++ t309) ++ t310).size + t311.size ≤ 9223372036854775807 then (if ((((t307 ++ t308) ++ t309) ++ t310) ++ t311).size + a0_4.size ≤ 9223372036854775807 then ((impl_number.v (a0_5.size : Int) 2).bind fun t312 => (if (((((t307 ++ t308) ++ t309) ++ t310) ++ t311) ++ a0_4).size + t312.size ≤ 9223372036854775807 then (if ((((((t307 ++ t308) ++ t309) ++ t310) ++ t311) ++ a0_4) ++ t312).size + a0_5.size ≤ 9223372036854775807 then (some (((((((t307 ++ t308) ++ t309) ++ t310) ++ t311) ++ a0_4) ++ t312) ++ a0_5)) else (none)) else (none))) else (none)) else (none))) else (none))) else (none))) else (none))) : Option (ByteArray)) := by
  refine LimIs.eq (impl_bareText.v_lim a0_0 a0_1 a0_2 a0_3 a0_4 a0_5 a0_6) ?_
  simp only [impl_bareText.f]
  repeat' (with_reducible first | exact impl_number.v_lim _ _ | exact LimIs.const _ | refine LimIs.ite ?_ ?_ | refine LimIs.bind ?_ (fun _ => ?_))
def impl_messageText.f (k : Nat) (a0_0 : Int) (a0_1 : Int) (a0_2 : Int) (a0_3 : Int) (a0_4 : ByteArray) (a0_5 : ByteArray) (a0_6 : ByteArray) : Option (ByteArray) := (impl_bareText.f k a0_0 a0_1 a0_2 a0_3 a0_4 a0_5 a0_6).bind fun t314 => (if t314.size + a0_6.size ≤ 9223372036854775807 then (some (t314 ++ a0_6)) else (none))
theorem impl_messageText.mono : ∀ a0 a1 a2 a3 a4 a5 a6 k, LeO (impl_messageText.f k a0 a1 a2 a3 a4 a5 a6) (impl_messageText.f (k + 1) a0 a1 a2 a3 a4 a5 a6) := by
  intro a0 a1 a2 a3 a4 a5 a6 k
  unfold impl_messageText.f
  repeat' first
      | (with_reducible exact impl_bareText.mono _ _ _ _ _ _ _ _)
      | (with_reducible exact LeO.refl _)
      | (with_reducible exact LeO.none _)
      | (with_reducible refine LeO.ite ?_ ?_)
      | (with_reducible refine LeO.bind ?_ (fun _ => ?_))
      | exact impl_bareText.mono _ _ _ _ _ _ _ _
      | exact LeO.none _
      | refine LeO.ite ?_ ?_
      | refine LeO.bind ?_ (fun _ => ?_)
noncomputable def impl_messageText.v (a0_0 : Int) (a0_1 : Int) (a0_2 : Int) (a0_3 : Int) (a0_4 : ByteArray) (a0_5 : ByteArray) (a0_6 : ByteArray) : Option (ByteArray) := lim (fun k_ => impl_messageText.f k_ a0_0 a0_1 a0_2 a0_3 a0_4 a0_5 a0_6)
theorem impl_messageText.v_lim (a0_0 : Int) (a0_1 : Int) (a0_2 : Int) (a0_3 : Int) (a0_4 : ByteArray) (a0_5 : ByteArray) (a0_6 : ByteArray) : LimIs (fun k_ => impl_messageText.f k_ a0_0 a0_1 a0_2 a0_3 a0_4 a0_5 a0_6) (impl_messageText.v a0_0 a0_1 a0_2 a0_3 a0_4 a0_5 a0_6) := lim_is (fun k_ => impl_messageText.mono a0_0 a0_1 a0_2 a0_3 a0_4 a0_5 a0_6 k_)
theorem impl_messageText.v_eq (a0_0 : Int) (a0_1 : Int) (a0_2 : Int) (a0_3 : Int) (a0_4 : ByteArray) (a0_5 : ByteArray) (a0_6 : ByteArray) : impl_messageText.v a0_0 a0_1 a0_2 a0_3 a0_4 a0_5 a0_6 = ((impl_bareText.v a0_0 a0_1 a0_2 a0_3 a0_4 a0_5 a0_6).bind fun t314 => (if t314.size + a0_6.size ≤ 9223372036854775807 then (some (t314 ++ a0_6)) else (none)) : Option (ByteArray)) := by
  refine LimIs.eq (impl_messageText.v_lim a0_0 a0_1 a0_2 a0_3 a0_4 a0_5 a0_6) ?_
  simp only [impl_messageText.f]
  repeat' (with_reducible first | exact impl_bareText.v_lim _ _ _ _ _ _ _ | exact LimIs.const _ | refine LimIs.ite ?_ ?_ | refine LimIs.bind ?_ (fun _ => ?_))
def impl_listText.l0 : Nat → ByteArray → List ByteArray → Int → Int → Option (ByteArray × Int)
  | 0, _, _, _, _ => none
  | k + 1, x4, x13, x14, x15 => if x15 < x14 then (if 0 ≤ x15 then (if x15 < (x13.length : Int) then (if ((rdOf ByteArray.empty x13 x15).size : Int) > 20000 then (some ((⟨#[]⟩ : ByteArray), 1)) else ((impl_number.f k ((rdOf ByteArray.empty x13 x15).size : Int) 2).bind fun t317 => (if t317.size + (rdOf ByteArray.empty x13 x15).size ≤ 9223372036854775807 then (if x4.size + (t317 ++ (rdOf ByteArray.empty x13 x15)).size ≤ 9223372036854775807 then (if ((x4 ++ (t317 ++ (rdOf ByteArray.empty x13 x15))).size : Int) > 65536 then (some ((⟨#[]⟩ : ByteArray), 7)) else (impl_listText.l0 k (x4 ++ (t317 ++ (rdOf ByteArray.empty x13 x15))) x13 x14 (wrap64 (x15 + 1)))) else (none)) else (none)))) else (none)) else (none)) else (some (x4, 0))
def impl_listText.f (k : Nat) (l0 : List ByteArray) : Option (ByteArray × Int) := if (l0.length : Int) > 100 then (some ((⟨#[]⟩ : ByteArray), 1)) else ((impl_number.f k (l0.length : Int) 1).bind fun t315 => (impl_listText.l0 k t315 l0 (l0.length : Int) 0))
theorem impl_listText.mono_l : ∀ k, (∀ y0 y1 y2 y3, LeO (impl_listText.l0 k y0 y1 y2 y3) (impl_listText.l0 (k + 1) y0 y1 y2 y3))
  | 0 => fun _ _ _ _ r h => by simp [impl_listText.l0] at h
  | k + 1 => by
    have ih0 := impl_listText.mono_l k
    · intro y0 y1 y2 y3
      unfold impl_listText.l0
      repeat' first
      | (with_reducible exact ih0 _ _ _ _)
      | (with_reducible exact impl_number.mono _ _ _)
      | (with_reducible exact LeO.refl _)
      | (with_reducible exact LeO.none _)
      | (with_reducible refine LeO.ite ?_ ?_)
      | (with_reducible refine LeO.bind ?_ (fun _ => ?_))
      | exact ih0 _ _ _ _
      | exact impl_number.mono _ _ _
      | exact LeO.none _
      | refine LeO.ite ?_ ?_
      | refine LeO.bind ?_ (fun _ => ?_)
theorem impl_listText.mono : ∀ a0 k, LeO (impl_listText.f k a0) (impl_listText.f (k + 1) a0) := by
  intro a0 k
  have ih0 := impl_listText.mono_l k
  unfold impl_listText.f
  repeat' first
      | (with_reducible exact ih0 _ _ _ _)
      | (with_reducible exact impl_number.mono _ _ _)
      | (with_reducible exact LeO.refl _)
      | (with_reducible exact LeO.none _)
      | (with_reducible refine LeO.ite ?_ ?_)
      | (with_reducible refine LeO.bind ?_ (fun _ => ?_))
      | exact ih0 _ _ _ _
      | exact impl_number.mono _ _ _
      | exact LeO.none _
      | refine LeO.ite ?_ ?_
      | refine LeO.bind ?_ (fun _ => ?_)
noncomputable def impl_listText.lv0 (x4 : ByteArray) (x13 : List ByteArray) (x14 : Int) (x15 : Int) : Option (ByteArray × Int) := lim (fun k_ => impl_listText.l0 k_ x4 x13 x14 x15)
noncomputable def impl_listText.v (l0 : List ByteArray) : Option (ByteArray × Int) := lim (fun k_ => impl_listText.f k_ l0)
theorem impl_listText.lv0_lim (x4 : ByteArray) (x13 : List ByteArray) (x14 : Int) (x15 : Int) : LimIs (fun k_ => impl_listText.l0 k_ x4 x13 x14 x15) (impl_listText.lv0 x4 x13 x14 x15) := lim_is (fun k_ => (impl_listText.mono_l k_) x4 x13 x14 x15)
theorem impl_listText.v_lim (l0 : List ByteArray) : LimIs (fun k_ => impl_listText.f k_ l0) (impl_listText.v l0) := lim_is (fun k_ => impl_listText.mono l0 k_)
theorem impl_listText.lv0_eq (x4 : ByteArray) (x13 : List ByteArray) (x14 : Int) (x15 : Int) : impl_listText.lv0 x4 x13 x14 x15 = (if x15 < x14 then (if 0 ≤ x15 then (if x15 < (x13.length : Int) then (if ((rdOf ByteArray.empty x13 x15).size : Int) > 20000 then (some ((⟨#[]⟩ : ByteArray), 1)) else ((impl_number.v ((rdOf ByteArray.empty x13 x15).size : Int) 2).bind fun t317 => (if t317.size + (rdOf ByteArray.empty x13 x15).size ≤ 9223372036854775807 then (if x4.size + (t317 ++ (rdOf ByteArray.empty x13 x15)).size ≤ 9223372036854775807 then (if ((x4 ++ (t317 ++ (rdOf ByteArray.empty x13 x15))).size : Int) > 65536 then (some ((⟨#[]⟩ : ByteArray), 7)) else (impl_listText.lv0 (x4 ++ (t317 ++ (rdOf ByteArray.empty x13 x15))) x13 x14 (wrap64 (x15 + 1)))) else (none)) else (none)))) else (none)) else (none)) else (some (x4, 0)) : Option (ByteArray × Int)) := by
  refine LimIs.eq (impl_listText.lv0_lim x4 x13 x14 x15) ?_
  refine LimIs.step (fun k_ => (impl_listText.mono_l k_) x4 x13 x14 x15) ?_
  simp only [impl_listText.l0]
  repeat' (with_reducible first | exact impl_listText.lv0_lim _ _ _ _ | exact impl_number.v_lim _ _ | exact LimIs.const _ | refine LimIs.ite ?_ ?_ | refine LimIs.bind ?_ (fun _ => ?_))
theorem impl_listText.v_eq (l0 : List ByteArray) : impl_listText.v l0 = (if (l0.length : Int) > 100 then (some ((⟨#[]⟩ : ByteArray), 1)) else ((impl_number.v (l0.length : Int) 1).bind fun t315 => (impl_listText.lv0 t315 l0 (l0.length : Int) 0)) : Option (ByteArray × Int)) := by
  refine LimIs.eq (impl_listText.v_lim l0) ?_
  simp only [impl_listText.f]
  repeat' (with_reducible first | exact impl_listText.lv0_lim _ _ _ _ | exact impl_number.v_lim _ _ | exact LimIs.const _ | refine LimIs.ite ?_ ?_ | refine LimIs.bind ?_ (fun _ => ?_))
mutual
def impl_certText.j0 : Nat → Bool → ByteArray → List (S63) → Option (ByteArray × Int)
  | 0, _, _, _ => none
  | k + 1, x16, x319000, x319001 => if x16 = true then (some ((⟨#[]⟩ : ByteArray), 1)) else (impl_certText.l0 k (([x319000] : List ByteArray)) x319001 (x319001.length : Int) 0)
def impl_certText.l0 : Nat → List ByteArray → List (S63) → Int → Int → Option (ByteArray × Int)
  | 0, _, _, _, _ => none
  | k + 1, x4, x21, x22, x23 => if x23 < x22 then (if 0 ≤ x23 then (if x23 < (x21.length : Int) then ((impl_isPrepare.f k ((rd_T63 x21 x23).f0) ((rd_T63 x21 x23).f1) ((rd_T63 x21 x23).f2) ((rd_T63 x21 x23).f3) ((rd_T63 x21 x23).f4) ((rd_T63 x21 x23).f5) ((rd_T63 x21 x23).f6)).bind fun t326 => (if t326 = true then ((impl_messageText.f k ((rd_T63 x21 x23).f0) ((rd_T63 x21 x23).f1) ((rd_T63 x21 x23).f2) ((rd_T63 x21 x23).f3) ((rd_T63 x21 x23).f4) ((rd_T63 x21 x23).f5) ((rd_T63 x21 x23).f6)).bind fun t327 => (if x4.length < 8796093022208 then (impl_certText.l0 k (x4 ++ [t327]) x21 x22 (wrap64 (x23 + 1))) else (none))) else (some ((⟨#[]⟩ : ByteArray), 1)))) else (none)) else (none)) else ((impl_listText.f k x4).bind fun bt322 => (some (bt322.1, bt322.2)))
end
def impl_certText.f (k : Nat) (a0_0 : ByteArray) (l0_1 : List (S63)) : Option (ByteArray × Int) := if (l0_1.length : Int) > 7 then (impl_certText.j0 k true a0_0 l0_1) else (impl_certText.j0 k (decide ((a0_0.size : Int) > 20000)) a0_0 l0_1)
theorem impl_certText.mono_l : ∀ k, (∀ y0 y1 y2, LeO (impl_certText.j0 k y0 y1 y2) (impl_certText.j0 (k + 1) y0 y1 y2)) ∧ (∀ y0 y1 y2 y3, LeO (impl_certText.l0 k y0 y1 y2 y3) (impl_certText.l0 (k + 1) y0 y1 y2 y3))
  | 0 => ⟨fun _ _ _ r h => by simp [impl_certText.j0] at h, fun _ _ _ _ r h => by simp [impl_certText.l0] at h⟩
  | k + 1 => by
    obtain ⟨ih0, ih1⟩ := impl_certText.mono_l k
    refine ⟨?_, ?_⟩
    · intro y0 y1 y2
      unfold impl_certText.j0
      repeat' first
      | (with_reducible exact ih0 _ _ _)
      | (with_reducible exact ih1 _ _ _ _)
      | (with_reducible exact impl_isPrepare.mono _ _ _ _ _ _ _ _)
      | (with_reducible exact impl_listText.mono _ _)
      | (with_reducible exact impl_messageText.mono _ _ _ _ _ _ _ _)
      | (with_reducible exact LeO.refl _)
      | (with_reducible exact LeO.none _)
      | (with_reducible refine LeO.ite ?_ ?_)
      | (with_reducible refine LeO.bind ?_ (fun _ => ?_))
      | exact ih0 _ _ _
      | exact ih1 _ _ _ _
      | exact impl_isPrepare.mono _ _ _ _ _ _ _ _
      | exact impl_listText.mono _ _
      | exact impl_messageText.mono _ _ _ _ _ _ _ _
      | exact LeO.none _
      | refine LeO.ite ?_ ?_
      | refine LeO.bind ?_ (fun _ => ?_)
    · intro y0 y1 y2 y3
      unfold impl_certText.l0
      repeat' first
      | (with_reducible exact ih0 _ _ _)
      | (with_reducible exact ih1 _ _ _ _)
      | (with_reducible exact impl_isPrepare.mono _ _ _ _ _ _ _ _)
      | (with_reducible exact impl_listText.mono _ _)
      | (with_reducible exact impl_messageText.mono _ _ _ _ _ _ _ _)
      | (with_reducible exact LeO.refl _)
      | (with_reducible exact LeO.none _)
      | (with_reducible refine LeO.ite ?_ ?_)
      | (with_reducible refine LeO.bind ?_ (fun _ => ?_))
      | exact ih0 _ _ _
      | exact ih1 _ _ _ _
      | exact impl_isPrepare.mono _ _ _ _ _ _ _ _
      | exact impl_listText.mono _ _
      | exact impl_messageText.mono _ _ _ _ _ _ _ _
      | exact LeO.none _
      | refine LeO.ite ?_ ?_
      | refine LeO.bind ?_ (fun _ => ?_)
theorem impl_certText.mono : ∀ a0 a1 k, LeO (impl_certText.f k a0 a1) (impl_certText.f (k + 1) a0 a1) := by
  intro a0 a1 k
  obtain ⟨ih0, ih1⟩ := impl_certText.mono_l k
  unfold impl_certText.f
  repeat' first
      | (with_reducible exact ih0 _ _ _)
      | (with_reducible exact ih1 _ _ _ _)
      | (with_reducible exact impl_isPrepare.mono _ _ _ _ _ _ _ _)
      | (with_reducible exact impl_listText.mono _ _)
      | (with_reducible exact impl_messageText.mono _ _ _ _ _ _ _ _)
      | (with_reducible exact LeO.refl _)
      | (with_reducible exact LeO.none _)
      | (with_reducible refine LeO.ite ?_ ?_)
      | (with_reducible refine LeO.bind ?_ (fun _ => ?_))
      | exact ih0 _ _ _
      | exact ih1 _ _ _ _
      | exact impl_isPrepare.mono _ _ _ _ _ _ _ _
      | exact impl_listText.mono _ _
      | exact impl_messageText.mono _ _ _ _ _ _ _ _
      | exact LeO.none _
      | refine LeO.ite ?_ ?_
      | refine LeO.bind ?_ (fun _ => ?_)
noncomputable def impl_certText.jv0 (x16 : Bool) (x319000 : ByteArray) (x319001 : List (S63)) : Option (ByteArray × Int) := lim (fun k_ => impl_certText.j0 k_ x16 x319000 x319001)
noncomputable def impl_certText.lv0 (x4 : List ByteArray) (x21 : List (S63)) (x22 : Int) (x23 : Int) : Option (ByteArray × Int) := lim (fun k_ => impl_certText.l0 k_ x4 x21 x22 x23)
noncomputable def impl_certText.v (a0_0 : ByteArray) (l0_1 : List (S63)) : Option (ByteArray × Int) := lim (fun k_ => impl_certText.f k_ a0_0 l0_1)
theorem impl_certText.jv0_lim (x16 : Bool) (x319000 : ByteArray) (x319001 : List (S63)) : LimIs (fun k_ => impl_certText.j0 k_ x16 x319000 x319001) (impl_certText.jv0 x16 x319000 x319001) := lim_is (fun k_ => (impl_certText.mono_l k_).1 x16 x319000 x319001)
theorem impl_certText.lv0_lim (x4 : List ByteArray) (x21 : List (S63)) (x22 : Int) (x23 : Int) : LimIs (fun k_ => impl_certText.l0 k_ x4 x21 x22 x23) (impl_certText.lv0 x4 x21 x22 x23) := lim_is (fun k_ => (impl_certText.mono_l k_).2 x4 x21 x22 x23)
theorem impl_certText.v_lim (a0_0 : ByteArray) (l0_1 : List (S63)) : LimIs (fun k_ => impl_certText.f k_ a0_0 l0_1) (impl_certText.v a0_0 l0_1) := lim_is (fun k_ => impl_certText.mono a0_0 l0_1 k_)
theorem impl_certText.jv0_eq (x16 : Bool) (x319000 : ByteArray) (x319001 : List (S63)) : impl_certText.jv0 x16 x319000 x319001 = (if x16 = true then (some ((⟨#[]⟩ : ByteArray), 1)) else (impl_certText.lv0 (([x319000] : List ByteArray)) x319001 (x319001.length : Int) 0) : Option (ByteArray × Int)) := by
  refine LimIs.eq (impl_certText.jv0_lim x16 x319000 x319001) ?_
  refine LimIs.step (fun k_ => (impl_certText.mono_l k_).1 x16 x319000 x319001) ?_
  simp only [impl_certText.j0]
  repeat' (with_reducible first | exact impl_certText.lv0_lim _ _ _ _ | exact LimIs.const _ | refine LimIs.ite ?_ ?_ | refine LimIs.bind ?_ (fun _ => ?_))
theorem impl_certText.lv0_eq (x4 : List ByteArray) (x21 : List (S63)) (x22 : Int) (x23 : Int) : impl_certText.lv0 x4 x21 x22 x23 = (if x23 < x22 then (if 0 ≤ x23 then (if x23 < (x21.length : Int) then ((impl_isPrepare.v ((rd_T63 x21 x23).f0) ((rd_T63 x21 x23).f1) ((rd_T63 x21 x23).f2) ((rd_T63 x21 x23).f3) ((rd_T63 x21 x23).f4) ((rd_T63 x21 x23).f5) ((rd_T63 x21 x23).f6)).bind fun t326 => (if t326 = true then ((impl_messageText.v ((rd_T63 x21 x23).f0) ((rd_T63 x21 x23).f1) ((rd_T63 x21 x23).f2) ((rd_T63 x21 x23).f3) ((rd_T63 x21 x23).f4) ((rd_T63 x21 x23).f5) ((rd_T63 x21 x23).f6)).bind fun t327 => (if x4.length < 8796093022208 then (impl_certText.lv0 (x4 ++ [t327]) x21 x22 (wrap64 (x23 + 1))) else (none))) else (some ((⟨#[]⟩ : ByteArray), 1)))) else (none)) else (none)) else ((impl_listText.v x4).bind fun bt322 => (some (bt322.1, bt322.2))) : Option (ByteArray × Int)) := by
  refine LimIs.eq (impl_certText.lv0_lim x4 x21 x22 x23) ?_
  refine LimIs.step (fun k_ => (impl_certText.mono_l k_).2 x4 x21 x22 x23) ?_
  simp only [impl_certText.l0]
  repeat' (with_reducible first | exact impl_certText.lv0_lim _ _ _ _ | exact impl_isPrepare.v_lim _ _ _ _ _ _ _ | exact impl_listText.v_lim _ | exact impl_messageText.v_lim _ _ _ _ _ _ _ | exact LimIs.const _ | refine LimIs.ite ?_ ?_ | refine LimIs.bind ?_ (fun _ => ?_))
theorem impl_certText.v_eq (a0_0 : ByteArray) (l0_1 : List (S63)) : impl_certText.v a0_0 l0_1 = (if (l0_1.length : Int) > 7 then (impl_certText.jv0 true a0_0 l0_1) else (impl_certText.jv0 (decide ((a0_0.size : Int) > 20000)) a0_0 l0_1) : Option (ByteArray × Int)) := by
  refine LimIs.eq (impl_certText.v_lim a0_0 l0_1) ?_
  simp only [impl_certText.f]
  repeat' (with_reducible first | exact impl_certText.jv0_lim _ _ _ | exact LimIs.const _ | refine LimIs.ite ?_ ?_ | refine LimIs.bind ?_ (fun _ => ?_))
def impl_CertBytes.f (k : Nat) (a0_0 : ByteArray) (l0_1 : List (S63)) : Option (List Int × Int) := (impl_certText.f k a0_0 l0_1).bind fun bt332 => (if bt332.2 = 0 then (if bt332.1.size ≤ 140737488355328 then (some ((bytesOf bt332.1), 0)) else (none)) else (some (([] : List Int), bt332.2)))
theorem impl_CertBytes.mono : ∀ a0 a1 k, LeO (impl_CertBytes.f k a0 a1) (impl_CertBytes.f (k + 1) a0 a1) := by
  intro a0 a1 k
  unfold impl_CertBytes.f
  repeat' first
      | (with_reducible exact impl_certText.mono _ _ _)
      | (with_reducible exact LeO.refl _)
      | (with_reducible exact LeO.none _)
      | (with_reducible refine LeO.ite ?_ ?_)
      | (with_reducible refine LeO.bind ?_ (fun _ => ?_))
      | exact impl_certText.mono _ _ _
      | exact LeO.none _
      | refine LeO.ite ?_ ?_
      | refine LeO.bind ?_ (fun _ => ?_)
noncomputable def impl_CertBytes.v (a0_0 : ByteArray) (l0_1 : List (S63)) : Option (List Int × Int) := lim (fun k_ => impl_CertBytes.f k_ a0_0 l0_1)
theorem impl_CertBytes.v_lim (a0_0 : ByteArray) (l0_1 : List (S63)) : LimIs (fun k_ => impl_CertBytes.f k_ a0_0 l0_1) (impl_CertBytes.v a0_0 l0_1) := lim_is (fun k_ => impl_CertBytes.mono a0_0 l0_1 k_)
theorem impl_CertBytes.v_eq (a0_0 : ByteArray) (l0_1 : List (S63)) : impl_CertBytes.v a0_0 l0_1 = ((impl_certText.v a0_0 l0_1).bind fun bt332 => (if bt332.2 = 0 then (if bt332.1.size ≤ 140737488355328 then (some ((bytesOf bt332.1), 0)) else (none)) else (some (([] : List Int), bt332.2))) : Option (List Int × Int)) := by
  refine LimIs.eq (impl_CertBytes.v_lim a0_0 l0_1) ?_
  simp only [impl_CertBytes.f]
  repeat' (with_reducible first | exact impl_certText.v_lim _ _ | exact LimIs.const _ | refine LimIs.ite ?_ ?_ | refine LimIs.bind ?_ (fun _ => ?_))
def laws_eqMessage.f (a0_0 : Int) (a0_1 : Int) (a0_2 : Int) (a0_3 : Int) (a0_4 : ByteArray) (a0_5 : ByteArray) (a0_6 : ByteArray) (a1_0 : Int) (a1_1 : Int) (a1_2 : Int) (a1_3 : Int) (a1_4 : ByteArray) (a1_5 : ByteArray) (a1_6 : ByteArray) : Option (Bool) := if a0_0 = a1_0 then (if a0_1 = a1_1 then (if a0_2 = a1_2 then (if a0_3 = a1_3 then (if a0_4.toList = a1_4.toList then (if a0_5.toList = a1_5.toList then (if a0_6.toList = a1_6.toList then (some true) else (some false)) else (some false)) else (some false)) else (some false)) else (some false)) else (some false)) else (some false)
def laws_eqMessage.v (a0_0 : Int) (a0_1 : Int) (a0_2 : Int) (a0_3 : Int) (a0_4 : ByteArray) (a0_5 : ByteArray) (a0_6 : ByteArray) (a1_0 : Int) (a1_1 : Int) (a1_2 : Int) (a1_3 : Int) (a1_4 : ByteArray) (a1_5 : ByteArray) (a1_6 : ByteArray) : Option (Bool) := laws_eqMessage.f a0_0 a0_1 a0_2 a0_3 a0_4 a0_5 a0_6 a1_0 a1_1 a1_2 a1_3 a1_4 a1_5 a1_6
theorem laws_eqMessage.v_lim (a0_0 : Int) (a0_1 : Int) (a0_2 : Int) (a0_3 : Int) (a0_4 : ByteArray) (a0_5 : ByteArray) (a0_6 : ByteArray) (a1_0 : Int) (a1_1 : Int) (a1_2 : Int) (a1_3 : Int) (a1_4 : ByteArray) (a1_5 : ByteArray) (a1_6 : ByteArray) : LimIs (fun _ => laws_eqMessage.f a0_0 a0_1 a0_2 a0_3 a0_4 a0_5 a0_6 a1_0 a1_1 a1_2 a1_3 a1_4 a1_5 a1_6) (laws_eqMessage.v a0_0 a0_1 a0_2 a0_3 a0_4 a0_5 a0_6 a1_0 a1_1 a1_2 a1_3 a1_4 a1_5 a1_6) := LimIs.const _
theorem laws_eqMessage.v_eq (a0_0 : Int) (a0_1 : Int) (a0_2 : Int) (a0_3 : Int) (a0_4 : ByteArray) (a0_5 : ByteArray) (a0_6 : ByteArray) (a1_0 : Int) (a1_1 : Int) (a1_2 : Int) (a1_3 : Int) (a1_4 : ByteArray) (a1_5 : ByteArray) (a1_6 : ByteArray) : laws_eqMessage.v a0_0 a0_1 a0_2 a0_3 a0_4 a0_5 a0_6 a1_0 a1_1 a1_2 a1_3 a1_4 a1_5 a1_6 = (if a0_0 = a1_0 then (if a0_1 = a1_1 then (if a0_2 = a1_2 then (if a0_3 = a1_3 then (if a0_4.toList = a1_4.toList then (if a0_5.toList = a1_5.toList then (if a0_6.toList = a1_6.toList then (some true) else (some false)) else (some false)) else (some false)) else (some false)) else (some false)) else (some false)) else (some false) : Option (Bool)) := rfl
def laws_eqMessageS.l0 : Nat → List (S63) → List (S63) → Int → Option (Bool)
  | 0, _, _, _ => none
  | k + 1, x0, x1, x5 => if x5 < (x0.length : Int) then (if 0 ≤ x5 then (if x5 < (x1.length : Int) then ((laws_eqMessage.f ((rd_T63 x0 x5).f0) ((rd_T63 x0 x5).f1) ((rd_T63 x0 x5).f2) ((rd_T63 x0 x5).f3) ((rd_T63 x0 x5).f4) ((rd_T63 x0 x5).f5) ((rd_T63 x0 x5).f6) ((rd_T63 x1 x5).f0) ((rd_T63 x1 x5).f1) ((rd_T63 x1 x5).f2) ((rd_T63 x1 x5).f3) ((rd_T63 x1 x5).f4) ((rd_T63 x1 x5).f5) ((rd_T63 x1 x5).f6)).bind fun t341 => (if t341 = true then (laws_eqMessageS.l0 k x0 x1 (wrap64 (x5 + 1))) else (some false))) else (none)) else (none)) else (some true)
def laws_eqMessageS.f (k : Nat) (l0 : List (S63)) (l1 : List (S63)) : Option (Bool) := if (l0.length : Int) = (l1.length : Int) then (laws_eqMessageS.l0 k l0 l1 0) else (some false)
theorem laws_eqMessageS.mono_l : ∀ k, (∀ y0 y1 y2, LeO (laws_eqMessageS.l0 k y0 y1 y2) (laws_eqMessageS.l0 (k + 1) y0 y1 y2))
  | 0 => fun _ _ _ r h => by simp [laws_eqMessageS.l0] at h
  | k + 1 => by
    have ih0 := laws_eqMessageS.mono_l k
    · intro y0 y1 y2
      unfold laws_eqMessageS.l0
      repeat' first
      | (with_reducible exact ih0 _ _ _)
      | (with_reducible exact LeO.refl _)
      | (with_reducible exact LeO.none _)
      | (with_reducible refine LeO.ite ?_ ?_)
      | (with_reducible refine LeO.bind ?_ (fun _ => ?_))
      | exact ih0 _ _ _
      | exact LeO.none _
      | refine LeO.ite ?_ ?_
      | refine LeO.bind ?_ (fun _ => ?_)
theorem laws_eqMessageS.mono : ∀ a0 a1 k, LeO (laws_eqMessageS.f k a0 a1) (laws_eqMessageS.f (k + 1) a0 a1) := by
  intro a0 a1 k
  have ih0 := laws_eqMessageS.mono_l k
  unfold laws_eqMessageS.f
  repeat' first
      | (with_reducible exact ih0 _ _ _)
      | (with_reducible exact LeO.refl _)
      | (with_reducible exact LeO.none _)
      | (with_reducible refine LeO.ite ?_ ?_)
      | (with_reducible refine LeO.bind ?_ (fun _ => ?_))
      | exact ih0 _ _ _
      | exact LeO.none _
      | refine LeO.ite ?_ ?_
      | refine LeO.bind ?_ (fun _ => ?_)
noncomputable def laws_eqMessageS.lv0 (x0 : List (S63)) (x1 : List (S63)) (x5 : Int) : Option (Bool) := lim (fun k_ => laws_eqMessageS.l0 k_ x0 x1 x5)
noncomputable def laws_eqMessageS.v (l0 : List (S63)) (l1 : List (S63)) : Option (Bool) := lim (fun k_ => laws_eqMessageS.f k_ l0 l1)
theorem laws_eqMessageS.lv0_lim (x0 : List (S63)) (x1 : List (S63)) (x5 : Int) : LimIs (fun k_ => laws_eqMessageS.l0 k_ x0 x1 x5) (laws_eqMessageS.lv0 x0 x1 x5) := lim_is (fun k_ => (laws_eqMessageS.mono_l k_) x0 x1 x5)
theorem laws_eqMessageS.v_lim (l0 : List (S63)) (l1 : List (S63)) : LimIs (fun k_ => laws_eqMessageS.f k_ l0 l1) (laws_eqMessageS.v l0 l1) := lim_is (fun k_ => laws_eqMessageS.mono l0 l1 k_)
theorem laws_eqMessageS.lv0_eq (x0 : List (S63)) (x1 : List (S63)) (x5 : Int) : laws_eqMessageS.lv0 x0 x1 x5 = (if x5 < (x0.length : Int) then (if 0 ≤ x5 then (if x5 < (x1.length : Int) then ((laws_eqMessage.v ((rd_T63 x0 x5).f0) ((rd_T63 x0 x5).f1) ((rd_T63 x0 x5).f2) ((rd_T63 x0 x5).f3) ((rd_T63 x0 x5).f4) ((rd_T63 x0 x5).f5) ((rd_T63 x0 x5).f6) ((rd_T63 x1 x5).f0) ((rd_T63 x1 x5).f1) ((rd_T63 x1 x5).f2) ((rd_T63 x1 x5).f3) ((rd_T63 x1 x5).f4) ((rd_T63 x1 x5).f5) ((rd_T63 x1 x5).f6)).bind fun t341 => (if t341 = true then (laws_eqMessageS.lv0 x0 x1 (wrap64 (x5 + 1))) else (some false))) else (none)) else (none)) else (some true) : Option (Bool)) := by
  refine LimIs.eq (laws_eqMessageS.lv0_lim x0 x1 x5) ?_
  refine LimIs.step (fun k_ => (laws_eqMessageS.mono_l k_) x0 x1 x5) ?_
  simp only [laws_eqMessageS.l0]
  repeat' (with_reducible first | exact laws_eqMessage.v_lim _ _ _ _ _ _ _ _ _ _ _ _ _ _ | exact laws_eqMessageS.lv0_lim _ _ _ | exact LimIs.const _ | refine LimIs.ite ?_ ?_ | refine LimIs.bind ?_ (fun _ => ?_))
theorem laws_eqMessageS.v_eq (l0 : List (S63)) (l1 : List (S63)) : laws_eqMessageS.v l0 l1 = (if (l0.length : Int) = (l1.length : Int) then (laws_eqMessageS.lv0 l0 l1 0) else (some false) : Option (Bool)) := by
  refine LimIs.eq (laws_eqMessageS.v_lim l0 l1) ?_
  simp only [laws_eqMessageS.f]
  repeat' (with_reducible first | exact laws_eqMessageS.lv0_lim _ _ _ | exact LimIs.const _ | refine LimIs.ite ?_ ?_ | refine LimIs.bind ?_ (fun _ => ?_))
def laws_eqCert.f (k : Nat) (a0_0 : ByteArray) (l0_1 : List (S63)) (a1_0 : ByteArray) (l1_1 : List (S63)) : Option (Bool) := if a0_0.toList = a1_0.toList then ((laws_eqMessageS.f k l0_1 l1_1).bind fun t344 => (if t344 = true then (some true) else (some false))) else (some false)
theorem laws_eqCert.mono : ∀ a0 a1 a2 a3 k, LeO (laws_eqCert.f k a0 a1 a2 a3) (laws_eqCert.f (k + 1) a0 a1 a2 a3) := by
  intro a0 a1 a2 a3 k
  unfold laws_eqCert.f
  repeat' first
      | (with_reducible exact laws_eqMessageS.mono _ _ _)
      | (with_reducible exact LeO.refl _)
      | (with_reducible exact LeO.none _)
      | (with_reducible refine LeO.ite ?_ ?_)
      | (with_reducible refine LeO.bind ?_ (fun _ => ?_))
      | exact laws_eqMessageS.mono _ _ _
      | exact LeO.none _
      | refine LeO.ite ?_ ?_
      | refine LeO.bind ?_ (fun _ => ?_)
noncomputable def laws_eqCert.v (a0_0 : ByteArray) (l0_1 : List (S63)) (a1_0 : ByteArray) (l1_1 : List (S63)) : Option (Bool) := lim (fun k_ => laws_eqCert.f k_ a0_0 l0_1 a1_0 l1_1)
theorem laws_eqCert.v_lim (a0_0 : ByteArray) (l0_1 : List (S63)) (a1_0 : ByteArray) (l1_1 : List (S63)) : LimIs (fun k_ => laws_eqCert.f k_ a0_0 l0_1 a1_0 l1_1) (laws_eqCert.v a0_0 l0_1 a1_0 l1_1) := lim_is (fun k_ => laws_eqCert.mono a0_0 l0_1 a1_0 l1_1 k_)
theorem laws_eqCert.v_eq (a0_0 : ByteArray) (l0_1 : List (S63)) (a1_0 : ByteArray) (l1_1 : List (S63)) : laws_eqCert.v a0_0 l0_1 a1_0 l1_1 = (if a0_0.toList = a1_0.toList then ((laws_eqMessageS.v l0_1 l1_1).bind fun t344 => (if t344 = true then (some true) else (some false))) else (some false) : Option (Bool)) := by
  refine LimIs.eq (laws_eqCert.v_lim a0_0 l0_1 a1_0 l1_1) ?_
  simp only [laws_eqCert.f]
  repeat' (with_reducible first | exact laws_eqMessageS.v_lim _ _ | exact LimIs.const _ | refine LimIs.ite ?_ ?_ | refine LimIs.bind ?_ (fun _ => ?_))
def laws_markMessageS.l0 : Nat → List (S63) → Int → Int → Option (Int × (List (S63)))
  | 0, _, _, _ => none
  | k + 1, x0, x1, x5 => if x5 < (x0.length : Int) then (if 0 ≤ x5 then ((some (x0.set (x5 : Int).toNat (⟨x1, (rd_T63 x0 x5).f1, (rd_T63 x0 x5).f2, (rd_T63 x0 x5).f3, (rd_T63 x0 x5).f4, (rd_T63 x0 x5).f5, (rd_T63 x0 x5).f6⟩ : S63) : List (S63))).bind fun y345 => ((some (y345.set (x5 : Int).toNat (⟨(rd_T63 y345 x5).f0, wrap64 (x1 + 1), (rd_T63 y345 x5).f2, (rd_T63 y345 x5).f3, (rd_T63 y345 x5).f4, (rd_T63 y345 x5).f5, (rd_T63 y345 x5).f6⟩ : S63) : List (S63))).bind fun y346 => ((some (y346.set (x5 : Int).toNat (⟨(rd_T63 y346 x5).f0, (rd_T63 y346 x5).f1, wrap64 ((wrap64 (x1 + 1)) + 1), (rd_T63 y346 x5).f3, (rd_T63 y346 x5).f4, (rd_T63 y346 x5).f5, (rd_T63 y346 x5).f6⟩ : S63) : List (S63))).bind fun y347 => ((some (y347.set (x5 : Int).toNat (⟨(rd_T63 y347 x5).f0, (rd_T63 y347 x5).f1, (rd_T63 y347 x5).f2, wrap64 ((wrap64 ((wrap64 (x1 + 1)) + 1)) + 1), (rd_T63 y347 x5).f4, (rd_T63 y347 x5).f5, (rd_T63 y347 x5).f6⟩ : S63) : List (S63))).bind fun y348 => ((laws_markText.f k (wrap64 ((wrap64 ((wrap64 ((wrap64 (x1 + 1)) + 1)) + 1)) + 1))).bind fun t349 => ((some (y348.set (x5 : Int).toNat (⟨(rd_T63 y348 x5).f0, (rd_T63 y348 x5).f1, (rd_T63 y348 x5).f2, (rd_T63 y348 x5).f3, t349, (rd_T63 y348 x5).f5, (rd_T63 y348 x5).f6⟩ : S63) : List (S63))).bind fun y350 => ((laws_markText.f k (wrap64 ((wrap64 ((wrap64 ((wrap64 ((wrap64 (x1 + 1)) + 1)) + 1)) + 1)) + 1))).bind fun t351 => ((some (y350.set (x5 : Int).toNat (⟨(rd_T63 y350 x5).f0, (rd_T63 y350 x5).f1, (rd_T63 y350 x5).f2, (rd_T63 y350 x5).f3, (rd_T63 y350 x5).f4, t351, (rd_T63 y350 x5).f6⟩ : S63) : List (S63))).bind fun y352 => ((laws_markText.f k (wrap64 ((wrap64 ((wrap64 ((wrap64 ((wrap64 ((wrap64 (x1 + 1)) + 1)) + 1)) + 1)) + 1)) + 1))).bind fun t353 => (laws_markMessageS.l0 k (y352.set (x5 : Int).toNat (⟨(rd_T63 y352 x5).f0, (rd_T63 y352 x5).f1, (rd_T63 y352 x5).f2, (rd_T63 y352 x5).f3, (rd_T63 y352 x5).f4, (rd_T63 y352 x5).f5, t353⟩ : S63)) (wrap64 ((wrap64 ((wrap64 ((wrap64 ((wrap64 ((wrap64 ((wrap64 (x1 + 1)) + 1)) + 1)) + 1)) + 1)) + 1)) + 1)) (wrap64 (x5 + 1)))))))))))) else (none)) else (some (x1, x0))
def laws_markMessageS.f (k : Nat) (l0 : List (S63)) (a1 : Int) : Option (Int × (List (S63))) := laws_markMessageS.l0 k l0 a1 0
theorem laws_markMessageS.mono_l : ∀ k, (∀ y0 y1 y2, LeO (laws_markMessageS.l0 k y0 y1 y2) (laws_markMessageS.l0 (k + 1) y0 y1 y2))
  | 0 => fun _ _ _ r h => by simp [laws_markMessageS.l0] at h
  | k + 1 => by
    have ih0 := laws_markMessageS.mono_l k
    · intro y0 y1 y2
      unfold laws_markMessageS.l0
      repeat' first
      | (with_reducible exact ih0 _ _ _)
      | (with_reducible exact laws_markText.mono _ _)
      | (with_reducible exact LeO.refl _)
      | (with_reducible exact LeO.none _)
      | (with_reducible refine LeO.ite ?_ ?_)
      | (with_reducible refine LeO.bind ?_ (fun _ => ?_))
      | exact ih0 _ _ _
      | exact laws_markText.mono _ _
      | exact LeO.none _
      | refine LeO.ite ?_ ?_
      | refine LeO.bind ?_ (fun _ => ?_)
theorem laws_markMessageS.mono : ∀ a0 a1 k, LeO (laws_markMessageS.f k a0 a1) (laws_markMessageS.f (k + 1) a0 a1) := by
  intro a0 a1 k
  have ih0 := laws_markMessageS.mono_l k
  unfold laws_markMessageS.f
  repeat' first
      | (with_reducible exact ih0 _ _ _)
      | (with_reducible exact laws_markText.mono _ _)
      | (with_reducible exact LeO.refl _)
      | (with_reducible exact LeO.none _)
      | (with_reducible refine LeO.ite ?_ ?_)
      | (with_reducible refine LeO.bind ?_ (fun _ => ?_))
      | exact ih0 _ _ _
      | exact laws_markText.mono _ _
      | exact LeO.none _
      | refine LeO.ite ?_ ?_
      | refine LeO.bind ?_ (fun _ => ?_)
noncomputable def laws_markMessageS.lv0 (x0 : List (S63)) (x1 : Int) (x5 : Int) : Option (Int × (List (S63))) := lim (fun k_ => laws_markMessageS.l0 k_ x0 x1 x5)
noncomputable def laws_markMessageS.v (l0 : List (S63)) (a1 : Int) : Option (Int × (List (S63))) := lim (fun k_ => laws_markMessageS.f k_ l0 a1)
theorem laws_markMessageS.lv0_lim (x0 : List (S63)) (x1 : Int) (x5 : Int) : LimIs (fun k_ => laws_markMessageS.l0 k_ x0 x1 x5) (laws_markMessageS.lv0 x0 x1 x5) := lim_is (fun k_ => (laws_markMessageS.mono_l k_) x0 x1 x5)
theorem laws_markMessageS.v_lim (l0 : List (S63)) (a1 : Int) : LimIs (fun k_ => laws_markMessageS.f k_ l0 a1) (laws_markMessageS.v l0 a1) := lim_is (fun k_ => laws_markMessageS.mono l0 a1 k_)
theorem laws_markMessageS.lv0_eq (x0 : List (S63)) (x1 : Int) (x5 : Int) : laws_markMessageS.lv0 x0 x1 x5 = (if x5 < (x0.length : Int) then (if 0 ≤ x5 then ((some (x0.set (x5 : Int).toNat (⟨x1, (rd_T63 x0 x5).f1, (rd_T63 x0 x5).f2, (rd_T63 x0 x5).f3, (rd_T63 x0 x5).f4, (rd_T63 x0 x5).f5, (rd_T63 x0 x5).f6⟩ : S63) : List (S63))).bind fun y345 => ((some (y345.set (x5 : Int).toNat (⟨(rd_T63 y345 x5).f0, wrap64 (x1 + 1), (rd_T63 y345 x5).f2, (rd_T63 y345 x5).f3, (rd_T63 y345 x5).f4, (rd_T63 y345 x5).f5, (rd_T63 y345 x5).f6⟩ : S63) : List (S63))).bind fun y346 => ((some (y346.set (x5 : Int).toNat (⟨(rd_T63 y346 x5).f0, (rd_T63 y346 x5).f1, wrap64 ((wrap64 (x1 + 1)) + 1), (rd_T63 y346 x5).f3, (rd_T63 y346 x5).f4, (rd_T63 y346 x5).f5, (rd_T63 y346 x5).f6⟩ : S63) : List (S63))).bind fun y347 => ((some (y347.set (x5 : Int).toNat (⟨(rd_T63 y347 x5).f0, (rd_T63 y347 x5).f1, (rd_T63 y347 x5).f2, wrap64 ((wrap64 ((wrap64 (x1 + 1)) + 1)) + 1), (rd_T63 y347 x5).f4, (rd_T63 y347 x5).f5, (rd_T63 y347 x5).f6⟩ : S63) : List (S63))).bind fun y348 => ((laws_markText.v (wrap64 ((wrap64 ((wrap64 ((wrap64 (x1 + 1)) + 1)) + 1)) + 1))).bind fun t349 => ((some (y348.set (x5 : Int).toNat (⟨(rd_T63 y348 x5).f0, (rd_T63 y348 x5).f1, (rd_T63 y348 x5).f2, (rd_T63 y348 x5).f3, t349, (rd_T63 y348 x5).f5, (rd_T63 y348 x5).f6⟩ : S63) : List (S63))).bind fun y350 => ((laws_markText.v (wrap64 ((wrap64 ((wrap64 ((wrap64 ((wrap64 (x1 + 1)) + 1)) + 1)) + 1)) + 1))).bind fun t351 => ((some (y350.set (x5 : Int).toNat (⟨(rd_T63 y350 x5).f0, (rd_T63 y350 x5).f1, (rd_T63 y350 x5).f2, (rd_T63 y350 x5).f3, (rd_T63 y350 x5).f4, t351, (rd_T63 y350 x5).f6⟩ : S63) : List (S63))).bind fun y352 => ((laws_markText.v (wrap64 ((wrap64 ((wrap64 ((wrap64 ((wrap64 ((wrap64 (x1 + 1)) + 1)) + 1)) + 1)) + 1)) + 1))).bind fun t353 => (laws_markMessageS.lv0 (y352.set (x5 : Int).toNat (⟨(rd_T63 y352 x5).f0, (rd_T63 y352 x5).f1, (rd_T63 y352 x5).f2, (rd_T63 y352 x5).f3, (rd_T63 y352 x5).f4, (rd_T63 y352 x5).f5, t353⟩ : S63)) (wrap64 ((wrap64 ((wrap64 ((wrap64 ((wrap64 ((wrap64 ((wrap64 (x1 + 1)) + 1)) + 1)) + 1)) + 1)) + 1)) + 1)) (wrap64 (x5 + 1)))))))))))) else (none)) else (some (x1, x0)) : Option (Int × (List (S63)))) := by
  refine LimIs.eq (laws_markMessageS.lv0_lim x0 x1 x5) ?_
  refine LimIs.step (fun k_ => (laws_markMessageS.mono_l k_) x0 x1 x5) ?_
  simp only [laws_markMessageS.l0]
  repeat' (with_reducible first | exact laws_markMessageS.lv0_lim _ _ _ | exact laws_markText.v_lim _ | exact LimIs.const _ | refine LimIs.ite ?_ ?_ | refine LimIs.bind ?_ (fun _ => ?_))
theorem laws_markMessageS.v_eq (l0 : List (S63)) (a1 : Int) : laws_markMessageS.v l0 a1 = (laws_markMessageS.lv0 l0 a1 0 : Option (Int × (List (S63)))) := by
  refine LimIs.eq (laws_markMessageS.v_lim l0 a1) ?_
  simp only [laws_markMessageS.f]
  repeat' (with_reducible first | exact laws_markMessageS.lv0_lim _ _ _ | exact LimIs.const _ | refine LimIs.ite ?_ ?_ | refine LimIs.bind ?_ (fun _ => ?_))
def laws_markCert.f (k : Nat) (a0_0 : ByteArray) (l0_1 : List (S63)) (a1 : Int) : Option (Int × (List (S63))) := (laws_markMessageS.f k l0_1 a1).bind fun bt356 => (some (bt356.1, bt356.2))
theorem laws_markCert.mono : ∀ a0 a1 a2 k, LeO (laws_markCert.f k a0 a1 a2) (laws_markCert.f (k + 1) a0 a1 a2) := by
  intro a0 a1 a2 k
  unfold laws_markCert.f
  repeat' first
      | (with_reducible exact laws_markMessageS.mono _ _ _)
      | (with_reducible exact LeO.refl _)
      | (with_reducible exact LeO.none _)
      | (with_reducible refine LeO.ite ?_ ?_)
      | (with_reducible refine LeO.bind ?_ (fun _ => ?_))
      | exact laws_markMessageS.mono _ _ _
      | exact LeO.none _
      | refine LeO.ite ?_ ?_
      | refine LeO.bind ?_ (fun _ => ?_)
noncomputable def laws_markCert.v (a0_0 : ByteArray) (l0_1 : List (S63)) (a1 : Int) : Option (Int × (List (S63))) := lim (fun k_ => laws_markCert.f k_ a0_0 l0_1 a1)
theorem laws_markCert.v_lim (a0_0 : ByteArray) (l0_1 : List (S63)) (a1 : Int) : LimIs (fun k_ => laws_markCert.f k_ a0_0 l0_1 a1) (laws_markCert.v a0_0 l0_1 a1) := lim_is (fun k_ => laws_markCert.mono a0_0 l0_1 a1 k_)
theorem laws_markCert.v_eq (a0_0 : ByteArray) (l0_1 : List (S63)) (a1 : Int) : laws_markCert.v a0_0 l0_1 a1 = ((laws_markMessageS.v l0_1 a1).bind fun bt356 => (some (bt356.1, bt356.2)) : Option (Int × (List (S63)))) := by
  refine LimIs.eq (laws_markCert.v_lim a0_0 l0_1 a1) ?_
  simp only [laws_markCert.f]
  repeat' (with_reducible first | exact laws_markMessageS.v_lim _ _ | exact LimIs.const _ | refine LimIs.ite ?_ ?_ | refine LimIs.bind ?_ (fun _ => ?_))
mutual
def laws_FnExactCertBytes.j0 : Nat → List Int → Int → List Int → Int → Bool → ByteArray → List (S90) → ByteArray → List (S63) → Option (Bool)
  | 0, _, _, _, _, _, _, _, _, _ => none
  | k + 1, x4, x5, x7, x8, x40, x359000, x359001, x373000, x373001 => if x40 = true then (some false) else ((laws_toCert.f k x359000 x359001).bind fun bt378 => ((laws_eqCert.f k x373000 x373001 bt378.1 bt378.2).bind fun t382 => (if t382 = true then ((laws_markCert.f k x373000 x373001 1).bind fun bt383 => (if bt383.1 < 0 then (laws_FnExactCertBytes.j1 k x4 x5 x7 true x359000 x359001) else ((laws_eqByteS.f k x7 x4).bind fun t385 => (if t385 = true then (laws_FnExactCertBytes.j1 k x4 x5 x7 (x8 != x5) x359000 x359001) else (laws_FnExactCertBytes.j1 k x4 x5 x7 true x359000 x359001))))) else (some false))))
def laws_FnExactCertBytes.j1 : Nat → List Int → Int → List Int → Bool → ByteArray → List (S90) → Option (Bool)
  | 0, _, _, _, _, _, _ => none
  | k + 1, x4, x5, x7, x61, x359000, x359001 => if x61 = true then (some false) else ((laws_markByteS.f k x7 1).bind fun bt386 => ((laws_heldByteS.f k bt386.2 1).bind fun t388 => (if t388 < 0 then (some false) else (if t388 = bt386.1 then ((laws_toCert.f k x359000 x359001).bind fun bt389 => ((impl_CertBytes.f k bt389.1 bt389.2).bind fun bt393 => ((laws_eqByteS.f k bt393.1 x4).bind fun t397 => (if t397 = true then (laws_FnExactCertBytes.j2 k bt386.2 bt386.1 (bt393.2 != x5)) else (laws_FnExactCertBytes.j2 k bt386.2 bt386.1 true))))) else (some false)))))
def laws_FnExactCertBytes.j2 : Nat → List Int → Int → Bool → Option (Bool)
  | 0, _, _, _ => none
  | k + 1, x7, x10, x87 => if x87 = true then (some false) else ((laws_heldByteS.f k x7 1).bind fun t398 => (if t398 < 0 then (some false) else (if t398 = x10 then (some true) else (some false))))
end
def laws_FnExactCertBytes.f (k : Nat) (a0_0 : ByteArray) (l0_1 : List (S90)) : Option (Bool) := (laws_szCert.f k a0_0 l0_1 1048576).bind fun t359 => (if t359 < 0 then (some true) else ((laws_toCert.f k a0_0 l0_1).bind fun bt360 => ((spec_CertBytes.f k bt360.1 bt360.2).bind fun bt364 => ((laws_toCert.f k a0_0 l0_1).bind fun bt368 => ((impl_CertBytes.f k bt368.1 bt368.2).bind fun bt373 => ((laws_eqByteS.f k bt373.1 bt364.1).bind fun t377 => (if t377 = true then (laws_FnExactCertBytes.j0 k bt364.1 bt364.2 bt373.1 bt373.2 (bt373.2 != bt364.2) a0_0 l0_1 bt368.1 bt368.2) else (laws_FnExactCertBytes.j0 k bt364.1 bt364.2 bt373.1 bt373.2 true a0_0 l0_1 bt368.1 bt368.2))))))))
theorem laws_FnExactCertBytes.mono_l : ∀ k, (∀ y0 y1 y2 y3 y4 y5 y6 y7 y8, LeO (laws_FnExactCertBytes.j0 k y0 y1 y2 y3 y4 y5 y6 y7 y8) (laws_FnExactCertBytes.j0 (k + 1) y0 y1 y2 y3 y4 y5 y6 y7 y8)) ∧ (∀ y0 y1 y2 y3 y4 y5, LeO (laws_FnExactCertBytes.j1 k y0 y1 y2 y3 y4 y5) (laws_FnExactCertBytes.j1 (k + 1) y0 y1 y2 y3 y4 y5)) ∧ (∀ y0 y1 y2, LeO (laws_FnExactCertBytes.j2 k y0 y1 y2) (laws_FnExactCertBytes.j2 (k + 1) y0 y1 y2))
  | 0 => ⟨fun _ _ _ _ _ _ _ _ _ r h => by simp [laws_FnExactCertBytes.j0] at h, fun _ _ _ _ _ _ r h => by simp [laws_FnExactCertBytes.j1] at h, fun _ _ _ r h => by simp [laws_FnExactCertBytes.j2] at h⟩
  | k + 1 => by
    obtain ⟨ih0, ih1, ih2⟩ := laws_FnExactCertBytes.mono_l k
    refine ⟨?_, ?_, ?_⟩
    · intro y0 y1 y2 y3 y4 y5 y6 y7 y8
      unfold laws_FnExactCertBytes.j0
      repeat' first
      | (with_reducible exact ih0 _ _ _ _ _ _ _ _ _)
      | (with_reducible exact ih1 _ _ _ _ _ _)
      | (with_reducible exact ih2 _ _ _)
      | (with_reducible exact impl_CertBytes.mono _ _ _)
      | (with_reducible exact laws_eqByteS.mono _ _ _)
      | (with_reducible exact laws_eqCert.mono _ _ _ _ _)
      | (with_reducible exact laws_heldByteS.mono _ _ _)
      | (with_reducible exact laws_markByteS.mono _ _ _)
      | (with_reducible exact laws_markCert.mono _ _ _ _)
      | (with_reducible exact laws_szCert.mono _ _ _ _)
      | (with_reducible exact laws_toCert.mono _ _ _)
      | (with_reducible exact spec_CertBytes.mono _ _ _)
      | (with_reducible exact LeO.refl _)
      | (with_reducible exact LeO.none _)
      | (with_reducible refine LeO.ite ?_ ?_)
      | (with_reducible refine LeO.bind ?_ (fun _ => ?_))
      | exact ih0 _ _ _ _ _ _ _ _ _
      | exact ih1 _ _ _ _ _ _
      | exact ih2 _ _ _
      | exact impl_CertBytes.mono _ _ _
      | exact laws_eqByteS.mono _ _ _
      | exact laws_eqCert.mono _ _ _ _ _
      | exact laws_heldByteS.mono _ _ _
      | exact laws_markByteS.mono _ _ _
      | exact laws_markCert.mono _ _ _ _
      | exact laws_szCert.mono _ _ _ _
      | exact laws_toCert.mono _ _ _
      | exact spec_CertBytes.mono _ _ _
      | exact LeO.none _
      | refine LeO.ite ?_ ?_
      | refine LeO.bind ?_ (fun _ => ?_)
    · intro y0 y1 y2 y3 y4 y5
      unfold laws_FnExactCertBytes.j1
      repeat' first
      | (with_reducible exact ih0 _ _ _ _ _ _ _ _ _)
      | (with_reducible exact ih1 _ _ _ _ _ _)
      | (with_reducible exact ih2 _ _ _)
      | (with_reducible exact impl_CertBytes.mono _ _ _)
      | (with_reducible exact laws_eqByteS.mono _ _ _)
      | (with_reducible exact laws_eqCert.mono _ _ _ _ _)
      | (with_reducible exact laws_heldByteS.mono _ _ _)
      | (with_reducible exact laws_markByteS.mono _ _ _)
      | (with_reducible exact laws_markCert.mono _ _ _ _)
      | (with_reducible exact laws_szCert.mono _ _ _ _)
      | (with_reducible exact laws_toCert.mono _ _ _)
      | (with_reducible exact spec_CertBytes.mono _ _ _)
      | (with_reducible exact LeO.refl _)
      | (with_reducible exact LeO.none _)
      | (with_reducible refine LeO.ite ?_ ?_)
      | (with_reducible refine LeO.bind ?_ (fun _ => ?_))
      | exact ih0 _ _ _ _ _ _ _ _ _
      | exact ih1 _ _ _ _ _ _
      | exact ih2 _ _ _
      | exact impl_CertBytes.mono _ _ _
      | exact laws_eqByteS.mono _ _ _
      | exact laws_eqCert.mono _ _ _ _ _
      | exact laws_heldByteS.mono _ _ _
      | exact laws_markByteS.mono _ _ _
      | exact laws_markCert.mono _ _ _ _
      | exact laws_szCert.mono _ _ _ _
      | exact laws_toCert.mono _ _ _
      | exact spec_CertBytes.mono _ _ _
      | exact LeO.none _
      | refine LeO.ite ?_ ?_
      | refine LeO.bind ?_ (fun _ => ?_)
    · intro y0 y1 y2
      unfold laws_FnExactCertBytes.j2
      repeat' first
      | (with_reducible exact ih0 _ _ _ _ _ _ _ _ _)
      | (with_reducible exact ih1 _ _ _ _ _ _)
      | (with_reducible exact ih2 _ _ _)
      | (with_reducible exact impl_CertBytes.mono _ _ _)
      | (with_reducible exact laws_eqByteS.mono _ _ _)
      | (with_reducible exact laws_eqCert.mono _ _ _ _ _)
      | (with_reducible exact laws_heldByteS.mono _ _ _)
      | (with_reducible exact laws_markByteS.mono _ _ _)
      | (with_reducible exact laws_markCert.mono _ _ _ _)
      | (with_reducible exact laws_szCert.mono _ _ _ _)
      | (with_reducible exact laws_toCert.mono _ _ _)
      | (with_reducible exact spec_CertBytes.mono _ _ _)
      | (with_reducible exact LeO.refl _)
      | (with_reducible exact LeO.none _)
      | (with_reducible refine LeO.ite ?_ ?_)
      | (with_reducible refine LeO.bind ?_ (fun _ => ?_))
      | exact ih0 _ _ _ _ _ _ _ _ _
      | exact ih1 _ _ _ _ _ _
      | exact ih2 _ _ _
      | exact impl_CertBytes.mono _ _ _
      | exact laws_eqByteS.mono _ _ _
      | exact laws_eqCert.mono _ _ _ _ _
      | exact laws_heldByteS.mono _ _ _
      | exact laws_markByteS.mono _ _ _
      | exact laws_markCert.mono _ _ _ _
      | exact laws_szCert.mono _ _ _ _
      | exact laws_toCert.mono _ _ _
      | exact spec_CertBytes.mono _ _ _
      | exact LeO.none _
      | refine LeO.ite ?_ ?_
      | refine LeO.bind ?_ (fun _ => ?_)
theorem laws_FnExactCertBytes.mono : ∀ a0 a1 k, LeO (laws_FnExactCertBytes.f k a0 a1) (laws_FnExactCertBytes.f (k + 1) a0 a1) := by
  intro a0 a1 k
  obtain ⟨ih0, ih1, ih2⟩ := laws_FnExactCertBytes.mono_l k
  unfold laws_FnExactCertBytes.f
  repeat' first
      | (with_reducible exact ih0 _ _ _ _ _ _ _ _ _)
      | (with_reducible exact ih1 _ _ _ _ _ _)
      | (with_reducible exact ih2 _ _ _)
      | (with_reducible exact impl_CertBytes.mono _ _ _)
      | (with_reducible exact laws_eqByteS.mono _ _ _)
      | (with_reducible exact laws_eqCert.mono _ _ _ _ _)
      | (with_reducible exact laws_heldByteS.mono _ _ _)
      | (with_reducible exact laws_markByteS.mono _ _ _)
      | (with_reducible exact laws_markCert.mono _ _ _ _)
      | (with_reducible exact laws_szCert.mono _ _ _ _)
      | (with_reducible exact laws_toCert.mono _ _ _)
      | (with_reducible exact spec_CertBytes.mono _ _ _)
      | (with_reducible exact LeO.refl _)
      | (with_reducible exact LeO.none _)
      | (with_reducible refine LeO.ite ?_ ?_)
      | (with_reducible refine LeO.bind ?_ (fun _ => ?_))
      | exact ih0 _ _ _ _ _ _ _ _ _
      | exact ih1 _ _ _ _ _ _
      | exact ih2 _ _ _
      | exact impl_CertBytes.mono _ _ _
      | exact laws_eqByteS.mono _ _ _
      | exact laws_eqCert.mono _ _ _ _ _
      | exact laws_heldByteS.mono _ _ _
      | exact laws_markByteS.mono _ _ _
      | exact laws_markCert.mono _ _ _ _
      | exact laws_szCert.mono _ _ _ _
      | exact laws_toCert.mono _ _ _
      | exact spec_CertBytes.mono _ _ _
      | exact LeO.none _
      | refine LeO.ite ?_ ?_
      | refine LeO.bind ?_ (fun _ => ?_)
noncomputable def laws_FnExactCertBytes.jv0 (x4 : List Int) (x5 : Int) (x7 : List Int) (x8 : Int) (x40 : Bool) (x359000 : ByteArray) (x359001 : List (S90)) (x373000 : ByteArray) (x373001 : List (S63)) : Option (Bool) := lim (fun k_ => laws_FnExactCertBytes.j0 k_ x4 x5 x7 x8 x40 x359000 x359001 x373000 x373001)
noncomputable def laws_FnExactCertBytes.jv1 (x4 : List Int) (x5 : Int) (x7 : List Int) (x61 : Bool) (x359000 : ByteArray) (x359001 : List (S90)) : Option (Bool) := lim (fun k_ => laws_FnExactCertBytes.j1 k_ x4 x5 x7 x61 x359000 x359001)
noncomputable def laws_FnExactCertBytes.jv2 (x7 : List Int) (x10 : Int) (x87 : Bool) : Option (Bool) := lim (fun k_ => laws_FnExactCertBytes.j2 k_ x7 x10 x87)
noncomputable def laws_FnExactCertBytes.v (a0_0 : ByteArray) (l0_1 : List (S90)) : Option (Bool) := lim (fun k_ => laws_FnExactCertBytes.f k_ a0_0 l0_1)
theorem laws_FnExactCertBytes.jv0_lim (x4 : List Int) (x5 : Int) (x7 : List Int) (x8 : Int) (x40 : Bool) (x359000 : ByteArray) (x359001 : List (S90)) (x373000 : ByteArray) (x373001 : List (S63)) : LimIs (fun k_ => laws_FnExactCertBytes.j0 k_ x4 x5 x7 x8 x40 x359000 x359001 x373000 x373001) (laws_FnExactCertBytes.jv0 x4 x5 x7 x8 x40 x359000 x359001 x373000 x373001) := lim_is (fun k_ => (laws_FnExactCertBytes.mono_l k_).1 x4 x5 x7 x8 x40 x359000 x359001 x373000 x373001)
theorem laws_FnExactCertBytes.jv1_lim (x4 : List Int) (x5 : Int) (x7 : List Int) (x61 : Bool) (x359000 : ByteArray) (x359001 : List (S90)) : LimIs (fun k_ => laws_FnExactCertBytes.j1 k_ x4 x5 x7 x61 x359000 x359001) (laws_FnExactCertBytes.jv1 x4 x5 x7 x61 x359000 x359001) := lim_is (fun k_ => (laws_FnExactCertBytes.mono_l k_).2.1 x4 x5 x7 x61 x359000 x359001)
theorem laws_FnExactCertBytes.jv2_lim (x7 : List Int) (x10 : Int) (x87 : Bool) : LimIs (fun k_ => laws_FnExactCertBytes.j2 k_ x7 x10 x87) (laws_FnExactCertBytes.jv2 x7 x10 x87) := lim_is (fun k_ => (laws_FnExactCertBytes.mono_l k_).2.2 x7 x10 x87)
theorem laws_FnExactCertBytes.v_lim (a0_0 : ByteArray) (l0_1 : List (S90)) : LimIs (fun k_ => laws_FnExactCertBytes.f k_ a0_0 l0_1) (laws_FnExactCertBytes.v a0_0 l0_1) := lim_is (fun k_ => laws_FnExactCertBytes.mono a0_0 l0_1 k_)
theorem laws_FnExactCertBytes.jv0_eq (x4 : List Int) (x5 : Int) (x7 : List Int) (x8 : Int) (x40 : Bool) (x359000 : ByteArray) (x359001 : List (S90)) (x373000 : ByteArray) (x373001 : List (S63)) : laws_FnExactCertBytes.jv0 x4 x5 x7 x8 x40 x359000 x359001 x373000 x373001 = (if x40 = true then (some false) else ((laws_toCert.v x359000 x359001).bind fun bt378 => ((laws_eqCert.v x373000 x373001 bt378.1 bt378.2).bind fun t382 => (if t382 = true then ((laws_markCert.v x373000 x373001 1).bind fun bt383 => (if bt383.1 < 0 then (laws_FnExactCertBytes.jv1 x4 x5 x7 true x359000 x359001) else ((laws_eqByteS.v x7 x4).bind fun t385 => (if t385 = true then (laws_FnExactCertBytes.jv1 x4 x5 x7 (x8 != x5) x359000 x359001) else (laws_FnExactCertBytes.jv1 x4 x5 x7 true x359000 x359001))))) else (some false)))) : Option (Bool)) := by
  refine LimIs.eq (laws_FnExactCertBytes.jv0_lim x4 x5 x7 x8 x40 x359000 x359001 x373000 x373001) ?_
  refine LimIs.step (fun k_ => (laws_FnExactCertBytes.mono_l k_).1 x4 x5 x7 x8 x40 x359000 x359001 x373000 x373001) ?_
  simp only [laws_FnExactCertBytes.j0]
  repeat' (with_reducible first | exact laws_FnExactCertBytes.jv1_lim _ _ _ _ _ _ | exact laws_eqByteS.v_lim _ _ | exact laws_eqCert.v_lim _ _ _ _ | exact laws_markCert.v_lim _ _ _ | exact laws_toCert.v_lim _ _ | exact LimIs.const _ | refine LimIs.ite ?_ ?_ | refine LimIs.bind ?_ (fun _ => ?_))
theorem laws_FnExactCertBytes.jv1_eq (x4 : List Int) (x5 : Int) (x7 : List Int) (x61 : Bool) (x359000 : ByteArray) (x359001 : List (S90)) : laws_FnExactCertBytes.jv1 x4 x5 x7 x61 x359000 x359001 = (if x61 = true then (some false) else ((laws_markByteS.v x7 1).bind fun bt386 => ((laws_heldByteS.v bt386.2 1).bind fun t388 => (if t388 < 0 then (some false) else (if t388 = bt386.1 then ((laws_toCert.v x359000 x359001).bind fun bt389 => ((impl_CertBytes.v bt389.1 bt389.2).bind fun bt393 => ((laws_eqByteS.v bt393.1 x4).bind fun t397 => (if t397 = true then (laws_FnExactCertBytes.jv2 bt386.2 bt386.1 (bt393.2 != x5)) else (laws_FnExactCertBytes.jv2 bt386.2 bt386.1 true))))) else (some false))))) : Option (Bool)) := by
  refine LimIs.eq (laws_FnExactCertBytes.jv1_lim x4 x5 x7 x61 x359000 x359001) ?_
  refine LimIs.step (fun k_ => (laws_FnExactCertBytes.mono_l k_).2.1 x4 x5 x7 x61 x359000 x359001) ?_
  simp only [laws_FnExactCertBytes.j1]
  repeat' (with_reducible first | exact impl_CertBytes.v_lim _ _ | exact laws_FnExactCertBytes.jv2_lim _ _ _ | exact laws_eqByteS.v_lim _ _ | exact laws_heldByteS.v_lim _ _ | exact laws_markByteS.v_lim _ _ | exact laws_toCert.v_lim _ _ | exact LimIs.const _ | refine LimIs.ite ?_ ?_ | refine LimIs.bind ?_ (fun _ => ?_))
theorem laws_FnExactCertBytes.jv2_eq (x7 : List Int) (x10 : Int) (x87 : Bool) : laws_FnExactCertBytes.jv2 x7 x10 x87 = (if x87 = true then (some false) else ((laws_heldByteS.v x7 1).bind fun t398 => (if t398 < 0 then (some false) else (if t398 = x10 then (some true) else (some false)))) : Option (Bool)) := by
  refine LimIs.eq (laws_FnExactCertBytes.jv2_lim x7 x10 x87) ?_
  refine LimIs.step (fun k_ => (laws_FnExactCertBytes.mono_l k_).2.2 x7 x10 x87) ?_
  simp only [laws_FnExactCertBytes.j2]
  repeat' (with_reducible first | exact laws_heldByteS.v_lim _ _ | exact LimIs.const _ | refine LimIs.ite ?_ ?_ | refine LimIs.bind ?_ (fun _ => ?_))
theorem laws_FnExactCertBytes.v_eq (a0_0 : ByteArray) (l0_1 : List (S90)) : laws_FnExactCertBytes.v a0_0 l0_1 = ((laws_szCert.v a0_0 l0_1 1048576).bind fun t359 => (if t359 < 0 then (some true) else ((laws_toCert.v a0_0 l0_1).bind fun bt360 => ((spec_CertBytes.v bt360.1 bt360.2).bind fun bt364 => ((laws_toCert.v a0_0 l0_1).bind fun bt368 => ((impl_CertBytes.v bt368.1 bt368.2).bind fun bt373 => ((laws_eqByteS.v bt373.1 bt364.1).bind fun t377 => (if t377 = true then (laws_FnExactCertBytes.jv0 bt364.1 bt364.2 bt373.1 bt373.2 (bt373.2 != bt364.2) a0_0 l0_1 bt368.1 bt368.2) else (laws_FnExactCertBytes.jv0 bt364.1 bt364.2 bt373.1 bt373.2 true a0_0 l0_1 bt368.1 bt368.2)))))))) : Option (Bool)) := by
  refine LimIs.eq (laws_FnExactCertBytes.v_lim a0_0 l0_1) ?_
  simp only [laws_FnExactCertBytes.f]
  repeat' (with_reducible first | exact impl_CertBytes.v_lim _ _ | exact laws_FnExactCertBytes.jv0_lim _ _ _ _ _ _ _ _ _ | exact laws_eqByteS.v_lim _ _ | exact laws_szCert.v_lim _ _ _ | exact laws_toCert.v_lim _ _ | exact spec_CertBytes.v_lim _ _ | exact LimIs.const _ | refine LimIs.ite ?_ ?_ | refine LimIs.bind ?_ (fun _ => ?_))
end Go.Proofs.Ytadablpppkjdbaa.A
end

section
namespace Go.Proofs.YtadablpppkjdbaaW.PrintWords
open Go.RowKit
namespace Kd
def B (e : Nat) (W : World) (base : Nat) (ok : Nat → Prop) (v : Value) (xs : List Int) : Prop :=
  (∀ k, v.ownBlock = some k → ok k) ∧ xs.length ≤ 9223372036854775807 ∧ ((v = .slice none 0 0 ∧ xs = []) ∨ ∃ (g c m : Nat) (cells : Array Value), v = .slice (some ⟨g, 0, none⟩) xs.length c ∧ base ≤ g ∧ W.heap[g]? = some (.cells cells e (m, m + 1)) ∧ cells.size ≤ m ∧
    xs.length ≤ c ∧ xs.length ≤ cells.size ∧ ∀ j, j < xs.length → cells[j]? = some (.int .u8 (xs.getD j 0)))
section
variable {P : Program} {e base base' n cap g : Nat} {ok ok' ok1 S : Nat → Prop} {W w1 W2 : World} {u v : Value} {xs : List Int}
theorem B_nil (e : Nat) (w : World) (base : Nat) (ok : Nat → Prop) : B e w base ok (.slice none 0 0) [] := ⟨fun k hk => by simp [Value.ownBlock] at hk, by simp, .inl ⟨rfl, rfl⟩⟩
theorem B_mono (h : B e W base ok v xs) (hok : ∀ k, ok k → ok' k) : B e W base ok' v xs := ⟨fun k hk => hok k (h.1 k hk), h.2⟩
theorem B_reok (h : B e W base ok1 v xs) (hok : ∀ k, v.ownBlock = some k → ok k) : B e W base ok v xs := ⟨hok, h.2⟩
theorem B_lower (h : B e W base ok v xs) (hb : base' ≤ base) : B e W base' ok v xs := by
  obtain ⟨h0, hl, h | ⟨g, c, m, cells, h1, h2, h3⟩⟩ := h
  · exact ⟨h0, hl, .inl h⟩
  · exact ⟨h0, hl, .inr ⟨g, c, m, cells, h1, Nat.le_trans hb h2, h3⟩⟩
theorem B_lt (h : B e W base ok v xs) : ∀ k, v.ownBlock = some k → k < W.heap.size := by
  obtain ⟨h0, hl, ⟨rfl, _⟩ | ⟨g, c, m, cells, rfl, h2, h3, _⟩⟩ := h
  · intro k hk; simp [Value.ownBlock] at hk
  · intro k hk
    have : g = k := by simpa [Value.ownBlock] using hk
    subst this
    rcases Nat.lt_or_ge g W.heap.size with h' | h'
    · exact h'
    · rw [Array.getElem?_eq_none h'] at h3; simp at h3
theorem B_base (h : B e W base ok v xs) : ∀ k, v.ownBlock = some k → base ≤ k := by
  obtain ⟨h0, hl, ⟨rfl, _⟩ | ⟨g, c, m, cells, rfl, h2, h3, _⟩⟩ := h
  · intro k hk; simp [Value.ownBlock] at hk
  · intro k hk
    have : g = k := by simpa [Value.ownBlock] using hk
    omega
theorem B_move (h : B e W base ok v xs) (hm : ∀ k, v.ownBlock = some k → w1.heap[k]? = W.heap[k]?) : B e w1 base ok v xs := by
  obtain ⟨h0, hl, h | ⟨g, c, m, cells, rfl, h2, h3, h4⟩⟩ := h
  · exact ⟨h0, hl, .inl h⟩
  · exact ⟨h0, hl, .inr ⟨g, c, m, cells, rfl, h2, (hm g (by simp [Value.ownBlock])).trans h3, h4⟩⟩
theorem B_below (h : B e W base ok v xs) (hb : Below W.heap.size W w1) : B e w1 base ok v xs := B_move h (fun k hk => hb.block k (B_lt h k hk))
theorem B_kept (h : B e W base ok v xs) (hk : Kept W W2 S) (hne : ∀ k, ok k → ¬ S k) : B e W2 base ok v xs := B_move h (fun k hk' => hk.2 k (B_lt h k hk') (hne k (h.1 k hk')))
theorem B_keptB (h : B e W base ok v xs) (hk : Kept W W2 S) (hne : ∀ k, ok k → ¬ S k) : B e W2 base (fun k => ok k ∧ (¬ S k ∧ k < W.heap.size)) v xs :=
  B_reok (B_kept h hk hne) (fun k hk' => ⟨h.1 k hk', hne k (h.1 k hk'), B_lt h k hk'⟩)
theorem B_elder' (hu : B e W base ok u xs) (hbase : ∀ k, v.ownBlock = some k → W.heap.size ≤ k) (hb : Below W.heap.size W w1) : B e w1 base (fun k => ok k ∧ some k ≠ v.ownBlock) u xs :=
  B_reok (B_below hu hb) (fun k hk => ⟨hu.1 k hk, fun he => by have := hbase k he.symm; have := B_lt hu k hk; omega⟩)
theorem B_new' (h : B e w1 W.heap.size ok v xs) (hlt : ∀ k, u.ownBlock = some k → k < W.heap.size) : B e w1 W.heap.size (fun k => ok k ∧ some k ≠ u.ownBlock) v xs :=
  B_reok h (fun k hk => ⟨h.1 k hk, fun he => by have := hlt k he.symm; have := B_base h k hk; omega⟩)
theorem B_alloc (h : B e W base ok v xs) (o : Obj) : B e (W.alloc o) base ok v xs := B_below h (below_alloc (Below.refl _ _) o)
theorem B_drew (h : B e W base ok v xs) : B e W.drew base ok v xs := B_below h (below_drew (Below.refl _ _))
theorem B_drewN (h : B e W base ok v xs) (m : Nat) : B e (W.drewN m) base ok v xs := B_below h (pw_below_drewN (Below.refl _ _) m)
theorem B_apart' {e' : Nat} (h : B e W base ok u xs) (hty : ∀ k, v.ownBlock = some k → ∃ cells, W.heap[k]? = some (.cells cells e' (0, 0))) (ht : ∀ q, q ∈ e :: (Kd.int .u8).E → q ≠ e') : B e W base (fun k => ok k ∧ some k ≠ v.ownBlock) u xs := by
  have h0 := h.1
  refine B_reok h (fun k hk => ⟨h0 k hk, fun he => ?_⟩)
  obtain ⟨cells', hc'⟩ := hty k he.symm
  obtain ⟨_, hl, ⟨rfl, _⟩ | ⟨g, c, m, cells, rfl, h2, h3, _⟩⟩ := h
  · simp [Value.ownBlock] at hk
  · have : g = k := by simpa [Value.ownBlock] using hk
    subst this
    rw [h3] at hc'
    injection hc' with hc'
    injection hc' with _ hc' _
    exact ht e (by simp) hc'
theorem B_ne {t : Nat} {cells : Array Value} (h : B e W base ok v xs) (hb : W.heap[g]? = some (.cells cells t (0, 0))) : some g ≠ v.ownBlock := by
  intro he
  obtain ⟨h0, hl, ⟨rfl, _⟩ | ⟨g', c, m, cells', rfl, h2, h3, _⟩⟩ := h
  · simp [Value.ownBlock] at he
  · have : g = g' := by simpa [Value.ownBlock] using he
    subst this
    rw [hb] at h3
    simp at h3
theorem R_apartB {α : Type} {d : Kd α} {e' b' : Nat} {ys : List α} (h : d.R e' W b' ok1 u ys) (hv : B e W base ok v xs) : d.R e' W b' (fun k => ok1 k ∧ some k ≠ v.ownBlock) u ys := by
  refine R_mono (R_bound h) (fun k hk => ⟨hk.1, ?_⟩)
  obtain ⟨_, _, _, q, hq, cells, hc⟩ := hk
  exact B_ne hv hc
theorem zrB (b : Aside0 (B e W base ok v xs)) (m : B e W base ok v xs → B e w1 base ok v xs := by intro h_; (with_reducible repeat (first | apply Kd.B_alloc | apply Kd.B_drewN | apply Kd.B_drew)); exact h_) : B e w1 base ok v xs := m b.out
theorem zrbB (b : Aside0 (B e W base ok v xs)) (hb : Below w1.heap.size w1 W2) (m : B e W base ok v xs → B e w1 base ok v xs := by intro h_; (with_reducible repeat (first | apply Kd.B_alloc | apply Kd.B_drewN | apply Kd.B_drew)); exact h_) : Aside0 (B e W2 base ok v xs) := ⟨B_below (m b.out) hb⟩
theorem B_slice (h : B e W base ok v xs) : ∃ A c, v = .slice A xs.length c := by
  obtain ⟨h0, hl, ⟨rfl, rfl⟩ | ⟨g, c, m, cells, rfl, _⟩⟩ := h
  · exact ⟨none, 0, rfl⟩
  · exact ⟨_, c, rfl⟩
theorem B_reads' {A : Option Addr} {n c : Nat} (h : B e W base ok (.slice A n c) xs) : n = xs.length ∧ n ≤ c ∧ (Kd.int .u8).C W A xs.length xs := by
  obtain ⟨h0, hl, ⟨hv, rfl⟩ | ⟨g, c', m, cells, hv, h2, h3, h4, h5, h6, h7⟩⟩ := h
  · injection hv with e1 e2 e3
    subst e1; subst e2; subst e3
    exact ⟨rfl, Nat.le_refl _, C_of_reads (d := (0 : Int)) (h1 := fun _ => rfl) ⟨rfl, by simp, fun hn => absurd hn (by simp)⟩⟩
  · injection hv with e1 e2 e3
    subst e1; subst e2; subst e3
    refine ⟨rfl, h5, C_of_reads (d := (0 : Int)) (h1 := fun _ => rfl) ⟨rfl, hl, fun _ => ⟨_, rfl, fun j hj => ?_⟩⟩⟩
    rw [add_plain]
    simp only [World.cell?, h3]
    simpa using h7 j hj
theorem B_form (h : B e W base ok v xs) (hp : 0 < xs.length) : ∃ g cap, v = .slice (some ⟨g, 0, none⟩) xs.length cap ∧ base ≤ g ∧ g < W.heap.size := by
  have hlt := B_lt h
  obtain ⟨h0, hl, ⟨rfl, rfl⟩ | ⟨g, c, m, cells, rfl, h2, _⟩⟩ := h
  · simp at hp
  · exact ⟨g, c, rfl, h2, hlt g (by simp [Value.ownBlock])⟩
theorem B_celln (h : B e W base ok (.slice (some ⟨g, 0, none⟩) n cap) xs) (i : Int) (h0 : 0 ≤ i) (hi : i < n) : W.cell? ⟨g, i.toNat, none⟩ = some (.int .u8 (xs.getD i.toNat 0)) ∧ W.frozen? ⟨g, i.toNat, none⟩ = false := by
  obtain ⟨h0', hl, ⟨hv, rfl⟩ | ⟨g', c', m, cells, hv, h2, h3, h4, h5, h6, h7⟩⟩ := h
  · simp at hv
  · simp only [Value.slice.injEq, Option.some.injEq, Addr.mk.injEq, and_true, true_and] at hv
    obtain ⟨rfl, rfl, rfl⟩ := hv
    have hin : i.toNat < xs.length := by omega
    refine ⟨?_, ?_⟩
    · simp only [World.cell?, h3]
      simpa using h7 _ hin
    · simp only [World.frozen?, h3]
      have : ¬ (m ≤ i.toNat) := by omega
      simp [this]
theorem B_putg (h : B e W base ok (.slice (some ⟨g, 0, none⟩) n cap) xs) (i : Int) (x : Int) : B e (W.setCell ⟨g, i.toNat, none⟩ (.int .u8 x)) base ok (.slice (some ⟨g, 0, none⟩) n cap) (xs.set i.toNat x) ∧ W.grownBy (W.setCell ⟨g, i.toNat, none⟩ (.int .u8 x)) (some g) := by
  obtain ⟨h0', hl, ⟨hv, rfl⟩ | ⟨g', c', m, cells, hv, h2, h3, h4, h5, h6, h7⟩⟩ := h
  · simp at hv
  · simp only [Value.slice.injEq, Option.some.injEq, Addr.mk.injEq, and_true, true_and] at hv
    obtain ⟨rfl, rfl, rfl⟩ := hv
    have hs : (W.setCell ⟨g, i.toNat, none⟩ (.int .u8 x)).heap[g]? = some (.cells (cells.setIfInBounds i.toNat (.int .u8 x)) e (m, m + 1)) := by
      rw [setCell_eq_setRow W g i.toNat cells e (m, m + 1) _ h3]
      exact setRow_heap W g cells _ e _ h3
    refine ⟨⟨h0', by simpa using hl, .inr ⟨g, cap, m, _, by rw [List.length_set], h2, hs, by simpa using h4, by simpa using h5, by simpa using h6, fun j hj => ?_⟩⟩,
      ⟨rfl, rfl, rfl, by simp, fun k _ hk => heap_setCell_other W ⟨g, i.toNat, none⟩ k _ (fun e => hk (by simp [e]))⟩⟩
    rw [List.length_set] at hj
    by_cases hji : i.toNat = j
    · subst hji
      simp [Array.getElem?_setIfInBounds, List.getD_eq_getElem?_getD, hj, show i.toNat < cells.size by omega]
    · rw [Array.getElem?_setIfInBounds, if_neg hji, h7 j hj]
      simp [List.getD_eq_getElem?_getD, List.getElem?_set, hji]
variable {ops : Array Oper} {rest : List Oper} {o : Oper} {a : Act} {Q : Exit → Act → World → Prop}
theorem B_conv (d : Kd Int) (hd0 : d = Kd.int .u8) {w0 W : World} (base e : Nat) (hgd : o.guard = none) {N : Tmp} (_hd : o.dst = some N) (src dst : TypeId) (x : Operand) (ho : o.op = .convert src dst x) (s : ByteArray) (hx : a.eval x = .string s)
    (hs : P.underlying src = some .string) (ht : P.underlying dst = some (.slice e)) (he : P.underlying e = some (.int .u8)) {ok okp : Nat → Prop} (hok : ∀ k, okp k → ok k) (hfresh : ok W.heap.size) (hl : s.size ≤ 140737488355328) (HB : Below base w0 W) (hbase : base ≤ W.heap.size)
    (h : ∀ v1 w1, B e w1 base ok v1 (bytesOf s) → Below base w0 w1 → W.grownBy w1 none → (∃ b, v1.ownBlock = some b ∧ W.heap.size ≤ b) → wpList P ops Q rest (a.put o.dst v1) w1) : wpList P ops Q (o :: rest) a W := by
  have hrun : (execOp a.eval o).run P W = .ok (.value (.slice (some ⟨W.heap.size, 0, none⟩) s.size (grownCap W s.size 0 e))) (Lib.bytesWorld W e s) := by
    simp [execOp, ho, hx, Lib.run_convert_string_bytes W src dst e s hs ht he]
  have hge := grownCap_ge W s.size 0 e
  have hsz : s.size ≤ (Lib.bytesCells W e s).size := by
    have := data_length s
    simp [Lib.bytesCells]
  refine event_run hgd hrun (h _ _ ⟨fun k hk => ?_, by rw [bytesOf_length]; omega, .inr ⟨W.heap.size, grownCap W s.size 0 e, _, _, by rw [bytesOf_length], hbase, Lib.bytesWorld_at_new W e s, Nat.le_refl _, by rw [bytesOf_length]; exact hge, by rw [bytesOf_length]; exact hsz, fun j hj => ?_⟩⟩ ?_ ?_ ⟨W.heap.size, by simp [Value.ownBlock], Nat.le_refl _⟩)
  · have : W.heap.size = k := by simpa [Value.ownBlock] using hk
    rw [← this]; exact hfresh
  · rw [bytesOf_length] at hj
    have h1 := Lib.bytesWorld_cell W e s j hj
    have h' : j < s.data.toList.length := by rw [data_length]; exact hj
    simp only [World.cell?, Lib.bytesWorld_at_new] at h1
    have h2 : (bytesOf s).getD j 0 = ((s.data.toList.getD j 0).toNat : Int) := by simp [bytesOf, List.getD_eq_getElem?_getD, List.getElem?_eq_getElem h']
    rw [h2]
    simpa using h1
  · exact HB.trans ⟨rfl, rfl, rfl, by rw [Lib.bytesWorld_size]; omega, fun i hi => Lib.bytesWorld_at_old W e s i (by omega)⟩
  · exact ⟨rfl, rfl, rfl, by rw [Lib.bytesWorld_size]; omega, fun i hi _ => Lib.bytesWorld_at_old W e s i hi⟩
end
end Kd
end Go.Proofs.YtadablpppkjdbaaW.PrintWords
end

section
namespace Go.Proofs.Ytadablpppkjdbaa.A
open Go.RowKit Go.Proofs.YtadablpppkjdbaaW.PrintWords Go.Proofs.YtadablpppkjdbaaW.PrintLast Go.Proofs.YtadablpppkjdbaaW.PrintMore
attribute [local go_sem] max2_int min2_int max_two min_two max_three min_three max_four min_four
def good90 (y : S90) : Prop := (Lit.int .i64 y.f0).wf = true ∧ (Lit.int .i64 y.f1).wf = true ∧ (Lit.int .i64 y.f2).wf = true ∧ (Lit.int .i64 y.f3).wf = true ∧ y.f4.size ≤ 9223372036854775807 ∧ y.f5.size ≤ 9223372036854775807 ∧ y.f6.size ≤ 9223372036854775807
def good34 (y : S34) : Prop := y.f0.size ≤ 9223372036854775807 ∧ (y.f1.length ≤ 9223372036854775807 ∧ ∀ y_ ∈ y.f1, good90 y_)
end Go.Proofs.Ytadablpppkjdbaa.A
end

section
namespace Go.Proofs.YtadablpppkjdbaaW.PrintWords
open Go.RowKit
theorem wrap_id {x : Int} (h0 : -9223372036854775808 ≤ x) (h1 : x ≤ 9223372036854775807) : wrap64 x = x := by unfold wrap64; omega
/-- p at d places from i on. -/
def allB (p : Int → Bool) : Nat → Int → Bool
  | 0, _ => true
  | d + 1, i => p i && allB p d (i + 1)
def allI (p : Int → Bool) (i n : Int) : Bool := allB p (n - i).toNat i
theorem allI_step {p : Int → Bool} {i n : Int} (h : i < n) : allI p i n = (p i && allI p (i + 1) n) := by
  unfold allI
  obtain ⟨d, hd⟩ : ∃ d : Nat, (n - i).toNat = d + 1 := ⟨(n - i).toNat - 1, by omega⟩
  rw [hd, show (n - (i + 1)).toNat = d by omega]
  rfl
theorem allI_end {p : Int → Bool} {i n : Int} (h : n ≤ i) : allI p i n = true := by
  unfold allI
  rw [show (n - i).toNat = 0 by omega]
  rfl
theorem allI_iff (p : Int → Bool) (n : Int) : ∀ (d : Nat) (i : Int), (n - i).toNat = d → (allI p i n = true ↔ ∀ j, i ≤ j → j < n → p j = true)
  | 0, i, h => by
    rw [allI_end (by omega)]
    exact ⟨fun _ j h1 h2 => by omega, fun _ => rfl⟩
  | d + 1, i, h => by
    rw [allI_step (by omega), Bool.and_eq_true, allI_iff p n d (i + 1) (by omega)]
    refine ⟨fun ⟨h1, h2⟩ j h3 h4 => ?_, fun h1 => ⟨h1 i (by omega) (by omega), fun j h3 h4 => h1 j (by omega) h4⟩⟩
    by_cases e : j = i
    · rw [e]; exact h1
    · exact h2 j (by omega) h4
/-- A loop that asks p at each place. -/
theorem loop_all {L : Int → Option Bool} (p : Int → Bool) (n : Int) (hn : n ≤ 9223372036854775807) (hL : ∀ i, 0 ≤ i → i < n → L i = if p i = true then L (wrap64 (i + 1)) else some false) (hE : ∀ i, 0 ≤ i → n ≤ i → L i = some true) :
    ∀ (d : Nat) (i : Int), (n - i).toNat = d → 0 ≤ i → L i = some (allI p i n)
  | 0, i, h, h0 => by rw [hE i h0 (by omega), allI_end (by omega)]
  | d + 1, i, h, h0 => by
    rw [hL i h0 (by omega), allI_step (by omega), wrap_id (by omega) (by omega), loop_all p n hn hL hE d (i + 1) (by omega) (by omega)]
    cases p i <;> simp
def inB (n low high : Int) : Bool := decide (low ≤ n ∧ n ≤ high)
theorem ba_toList (a : ByteArray) : a.toList = a.data.toList := ByteArray.toList_eq a
theorem strOf_size (l : List Int) : (strOfNums l).size = l.length := by
  show (strOfNums l).data.size = _
  simp [strOfNums]
theorem int_succ_mul (a c : Int) : a * c + c = (a + 1) * c := by rw [Int.add_mul, Int.one_mul]
theorem copy_loop {α β : Type} (d : α) (g : α → β) (l : List α) (hn : l.length ≤ 9223372036854775806) (L : List β → Int → Option (List β))
    (hL : ∀ acc i, 0 ≤ i → i < (l.length : Int) → acc.length = l.length → L acc i = L (acc.set i.toNat (g (l.getD i.toNat d))) (wrap64 (i + 1))) (hE : ∀ acc i, (l.length : Int) ≤ i → L acc i = some acc) :
    ∀ (n : Nat) (acc : List β) (i : Int), ((l.length : Int) - i).toNat = n → 0 ≤ i → i ≤ l.length → acc.length = l.length → (∀ j : Nat, j < i.toNat → acc[j]? = (l.map g)[j]?) → L acc i = some (l.map g)
  | 0, acc, i, h, h0, h1, ha, hj => by
    rw [hE acc i (by omega)]
    congr 1
    apply List.ext_getElem?
    intro j
    by_cases hjl : j < l.length
    · exact hj j (by omega)
    · rw [List.getElem?_eq_none (by omega), List.getElem?_eq_none (by simp; omega)]
  | n + 1, acc, i, h, h0, h1, ha, hj => by
    have hlt : i < (l.length : Int) := by omega
    rw [hL acc i h0 hlt ha, wrap_id (by omega) (by omega)]
    refine copy_loop d g l hn L hL hE n _ (i + 1) (by omega) (by omega) (by omega) (by simp [ha]) (fun j hj2 => ?_)
    by_cases e : j = i.toNat
    · subst e
      rw [List.getElem?_set_self (by omega), List.getElem?_map, List.getElem?_eq_getElem (by omega : i.toNat < l.length)]
      simp [List.getD, List.getElem?_eq_getElem (by omega : i.toNat < l.length)]
    · rw [List.getElem?_set_ne (by omega)]
      exact hj j (by omega)
theorem mark_loop {α : Type} (z : α) (g : α → Int → α) (c : Int) (hc : 0 ≤ c) (L : List α → Int → Int → Option (Int × List α))
    (hL : ∀ l k i, 0 ≤ i → i < (l.length : Int) → 0 ≤ k → k + c ≤ 4611686018427387904 → L l k i = L (l.set i.toNat (g (l.getD i.toNat z) k)) (k + c) (wrap64 (i + 1))) (hE : ∀ l k i, (l.length : Int) ≤ i → L l k i = some (k, l)) :
    ∀ (n : Nat) (l : List α) (k i : Int), ((l.length : Int) - i).toNat = n → 0 ≤ i → i ≤ l.length → (l.length : Int) ≤ 9223372036854775806 → 0 ≤ k → k + n * c ≤ 4611686018427387904 →
      ∃ l', L l k i = some (k + n * c, l') ∧ l'.length = l.length ∧ (∀ j : Nat, j < i.toNat → l'[j]? = l[j]?) ∧ (∀ j : Nat, i.toNat ≤ j → j < l.length → ∃ x, l'[j]? = some (g x (k + (j - i) * c)))
  | 0, l, k, i, h, h0, h1, hn, hk, hkn => ⟨l, by rw [hE l k i (by omega)]; simp, rfl, fun _ _ => rfl, fun j h2 h3 => by omega⟩
  | n + 1, l, k, i, h, h0, h1, hn, hk, hkn => by
    have hlt : i < (l.length : Int) := by omega
    have hm : ((n + 1 : Nat) : Int) * c = n * c + c := by rw [Int.natCast_add, Int.add_mul]; simp
    have hnc : 0 ≤ (n : Int) * c := Int.mul_nonneg (by omega) hc
    rw [hm] at hkn
    obtain ⟨l', e1, e2, e3, e4⟩ := mark_loop z g c hc L hL hE n (l.set i.toNat (g (l.getD i.toNat z) k)) (k + c) (i + 1) (by simp; omega) (by omega) (by simp; omega) (by simpa using hn) (by omega) (by omega)
    refine ⟨l', ?_, by simpa using e2, fun j hj => ?_, fun j h2 h3 => ?_⟩
    · rw [hL l k i h0 hlt hk (by omega), wrap_id (by omega) (by omega), e1, hm]
      congr 2
      omega
    · rw [e3 j (by omega), List.getElem?_set_ne (by omega)]
    · by_cases e : j = i.toNat
      · subst e
        refine ⟨l.getD i.toNat z, ?_⟩
        rw [e3 i.toNat (by omega), List.getElem?_set_self (by omega), show ((i.toNat : Int) - i) = 0 by omega]
        simp
      · obtain ⟨x, hx⟩ := e4 j (by omega) (by simpa using h3)
        refine ⟨x, ?_⟩
        rw [hx]
        congr 2
        have : ((j : Int) - (i + 1)) * c + c = (j - i) * c := by rw [int_succ_mul]; congr 1; omega
        omega
theorem held_loop {α : Type} (z : α) (chk : α → Int → Bool) (c : Int) (hc : 0 ≤ c) (l : List α) (hn : (l.length : Int) ≤ 9223372036854775806) (H : Int → Int → Option Int)
    (hH : ∀ k i, 0 ≤ i → i < (l.length : Int) → 0 ≤ k → k + c ≤ 4611686018427387904 → chk (l.getD i.toNat z) k = true → H k i = H (k + c) (wrap64 (i + 1))) (hE : ∀ k i, (l.length : Int) ≤ i → H k i = some k) :
    ∀ (n : Nat) (k i : Int), ((l.length : Int) - i).toNat = n → 0 ≤ i → i ≤ l.length → 0 ≤ k → k + n * c ≤ 4611686018427387904 →
      (∀ j : Nat, i.toNat ≤ j → j < l.length → chk (l.getD j z) (k + (j - i) * c) = true) → H k i = some (k + n * c)
  | 0, k, i, h, h0, h1, hk, hkn, _ => by rw [hE k i (by omega)]; simp
  | n + 1, k, i, h, h0, h1, hk, hkn, hj => by
    have hlt : i < (l.length : Int) := by omega
    have hm : ((n + 1 : Nat) : Int) * c = n * c + c := by rw [Int.natCast_add, Int.add_mul]; simp
    have hnc : 0 ≤ (n : Int) * c := Int.mul_nonneg (by omega) hc
    rw [hm] at hkn ⊢
    have h2 := hj i.toNat (Nat.le_refl _) (by omega)
    rw [show ((i.toNat : Int) - i) = 0 by omega, Int.zero_mul, Int.add_zero] at h2
    rw [hH k i h0 hlt hk (by omega) h2, wrap_id (by omega) (by omega)]
    rw [held_loop z chk c hc l hn H hH hE n (k + c) (i + 1) (by omega) (by omega) (by omega) (by omega) (by omega) (fun j h3 h4 => by
      have h5 := hj j (by omega) h4
      have : ((j : Int) - (i + 1)) * c + c = (j - i) * c := by rw [int_succ_mul]; congr 1; omega
      rw [show k + c + ((j : Int) - (i + 1)) * c = k + (j - i) * c by omega]
      exact h5)]
    congr 1
    omega
/-- What is marked is held: the two loops together, from the begin. -/
theorem mark_held {α : Type} (z : α) (g : α → Int → α) (chk : α → Int → Bool) (c : Int) (hc : 0 ≤ c) (hg : ∀ x k, 0 ≤ k → k + c ≤ 4611686018427387904 → chk (g x k) k = true) (L : List α → Int → Int → Option (Int × List α)) (H : List α → Int → Int → Option Int)
    (hL : ∀ l k i, 0 ≤ i → i < (l.length : Int) → 0 ≤ k → k + c ≤ 4611686018427387904 → L l k i = L (l.set i.toNat (g (l.getD i.toNat z) k)) (k + c) (wrap64 (i + 1))) (hE : ∀ l k i, (l.length : Int) ≤ i → L l k i = some (k, l))
    (hH : ∀ l k i, 0 ≤ i → i < (l.length : Int) → 0 ≤ k → k + c ≤ 4611686018427387904 → chk (l.getD i.toNat z) k = true → H l k i = H l (k + c) (wrap64 (i + 1))) (hE2 : ∀ l k i, (l.length : Int) ≤ i → H l k i = some k)
    (l : List α) (k : Int) (hn : (l.length : Int) ≤ 9223372036854775806) (hk : 0 ≤ k) (hkn : k + l.length * c ≤ 4611686018427387904) :
    ∃ l', L l k 0 = some (k + l.length * c, l') ∧ l'.length = l.length ∧ H l' k 0 = some (k + l.length * c) := by
  obtain ⟨l', e1, e2, e3, e4⟩ := mark_loop z g c hc L hL hE l.length l k 0 (by omega) (by omega) (by omega) hn hk hkn
  refine ⟨l', e1, e2, ?_⟩
  rw [← e2]
  refine held_loop z chk c hc l' (by omega) (H l') (hH l') (hE2 l') l'.length k 0 (by omega) (by omega) (by omega) hk (by rw [e2]; exact hkn) (fun j h2 h3 => ?_)
  obtain ⟨x, hx⟩ := e4 j (by omega) (by omega)
  rw [List.getD, hx]
  simp only [Option.getD_some]
  have hb : (j : Int) * c + c ≤ l.length * c := by
    rw [int_succ_mul]
    exact Int.mul_le_mul_of_nonneg_right (by omega) hc
  have hj0 : 0 ≤ (j : Int) * c := Int.mul_nonneg (by omega) hc
  have h0 : ((j : Int) - 0) = j := by omega
  rw [h0]
  exact hg x _ (by omega) (by omega)
end Go.Proofs.YtadablpppkjdbaaW.PrintWords
end

section
namespace Go.Proofs.Ytadablpppkjdbaa.A
open Go.RowKit Go.Proofs.YtadablpppkjdbaaW.PrintWords
theorem markText_l : ∀ (m : Nat) (x : Int) (s : ByteArray), 0 ≤ x → x < 10 ^ m → x ≤ 9223372036854775807 → s.size + m ≤ 1000000 → ∃ r, laws_markText.lv0 x s = some r
  | 0, x, s, h0, h1, h2, h3 => ⟨_, by rw [laws_markText.lv0_eq, if_neg (by simp at h1; omega), if_pos (by omega)]⟩
  | m + 1, x, s, h0, h1, h2, h3 => by
    by_cases hx : x > 0
    · have h4 : (strOfNums [(wrap64 (48 + (Int.tmod x 10))) % 256]).size = 1 := by rw [strOf_size]; rfl
      have h5 : Int.tdiv x 10 = x / 10 := Int.tdiv_eq_ediv_of_nonneg h0
      obtain ⟨r, hr⟩ := markText_l m (x / 10) ((strOfNums [(wrap64 (48 + (Int.tmod x 10))) % 256]) ++ s) (by omega) (by rw [Int.pow_succ] at h1; omega) (by omega) (by rw [ByteArray.size_append, h4]; omega)
      refine ⟨r, ?_⟩
      rw [laws_markText.lv0_eq, if_pos hx]
      simp only [Option.bind_some]
      rw [if_pos (by rw [h4]; omega), h5, wrap_id (by omega) (by omega), hr]
    · exact ⟨_, by rw [laws_markText.lv0_eq, if_neg hx, if_pos (by omega)]⟩
noncomputable def mtext (k : Int) : ByteArray := (laws_markText.v k).getD ⟨#[]⟩
theorem markText_v (k : Int) (h : 0 ≤ k) (h2 : k ≤ 9223372036854775807) : laws_markText.v k = some (mtext k) := by
  have : ∃ r, laws_markText.v k = some r := by
    rw [laws_markText.v_eq]
    by_cases hk : k ≤ 0
    · exact ⟨_, by rw [if_pos hk]⟩
    · rw [if_neg hk]
      exact markText_l 19 k ⟨#[]⟩ h (by omega) h2 (by show 0 + 19 ≤ _; omega)
  obtain ⟨r, hr⟩ := this
  rw [mtext, hr]; rfl
theorem szMessage_v (k v s f : Int) (d b m : ByteArray) (x : Int) (h0 : 0 ≤ x) (h1 : x ≤ 1048576) (hd : d.size ≤ 9223372036854775807) (hb : b.size ≤ 9223372036854775807) (hm : m.size ≤ 9223372036854775807) : ∃ t, laws_szMessage.v k v s f d b m x = some t ∧ (t < 0 ∨ (0 ≤ t ∧ t ≤ 1048576)) := by
  rw [laws_szMessage.v_eq, wrap_id (x := x - (d.size : Int)) (by omega) (by omega)]
  by_cases c1 : x - (d.size : Int) < 0
  · rw [if_pos c1]; exact ⟨-1, rfl, Or.inl (by omega)⟩
  rw [if_neg c1, wrap_id (x := x - (d.size : Int) - (b.size : Int)) (by omega) (by omega)]
  by_cases c2 : x - (d.size : Int) - (b.size : Int) < 0
  · rw [if_pos c2]; exact ⟨-1, rfl, Or.inl (by omega)⟩
  rw [if_neg c2, wrap_id (x := x - (d.size : Int) - (b.size : Int) - (m.size : Int)) (by omega) (by omega)]
  by_cases c3 : x - (d.size : Int) - (b.size : Int) - (m.size : Int) < 0
  · rw [if_pos c3]; exact ⟨-1, rfl, Or.inl (by omega)⟩
  · rw [if_neg c3]; exact ⟨_, rfl, Or.inr (by omega)⟩
theorem szMessageS_l (l : List S90) (hl : l.length ≤ 9223372036854775806) (hg : ∀ y ∈ l, good90 y) : ∀ (d : Nat) (i x : Int), ((l.length : Int) - i).toNat = d → 0 ≤ i → 0 ≤ x → x ≤ 1048576 → ∃ t, laws_szMessageS.lv0 l x i = some t ∧ (t < 0 ∨ (0 ≤ t ∧ t ≤ 1048576))
  | 0, i, x, h, h0, hx, hx2 => ⟨x, by rw [laws_szMessageS.lv0_eq, if_neg (by omega)], Or.inr ⟨hx, hx2⟩⟩
  | d + 1, i, x, h, h0, hx, hx2 => by
    have hlt : i < (l.length : Int) := by omega
    have hm : rd_T90 l i ∈ l := by
      unfold rd_T90
      rw [List.getD, List.getElem?_eq_getElem (by omega : i.toNat < l.length)]
      exact List.getElem_mem _
    obtain ⟨-, -, -, -, g1, g2, g3⟩ := hg _ hm
    obtain ⟨t, e, ht⟩ := szMessage_v (rd_T90 l i).f0 (rd_T90 l i).f1 (rd_T90 l i).f2 (rd_T90 l i).f3 (rd_T90 l i).f4 (rd_T90 l i).f5 (rd_T90 l i).f6 x hx hx2 g1 g2 g3
    rw [laws_szMessageS.lv0_eq, if_pos hlt, if_pos h0, e, Option.bind_some, wrap_id (x := i + 1) (by omega) (by omega)]
    by_cases h2 : t < 0
    · rw [if_pos h2]; exact ⟨-1, rfl, Or.inl (by omega)⟩
    · rw [if_neg h2]
      exact szMessageS_l l hl hg d (i + 1) t (by omega) (by omega) (by omega) (by omega)
theorem szMessageS_v (l : List S90) (x : Int) (h0 : 0 ≤ x) (h1 : x ≤ 1048576) (hl : l.length ≤ 9223372036854775807) (hg : ∀ y ∈ l, good90 y) : ∃ t, laws_szMessageS.v l x = some t ∧ (¬ t < 0 → l.length ≤ 1048576) := by
  rw [laws_szMessageS.v_eq, wrap_id (x := x - (l.length : Int)) (by omega) (by omega)]
  by_cases h2 : x - (l.length : Int) < 0
  · rw [if_pos h2]; exact ⟨-1, rfl, fun h => by omega⟩
  · obtain ⟨t, e, -⟩ := szMessageS_l l (by omega) hg _ 0 (x - (l.length : Int)) rfl (by omega) (by omega) (by omega)
    rw [if_neg h2, e]
    exact ⟨t, rfl, fun _ => by omega⟩
def mTo (v : S90) : S63 := ⟨v.f0, v.f1, v.f2, v.f3, v.f4, v.f5, v.f6⟩
theorem toMessageS_v (l : List S90) (h : l.length ≤ 1048576) : laws_toMessageS.v l = some (l.map mTo) := by
  rw [laws_toMessageS.v_eq, if_pos (by omega), if_pos (by omega)]
  exact copy_loop z90 mTo l (by omega) (fun acc i => laws_toMessageS.lv0 l acc i) (fun acc i h0 h1 h2 => by
    show laws_toMessageS.lv0 l acc i = _
    rw [laws_toMessageS.lv0_eq, if_pos h1, if_pos h0, laws_toMessage.v_eq, Option.bind_some, if_pos (by omega)]; rfl) (fun acc i h0 => by
    show laws_toMessageS.lv0 l acc i = _
    rw [laws_toMessageS.lv0_eq, if_neg (by omega)]) l.length (List.replicate ((l.length : Int) : Int).toNat z63) 0 (by omega) (by omega) (by omega) (by simp) (fun j hj => by omega)
theorem eqMessageS_v (l : List S63) (h : l.length ≤ 281474976710656) : laws_eqMessageS.v l l = some true := by
  rw [laws_eqMessageS.v_eq, if_pos rfl, loop_all (L := fun i => laws_eqMessageS.lv0 l l i) (fun _ => true) l.length (by omega) (fun i h0 h1 => by
    show laws_eqMessageS.lv0 l l i = _
    rw [laws_eqMessageS.lv0_eq, if_pos h1, if_pos h0, if_pos h1, laws_eqMessage.v_eq, if_pos rfl, if_pos rfl, if_pos rfl, if_pos rfl, if_pos rfl, if_pos rfl, if_pos rfl, Option.bind_some]) (fun i h0 h1 => by
    show laws_eqMessageS.lv0 l l i = _
    rw [laws_eqMessageS.lv0_eq, if_neg (by omega)]) _ 0 rfl (by omega), (allI_iff _ _ _ _ rfl).2 (fun _ _ _ => rfl)]
theorem markMessageS_l : ∀ (d : Nat) (l : List S63) (k i : Int), ((l.length : Int) - i).toNat = d → 0 ≤ i → i ≤ l.length → l.length ≤ 281474976710656 → 0 ≤ k → k + 7 * (d : Int) ≤ 4611686018427387904 → ∃ l', laws_markMessageS.lv0 l k i = some (k + 7 * (d : Int), l')
  | 0, l, k, i, h, h0, h1, hl, hk, hk2 => ⟨l, by rw [laws_markMessageS.lv0_eq, if_neg (by omega)]; simp⟩
  | d + 1, l, k, i, h, h0, h1, hl, hk, hk2 => by
    have hlt : i < (l.length : Int) := by omega
    have w1 : wrap64 (k + 1) = k + 1 := wrap_id (by omega) (by omega)
    have w2 : wrap64 (k + 1 + 1) = k + 1 + 1 := wrap_id (by omega) (by omega)
    have w3 : wrap64 (k + 1 + 1 + 1) = k + 1 + 1 + 1 := wrap_id (by omega) (by omega)
    have w4 : wrap64 (k + 1 + 1 + 1 + 1) = k + 1 + 1 + 1 + 1 := wrap_id (by omega) (by omega)
    have w5 : wrap64 (k + 1 + 1 + 1 + 1 + 1) = k + 1 + 1 + 1 + 1 + 1 := wrap_id (by omega) (by omega)
    have w6 : wrap64 (k + 1 + 1 + 1 + 1 + 1 + 1) = k + 1 + 1 + 1 + 1 + 1 + 1 := wrap_id (by omega) (by omega)
    have w7 : wrap64 (k + 1 + 1 + 1 + 1 + 1 + 1 + 1) = k + 1 + 1 + 1 + 1 + 1 + 1 + 1 := wrap_id (by omega) (by omega)
    have wi : wrap64 (i + 1) = i + 1 := wrap_id (by omega) (by omega)
    have t4 := markText_v (k + 1 + 1 + 1 + 1) (by clear w1 w2 w3 w4 w5 w6 w7 wi; omega) (by clear w1 w2 w3 w4 w5 w6 w7 wi; omega)
    have t5 := markText_v (k + 1 + 1 + 1 + 1 + 1) (by clear w1 w2 w3 w4 w5 w6 w7 wi; omega) (by clear w1 w2 w3 w4 w5 w6 w7 wi; omega)
    have t6 := markText_v (k + 1 + 1 + 1 + 1 + 1 + 1) (by clear w1 w2 w3 w4 w5 w6 w7 wi; omega) (by clear w1 w2 w3 w4 w5 w6 w7 wi; omega)
    rw [laws_markMessageS.lv0_eq, if_pos hlt, if_pos h0]
    simp only [w1, w2, w3, w4, w5, w6, w7, wi, t4, t5, t6, Option.bind_some]
    clear w1 w2 w3 w4 w5 w6 w7 wi t4 t5 t6
    generalize hL : List.set _ _ _ = L
    have hLl : L.length = l.length := by rw [← hL]; simp only [List.length_set]
    obtain ⟨l', e⟩ := markMessageS_l d L (k + 1 + 1 + 1 + 1 + 1 + 1 + 1) (i + 1) (by omega) (by omega) (by omega) (by omega) (by omega) (by omega)
    exact ⟨l', by rw [e]; congr 2; omega⟩
theorem markMessageS_v (l : List S63) (h : l.length ≤ 281474976710656) : ∃ l', laws_markMessageS.v l 1 = some (1 + 7 * (l.length : Int), l') := by
  obtain ⟨l', e⟩ := markMessageS_l l.length l 1 0 (by omega) (by omega) (by omega) h (by omega) (by omega)
  exact ⟨l', by rw [laws_markMessageS.v_eq, e]⟩
theorem bytesOf_range (s : ByteArray) : ∀ c ∈ bytesOf s, 0 ≤ c ∧ c ≤ 255 := by
  intro c hc
  unfold bytesOf at hc
  obtain ⟨b, _, rfl⟩ := List.mem_map.1 hc
  have := b.toNat_lt
  omega
def byteL (l : List Int) : Prop := ∀ y ∈ l, 0 ≤ y ∧ y ≤ 255
theorem byteL_nil : byteL [] := fun y h => by cases h
theorem byteL_cons {a : Int} {l : List Int} (h0 : 0 ≤ a) (h1 : a ≤ 255) (h : byteL l) : byteL (a :: l) := by
  intro y hy
  rcases List.mem_cons.1 hy with rfl | hy
  · exact ⟨h0, h1⟩
  · exact h y hy
theorem byteL_append {a b : List Int} (ha : byteL a) (hb : byteL b) : byteL (a ++ b) := by
  intro y hy
  rcases List.mem_append.1 hy with hy | hy
  · exact ha y hy
  · exact hb y hy
theorem bytes_str (l : List Int) (h : byteL l) : bytesOf (strOfNums l) = l := by
  unfold bytesOf
  rw [strOfNums_data, List.map_map]
  conv => rhs; rw [← List.map_id l]
  apply List.map_congr_left
  intro y hy
  have := h y hy
  simp only [Function.comp, id]
  rw [UInt8.toNat_ofNat']
  omega
theorem str_bytes (s : ByteArray) : strOfNums (bytesOf s) = s := by
  apply ByteArray.ext
  apply Array.toList_inj.1
  rw [strOfNums_data]
  unfold bytesOf
  rw [List.map_map]
  conv => rhs; rw [← List.map_id s.data.toList]
  apply List.map_congr_left
  intro y _
  simp only [Function.comp, id]
  rw [Int.toNat_natCast]
  exact UInt8.ofNat_toNat
theorem byteL_bytes (s : ByteArray) : byteL (bytesOf s) := bytesOf_range s
theorem str_append (a b : List Int) : strOfNums (a ++ b) = strOfNums a ++ strOfNums b := by
  apply ByteArray.ext
  apply Array.toList_inj.1
  rw [ByteArray.data_append, Array.toList_append, strOfNums_data, strOfNums_data, strOfNums_data, List.map_append]
/-- n in k bytes, the high one first. -/
def beL (n : Int) : Nat → List Int
  | 0 => []
  | k + 1 => beL (n / 256) k ++ [n % 256]
theorem beL_len (n : Int) (k : Nat) : (beL n k).length = k := by
  induction k generalizing n with
  | zero => rfl
  | succ k ih => simp [beL, ih]
theorem byteL_be (n : Int) (k : Nat) : byteL (beL n k) := by
  induction k generalizing n with
  | zero => exact byteL_nil
  | succ k ih => exact byteL_append (ih _) (byteL_cons (by omega) (by omega) byteL_nil)
theorem impl_number1 (n : Int) : impl_number.v n 1 = some (strOfNums (beL n 1)) := by
  have w0 : wrap64 (1 - 1) = 0 := by rw [wrap_id (by omega) (by omega)]; rfl
  have w1 : wrap64 (0 - 1) = -1 := by rw [wrap_id (by omega) (by omega)]; rfl
  rw [impl_number.v_eq, if_pos (by omega), if_pos (by simp), w0, impl_number.lv0_eq, if_pos (by omega), if_pos (by omega), if_pos (by simp), w1, impl_number.lv0_eq, if_neg (by omega)]
  rfl
theorem impl_number2 (n : Int) : impl_number.v n 2 = some (strOfNums (beL n 2)) := by
  have w2 : wrap64 (2 - 1) = 1 := by rw [wrap_id (by omega) (by omega)]; rfl
  have w0 : wrap64 (1 - 1) = 0 := by rw [wrap_id (by omega) (by omega)]; rfl
  have w1 : wrap64 (0 - 1) = -1 := by rw [wrap_id (by omega) (by omega)]; rfl
  rw [impl_number.v_eq, if_pos (by omega), if_pos (by simp), w2, impl_number.lv0_eq, if_pos (by omega), if_pos (by omega), if_pos (by simp), w0, impl_number.lv0_eq, if_pos (by omega), if_pos (by omega), if_pos (by simp), w1, impl_number.lv0_eq, if_neg (by omega)]
  rfl
theorem be_front (j : Nat) : ∀ n : Int, beL n (j + 1) = (n / 256 ^ j % 256) :: beL n j := by
  induction j with
  | zero => intro n; simp [beL]
  | succ j ih =>
    intro n
    have h : beL n (j + 1 + 1) = beL (n / 256) (j + 1) ++ [n % 256] := rfl
    have h2 : n / 256 / 256 ^ j = n / 256 ^ (j + 1) := by
      rw [Int.ediv_ediv_of_nonneg (by omega), Int.pow_succ, Int.mul_comm]
    rw [h, ih, h2]
    rfl
theorem shr_be (n : Int) (j : Nat) (hj : j ≤ 7) : shr .i64 n (IntKind.u64.wrap (wrap64 (8 * (j : Int)))) = n / 256 ^ j := by
  have w : wrap64 (8 * (j : Int)) = ((8 * j : Nat) : Int) := by rw [wrap_id (by omega) (by omega)]; omega
  have w2 : IntKind.u64.wrap ((8 * j : Nat) : Int) = ((8 * j : Nat) : Int) := by
    have : 8 * j < 18446744073709551616 := by omega
    unfold IntKind.wrap
    simp [IntKind.bits, IntKind.signed]
    omega
  rw [w, w2]
  clear w w2
  unfold shr
  rw [Int.toNat_natCast, Nat.min_eq_left (by show 8 * j ≤ 64; omega), Int.pow_mul]
  rfl
theorem spec_number_l (n : Int) : ∀ (j : Nat) (acc : List Int), j ≤ 8 → acc.length + j ≤ 1000000 → spec_l02Number.lv0 n acc ((j : Int) - 1) = some (acc ++ beL n j)
  | 0, acc, hj, ha => by rw [spec_l02Number.lv0_eq, if_neg (by omega)]; simp [beL]
  | j + 1, acc, hj, ha => by
    have ih := spec_number_l n j (acc ++ [n / 256 ^ j % 256]) (by omega) (by rw [List.length_append]; show acc.length + 1 + j ≤ _; omega)
    have e : (((j + 1 : Nat) : Int) - 1) = (j : Int) := by omega
    have hs := shr_be n j (by omega)
    have h0 : 0 ≤ IntKind.u64.wrap (wrap64 (8 * (j : Int))) := by
      have w : wrap64 (8 * (j : Int)) = ((8 * j : Nat) : Int) := by rw [wrap_id (by omega) (by omega)]; omega
      rw [w]
      clear w hs
      unfold IntKind.wrap
      simp [IntKind.bits, IntKind.signed]
      omega
    have w : wrap64 ((j : Int) - 1) = (j : Int) - 1 := wrap_id (by omega) (by omega)
    have c1 : (j : Int) ≥ 0 := by omega
    have c2 : acc.length < 140737488355328 := by omega
    rw [e, spec_l02Number.lv0_eq, if_pos c1, if_pos h0, if_pos c2, hs, w, ih, be_front, List.append_assoc]
    rfl
theorem spec_number_v (n : Int) (k : Nat) (hk : k ≤ 8) : spec_l02Number.v n k = some (beL n k) := by
  have w : wrap64 ((k : Int) - 1) = (k : Int) - 1 := wrap_id (by omega) (by omega)
  rw [spec_l02Number.v_eq, w, spec_number_l n k [] hk (by simp; omega)]
  rfl
/-- A text behind its length of two bytes; a list of them. -/
def encT (t : ByteArray) : List Int := beL t.size 2 ++ bytesOf t
def encR : List ByteArray → List Int
  | [] => []
  | t :: r => encT t ++ encR r
theorem byteL_encT (t : ByteArray) : byteL (encT t) := byteL_append (byteL_be _ _) (byteL_bytes t)
theorem byteL_encR : ∀ l : List ByteArray, byteL (encR l)
  | [] => byteL_nil
  | t :: r => byteL_append (byteL_encT t) (byteL_encR r)
theorem encT_len (t : ByteArray) : (encT t).length = 2 + t.size := by unfold encT; rw [List.length_append, beL_len, bytesOf_length]
theorem encR_len (t : ByteArray) (r : List ByteArray) : (encR (t :: r)).length = 2 + t.size + (encR r).length := by
  show (encT t ++ encR r).length = _
  rw [List.length_append, encT_len]
theorem rdOf_at (l : List ByteArray) (i : Nat) (h : i < l.length) : rdOf ByteArray.empty l i = l[i] := by
  unfold rdOf
  rw [Int.toNat_natCast, List.getD_eq_getElem?_getD, List.getElem?_eq_getElem h]
  rfl
theorem spec_list_l (l : List ByteArray) (hl : l.length ≤ 100) (ht : ∀ t ∈ l, t.size ≤ 20000) : ∀ (k i : Nat) (x : List Int), l.length - i = k → i ≤ l.length → x.length + (encR (l.drop i)).length ≤ 65536 →
    spec_l02List.lv0 l x i = some (x ++ encR (l.drop i))
  | 0, i, x, h, hi, hx => by
    rw [spec_l02List.lv0_eq, if_neg (by omega), List.drop_of_length_le (by omega)]
    simp [encR]
  | k + 1, i, x, h, hi, hx => by
    have hlt : i < l.length := by omega
    have hd : l.drop i = l[i] :: l.drop (i + 1) := List.drop_eq_getElem_cons hlt
    rw [hd, encR_len] at hx
    have hb := beL_len (l[i].size : Int) 2
    have ih := spec_list_l l hl ht k (i + 1) (x ++ beL (l[i].size : Int) 2 ++ bytesOf l[i]) (by omega) (by omega) (by simp only [List.length_append, hb, bytesOf_length]; omega)
    have c1 : (i : Int) < (l.length : Int) := by omega
    have c2 : (0 : Int) ≤ (i : Int) := by omega
    have c4 : x.length + (beL (l[i].size : Int) 2).length < 140737488355328 := by omega
    have c5 : (x ++ beL (l[i].size : Int) 2).length + l[i].size < 140737488355328 := by rw [List.length_append]; omega
    have hn : spec_l02Number.v (l[i].size : Int) 2 = some (beL (l[i].size : Int) 2) := spec_number_v _ 2 (by omega)
    rw [spec_l02List.lv0_eq]
    have w : wrap64 ((i : Int) + 1) = ((i + 1 : Nat) : Int) := by rw [wrap_id (by omega) (by omega)]; omega
    simp only [w, if_pos c1, if_pos c2, rdOf_at l i hlt, hn, Option.bind_some, if_pos c4, if_pos c5, ih]
    rw [hd]
    simp [encR, encT, List.append_assoc]
theorem spec_l02List_v (l : List ByteArray) (hl : l.length ≤ 100) (ht : ∀ t ∈ l, t.size ≤ 20000) (hs : 1 + (encR l).length ≤ 65536) : spec_l02List.v l = some (beL l.length 1 ++ encR l) := by
  have h := spec_list_l l hl ht l.length 0 [(l.length : Int) % 256] (by omega) (by omega) (by simpa [Nat.add_comm] using hs)
  rw [spec_l02List.v_eq]
  exact h
theorem ba_nil' (s : ByteArray) : (s.toList == ([] : List UInt8)) = decide (s.size = 0) := by
  rw [Bool.eq_iff_iff]
  simp only [beq_iff_eq, decide_eq_true_eq]
  rw [ba_toList]
  constructor
  · intro h; show s.data.size = 0; rw [← Array.length_toList, h]; rfl
  · intro h; have h2 : s.data.toList.length = 0 := by rw [Array.length_toList]; exact h
    exact List.eq_nil_of_length_eq_zero h2
theorem ba_ne' (s : ByteArray) : (s.toList != ([] : List UInt8)) = decide (s.size ≠ 0) := by
  rw [bne, ba_nil']; simp
theorem spec_l01In_v (n low high : Int) : spec_l01In.v n low high = some (inB n low high) := by
  rw [spec_l01In.v_eq]; unfold inB; split <;> simp <;> omega
theorem impl_within_v (n low high : Int) : impl_within.v n low high = some (inB n low high) := by
  rw [impl_within.v_eq]; unfold inB; split <;> simp <;> omega
def msgB (k v s f : Int) (d b m : ByteArray) : Bool :=
  inB k 1 5 && inB v 0 20 && inB f 0 6 && decide (m.size = 8) && decide (b.size ≤ 20000) && (if k ≤ 3 then inB s 1 8 && decide (d.size = 32) && (decide (b.size ≠ 0) == decide (k = 1)) else decide (s = 0) && decide (d.size = 0))
theorem spec_MessageOK_v (k v s f : Int) (d b m : ByteArray) : spec_MessageOK.v k v s f d b m = some (msgB k v s f d b m) := by
  rw [spec_MessageOK.v_eq]
  simp only [spec_l01In_v, Option.bind_some, spec_MessageOK.jv0_eq, ba_nil', ba_ne', msgB]
  have e4 : ((m.size : Int) = 8) = (m.size = 8) := propext ⟨by omega, by omega⟩
  have e5 : ((b.size : Int) > 20000) = ¬ (b.size ≤ 20000) := propext ⟨by omega, by omega⟩
  have e6 : ((d.size : Int) = 32) = (d.size = 32) := propext ⟨by omega, by omega⟩
  simp only [e4, e5, e6]
  generalize inB v 0 20 = q1
  generalize inB f 0 6 = q2
  generalize inB s 1 8 = q3
  by_cases hk : 1 ≤ k ∧ k ≤ 5
  · have hk2 : inB k 1 5 = true := by simp [inB, hk]
    rw [hk2]
    cases q1
    · simp
    cases q2
    · simp
    by_cases h4 : m.size = 8
    · by_cases h5 : b.size ≤ 20000
      · simp only [h4, h5, if_true, not_true_eq_false, decide_false, decide_true, Bool.false_eq_true, if_false, Bool.true_and, Bool.and_true]
        have hk3 : k = 1 ∨ k = 2 ∨ k = 3 ∨ k = 4 ∨ k = 5 := by omega
        rcases hk3 with rfl | rfl | rfl | rfl | rfl <;> cases q3 <;> by_cases h6 : d.size = 32 <;> by_cases h7 : b.size = 0 <;> by_cases h8 : s = 0 <;> simp [h6, h7, h8]
      · simp [h4, h5]
    · simp [h4]
  · have hk2 : inB k 1 5 = false := by simp only [inB, decide_eq_false_iff_not]; exact hk
    rw [hk2]; simp
theorem impl_MessageOK_v (k v s f : Int) (d b m : ByteArray) : impl_MessageOK.v k v s f d b m = some (msgB k v s f d b m) := by
  rw [impl_MessageOK.v_eq]
  simp only [impl_within_v, Option.bind_some, impl_MessageOK.jv0_eq, impl_MessageOK.jv1_eq, impl_isHash.v_eq, ba_nil', ba_ne', msgB]
  have e4 : ((m.size : Int) = 8) = (m.size = 8) := propext ⟨by omega, by omega⟩
  have e5 : ((b.size : Int) > 20000) = ¬ (b.size ≤ 20000) := propext ⟨by omega, by omega⟩
  have e6 : ((d.size : Int) == 32) = decide (d.size = 32) := by rw [Bool.eq_iff_iff]; simp; omega
  simp only [e4, e5, e6]
  generalize inB v 0 20 = q1
  generalize inB f 0 6 = q2
  generalize inB s 1 8 = q3
  cases q1
  · simp
  cases q2
  · simp
  by_cases h4 : m.size = 8
  · by_cases h5 : b.size ≤ 20000
    · simp only [h4, h5, if_true, not_true_eq_false, decide_false, decide_true, Bool.false_eq_true, if_false, Bool.true_and, Bool.and_true]
      by_cases hk : 1 ≤ k ∧ k ≤ 5
      · have hk2 : inB k 1 5 = true := by simp [inB, hk]
        rw [hk2]
        have hk3 : k = 1 ∨ k = 2 ∨ k = 3 ∨ k = 4 ∨ k = 5 := by omega
        rcases hk3 with rfl | rfl | rfl | rfl | rfl <;> cases q3 <;> by_cases h6 : d.size = 32 <;> by_cases h7 : b.size = 0 <;> by_cases h8 : s = 0 <;> simp [h6, h7, h8]
      · have hk2 : inB k 1 5 = false := by simp only [inB, decide_eq_false_iff_not]; exact hk
        rw [hk2]
        have h1 : ¬ k = 1 := by omega
        have h2 : ¬ k = 2 := by omega
        have h3 : ¬ k = 3 := by omega
        have h44 : ¬ k = 4 := by omega
        have h55 : ¬ k = 5 := by omega
        simp [h1, h2, h3, h44, h55]
    · simp [h4, h5]
  · simp [h4]
def plainL (k v s f : Int) (d b : ByteArray) : List Int := [k % 256, v % 256, s % 256, f % 256, (d.size : Int) % 256] ++ (bytesOf d ++ (beL b.size 2 ++ bytesOf b))
def msgL (k v s f : Int) (d b m : ByteArray) : List Int := plainL k v s f d b ++ bytesOf m
theorem plainL_len (k v s f : Int) (d b : ByteArray) : (plainL k v s f d b).length = 7 + d.size + b.size := by
  unfold plainL
  simp only [List.length_append, List.length_cons, List.length_nil, beL_len, bytesOf_length]
  omega
theorem msgL_len (k v s f : Int) (d b m : ByteArray) : (msgL k v s f d b m).length = 7 + d.size + b.size + m.size := by
  unfold msgL
  rw [List.length_append, plainL_len, bytesOf_length]
theorem impl_bareText_v (k v s f : Int) (d b m : ByteArray) (hd : d.size ≤ 1000000) (hb : b.size ≤ 1000000) : impl_bareText.v k v s f d b m = some (strOfNums (plainL k v s f d b)) := by
  have e : plainL k v s f d b = beL k 1 ++ beL v 1 ++ beL s 1 ++ beL f 1 ++ beL (d.size : Int) 1 ++ bytesOf d ++ beL (b.size : Int) 2 ++ bytesOf b := by simp [plainL, beL, List.append_assoc]
  rw [impl_bareText.v_eq]
  simp only [impl_number1, impl_number2, Option.bind_some, ByteArray.size_append, strOf_size, beL_len]
  rw [if_pos (by omega), if_pos (by omega), if_pos (by omega), if_pos (by omega), if_pos (by omega), if_pos (by omega), if_pos (by omega), e, str_append, str_append, str_append, str_append, str_append, str_append, str_append, str_bytes, str_bytes]
theorem impl_messageText_v (k v s f : Int) (d b m : ByteArray) (hd : d.size ≤ 1000000) (hb : b.size ≤ 1000000) (hm : m.size ≤ 1000000) : impl_messageText.v k v s f d b m = some (strOfNums (msgL k v s f d b m)) := by
  rw [impl_messageText.v_eq, impl_bareText_v k v s f d b m hd hb, Option.bind_some, if_pos (by rw [strOf_size, plainL_len]; omega)]
  unfold msgL
  rw [str_append, str_bytes]
theorem spec_l02Plain_v (k v s f : Int) (d b m : ByteArray) (hd : d.size ≤ 1000000) (hb : b.size ≤ 1000000) : spec_l02Plain.v k v s f d b m = some (plainL k v s f d b) := by
  have hn : spec_l02Number.v (b.size : Int) 2 = some (beL (b.size : Int) 2) := spec_number_v _ 2 (by omega)
  rw [spec_l02Plain.v_eq, Option.bind_some, if_pos (by simp; omega), Option.bind_some, hn, Option.bind_some]
  rw [if_pos (by simp [beL_len, bytesOf_length]; omega), Option.bind_some, if_pos (by simp [beL_len, bytesOf_length]; omega)]
  simp [plainL, List.append_assoc]
theorem spec_l02Message_v (k v s f : Int) (d b m : ByteArray) (hd : d.size ≤ 1000000) (hb : b.size ≤ 1000000) (hm : m.size ≤ 1000000) : spec_l02Message.v k v s f d b m = some (msgL k v s f d b m) := by
  rw [spec_l02Message.v_eq, spec_l02Plain_v k v s f d b m hd hb, Option.bind_some, if_pos (by rw [plainL_len]; omega)]
  rfl
theorem msgB_sizes {k v s f : Int} {d b m : ByteArray} (h : msgB k v s f d b m = true) : 1 ≤ k ∧ k ≤ 5 ∧ 0 ≤ v ∧ v ≤ 20 ∧ 0 ≤ f ∧ f ≤ 6 ∧ 0 ≤ s ∧ s ≤ 8 ∧ m.size = 8 ∧ b.size ≤ 20000 ∧ d.size ≤ 32 := by
  unfold msgB inB at h
  simp only [Bool.and_eq_true, decide_eq_true_eq] at h
  obtain ⟨⟨⟨⟨⟨h1, h2⟩, h3⟩, h4⟩, h5⟩, h6⟩ := h
  by_cases hk : k ≤ 3
  · rw [if_pos hk] at h6
    simp only [Bool.and_eq_true, decide_eq_true_eq] at h6
    omega
  · rw [if_neg hk] at h6
    simp only [Bool.and_eq_true, decide_eq_true_eq] at h6
    omega
theorem impl_list_l (l : List ByteArray) (hl : l.length ≤ 100) (ht : ∀ t ∈ l, t.size ≤ 20000) : ∀ (k i : Nat) (x : ByteArray), l.length - i = k → i ≤ l.length → x.size + (encR (l.drop i)).length ≤ 65536 →
    impl_listText.lv0 x l l.length i = some (x ++ strOfNums (encR (l.drop i)), 0)
  | 0, i, x, h, hi, hx => by
    rw [impl_listText.lv0_eq, if_neg (by omega), List.drop_of_length_le (by omega)]
    show some (x, (0 : Int)) = some (x ++ strOfNums [], 0)
    have : x ++ strOfNums [] = x := by
      apply ByteArray.ext; rw [ByteArray.data_append]; simp [strOfNums]
    rw [this]
  | k + 1, i, x, h, hi, hx => by
    have hlt : i < l.length := by omega
    have hd : l.drop i = l[i] :: l.drop (i + 1) := List.drop_eq_getElem_cons hlt
    have hsz := ht l[i] (List.getElem_mem hlt)
    rw [hd, encR_len] at hx
    have hb : (strOfNums (beL (l[i].size : Int) 2)).size = 2 := by rw [strOf_size, beL_len]
    have hs2 : (strOfNums (beL (l[i].size : Int) 2) ++ l[i]).size = 2 + l[i].size := by rw [ByteArray.size_append, hb]
    have hs3 : (x ++ (strOfNums (beL (l[i].size : Int) 2) ++ l[i])).size = x.size + (2 + l[i].size) := by rw [ByteArray.size_append, hs2]
    have ih := impl_list_l l hl ht k (i + 1) (x ++ (strOfNums (beL (l[i].size : Int) 2) ++ l[i])) (by omega) (by omega) (by rw [hs3]; omega)
    have c1 : (i : Int) < (l.length : Int) := by omega
    have c2 : (0 : Int) ≤ (i : Int) := by omega
    have c3 : ¬ ((l[i].size : Int) > 20000) := by omega
    have c4 : (strOfNums (beL (l[i].size : Int) 2)).size + l[i].size ≤ 9223372036854775807 := by omega
    have c5 : x.size + (strOfNums (beL (l[i].size : Int) 2) ++ l[i]).size ≤ 9223372036854775807 := by omega
    have c6 : ¬ (((x ++ (strOfNums (beL (l[i].size : Int) 2) ++ l[i])).size : Int) > 65536) := by rw [hs3]; omega
    rw [impl_listText.lv0_eq]
    have w : wrap64 ((i : Int) + 1) = ((i + 1 : Nat) : Int) := by rw [wrap_id (by omega) (by omega)]; omega
    simp only [w, if_pos c1, if_pos c2, rdOf_at l i hlt, if_neg c3, impl_number2, Option.bind_some, if_pos c4, if_pos c5, if_neg c6, ih]
    clear w
    rw [hd]
    show some (x ++ (strOfNums (beL (l[i].size : Int) 2) ++ l[i]) ++ strOfNums (encR (l.drop (i + 1))), (0 : Int)) = some (x ++ strOfNums (encT l[i] ++ encR (l.drop (i + 1))), 0)
    unfold encT
    rw [str_append, str_append, str_bytes, ByteArray.append_assoc]
theorem impl_listText_v (l : List ByteArray) (hl : l.length ≤ 100) (ht : ∀ t ∈ l, t.size ≤ 20000) (hs : 1 + (encR l).length ≤ 65536) :
    impl_listText.v l = some (strOfNums (beL l.length 1 ++ encR l), 0) := by
  have h := impl_list_l l hl ht l.length 0 (strOfNums (beL l.length 1)) (by omega) (by omega) (by rw [strOf_size, beL_len]; exact hs)
  rw [impl_listText.v_eq, if_neg (by omega), impl_number1, Option.bind_some]
  rw [List.drop_zero, ← str_append] at h
  exact h
theorem eqByteS_v (l : List Int) (h : l.length ≤ 281474976710656) : laws_eqByteS.v l l = some true := by
  rw [laws_eqByteS.v_eq, if_pos rfl, loop_all (L := fun i => laws_eqByteS.lv0 l l i) (fun _ => true) l.length (by omega) (fun i h0 h1 => by
    show laws_eqByteS.lv0 l l i = _
    rw [laws_eqByteS.lv0_eq, if_pos h1, if_pos h0, if_pos h1, if_pos rfl]; rfl) (fun i h0 h1 => by
    show laws_eqByteS.lv0 l l i = _
    rw [laws_eqByteS.lv0_eq, if_neg (by omega)]) _ 0 rfl (by omega), (allI_iff _ _ _ _ rfl).2 (fun _ _ _ => rfl)]
theorem bytes_held (l : List Int) (h : l.length ≤ 281474976710656) : ∃ l', laws_markByteS.v l 1 = some (1 + (l.length : Int), l') ∧ laws_heldByteS.v l' 1 = some (1 + (l.length : Int)) := by
  obtain ⟨l', h1, h2, h3⟩ := mark_held (0 : Int) (fun _ k => k % 256) (fun x k => decide (x = k % 256)) 1 (by omega) (fun x k _ _ => by simp) (fun l k i => laws_markByteS.lv0 l k i) (fun l k i => laws_heldByteS.lv0 l k i) (fun l k i h0 h1 h2 h3 => by
    show laws_markByteS.lv0 l k i = _
    rw [laws_markByteS.lv0_eq, if_pos h1, if_pos h0, wrap_id (x := k + 1) (by omega) (by omega)]) (fun l k i h0 => by
    show laws_markByteS.lv0 l k i = _
    rw [laws_markByteS.lv0_eq, if_neg (by omega)]) (fun l k i h0 h1 h2 h3 h4 => by
    show laws_heldByteS.lv0 l k i = _
    have h4' : l.getD i.toNat 0 = k % 256 := of_decide_eq_true h4
    rw [laws_heldByteS.lv0_eq, if_pos h1, if_pos h0, if_pos (show rd l i = k % 256 from h4'), wrap_id (x := k + 1) (by omega) (by omega)]) (fun l k i h0 => by
    show laws_heldByteS.lv0 l k i = _
    rw [laws_heldByteS.lv0_eq, if_neg (by omega)]) l 1 (by omega) (by omega) (by omega)
  exact ⟨l', by rw [laws_markByteS.v_eq]; simpa using h1, by rw [laws_heldByteS.v_eq]; simpa using h3⟩
def prepB (v : S63) : Bool := decide (v.f0 = 2) && msgB v.f0 v.f1 v.f2 v.f3 v.f4 v.f5 v.f6
def mText (v : S63) : ByteArray := strOfNums (msgL v.f0 v.f1 v.f2 v.f3 v.f4 v.f5 v.f6)
theorem rdM_at (l : List S63) (i : Nat) (h : i < l.length) : rd_T63 l (i : Int) = l[i] := by
  unfold rd_T63
  rw [List.getD, Int.toNat_natCast, List.getElem?_eq_getElem h]; rfl
theorem prep_sizes {v : S63} (h : prepB v = true) : v.f4.size ≤ 32 ∧ v.f5.size = 0 ∧ v.f6.size = 8 := by
  rw [prepB, Bool.and_eq_true, decide_eq_true_eq] at h
  obtain ⟨h1, h2⟩ := h
  have hs := msgB_sizes h2
  by_cases hb : v.f5.size = 0
  · rw [msgB, h1] at h2
    simp at h2
    omega
  · rw [msgB, h1] at h2
    simp [hb] at h2
theorem prep_impl (v : S63) : impl_isPrepare.v v.f0 v.f1 v.f2 v.f3 v.f4 v.f5 v.f6 = some (prepB v) := by
  rw [impl_isPrepare.v_eq, impl_MessageOK_v, Option.bind_some, prepB]
  by_cases h : v.f0 = 2
  · rw [if_pos h, decide_eq_true h, Bool.true_and]
  · rw [if_neg h, decide_eq_false h, Bool.false_and]
theorem cert_spec_l (a : ByteArray) (l : List S63) (hl : l.length ≤ 7) : ∀ (d i : Nat), l.length - i = d → i ≤ l.length → spec_CertBytes.lv0 i a l = if (l.drop i).all prepB = true then (spec_l06Bytes.v a l).bind fun t => some (t, 0) else some ([], 1)
  | 0, i, h, hi => by rw [spec_CertBytes.lv0_eq, if_neg (by omega), List.drop_eq_nil_of_le (by omega)]; rfl
  | d + 1, i, h, hi => by
    have hlt : i < l.length := by omega
    have w : wrap64 ((i : Int) + 1) = ((i + 1 : Nat) : Int) := by rw [wrap_id (by omega) (by omega)]; omega
    rw [spec_CertBytes.lv0_eq, if_pos (by omega), if_pos (by omega), rdM_at l i hlt, spec_MessageOK_v, Option.bind_some, w, cert_spec_l a l hl d (i + 1) (by omega) (by omega), List.drop_eq_getElem_cons hlt, List.all_cons]
    clear w
    have hp : prepB l[i] = (decide (l[i].f0 = 2) && msgB l[i].f0 l[i].f1 l[i].f2 l[i].f3 l[i].f4 l[i].f5 l[i].f6) := rfl
    cases hm : msgB l[i].f0 l[i].f1 l[i].f2 l[i].f3 l[i].f4 l[i].f5 l[i].f6 with
    | false => rw [hp, hm]; simp
    | true =>
      by_cases hk : l[i].f0 = 2
      · rw [hp, hm]; simp [hk]
      · rw [hp, hm]; simp [hk]
theorem cert_impl_l (l : List S63) (hl : l.length ≤ 7) : ∀ (d i : Nat) (acc : List ByteArray), l.length - i = d → i ≤ l.length → acc.length ≤ i + 1 → impl_certText.lv0 acc l l.length i = if (l.drop i).all prepB = true then (impl_listText.v (acc ++ (l.drop i).map mText)).bind fun bt => some (bt.1, bt.2) else some (⟨#[]⟩, 1)
  | 0, i, acc, h, hi, ha => by rw [impl_certText.lv0_eq, if_neg (by omega), List.drop_eq_nil_of_le (by omega)]; simp
  | d + 1, i, acc, h, hi, ha => by
    have hlt : i < l.length := by omega
    have w : wrap64 ((i : Int) + 1) = ((i + 1 : Nat) : Int) := by rw [wrap_id (by omega) (by omega)]; omega
    rw [impl_certText.lv0_eq, if_pos (by omega), if_pos (by omega), if_pos (by omega), rdM_at l i hlt, prep_impl, Option.bind_some, w, List.drop_eq_getElem_cons hlt, List.all_cons]
    clear w
    cases hp : prepB l[i] with
    | false => simp
    | true =>
      have hs := prep_sizes hp
      rw [if_pos rfl, impl_messageText_v _ _ _ _ _ _ _ (by omega) (by omega) (by omega), Option.bind_some, if_pos (by omega), cert_impl_l l hl d (i + 1) _ (by omega) (by omega) (by rw [List.length_append]; simp; omega), Bool.true_and, List.map_cons, List.append_assoc]
      rfl
theorem l06_l (a : ByteArray) (l : List S63) (hl : l.length ≤ 7) : ∀ (d i : Nat) (acc : List ByteArray), l.length - i = d → i ≤ l.length → acc.length ≤ i + 1 → (l.drop i).all prepB = true → spec_l06Bytes.lv0 acc i a l = (spec_l02List.v (acc ++ (l.drop i).map mText)).bind fun t => some t
  | 0, i, acc, h, hi, ha, _ => by rw [spec_l06Bytes.lv0_eq, if_neg (by omega), List.drop_eq_nil_of_le (by omega)]; simp
  | d + 1, i, acc, h, hi, ha, hall => by
    have hlt : i < l.length := by omega
    have w : wrap64 ((i : Int) + 1) = ((i + 1 : Nat) : Int) := by rw [wrap_id (by omega) (by omega)]; omega
    rw [List.drop_eq_getElem_cons hlt, List.all_cons, Bool.and_eq_true] at hall
    have hs := prep_sizes hall.1
    rw [spec_l06Bytes.lv0_eq, if_pos (by omega), if_pos (by omega), rdM_at l i hlt, spec_l02Message_v _ _ _ _ _ _ _ (by omega) (by omega) (by omega), Option.bind_some, w, if_pos (by omega), l06_l a l hl d (i + 1) _ (by omega) (by omega) (by rw [List.length_append]; simp; omega) hall.2, List.drop_eq_getElem_cons hlt, List.map_cons, List.append_assoc]
    rfl
theorem mText_size {v : S63} (h : prepB v = true) : (mText v).size ≤ 47 := by
  have := prep_sizes h
  rw [mText, strOf_size, msgL_len]; omega
theorem encM_le : ∀ l : List S63, l.all prepB = true → (encR (l.map mText)).length ≤ 49 * l.length
  | [], _ => by simp [encR]
  | v :: r, h => by
    rw [List.all_cons, Bool.and_eq_true] at h
    have h1 := mText_size h.1
    have h2 := encM_le r h.2
    rw [List.map_cons, encR_len, List.length_cons]; omega
theorem cert_eq (a : ByteArray) (l : List S63) : ∃ r : List Int × Int, spec_CertBytes.v a l = some r ∧ impl_CertBytes.v a l = some r ∧ r.1.length ≤ 100000 := by
  rw [spec_CertBytes.v_eq, impl_CertBytes.v_eq, impl_certText.v_eq]
  by_cases h7 : (l.length : Int) > 7
  · rw [if_pos h7, if_pos h7, spec_CertBytes.jv0_eq, impl_certText.jv0_eq]
    exact ⟨([], 1), rfl, rfl, by simp⟩
  rw [if_neg h7, if_neg h7, spec_CertBytes.jv0_eq, impl_certText.jv0_eq]
  by_cases ha : (a.size : Int) > 20000
  · rw [decide_eq_true ha]
    exact ⟨([], 1), rfl, rfl, by simp⟩
  rw [decide_eq_false ha]
  have hl : l.length ≤ 7 := by omega
  have s1 := cert_spec_l a l hl l.length 0 rfl (by omega)
  have i1 := cert_impl_l l hl l.length 0 [a] rfl (by omega) (by simp)
  rw [show ((0 : Nat) : Int) = 0 from rfl, List.drop_zero] at s1 i1
  simp only [Bool.false_eq_true, if_false]
  rw [s1, i1]
  cases hall : l.all prepB with
  | false => exact ⟨([], 1), rfl, rfl, by simp⟩
  | true =>
    have hsz : ∀ t ∈ a :: l.map mText, t.size ≤ 20000 := by
      intro t ht
      rcases List.mem_cons.1 ht with rfl | ht
      · omega
      · obtain ⟨v, hv, rfl⟩ := List.mem_map.1 ht
        have := mText_size (List.all_eq_true.1 hall v hv); omega
    have hlen : (a :: l.map mText).length ≤ 100 := by simp; omega
    have hE := encM_le l hall
    have hR : (encR (a :: l.map mText)).length ≤ 20400 := by rw [encR_len]; omega
    have e1 := impl_listText_v (a :: l.map mText) hlen hsz (by omega)
    have e2 := spec_l02List_v (a :: l.map mText) hlen hsz (by omega)
    have j1 := l06_l a l hl l.length 0 [a] rfl (by omega) (by simp) (by rw [List.drop_zero]; exact hall)
    rw [show ((0 : Nat) : Int) = 0 from rfl, List.drop_zero] at j1
    have hB : byteL (beL (a :: l.map mText).length 1 ++ encR (a :: l.map mText)) := byteL_append (byteL_be _ _) (byteL_encR _)
    have hL : (beL (a :: l.map mText).length 1 ++ encR (a :: l.map mText)).length ≤ 20401 := by rw [List.length_append, beL_len]; omega
    rw [if_pos rfl, if_pos rfl, spec_l06Bytes.v_eq, j1, List.singleton_append, e1, e2]
    simp only [Option.bind_some, if_true]
    rw [if_pos (by rw [strOf_size]; omega), bytes_str _ hB]
    exact ⟨_, rfl, rfl, Nat.le_trans hL (by omega)⟩
theorem FnExactCertBytes_pure (y0 : S34) : good34 y0 → laws_FnExactCertBytes.v y0.f0 y0.f1 = some true := by
  intro hg
  obtain ⟨hc, hl, hm⟩ := hg
  have hsz : ∃ t, laws_szCert.v y0.f0 y0.f1 1048576 = some t ∧ (¬ t < 0 → y0.f1.length ≤ 1048576) := by
    rw [laws_szCert.v_eq, wrap_id (x := 1048576 - (y0.f0.size : Int)) (by omega) (by omega)]
    by_cases h : (1048576 : Int) - (y0.f0.size : Int) < 0
    · rw [if_pos h]; exact ⟨-1, rfl, fun h => by omega⟩
    obtain ⟨t, e, ht⟩ := szMessageS_v y0.f1 (1048576 - (y0.f0.size : Int)) (by omega) (by omega) hl hm
    rw [if_neg h, e, Option.bind_some]
    by_cases h3 : t < 0
    · rw [if_pos h3]; exact ⟨-1, rfl, fun h => by omega⟩
    · rw [if_neg h3]; exact ⟨t, rfl, ht⟩
  obtain ⟨t, e, ht⟩ := hsz
  rw [laws_FnExactCertBytes.v_eq, e, Option.bind_some]
  by_cases h0 : t < 0
  · rw [if_pos h0]
  have hlen := ht h0
  have hto : laws_toCert.v y0.f0 y0.f1 = some (y0.f0, y0.f1.map mTo) := by rw [laws_toCert.v_eq, toMessageS_v _ hlen, Option.bind_some]
  obtain ⟨r, r1, r2, r3⟩ := cert_eq y0.f0 (y0.f1.map mTo)
  obtain ⟨l', m1⟩ := markMessageS_v (y0.f1.map mTo) (by rw [List.length_map]; omega)
  obtain ⟨b', b1, b2⟩ := bytes_held r.1 (by omega)
  have n1 : ¬ ((1 : Int) + 7 * ((y0.f1.map mTo).length : Int) < 0) := by omega
  have n2 : ¬ ((1 : Int) + (r.1.length : Int) < 0) := by omega
  simp only [if_neg h0, hto, Option.bind_some, r1, r2, if_true, bne_self_eq_false, laws_FnExactCertBytes.jv0_eq, laws_FnExactCertBytes.jv1_eq, laws_FnExactCertBytes.jv2_eq, laws_eqCert.v_eq, laws_markCert.v_eq, eqMessageS_v _ (show (y0.f1.map mTo).length ≤ 281474976710656 by rw [List.length_map]; omega), eqByteS_v r.1 (show r.1.length ≤ 281474976710656 by omega), m1, b1, b2, if_neg n1, if_neg n2, Bool.false_eq_true, if_false]
end Go.Proofs.Ytadablpppkjdbaa.A
end
