/- A part of the proof that FnExactReadBatch returns true at every input: plain functions, contracts and lemmas. No conditions. -/
import Derived.Test.YtofkobbiomhblaaQReadBatcha
set_option linter.unusedVariables false
set_option linter.unusedSimpArgs false
set_option linter.unusedSectionVars false
section
namespace Go.Proofs.Ytofkobbiomhblaa.A
open Go.RowKit Go.Proofs.YtofkobbiomhblaaW.PrintWords Go.Proofs.YtofkobbiomhblaaW.PrintLast Go.Proofs.YtofkobbiomhblaaW.PrintMore
attribute [local go_sem] max2_int min2_int max_two min_two max_three min_three max_four min_four
def laws_eqBatch.f (k : Nat) (a0_0 : Bool) (a0_1 : Int) (a0_2 : Int) (a0_3 : Int) (a0_4 : Int) (a0_5 : ByteArray) (l0_6 : List (S161)) (a1_0 : Bool) (a1_1 : Int) (a1_2 : Int) (a1_3 : Int) (a1_4 : Int) (a1_5 : ByteArray) (l1_6 : List (S161)) : Option (Bool) := if (a0_0 != a1_0) = true then (some false) else ((laws_eqRequest.f a0_1 a0_2 a0_3 a0_4 a0_5 a1_1 a1_2 a1_3 a1_4 a1_5).bind fun t1173 => (if t1173 = true then ((laws_eqReadingS.f k l0_6 l1_6).bind fun t1174 => (if t1174 = true then (some true) else (some false))) else (some false)))
theorem laws_eqBatch.mono : ∀ a0 a1 a2 a3 a4 a5 a6 a7 a8 a9 a10 a11 a12 a13 k, LeO (laws_eqBatch.f k a0 a1 a2 a3 a4 a5 a6 a7 a8 a9 a10 a11 a12 a13) (laws_eqBatch.f (k + 1) a0 a1 a2 a3 a4 a5 a6 a7 a8 a9 a10 a11 a12 a13) := by
  intro a0 a1 a2 a3 a4 a5 a6 a7 a8 a9 a10 a11 a12 a13 k
  unfold laws_eqBatch.f
  repeat' first
      | (with_reducible exact laws_eqReadingS.mono _ _ _)
      | (with_reducible exact LeO.refl _)
      | (with_reducible exact LeO.none _)
      | (with_reducible refine LeO.ite ?_ ?_)
      | (with_reducible refine LeO.bind ?_ (fun _ => ?_))
      | exact laws_eqReadingS.mono _ _ _
      | exact LeO.none _
      | refine LeO.ite ?_ ?_
      | refine LeO.bind ?_ (fun _ => ?_)
noncomputable def laws_eqBatch.v (a0_0 : Bool) (a0_1 : Int) (a0_2 : Int) (a0_3 : Int) (a0_4 : Int) (a0_5 : ByteArray) (l0_6 : List (S161)) (a1_0 : Bool) (a1_1 : Int) (a1_2 : Int) (a1_3 : Int) (a1_4 : Int) (a1_5 : ByteArray) (l1_6 : List (S161)) : Option (Bool) := lim (fun k_ => laws_eqBatch.f k_ a0_0 a0_1 a0_2 a0_3 a0_4 a0_5 l0_6 a1_0 a1_1 a1_2 a1_3 a1_4 a1_5 l1_6)
theorem laws_eqBatch.v_lim (a0_0 : Bool) (a0_1 : Int) (a0_2 : Int) (a0_3 : Int) (a0_4 : Int) (a0_5 : ByteArray) (l0_6 : List (S161)) (a1_0 : Bool) (a1_1 : Int) (a1_2 : Int) (a1_3 : Int) (a1_4 : Int) (a1_5 : ByteArray) (l1_6 : List (S161)) : LimIs (fun k_ => laws_eqBatch.f k_ a0_0 a0_1 a0_2 a0_3 a0_4 a0_5 l0_6 a1_0 a1_1 a1_2 a1_3 a1_4 a1_5 l1_6) (laws_eqBatch.v a0_0 a0_1 a0_2 a0_3 a0_4 a0_5 l0_6 a1_0 a1_1 a1_2 a1_3 a1_4 a1_5 l1_6) := lim_is (fun k_ => laws_eqBatch.mono a0_0 a0_1 a0_2 a0_3 a0_4 a0_5 l0_6 a1_0 a1_1 a1_2 a1_3 a1_4 a1_5 l1_6 k_)
theorem laws_eqBatch.v_eq (a0_0 : Bool) (a0_1 : Int) (a0_2 : Int) (a0_3 : Int) (a0_4 : Int) (a0_5 : ByteArray) (l0_6 : List (S161)) (a1_0 : Bool) (a1_1 : Int) (a1_2 : Int) (a1_3 : Int) (a1_4 : Int) (a1_5 : ByteArray) (l1_6 : List (S161)) : laws_eqBatch.v a0_0 a0_1 a0_2 a0_3 a0_4 a0_5 l0_6 a1_0 a1_1 a1_2 a1_3 a1_4 a1_5 l1_6 = (if (a0_0 != a1_0) = true then (some false) else ((laws_eqRequest.v a0_1 a0_2 a0_3 a0_4 a0_5 a1_1 a1_2 a1_3 a1_4 a1_5).bind fun t1173 => (if t1173 = true then ((laws_eqReadingS.v l0_6 l1_6).bind fun t1174 => (if t1174 = true then (some true) else (some false))) else (some false))) : Option (Bool)) := by
  refine LimIs.eq (laws_eqBatch.v_lim a0_0 a0_1 a0_2 a0_3 a0_4 a0_5 l0_6 a1_0 a1_1 a1_2 a1_3 a1_4 a1_5 l1_6) ?_
  simp only [laws_eqBatch.f]
  repeat' (with_reducible first | exact laws_eqReadingS.v_lim _ _ | exact laws_eqRequest.v_lim _ _ _ _ _ _ _ _ _ _ | exact LimIs.const _ | refine LimIs.ite ?_ ?_ | refine LimIs.bind ?_ (fun _ => ?_))
def laws_markReadingS.l0 : Nat → List (S161) → Int → Int → Option (Int × (List (S161)))
  | 0, _, _, _ => none
  | k + 1, x0, x1, x5 => if x5 < (x0.length : Int) then (if 0 ≤ x5 then ((some (x0.set (x5 : Int).toNat (⟨x1, (rd_T161 x0 x5).f1, (rd_T161 x0 x5).f2⟩ : S161) : List (S161))).bind fun y1175 => ((some (y1175.set (x5 : Int).toNat (⟨(rd_T161 y1175 x5).f0, wrap64 (x1 + 1), (rd_T161 y1175 x5).f2⟩ : S161) : List (S161))).bind fun y1176 => ((laws_markText.f k (wrap64 ((wrap64 (x1 + 1)) + 1))).bind fun t1177 => (laws_markReadingS.l0 k (y1176.set (x5 : Int).toNat (⟨(rd_T161 y1176 x5).f0, (rd_T161 y1176 x5).f1, t1177⟩ : S161)) (wrap64 ((wrap64 ((wrap64 (x1 + 1)) + 1)) + 1)) (wrap64 (x5 + 1)))))) else (none)) else (some (x1, x0))
def laws_markReadingS.f (k : Nat) (l0 : List (S161)) (a1 : Int) : Option (Int × (List (S161))) := laws_markReadingS.l0 k l0 a1 0
theorem laws_markReadingS.mono_l : ∀ k, (∀ y0 y1 y2, LeO (laws_markReadingS.l0 k y0 y1 y2) (laws_markReadingS.l0 (k + 1) y0 y1 y2))
  | 0 => fun _ _ _ r h => by simp [laws_markReadingS.l0] at h
  | k + 1 => by
    have ih0 := laws_markReadingS.mono_l k
    · intro y0 y1 y2
      unfold laws_markReadingS.l0
      repeat' first
      | (with_reducible exact ih0 _ _ _)
      | (with_reducible exact laws_markText.mono _ _)
      | (with_reducible exact LeO.refl _)
      | (with_reducible exact LeO.none _)
      | (with_reducible refine LeO.ite ?_ ?_)
      | (with_reducible refine LeO.bind ?_ (fun _ => ?_))
      | exact ih0 _ _ _
      | exact laws_markText.mono _ _
      | exact LeO.none _
      | refine LeO.ite ?_ ?_
      | refine LeO.bind ?_ (fun _ => ?_)
theorem laws_markReadingS.mono : ∀ a0 a1 k, LeO (laws_markReadingS.f k a0 a1) (laws_markReadingS.f (k + 1) a0 a1) := by
  intro a0 a1 k
  have ih0 := laws_markReadingS.mono_l k
  unfold laws_markReadingS.f
  repeat' first
      | (with_reducible exact ih0 _ _ _)
      | (with_reducible exact laws_markText.mono _ _)
      | (with_reducible exact LeO.refl _)
      | (with_reducible exact LeO.none _)
      | (with_reducible refine LeO.ite ?_ ?_)
      | (with_reducible refine LeO.bind ?_ (fun _ => ?_))
      | exact ih0 _ _ _
      | exact laws_markText.mono _ _
      | exact LeO.none _
      | refine LeO.ite ?_ ?_
      | refine LeO.bind ?_ (fun _ => ?_)
noncomputable def laws_markReadingS.lv0 (x0 : List (S161)) (x1 : Int) (x5 : Int) : Option (Int × (List (S161))) := lim (fun k_ => laws_markReadingS.l0 k_ x0 x1 x5)
noncomputable def laws_markReadingS.v (l0 : List (S161)) (a1 : Int) : Option (Int × (List (S161))) := lim (fun k_ => laws_markReadingS.f k_ l0 a1)
theorem laws_markReadingS.lv0_lim (x0 : List (S161)) (x1 : Int) (x5 : Int) : LimIs (fun k_ => laws_markReadingS.l0 k_ x0 x1 x5) (laws_markReadingS.lv0 x0 x1 x5) := lim_is (fun k_ => (laws_markReadingS.mono_l k_) x0 x1 x5)
theorem laws_markReadingS.v_lim (l0 : List (S161)) (a1 : Int) : LimIs (fun k_ => laws_markReadingS.f k_ l0 a1) (laws_markReadingS.v l0 a1) := lim_is (fun k_ => laws_markReadingS.mono l0 a1 k_)
theorem laws_markReadingS.lv0_eq (x0 : List (S161)) (x1 : Int) (x5 : Int) : laws_markReadingS.lv0 x0 x1 x5 = (if x5 < (x0.length : Int) then (if 0 ≤ x5 then ((some (x0.set (x5 : Int).toNat (⟨x1, (rd_T161 x0 x5).f1, (rd_T161 x0 x5).f2⟩ : S161) : List (S161))).bind fun y1175 => ((some (y1175.set (x5 : Int).toNat (⟨(rd_T161 y1175 x5).f0, wrap64 (x1 + 1), (rd_T161 y1175 x5).f2⟩ : S161) : List (S161))).bind fun y1176 => ((laws_markText.v (wrap64 ((wrap64 (x1 + 1)) + 1))).bind fun t1177 => (laws_markReadingS.lv0 (y1176.set (x5 : Int).toNat (⟨(rd_T161 y1176 x5).f0, (rd_T161 y1176 x5).f1, t1177⟩ : S161)) (wrap64 ((wrap64 ((wrap64 (x1 + 1)) + 1)) + 1)) (wrap64 (x5 + 1)))))) else (none)) else (some (x1, x0)) : Option (Int × (List (S161)))) := by
  refine LimIs.eq (laws_markReadingS.lv0_lim x0 x1 x5) ?_
  refine LimIs.step (fun k_ => (laws_markReadingS.mono_l k_) x0 x1 x5) ?_
  simp only [laws_markReadingS.l0]
  repeat' (with_reducible first | exact laws_markReadingS.lv0_lim _ _ _ | exact laws_markText.v_lim _ | exact LimIs.const _ | refine LimIs.ite ?_ ?_ | refine LimIs.bind ?_ (fun _ => ?_))
theorem laws_markReadingS.v_eq (l0 : List (S161)) (a1 : Int) : laws_markReadingS.v l0 a1 = (laws_markReadingS.lv0 l0 a1 0 : Option (Int × (List (S161)))) := by
  refine LimIs.eq (laws_markReadingS.v_lim l0 a1) ?_
  simp only [laws_markReadingS.f]
  repeat' (with_reducible first | exact laws_markReadingS.lv0_lim _ _ _ | exact LimIs.const _ | refine LimIs.ite ?_ ?_ | refine LimIs.bind ?_ (fun _ => ?_))
def laws_markBatch.f (k : Nat) (a0_0 : Bool) (a0_1 : Int) (a0_2 : Int) (a0_3 : Int) (a0_4 : Int) (a0_5 : ByteArray) (l0_6 : List (S161)) (a1 : Int) : Option (Int × (List (S161))) := (laws_markReadingS.f k l0_6 a1).bind fun bt1180 => (some (bt1180.1, bt1180.2))
theorem laws_markBatch.mono : ∀ a0 a1 a2 a3 a4 a5 a6 a7 k, LeO (laws_markBatch.f k a0 a1 a2 a3 a4 a5 a6 a7) (laws_markBatch.f (k + 1) a0 a1 a2 a3 a4 a5 a6 a7) := by
  intro a0 a1 a2 a3 a4 a5 a6 a7 k
  unfold laws_markBatch.f
  repeat' first
      | (with_reducible exact laws_markReadingS.mono _ _ _)
      | (with_reducible exact LeO.refl _)
      | (with_reducible exact LeO.none _)
      | (with_reducible refine LeO.ite ?_ ?_)
      | (with_reducible refine LeO.bind ?_ (fun _ => ?_))
      | exact laws_markReadingS.mono _ _ _
      | exact LeO.none _
      | refine LeO.ite ?_ ?_
      | refine LeO.bind ?_ (fun _ => ?_)
noncomputable def laws_markBatch.v (a0_0 : Bool) (a0_1 : Int) (a0_2 : Int) (a0_3 : Int) (a0_4 : Int) (a0_5 : ByteArray) (l0_6 : List (S161)) (a1 : Int) : Option (Int × (List (S161))) := lim (fun k_ => laws_markBatch.f k_ a0_0 a0_1 a0_2 a0_3 a0_4 a0_5 l0_6 a1)
theorem laws_markBatch.v_lim (a0_0 : Bool) (a0_1 : Int) (a0_2 : Int) (a0_3 : Int) (a0_4 : Int) (a0_5 : ByteArray) (l0_6 : List (S161)) (a1 : Int) : LimIs (fun k_ => laws_markBatch.f k_ a0_0 a0_1 a0_2 a0_3 a0_4 a0_5 l0_6 a1) (laws_markBatch.v a0_0 a0_1 a0_2 a0_3 a0_4 a0_5 l0_6 a1) := lim_is (fun k_ => laws_markBatch.mono a0_0 a0_1 a0_2 a0_3 a0_4 a0_5 l0_6 a1 k_)
theorem laws_markBatch.v_eq (a0_0 : Bool) (a0_1 : Int) (a0_2 : Int) (a0_3 : Int) (a0_4 : Int) (a0_5 : ByteArray) (l0_6 : List (S161)) (a1 : Int) : laws_markBatch.v a0_0 a0_1 a0_2 a0_3 a0_4 a0_5 l0_6 a1 = ((laws_markReadingS.v l0_6 a1).bind fun bt1180 => (some (bt1180.1, bt1180.2)) : Option (Int × (List (S161)))) := by
  refine LimIs.eq (laws_markBatch.v_lim a0_0 a0_1 a0_2 a0_3 a0_4 a0_5 l0_6 a1) ?_
  simp only [laws_markBatch.f]
  repeat' (with_reducible first | exact laws_markReadingS.v_lim _ _ | exact LimIs.const _ | refine LimIs.ite ?_ ?_ | refine LimIs.bind ?_ (fun _ => ?_))
def laws_heldReadingS.l0 : Nat → List (S161) → Int → Int → Option (Int)
  | 0, _, _, _ => none
  | k + 1, x0, x1, x5 => if x5 < (x0.length : Int) then (if 0 ≤ x5 then (if ((rd_T161 x0 x5).f0) = x1 then (if ((rd_T161 x0 x5).f1) = (wrap64 (x1 + 1)) then ((laws_markText.f k (wrap64 ((wrap64 (x1 + 1)) + 1))).bind fun t1185 => (if ((rd_T161 x0 x5).f2).toList = t1185.toList then (laws_heldReadingS.l0 k x0 (wrap64 ((wrap64 ((wrap64 (x1 + 1)) + 1)) + 1)) (wrap64 (x5 + 1))) else (some (-1)))) else (some (-1))) else (some (-1))) else (none)) else (some x1)
def laws_heldReadingS.f (k : Nat) (l0 : List (S161)) (a1 : Int) : Option (Int) := laws_heldReadingS.l0 k l0 a1 0
theorem laws_heldReadingS.mono_l : ∀ k, (∀ y0 y1 y2, LeO (laws_heldReadingS.l0 k y0 y1 y2) (laws_heldReadingS.l0 (k + 1) y0 y1 y2))
  | 0 => fun _ _ _ r h => by simp [laws_heldReadingS.l0] at h
  | k + 1 => by
    have ih0 := laws_heldReadingS.mono_l k
    · intro y0 y1 y2
      unfold laws_heldReadingS.l0
      repeat' first
      | (with_reducible exact ih0 _ _ _)
      | (with_reducible exact laws_markText.mono _ _)
      | (with_reducible exact LeO.refl _)
      | (with_reducible exact LeO.none _)
      | (with_reducible refine LeO.ite ?_ ?_)
      | (with_reducible refine LeO.bind ?_ (fun _ => ?_))
      | exact ih0 _ _ _
      | exact laws_markText.mono _ _
      | exact LeO.none _
      | refine LeO.ite ?_ ?_
      | refine LeO.bind ?_ (fun _ => ?_)
theorem laws_heldReadingS.mono : ∀ a0 a1 k, LeO (laws_heldReadingS.f k a0 a1) (laws_heldReadingS.f (k + 1) a0 a1) := by
  intro a0 a1 k
  have ih0 := laws_heldReadingS.mono_l k
  unfold laws_heldReadingS.f
  repeat' first
      | (with_reducible exact ih0 _ _ _)
      | (with_reducible exact laws_markText.mono _ _)
      | (with_reducible exact LeO.refl _)
      | (with_reducible exact LeO.none _)
      | (with_reducible refine LeO.ite ?_ ?_)
      | (with_reducible refine LeO.bind ?_ (fun _ => ?_))
      | exact ih0 _ _ _
      | exact laws_markText.mono _ _
      | exact LeO.none _
      | refine LeO.ite ?_ ?_
      | refine LeO.bind ?_ (fun _ => ?_)
noncomputable def laws_heldReadingS.lv0 (x0 : List (S161)) (x1 : Int) (x5 : Int) : Option (Int) := lim (fun k_ => laws_heldReadingS.l0 k_ x0 x1 x5)
noncomputable def laws_heldReadingS.v (l0 : List (S161)) (a1 : Int) : Option (Int) := lim (fun k_ => laws_heldReadingS.f k_ l0 a1)
theorem laws_heldReadingS.lv0_lim (x0 : List (S161)) (x1 : Int) (x5 : Int) : LimIs (fun k_ => laws_heldReadingS.l0 k_ x0 x1 x5) (laws_heldReadingS.lv0 x0 x1 x5) := lim_is (fun k_ => (laws_heldReadingS.mono_l k_) x0 x1 x5)
theorem laws_heldReadingS.v_lim (l0 : List (S161)) (a1 : Int) : LimIs (fun k_ => laws_heldReadingS.f k_ l0 a1) (laws_heldReadingS.v l0 a1) := lim_is (fun k_ => laws_heldReadingS.mono l0 a1 k_)
theorem laws_heldReadingS.lv0_eq (x0 : List (S161)) (x1 : Int) (x5 : Int) : laws_heldReadingS.lv0 x0 x1 x5 = (if x5 < (x0.length : Int) then (if 0 ≤ x5 then (if ((rd_T161 x0 x5).f0) = x1 then (if ((rd_T161 x0 x5).f1) = (wrap64 (x1 + 1)) then ((laws_markText.v (wrap64 ((wrap64 (x1 + 1)) + 1))).bind fun t1185 => (if ((rd_T161 x0 x5).f2).toList = t1185.toList then (laws_heldReadingS.lv0 x0 (wrap64 ((wrap64 ((wrap64 (x1 + 1)) + 1)) + 1)) (wrap64 (x5 + 1))) else (some (-1)))) else (some (-1))) else (some (-1))) else (none)) else (some x1) : Option (Int)) := by
  refine LimIs.eq (laws_heldReadingS.lv0_lim x0 x1 x5) ?_
  refine LimIs.step (fun k_ => (laws_heldReadingS.mono_l k_) x0 x1 x5) ?_
  simp only [laws_heldReadingS.l0]
  repeat' (with_reducible first | exact laws_heldReadingS.lv0_lim _ _ _ | exact laws_markText.v_lim _ | exact LimIs.const _ | refine LimIs.ite ?_ ?_ | refine LimIs.bind ?_ (fun _ => ?_))
theorem laws_heldReadingS.v_eq (l0 : List (S161)) (a1 : Int) : laws_heldReadingS.v l0 a1 = (laws_heldReadingS.lv0 l0 a1 0 : Option (Int)) := by
  refine LimIs.eq (laws_heldReadingS.v_lim l0 a1) ?_
  simp only [laws_heldReadingS.f]
  repeat' (with_reducible first | exact laws_heldReadingS.lv0_lim _ _ _ | exact LimIs.const _ | refine LimIs.ite ?_ ?_ | refine LimIs.bind ?_ (fun _ => ?_))
def laws_heldBatch.f (k : Nat) (a0_0 : Bool) (a0_1 : Int) (a0_2 : Int) (a0_3 : Int) (a0_4 : Int) (a0_5 : ByteArray) (l0_6 : List (S161)) (a1 : Int) : Option (Int) := (laws_heldReadingS.f k l0_6 a1).bind fun t1187 => (if t1187 < 0 then (some (-1)) else (some t1187))
theorem laws_heldBatch.mono : ∀ a0 a1 a2 a3 a4 a5 a6 a7 k, LeO (laws_heldBatch.f k a0 a1 a2 a3 a4 a5 a6 a7) (laws_heldBatch.f (k + 1) a0 a1 a2 a3 a4 a5 a6 a7) := by
  intro a0 a1 a2 a3 a4 a5 a6 a7 k
  unfold laws_heldBatch.f
  repeat' first
      | (with_reducible exact laws_heldReadingS.mono _ _ _)
      | (with_reducible exact LeO.refl _)
      | (with_reducible exact LeO.none _)
      | (with_reducible refine LeO.ite ?_ ?_)
      | (with_reducible refine LeO.bind ?_ (fun _ => ?_))
      | exact laws_heldReadingS.mono _ _ _
      | exact LeO.none _
      | refine LeO.ite ?_ ?_
      | refine LeO.bind ?_ (fun _ => ?_)
noncomputable def laws_heldBatch.v (a0_0 : Bool) (a0_1 : Int) (a0_2 : Int) (a0_3 : Int) (a0_4 : Int) (a0_5 : ByteArray) (l0_6 : List (S161)) (a1 : Int) : Option (Int) := lim (fun k_ => laws_heldBatch.f k_ a0_0 a0_1 a0_2 a0_3 a0_4 a0_5 l0_6 a1)
theorem laws_heldBatch.v_lim (a0_0 : Bool) (a0_1 : Int) (a0_2 : Int) (a0_3 : Int) (a0_4 : Int) (a0_5 : ByteArray) (l0_6 : List (S161)) (a1 : Int) : LimIs (fun k_ => laws_heldBatch.f k_ a0_0 a0_1 a0_2 a0_3 a0_4 a0_5 l0_6 a1) (laws_heldBatch.v a0_0 a0_1 a0_2 a0_3 a0_4 a0_5 l0_6 a1) := lim_is (fun k_ => laws_heldBatch.mono a0_0 a0_1 a0_2 a0_3 a0_4 a0_5 l0_6 a1 k_)
theorem laws_heldBatch.v_eq (a0_0 : Bool) (a0_1 : Int) (a0_2 : Int) (a0_3 : Int) (a0_4 : Int) (a0_5 : ByteArray) (l0_6 : List (S161)) (a1 : Int) : laws_heldBatch.v a0_0 a0_1 a0_2 a0_3 a0_4 a0_5 l0_6 a1 = ((laws_heldReadingS.v l0_6 a1).bind fun t1187 => (if t1187 < 0 then (some (-1)) else (some t1187)) : Option (Int)) := by
  refine LimIs.eq (laws_heldBatch.v_lim a0_0 a0_1 a0_2 a0_3 a0_4 a0_5 l0_6 a1) ?_
  simp only [laws_heldBatch.f]
  repeat' (with_reducible first | exact laws_heldReadingS.v_lim _ _ | exact LimIs.const _ | refine LimIs.ite ?_ ?_ | refine LimIs.bind ?_ (fun _ => ?_))
mutual
def laws_FnExactReadBatch.j0 : Nat → List Int → Int → List Int → Int → Bool → Bool → Int → Int → Int → Int → ByteArray → List (S161) → Bool → Int → Int → Int → Int → ByteArray → List (S161) → Option (Bool)
  | 0, _, _, _, _, _, _, _, _, _, _, _, _, _, _, _, _, _, _, _ => none
  | k + 1, x0, x4, x5, x7, x37, x1202000, x1202001, x1202002, x1202003, x1202004, x1202005, x1202006, x1216000, x1216001, x1216002, x1216003, x1216004, x1216005, x1216006 => if x37 = true then (some false) else ((laws_toByteS.f k x0).bind fun t1217 => ((laws_eqByteS.f k x5 t1217).bind fun t1220 => (if t1220 = true then ((laws_markByteS.f k x5 1).bind fun bt1221 => (if bt1221.1 < 0 then (laws_FnExactReadBatch.j1 k x0 x4 true x1202000 x1202001 x1202002 x1202003 x1202004 x1202005 x1202006 x1216000 x1216001 x1216002 x1216003 x1216004 x1216005 x1216006) else ((laws_eqBatch.f k x1216000 x1216001 x1216002 x1216003 x1216004 x1216005 x1216006 x1202000 x1202001 x1202002 x1202003 x1202004 x1202005 x1202006).bind fun t1223 => (if t1223 = true then (laws_FnExactReadBatch.j1 k x0 x4 (x7 != x4) x1202000 x1202001 x1202002 x1202003 x1202004 x1202005 x1202006 x1216000 x1216001 x1216002 x1216003 x1216004 x1216005 x1216006) else (laws_FnExactReadBatch.j1 k x0 x4 true x1202000 x1202001 x1202002 x1202003 x1202004 x1202005 x1202006 x1216000 x1216001 x1216002 x1216003 x1216004 x1216005 x1216006))))) else (some false))))
def laws_FnExactReadBatch.j1 : Nat → List Int → Int → Bool → Bool → Int → Int → Int → Int → ByteArray → List (S161) → Bool → Int → Int → Int → Int → ByteArray → List (S161) → Option (Bool)
  | 0, _, _, _, _, _, _, _, _, _, _, _, _, _, _, _, _, _ => none
  | k + 1, x0, x4, x58, x1202000, x1202001, x1202002, x1202003, x1202004, x1202005, x1202006, x1216000, x1216001, x1216002, x1216003, x1216004, x1216005, x1216006 => if x58 = true then (some false) else ((laws_markBatch.f k x1216000 x1216001 x1216002 x1216003 x1216004 x1216005 x1216006 1).bind fun bt1224 => ((laws_heldBatch.f k x1216000 x1216001 x1216002 x1216003 x1216004 x1216005 bt1224.2 1).bind fun t1226 => (if t1226 < 0 then (some false) else (if t1226 = bt1224.1 then ((laws_toByteS.f k x0).bind fun t1227 => ((impl_ReadBatch.f k t1227).bind fun bt1230 => ((laws_eqBatch.f k bt1230.1 bt1230.2.1 bt1230.2.2.1 bt1230.2.2.2.1 bt1230.2.2.2.2.1 bt1230.2.2.2.2.2.1 bt1230.2.2.2.2.2.2.1 x1202000 x1202001 x1202002 x1202003 x1202004 x1202005 x1202006).bind fun t1241 => (if t1241 = true then (laws_FnExactReadBatch.j2 k bt1224.1 (bt1230.2.2.2.2.2.2.2 != x4) x1216000 x1216001 x1216002 x1216003 x1216004 x1216005 bt1224.2) else (laws_FnExactReadBatch.j2 k bt1224.1 true x1216000 x1216001 x1216002 x1216003 x1216004 x1216005 bt1224.2))))) else (some false)))))
def laws_FnExactReadBatch.j2 : Nat → Int → Bool → Bool → Int → Int → Int → Int → ByteArray → List (S161) → Option (Bool)
  | 0, _, _, _, _, _, _, _, _, _ => none
  | k + 1, x9, x84, x1216000, x1216001, x1216002, x1216003, x1216004, x1216005, x1216006 => if x84 = true then (some false) else ((laws_heldBatch.f k x1216000 x1216001 x1216002 x1216003 x1216004 x1216005 x1216006 1).bind fun t1242 => (if t1242 < 0 then (some false) else (if t1242 = x9 then (some true) else (some false))))
end
def laws_FnExactReadBatch.f (k : Nat) (l0 : List Int) : Option (Bool) := if (l0.length : Int) > 1048576 then (some true) else ((laws_toByteS.f k l0).bind fun t1188 => ((spec_ReadBatch.f k t1188).bind fun bt1191 => ((laws_toByteS.f k l0).bind fun t1202 => ((impl_ReadBatch.f k t1202).bind fun bt1205 => ((laws_eqBatch.f k bt1205.1 bt1205.2.1 bt1205.2.2.1 bt1205.2.2.2.1 bt1205.2.2.2.2.1 bt1205.2.2.2.2.2.1 bt1205.2.2.2.2.2.2.1 bt1191.1 bt1191.2.1 bt1191.2.2.1 bt1191.2.2.2.1 bt1191.2.2.2.2.1 bt1191.2.2.2.2.2.1 bt1191.2.2.2.2.2.2.1).bind fun t1216 => (if t1216 = true then (laws_FnExactReadBatch.j0 k l0 bt1191.2.2.2.2.2.2.2 t1202 bt1205.2.2.2.2.2.2.2 (bt1205.2.2.2.2.2.2.2 != bt1191.2.2.2.2.2.2.2) bt1191.1 bt1191.2.1 bt1191.2.2.1 bt1191.2.2.2.1 bt1191.2.2.2.2.1 bt1191.2.2.2.2.2.1 bt1191.2.2.2.2.2.2.1 bt1205.1 bt1205.2.1 bt1205.2.2.1 bt1205.2.2.2.1 bt1205.2.2.2.2.1 bt1205.2.2.2.2.2.1 bt1205.2.2.2.2.2.2.1) else (laws_FnExactReadBatch.j0 k l0 bt1191.2.2.2.2.2.2.2 t1202 bt1205.2.2.2.2.2.2.2 true bt1191.1 bt1191.2.1 bt1191.2.2.1 bt1191.2.2.2.1 bt1191.2.2.2.2.1 bt1191.2.2.2.2.2.1 bt1191.2.2.2.2.2.2.1 bt1205.1 bt1205.2.1 bt1205.2.2.1 bt1205.2.2.2.1 bt1205.2.2.2.2.1 bt1205.2.2.2.2.2.1 bt1205.2.2.2.2.2.2.1)))))))
theorem laws_FnExactReadBatch.mono_l : ∀ k, (∀ y0 y1 y2 y3 y4 y5 y6 y7 y8 y9 y10 y11 y12 y13 y14 y15 y16 y17 y18, LeO (laws_FnExactReadBatch.j0 k y0 y1 y2 y3 y4 y5 y6 y7 y8 y9 y10 y11 y12 y13 y14 y15 y16 y17 y18) (laws_FnExactReadBatch.j0 (k + 1) y0 y1 y2 y3 y4 y5 y6 y7 y8 y9 y10 y11 y12 y13 y14 y15 y16 y17 y18)) ∧ (∀ y0 y1 y2 y3 y4 y5 y6 y7 y8 y9 y10 y11 y12 y13 y14 y15 y16, LeO (laws_FnExactReadBatch.j1 k y0 y1 y2 y3 y4 y5 y6 y7 y8 y9 y10 y11 y12 y13 y14 y15 y16) (laws_FnExactReadBatch.j1 (k + 1) y0 y1 y2 y3 y4 y5 y6 y7 y8 y9 y10 y11 y12 y13 y14 y15 y16)) ∧ (∀ y0 y1 y2 y3 y4 y5 y6 y7 y8, LeO (laws_FnExactReadBatch.j2 k y0 y1 y2 y3 y4 y5 y6 y7 y8) (laws_FnExactReadBatch.j2 (k + 1) y0 y1 y2 y3 y4 y5 y6 y7 y8))
  | 0 => ⟨fun _ _ _ _ _ _ _ _ _ _ _ _ _ _ _ _ _ _ _ r h => by simp [laws_FnExactReadBatch.j0] at h, fun _ _ _ _ _ _ _ _ _ _ _ _ _ _ _ _ _ r h => by simp [laws_FnExactReadBatch.j1] at h, fun _ _ _ _ _ _ _ _ _ r h => by simp [laws_FnExactReadBatch.j2] at h⟩
  | k + 1 => by
    obtain ⟨ih0, ih1, ih2⟩ := laws_FnExactReadBatch.mono_l k
    refine ⟨?_, ?_, ?_⟩
    · intro y0 y1 y2 y3 y4 y5 y6 y7 y8 y9 y10 y11 y12 y13 y14 y15 y16 y17 y18
      unfold laws_FnExactReadBatch.j0
      repeat' first
      | (with_reducible exact ih0 _ _ _ _ _ _ _ _ _ _ _ _ _ _ _ _ _ _ _)
      | (with_reducible exact ih1 _ _ _ _ _ _ _ _ _ _ _ _ _ _ _ _ _)
      | (with_reducible exact ih2 _ _ _ _ _ _ _ _ _)
      | (with_reducible exact impl_ReadBatch.mono _ _)
      | (with_reducible exact laws_eqBatch.mono _ _ _ _ _ _ _ _ _ _ _ _ _ _ _)
      | (with_reducible exact laws_eqByteS.mono _ _ _)
      | (with_reducible exact laws_heldBatch.mono _ _ _ _ _ _ _ _ _)
      | (with_reducible exact laws_markBatch.mono _ _ _ _ _ _ _ _ _)
      | (with_reducible exact laws_markByteS.mono _ _ _)
      | (with_reducible exact laws_toByteS.mono _ _)
      | (with_reducible exact spec_ReadBatch.mono _ _)
      | (with_reducible exact LeO.refl _)
      | (with_reducible exact LeO.none _)
      | (with_reducible refine LeO.ite ?_ ?_)
      | (with_reducible refine LeO.bind ?_ (fun _ => ?_))
      | exact ih0 _ _ _ _ _ _ _ _ _ _ _ _ _ _ _ _ _ _ _
      | exact ih1 _ _ _ _ _ _ _ _ _ _ _ _ _ _ _ _ _
      | exact ih2 _ _ _ _ _ _ _ _ _
      | exact impl_ReadBatch.mono _ _
      | exact laws_eqBatch.mono _ _ _ _ _ _ _ _ _ _ _ _ _ _ _
      | exact laws_eqByteS.mono _ _ _
      | exact laws_heldBatch.mono _ _ _ _ _ _ _ _ _
      | exact laws_markBatch.mono _ _ _ _ _ _ _ _ _
      | exact laws_markByteS.mono _ _ _
      | exact laws_toByteS.mono _ _
      | exact spec_ReadBatch.mono _ _
      | exact LeO.none _
      | refine LeO.ite ?_ ?_
      | refine LeO.bind ?_ (fun _ => ?_)
    · intro y0 y1 y2 y3 y4 y5 y6 y7 y8 y9 y10 y11 y12 y13 y14 y15 y16
      unfold laws_FnExactReadBatch.j1
      repeat' first
      | (with_reducible exact ih0 _ _ _ _ _ _ _ _ _ _ _ _ _ _ _ _ _ _ _)
      | (with_reducible exact ih1 _ _ _ _ _ _ _ _ _ _ _ _ _ _ _ _ _)
      | (with_reducible exact ih2 _ _ _ _ _ _ _ _ _)
      | (with_reducible exact impl_ReadBatch.mono _ _)
      | (with_reducible exact laws_eqBatch.mono _ _ _ _ _ _ _ _ _ _ _ _ _ _ _)
      | (with_reducible exact laws_eqByteS.mono _ _ _)
      | (with_reducible exact laws_heldBatch.mono _ _ _ _ _ _ _ _ _)
      | (with_reducible exact laws_markBatch.mono _ _ _ _ _ _ _ _ _)
      | (with_reducible exact laws_markByteS.mono _ _ _)
      | (with_reducible exact laws_toByteS.mono _ _)
      | (with_reducible exact spec_ReadBatch.mono _ _)
      | (with_reducible exact LeO.refl _)
      | (with_reducible exact LeO.none _)
      | (with_reducible refine LeO.ite ?_ ?_)
      | (with_reducible refine LeO.bind ?_ (fun _ => ?_))
      | exact ih0 _ _ _ _ _ _ _ _ _ _ _ _ _ _ _ _ _ _ _
      | exact ih1 _ _ _ _ _ _ _ _ _ _ _ _ _ _ _ _ _
      | exact ih2 _ _ _ _ _ _ _ _ _
      | exact impl_ReadBatch.mono _ _
      | exact laws_eqBatch.mono _ _ _ _ _ _ _ _ _ _ _ _ _ _ _
      | exact laws_eqByteS.mono _ _ _
      | exact laws_heldBatch.mono _ _ _ _ _ _ _ _ _
      | exact laws_markBatch.mono _ _ _ _ _ _ _ _ _
      | exact laws_markByteS.mono _ _ _
      | exact laws_toByteS.mono _ _
      | exact spec_ReadBatch.mono _ _
      | exact LeO.none _
      | refine LeO.ite ?_ ?_
      | refine LeO.bind ?_ (fun _ => ?_)
    · intro y0 y1 y2 y3 y4 y5 y6 y7 y8
      unfold laws_FnExactReadBatch.j2
      repeat' first
      | (with_reducible exact ih0 _ _ _ _ _ _ _ _ _ _ _ _ _ _ _ _ _ _ _)
      | (with_reducible exact ih1 _ _ _ _ _ _ _ _ _ _ _ _ _ _ _ _ _)
      | (with_reducible exact ih2 _ _ _ _ _ _ _ _ _)
      | (with_reducible exact impl_ReadBatch.mono _ _)
      | (with_reducible exact laws_eqBatch.mono _ _ _ _ _ _ _ _ _ _ _ _ _ _ _)
      | (with_reducible exact laws_eqByteS.mono _ _ _)
      | (with_reducible exact laws_heldBatch.mono _ _ _ _ _ _ _ _ _)
      | (with_reducible exact laws_markBatch.mono _ _ _ _ _ _ _ _ _)
      | (with_reducible exact laws_markByteS.mono _ _ _)
      | (with_reducible exact laws_toByteS.mono _ _)
      | (with_reducible exact spec_ReadBatch.mono _ _)
      | (with_reducible exact LeO.refl _)
      | (with_reducible exact LeO.none _)
      | (with_reducible refine LeO.ite ?_ ?_)
      | (with_reducible refine LeO.bind ?_ (fun _ => ?_))
      | exact ih0 _ _ _ _ _ _ _ _ _ _ _ _ _ _ _ _ _ _ _
      | exact ih1 _ _ _ _ _ _ _ _ _ _ _ _ _ _ _ _ _
      | exact ih2 _ _ _ _ _ _ _ _ _
      | exact impl_ReadBatch.mono _ _
      | exact laws_eqBatch.mono _ _ _ _ _ _ _ _ _ _ _ _ _ _ _
      | exact laws_eqByteS.mono _ _ _
      | exact laws_heldBatch.mono _ _ _ _ _ _ _ _ _
      | exact laws_markBatch.mono _ _ _ _ _ _ _ _ _
      | exact laws_markByteS.mono _ _ _
      | exact laws_toByteS.mono _ _
      | exact spec_ReadBatch.mono _ _
      | exact LeO.none _
      | refine LeO.ite ?_ ?_
      | refine LeO.bind ?_ (fun _ => ?_)
theorem laws_FnExactReadBatch.mono : ∀ a0 k, LeO (laws_FnExactReadBatch.f k a0) (laws_FnExactReadBatch.f (k + 1) a0) := by
  intro a0 k
  obtain ⟨ih0, ih1, ih2⟩ := laws_FnExactReadBatch.mono_l k
  unfold laws_FnExactReadBatch.f
  repeat' first
      | (with_reducible exact ih0 _ _ _ _ _ _ _ _ _ _ _ _ _ _ _ _ _ _ _)
      | (with_reducible exact ih1 _ _ _ _ _ _ _ _ _ _ _ _ _ _ _ _ _)
      | (with_reducible exact ih2 _ _ _ _ _ _ _ _ _)
      | (with_reducible exact impl_ReadBatch.mono _ _)
      | (with_reducible exact laws_eqBatch.mono _ _ _ _ _ _ _ _ _ _ _ _ _ _ _)
      | (with_reducible exact laws_eqByteS.mono _ _ _)
      | (with_reducible exact laws_heldBatch.mono _ _ _ _ _ _ _ _ _)
      | (with_reducible exact laws_markBatch.mono _ _ _ _ _ _ _ _ _)
      | (with_reducible exact laws_markByteS.mono _ _ _)
      | (with_reducible exact laws_toByteS.mono _ _)
      | (with_reducible exact spec_ReadBatch.mono _ _)
      | (with_reducible exact LeO.refl _)
      | (with_reducible exact LeO.none _)
      | (with_reducible refine LeO.ite ?_ ?_)
      | (with_reducible refine LeO.bind ?_ (fun _ => ?_))
      | exact ih0 _ _ _ _ _ _ _ _ _ _ _ _ _ _ _ _ _ _ _
      | exact ih1 _ _ _ _ _ _ _ _ _ _ _ _ _ _ _ _ _
      | exact ih2 _ _ _ _ _ _ _ _ _
      | exact impl_ReadBatch.mono _ _
      | exact laws_eqBatch.mono _ _ _ _ _ _ _ _ _ _ _ _ _ _ _
      | exact laws_eqByteS.mono _ _ _
      | exact laws_heldBatch.mono _ _ _ _ _ _ _ _ _
      | exact laws_markBatch.mono _ _ _ _ _ _ _ _ _
      | exact laws_markByteS.mono _ _ _
      | exact laws_toByteS.mono _ _
      | exact spec_ReadBatch.mono _ _
      | exact LeO.none _
      | refine LeO.ite ?_ ?_
      | refine LeO.bind ?_ (fun _ => ?_)
noncomputable def laws_FnExactReadBatch.jv0 (x0 : List Int) (x4 : Int) (x5 : List Int) (x7 : Int) (x37 : Bool) (x1202000 : Bool) (x1202001 : Int) (x1202002 : Int) (x1202003 : Int) (x1202004 : Int) (x1202005 : ByteArray) (x1202006 : List (S161)) (x1216000 : Bool) (x1216001 : Int) (x1216002 : Int) (x1216003 : Int) (x1216004 : Int) (x1216005 : ByteArray) (x1216006 : List (S161)) : Option (Bool) := lim (fun k_ => laws_FnExactReadBatch.j0 k_ x0 x4 x5 x7 x37 x1202000 x1202001 x1202002 x1202003 x1202004 x1202005 x1202006 x1216000 x1216001 x1216002 x1216003 x1216004 x1216005 x1216006)
noncomputable def laws_FnExactReadBatch.jv1 (x0 : List Int) (x4 : Int) (x58 : Bool) (x1202000 : Bool) (x1202001 : Int) (x1202002 : Int) (x1202003 : Int) (x1202004 : Int) (x1202005 : ByteArray) (x1202006 : List (S161)) (x1216000 : Bool) (x1216001 : Int) (x1216002 : Int) (x1216003 : Int) (x1216004 : Int) (x1216005 : ByteArray) (x1216006 : List (S161)) : Option (Bool) := lim (fun k_ => laws_FnExactReadBatch.j1 k_ x0 x4 x58 x1202000 x1202001 x1202002 x1202003 x1202004 x1202005 x1202006 x1216000 x1216001 x1216002 x1216003 x1216004 x1216005 x1216006)
noncomputable def laws_FnExactReadBatch.jv2 (x9 : Int) (x84 : Bool) (x1216000 : Bool) (x1216001 : Int) (x1216002 : Int) (x1216003 : Int) (x1216004 : Int) (x1216005 : ByteArray) (x1216006 : List (S161)) : Option (Bool) := lim (fun k_ => laws_FnExactReadBatch.j2 k_ x9 x84 x1216000 x1216001 x1216002 x1216003 x1216004 x1216005 x1216006)
noncomputable def laws_FnExactReadBatch.v (l0 : List Int) : Option (Bool) := lim (fun k_ => laws_FnExactReadBatch.f k_ l0)
theorem laws_FnExactReadBatch.jv0_lim (x0 : List Int) (x4 : Int) (x5 : List Int) (x7 : Int) (x37 : Bool) (x1202000 : Bool) (x1202001 : Int) (x1202002 : Int) (x1202003 : Int) (x1202004 : Int) (x1202005 : ByteArray) (x1202006 : List (S161)) (x1216000 : Bool) (x1216001 : Int) (x1216002 : Int) (x1216003 : Int) (x1216004 : Int) (x1216005 : ByteArray) (x1216006 : List (S161)) : LimIs (fun k_ => laws_FnExactReadBatch.j0 k_ x0 x4 x5 x7 x37 x1202000 x1202001 x1202002 x1202003 x1202004 x1202005 x1202006 x1216000 x1216001 x1216002 x1216003 x1216004 x1216005 x1216006) (laws_FnExactReadBatch.jv0 x0 x4 x5 x7 x37 x1202000 x1202001 x1202002 x1202003 x1202004 x1202005 x1202006 x1216000 x1216001 x1216002 x1216003 x1216004 x1216005 x1216006) := lim_is (fun k_ => (laws_FnExactReadBatch.mono_l k_).1 x0 x4 x5 x7 x37 x1202000 x1202001 x1202002 x1202003 x1202004 x1202005 x1202006 x1216000 x1216001 x1216002 x1216003 x1216004 x1216005 x1216006)
theorem laws_FnExactReadBatch.jv1_lim (x0 : List Int) (x4 : Int) (x58 : Bool) (x1202000 : Bool) (x1202001 : Int) (x1202002 : Int) (x1202003 : Int) (x1202004 : Int) (x1202005 : ByteArray) (x1202006 : List (S161)) (x1216000 : Bool) (x1216001 : Int) (x1216002 : Int) (x1216003 : Int) (x1216004 : Int) (x1216005 : ByteArray) (x1216006 : List (S161)) : LimIs (fun k_ => laws_FnExactReadBatch.j1 k_ x0 x4 x58 x1202000 x1202001 x1202002 x1202003 x1202004 x1202005 x1202006 x1216000 x1216001 x1216002 x1216003 x1216004 x1216005 x1216006) (laws_FnExactReadBatch.jv1 x0 x4 x58 x1202000 x1202001 x1202002 x1202003 x1202004 x1202005 x1202006 x1216000 x1216001 x1216002 x1216003 x1216004 x1216005 x1216006) := lim_is (fun k_ => (laws_FnExactReadBatch.mono_l k_).2.1 x0 x4 x58 x1202000 x1202001 x1202002 x1202003 x1202004 x1202005 x1202006 x1216000 x1216001 x1216002 x1216003 x1216004 x1216005 x1216006)
theorem laws_FnExactReadBatch.jv2_lim (x9 : Int) (x84 : Bool) (x1216000 : Bool) (x1216001 : Int) (x1216002 : Int) (x1216003 : Int) (x1216004 : Int) (x1216005 : ByteArray) (x1216006 : List (S161)) : LimIs (fun k_ => laws_FnExactReadBatch.j2 k_ x9 x84 x1216000 x1216001 x1216002 x1216003 x1216004 x1216005 x1216006) (laws_FnExactReadBatch.jv2 x9 x84 x1216000 x1216001 x1216002 x1216003 x1216004 x1216005 x1216006) := lim_is (fun k_ => (laws_FnExactReadBatch.mono_l k_).2.2 x9 x84 x1216000 x1216001 x1216002 x1216003 x1216004 x1216005 x1216006)
theorem laws_FnExactReadBatch.v_lim (l0 : List Int) : LimIs (fun k_ => laws_FnExactReadBatch.f k_ l0) (laws_FnExactReadBatch.v l0) := lim_is (fun k_ => laws_FnExactReadBatch.mono l0 k_)
theorem laws_FnExactReadBatch.jv0_eq (x0 : List Int) (x4 : Int) (x5 : List Int) (x7 : Int) (x37 : Bool) (x1202000 : Bool) (x1202001 : Int) (x1202002 : Int) (x1202003 : Int) (x1202004 : Int) (x1202005 : ByteArray) (x1202006 : List (S161)) (x1216000 : Bool) (x1216001 : Int) (x1216002 : Int) (x1216003 : Int) (x1216004 : Int) (x1216005 : ByteArray) (x1216006 : List (S161)) : laws_FnExactReadBatch.jv0 x0 x4 x5 x7 x37 x1202000 x1202001 x1202002 x1202003 x1202004 x1202005 x1202006 x1216000 x1216001 x1216002 x1216003 x1216004 x1216005 x1216006 = (if x37 = true then (some false) else ((laws_toByteS.v x0).bind fun t1217 => ((laws_eqByteS.v x5 t1217).bind fun t1220 => (if t1220 = true then ((laws_markByteS.v x5 1).bind fun bt1221 => (if bt1221.1 < 0 then (laws_FnExactReadBatch.jv1 x0 x4 true x1202000 x1202001 x1202002 x1202003 x1202004 x1202005 x1202006 x1216000 x1216001 x1216002 x1216003 x1216004 x1216005 x1216006) else ((laws_eqBatch.v x1216000 x1216001 x1216002 x1216003 x1216004 x1216005 x1216006 x1202000 x1202001 x1202002 x1202003 x1202004 x1202005 x1202006).bind fun t1223 => (if t1223 = true then (laws_FnExactReadBatch.jv1 x0 x4 (x7 != x4) x1202000 x1202001 x1202002 x1202003 x1202004 x1202005 x1202006 x1216000 x1216001 x1216002 x1216003 x1216004 x1216005 x1216006) else (laws_FnExactReadBatch.jv1 x0 x4 true x1202000 x1202001 x1202002 x1202003 x1202004 x1202005 x1202006 x1216000 x1216001 x1216002 x1216003 x1216004 x1216005 x1216006))))) else (some false)))) : Option (Bool)) := by
  refine LimIs.eq (laws_FnExactReadBatch.jv0_lim x0 x4 x5 x7 x37 x1202000 x1202001 x1202002 x1202003 x1202004 x1202005 x1202006 x1216000 x1216001 x1216002 x1216003 x1216004 x1216005 x1216006) ?_
  refine LimIs.step (fun k_ => (laws_FnExactReadBatch.mono_l k_).1 x0 x4 x5 x7 x37 x1202000 x1202001 x1202002 x1202003 x1202004 x1202005 x1202006 x1216000 x1216001 x1216002 x1216003 x1216004 x1216005 x1216006) ?_
  simp only [laws_FnExactReadBatch.j0]
  repeat' (with_reducible first | exact laws_FnExactReadBatch.jv1_lim _ _ _ _ _ _ _ _ _ _ _ _ _ _ _ _ _ | exact laws_eqBatch.v_lim _ _ _ _ _ _ _ _ _ _ _ _ _ _ | exact laws_eqByteS.v_lim _ _ | exact laws_markByteS.v_lim _ _ | exact laws_toByteS.v_lim _ | exact LimIs.const _ | refine LimIs.ite ?_ ?_ | refine LimIs.bind ?_ (fun _ => ?_))
theorem laws_FnExactReadBatch.jv1_eq (x0 : List Int) (x4 : Int) (x58 : Bool) (x1202000 : Bool) (x1202001 : Int) (x1202002 : Int) (x1202003 : Int) (x1202004 : Int) (x1202005 : ByteArray) (x1202006 : List (S161)) (x1216000 : Bool) (x1216001 : Int) (x1216002 : Int) (x1216003 : Int) (x1216004 : Int) (x1216005 : ByteArray) (x1216006 : List (S161)) : laws_FnExactReadBatch.jv1 x0 x4 x58 x1202000 x1202001 x1202002 x1202003 x1202004 x1202005 x1202006 x1216000 x1216001 x1216002 x1216003 x1216004 x1216005 x1216006 = (if x58 = true then (some false) else ((laws_markBatch.v x1216000 x1216001 x1216002 x1216003 x1216004 x1216005 x1216006 1).bind fun bt1224 => ((laws_heldBatch.v x1216000 x1216001 x1216002 x1216003 x1216004 x1216005 bt1224.2 1).bind fun t1226 => (if t1226 < 0 then (some false) else (if t1226 = bt1224.1 then ((laws_toByteS.v x0).bind fun t1227 => ((impl_ReadBatch.v t1227).bind fun bt1230 => ((laws_eqBatch.v bt1230.1 bt1230.2.1 bt1230.2.2.1 bt1230.2.2.2.1 bt1230.2.2.2.2.1 bt1230.2.2.2.2.2.1 bt1230.2.2.2.2.2.2.1 x1202000 x1202001 x1202002 x1202003 x1202004 x1202005 x1202006).bind fun t1241 => (if t1241 = true then (laws_FnExactReadBatch.jv2 bt1224.1 (bt1230.2.2.2.2.2.2.2 != x4) x1216000 x1216001 x1216002 x1216003 x1216004 x1216005 bt1224.2) else (laws_FnExactReadBatch.jv2 bt1224.1 true x1216000 x1216001 x1216002 x1216003 x1216004 x1216005 bt1224.2))))) else (some false))))) : Option (Bool)) := by
  refine LimIs.eq (laws_FnExactReadBatch.jv1_lim x0 x4 x58 x1202000 x1202001 x1202002 x1202003 x1202004 x1202005 x1202006 x1216000 x1216001 x1216002 x1216003 x1216004 x1216005 x1216006) ?_
  refine LimIs.step (fun k_ => (laws_FnExactReadBatch.mono_l k_).2.1 x0 x4 x58 x1202000 x1202001 x1202002 x1202003 x1202004 x1202005 x1202006 x1216000 x1216001 x1216002 x1216003 x1216004 x1216005 x1216006) ?_
  simp only [laws_FnExactReadBatch.j1]
  repeat' (with_reducible first | exact impl_ReadBatch.v_lim _ | exact laws_FnExactReadBatch.jv2_lim _ _ _ _ _ _ _ _ _ | exact laws_eqBatch.v_lim _ _ _ _ _ _ _ _ _ _ _ _ _ _ | exact laws_heldBatch.v_lim _ _ _ _ _ _ _ _ | exact laws_markBatch.v_lim _ _ _ _ _ _ _ _ | exact laws_toByteS.v_lim _ | exact LimIs.const _ | refine LimIs.ite ?_ ?_ | refine LimIs.bind ?_ (fun _ => ?_))
theorem laws_FnExactReadBatch.jv2_eq (x9 : Int) (x84 : Bool) (x1216000 : Bool) (x1216001 : Int) (x1216002 : Int) (x1216003 : Int) (x1216004 : Int) (x1216005 : ByteArray) (x1216006 : List (S161)) : laws_FnExactReadBatch.jv2 x9 x84 x1216000 x1216001 x1216002 x1216003 x1216004 x1216005 x1216006 = (if x84 = true then (some false) else ((laws_heldBatch.v x1216000 x1216001 x1216002 x1216003 x1216004 x1216005 x1216006 1).bind fun t1242 => (if t1242 < 0 then (some false) else (if t1242 = x9 then (some true) else (some false)))) : Option (Bool)) := by
  refine LimIs.eq (laws_FnExactReadBatch.jv2_lim x9 x84 x1216000 x1216001 x1216002 x1216003 x1216004 x1216005 x1216006) ?_
  refine LimIs.step (fun k_ => (laws_FnExactReadBatch.mono_l k_).2.2 x9 x84 x1216000 x1216001 x1216002 x1216003 x1216004 x1216005 x1216006) ?_
  simp only [laws_FnExactReadBatch.j2]
  repeat' (with_reducible first | exact laws_heldBatch.v_lim _ _ _ _ _ _ _ _ | exact LimIs.const _ | refine LimIs.ite ?_ ?_ | refine LimIs.bind ?_ (fun _ => ?_))
theorem laws_FnExactReadBatch.v_eq (l0 : List Int) : laws_FnExactReadBatch.v l0 = (if (l0.length : Int) > 1048576 then (some true) else ((laws_toByteS.v l0).bind fun t1188 => ((spec_ReadBatch.v t1188).bind fun bt1191 => ((laws_toByteS.v l0).bind fun t1202 => ((impl_ReadBatch.v t1202).bind fun bt1205 => ((laws_eqBatch.v bt1205.1 bt1205.2.1 bt1205.2.2.1 bt1205.2.2.2.1 bt1205.2.2.2.2.1 bt1205.2.2.2.2.2.1 bt1205.2.2.2.2.2.2.1 bt1191.1 bt1191.2.1 bt1191.2.2.1 bt1191.2.2.2.1 bt1191.2.2.2.2.1 bt1191.2.2.2.2.2.1 bt1191.2.2.2.2.2.2.1).bind fun t1216 => (if t1216 = true then (laws_FnExactReadBatch.jv0 l0 bt1191.2.2.2.2.2.2.2 t1202 bt1205.2.2.2.2.2.2.2 (bt1205.2.2.2.2.2.2.2 != bt1191.2.2.2.2.2.2.2) bt1191.1 bt1191.2.1 bt1191.2.2.1 bt1191.2.2.2.1 bt1191.2.2.2.2.1 bt1191.2.2.2.2.2.1 bt1191.2.2.2.2.2.2.1 bt1205.1 bt1205.2.1 bt1205.2.2.1 bt1205.2.2.2.1 bt1205.2.2.2.2.1 bt1205.2.2.2.2.2.1 bt1205.2.2.2.2.2.2.1) else (laws_FnExactReadBatch.jv0 l0 bt1191.2.2.2.2.2.2.2 t1202 bt1205.2.2.2.2.2.2.2 true bt1191.1 bt1191.2.1 bt1191.2.2.1 bt1191.2.2.2.1 bt1191.2.2.2.2.1 bt1191.2.2.2.2.2.1 bt1191.2.2.2.2.2.2.1 bt1205.1 bt1205.2.1 bt1205.2.2.1 bt1205.2.2.2.1 bt1205.2.2.2.2.1 bt1205.2.2.2.2.2.1 bt1205.2.2.2.2.2.2.1))))))) : Option (Bool)) := by
  refine LimIs.eq (laws_FnExactReadBatch.v_lim l0) ?_
  simp only [laws_FnExactReadBatch.f]
  repeat' (with_reducible first | exact impl_ReadBatch.v_lim _ | exact laws_FnExactReadBatch.jv0_lim _ _ _ _ _ _ _ _ _ _ _ _ _ _ _ _ _ _ _ | exact laws_eqBatch.v_lim _ _ _ _ _ _ _ _ _ _ _ _ _ _ | exact laws_toByteS.v_lim _ | exact spec_ReadBatch.v_lim _ | exact LimIs.const _ | refine LimIs.ite ?_ ?_ | refine LimIs.bind ?_ (fun _ => ?_))
end Go.Proofs.Ytofkobbiomhblaa.A
end

section
namespace Go.Proofs.YtofkobbiomhblaaW.PrintWords
open Go.RowKit
theorem wrap_id {x : Int} (h0 : -9223372036854775808 ≤ x) (h1 : x ≤ 9223372036854775807) : wrap64 x = x := by unfold wrap64; omega
/-- p at d places from i on. -/
def allB (p : Int → Bool) : Nat → Int → Bool
  | 0, _ => true
  | d + 1, i => p i && allB p d (i + 1)
def allI (p : Int → Bool) (i n : Int) : Bool := allB p (n - i).toNat i
theorem allI_step {p : Int → Bool} {i n : Int} (h : i < n) : allI p i n = (p i && allI p (i + 1) n) := by
  unfold allI
  obtain ⟨d, hd⟩ : ∃ d : Nat, (n - i).toNat = d + 1 := ⟨(n - i).toNat - 1, by omega⟩
  rw [hd, show (n - (i + 1)).toNat = d by omega]
  rfl
theorem allI_end {p : Int → Bool} {i n : Int} (h : n ≤ i) : allI p i n = true := by
  unfold allI
  rw [show (n - i).toNat = 0 by omega]
  rfl
theorem allI_iff (p : Int → Bool) (n : Int) : ∀ (d : Nat) (i : Int), (n - i).toNat = d → (allI p i n = true ↔ ∀ j, i ≤ j → j < n → p j = true)
  | 0, i, h => by
    rw [allI_end (by omega)]
    exact ⟨fun _ j h1 h2 => by omega, fun _ => rfl⟩
  | d + 1, i, h => by
    rw [allI_step (by omega), Bool.and_eq_true, allI_iff p n d (i + 1) (by omega)]
    refine ⟨fun ⟨h1, h2⟩ j h3 h4 => ?_, fun h1 => ⟨h1 i (by omega) (by omega), fun j h3 h4 => h1 j (by omega) h4⟩⟩
    by_cases e : j = i
    · rw [e]; exact h1
    · exact h2 j (by omega) h4
/-- A loop that asks p at each place. -/
theorem loop_all {L : Int → Option Bool} (p : Int → Bool) (n : Int) (hn : n ≤ 9223372036854775807) (hL : ∀ i, 0 ≤ i → i < n → L i = if p i = true then L (wrap64 (i + 1)) else some false) (hE : ∀ i, 0 ≤ i → n ≤ i → L i = some true) :
    ∀ (d : Nat) (i : Int), (n - i).toNat = d → 0 ≤ i → L i = some (allI p i n)
  | 0, i, h, h0 => by rw [hE i h0 (by omega), allI_end (by omega)]
  | d + 1, i, h, h0 => by
    rw [hL i h0 (by omega), allI_step (by omega), wrap_id (by omega) (by omega), loop_all p n hn hL hE d (i + 1) (by omega) (by omega)]
    cases p i <;> simp
def letterB (c : Int) : Bool := decide ((97 ≤ c ∧ c ≤ 122) ∨ (65 ≤ c ∧ c ≤ 90) ∨ c = 95)
def digitB (c : Int) : Bool := decide (48 ≤ c ∧ c ≤ 57)
def inB (n low high : Int) : Bool := decide (low ≤ n ∧ n ≤ high)
def nameB (s : ByteArray) : Bool := decide (1 ≤ s.size ∧ s.size ≤ 40) && (letterB (bt s 0) && allI (fun j => letterB (bt s j) || digitB (bt s j)) 1 s.size)
theorem ba_toList (a : ByteArray) : a.toList = a.data.toList := ByteArray.toList_eq a
theorem strOf_size (l : List Int) : (strOfNums l).size = l.length := by
  show (strOfNums l).data.size = _
  simp [strOfNums]
theorem int_succ_mul (a c : Int) : a * c + c = (a + 1) * c := by rw [Int.add_mul, Int.one_mul]
theorem copy_loop {α β : Type} (d : α) (g : α → β) (l : List α) (hn : l.length ≤ 9223372036854775806) (L : List β → Int → Option (List β))
    (hL : ∀ acc i, 0 ≤ i → i < (l.length : Int) → acc.length = l.length → L acc i = L (acc.set i.toNat (g (l.getD i.toNat d))) (wrap64 (i + 1))) (hE : ∀ acc i, (l.length : Int) ≤ i → L acc i = some acc) :
    ∀ (n : Nat) (acc : List β) (i : Int), ((l.length : Int) - i).toNat = n → 0 ≤ i → i ≤ l.length → acc.length = l.length → (∀ j : Nat, j < i.toNat → acc[j]? = (l.map g)[j]?) → L acc i = some (l.map g)
  | 0, acc, i, h, h0, h1, ha, hj => by
    rw [hE acc i (by omega)]
    congr 1
    apply List.ext_getElem?
    intro j
    by_cases hjl : j < l.length
    · exact hj j (by omega)
    · rw [List.getElem?_eq_none (by omega), List.getElem?_eq_none (by simp; omega)]
  | n + 1, acc, i, h, h0, h1, ha, hj => by
    have hlt : i < (l.length : Int) := by omega
    rw [hL acc i h0 hlt ha, wrap_id (by omega) (by omega)]
    refine copy_loop d g l hn L hL hE n _ (i + 1) (by omega) (by omega) (by omega) (by simp [ha]) (fun j hj2 => ?_)
    by_cases e : j = i.toNat
    · subst e
      rw [List.getElem?_set_self (by omega), List.getElem?_map, List.getElem?_eq_getElem (by omega : i.toNat < l.length)]
      simp [List.getD, List.getElem?_eq_getElem (by omega : i.toNat < l.length)]
    · rw [List.getElem?_set_ne (by omega)]
      exact hj j (by omega)
theorem mark_loop {α : Type} (z : α) (g : α → Int → α) (c : Int) (hc : 0 ≤ c) (L : List α → Int → Int → Option (Int × List α))
    (hL : ∀ l k i, 0 ≤ i → i < (l.length : Int) → 0 ≤ k → k + c ≤ 4611686018427387904 → L l k i = L (l.set i.toNat (g (l.getD i.toNat z) k)) (k + c) (wrap64 (i + 1))) (hE : ∀ l k i, (l.length : Int) ≤ i → L l k i = some (k, l)) :
    ∀ (n : Nat) (l : List α) (k i : Int), ((l.length : Int) - i).toNat = n → 0 ≤ i → i ≤ l.length → (l.length : Int) ≤ 9223372036854775806 → 0 ≤ k → k + n * c ≤ 4611686018427387904 →
      ∃ l', L l k i = some (k + n * c, l') ∧ l'.length = l.length ∧ (∀ j : Nat, j < i.toNat → l'[j]? = l[j]?) ∧ (∀ j : Nat, i.toNat ≤ j → j < l.length → ∃ x, l'[j]? = some (g x (k + (j - i) * c)))
  | 0, l, k, i, h, h0, h1, hn, hk, hkn => ⟨l, by rw [hE l k i (by omega)]; simp, rfl, fun _ _ => rfl, fun j h2 h3 => by omega⟩
  | n + 1, l, k, i, h, h0, h1, hn, hk, hkn => by
    have hlt : i < (l.length : Int) := by omega
    have hm : ((n + 1 : Nat) : Int) * c = n * c + c := by rw [Int.natCast_add, Int.add_mul]; simp
    have hnc : 0 ≤ (n : Int) * c := Int.mul_nonneg (by omega) hc
    rw [hm] at hkn
    obtain ⟨l', e1, e2, e3, e4⟩ := mark_loop z g c hc L hL hE n (l.set i.toNat (g (l.getD i.toNat z) k)) (k + c) (i + 1) (by simp; omega) (by omega) (by simp; omega) (by simpa using hn) (by omega) (by omega)
    refine ⟨l', ?_, by simpa using e2, fun j hj => ?_, fun j h2 h3 => ?_⟩
    · rw [hL l k i h0 hlt hk (by omega), wrap_id (by omega) (by omega), e1, hm]
      congr 2
      omega
    · rw [e3 j (by omega), List.getElem?_set_ne (by omega)]
    · by_cases e : j = i.toNat
      · subst e
        refine ⟨l.getD i.toNat z, ?_⟩
        rw [e3 i.toNat (by omega), List.getElem?_set_self (by omega), show ((i.toNat : Int) - i) = 0 by omega]
        simp
      · obtain ⟨x, hx⟩ := e4 j (by omega) (by simpa using h3)
        refine ⟨x, ?_⟩
        rw [hx]
        congr 2
        have : ((j : Int) - (i + 1)) * c + c = (j - i) * c := by rw [int_succ_mul]; congr 1; omega
        omega
theorem held_loop {α : Type} (z : α) (chk : α → Int → Bool) (c : Int) (hc : 0 ≤ c) (l : List α) (hn : (l.length : Int) ≤ 9223372036854775806) (H : Int → Int → Option Int)
    (hH : ∀ k i, 0 ≤ i → i < (l.length : Int) → 0 ≤ k → k + c ≤ 4611686018427387904 → chk (l.getD i.toNat z) k = true → H k i = H (k + c) (wrap64 (i + 1))) (hE : ∀ k i, (l.length : Int) ≤ i → H k i = some k) :
    ∀ (n : Nat) (k i : Int), ((l.length : Int) - i).toNat = n → 0 ≤ i → i ≤ l.length → 0 ≤ k → k + n * c ≤ 4611686018427387904 →
      (∀ j : Nat, i.toNat ≤ j → j < l.length → chk (l.getD j z) (k + (j - i) * c) = true) → H k i = some (k + n * c)
  | 0, k, i, h, h0, h1, hk, hkn, _ => by rw [hE k i (by omega)]; simp
  | n + 1, k, i, h, h0, h1, hk, hkn, hj => by
    have hlt : i < (l.length : Int) := by omega
    have hm : ((n + 1 : Nat) : Int) * c = n * c + c := by rw [Int.natCast_add, Int.add_mul]; simp
    have hnc : 0 ≤ (n : Int) * c := Int.mul_nonneg (by omega) hc
    rw [hm] at hkn ⊢
    have h2 := hj i.toNat (Nat.le_refl _) (by omega)
    rw [show ((i.toNat : Int) - i) = 0 by omega, Int.zero_mul, Int.add_zero] at h2
    rw [hH k i h0 hlt hk (by omega) h2, wrap_id (by omega) (by omega)]
    rw [held_loop z chk c hc l hn H hH hE n (k + c) (i + 1) (by omega) (by omega) (by omega) (by omega) (by omega) (fun j h3 h4 => by
      have h5 := hj j (by omega) h4
      have : ((j : Int) - (i + 1)) * c + c = (j - i) * c := by rw [int_succ_mul]; congr 1; omega
      rw [show k + c + ((j : Int) - (i + 1)) * c = k + (j - i) * c by omega]
      exact h5)]
    congr 1
    omega
/-- What is marked is held: the two loops together, from the begin. -/
theorem mark_held {α : Type} (z : α) (g : α → Int → α) (chk : α → Int → Bool) (c : Int) (hc : 0 ≤ c) (hg : ∀ x k, 0 ≤ k → k + c ≤ 4611686018427387904 → chk (g x k) k = true) (L : List α → Int → Int → Option (Int × List α)) (H : List α → Int → Int → Option Int)
    (hL : ∀ l k i, 0 ≤ i → i < (l.length : Int) → 0 ≤ k → k + c ≤ 4611686018427387904 → L l k i = L (l.set i.toNat (g (l.getD i.toNat z) k)) (k + c) (wrap64 (i + 1))) (hE : ∀ l k i, (l.length : Int) ≤ i → L l k i = some (k, l))
    (hH : ∀ l k i, 0 ≤ i → i < (l.length : Int) → 0 ≤ k → k + c ≤ 4611686018427387904 → chk (l.getD i.toNat z) k = true → H l k i = H l (k + c) (wrap64 (i + 1))) (hE2 : ∀ l k i, (l.length : Int) ≤ i → H l k i = some k)
    (l : List α) (k : Int) (hn : (l.length : Int) ≤ 9223372036854775806) (hk : 0 ≤ k) (hkn : k + l.length * c ≤ 4611686018427387904) :
    ∃ l', L l k 0 = some (k + l.length * c, l') ∧ l'.length = l.length ∧ H l' k 0 = some (k + l.length * c) := by
  obtain ⟨l', e1, e2, e3, e4⟩ := mark_loop z g c hc L hL hE l.length l k 0 (by omega) (by omega) (by omega) hn hk hkn
  refine ⟨l', e1, e2, ?_⟩
  rw [← e2]
  refine held_loop z chk c hc l' (by omega) (H l') (hH l') (hE2 l') l'.length k 0 (by omega) (by omega) (by omega) hk (by rw [e2]; exact hkn) (fun j h2 h3 => ?_)
  obtain ⟨x, hx⟩ := e4 j (by omega) (by omega)
  rw [List.getD, hx]
  simp only [Option.getD_some]
  have hb : (j : Int) * c + c ≤ l.length * c := by
    rw [int_succ_mul]
    exact Int.mul_le_mul_of_nonneg_right (by omega) hc
  have hj0 : 0 ≤ (j : Int) * c := Int.mul_nonneg (by omega) hc
  have h0 : ((j : Int) - 0) = j := by omega
  rw [h0]
  exact hg x _ (by omega) (by omega)
end Go.Proofs.YtofkobbiomhblaaW.PrintWords
end

section
namespace Go.Proofs.Ytofkobbiomhblaa.A
open Go.RowKit Go.Proofs.YtofkobbiomhblaaW.PrintWords
theorem toByteS_v (l : List Int) (h : l.length ≤ 281474976710656) : laws_toByteS.v l = some l := by
  rw [laws_toByteS.v_eq, if_pos (by omega), if_pos (by simpa using h)]
  have h1 := copy_loop (0 : Int) id l (by omega) (fun acc i => laws_toByteS.lv0 l acc i) (fun acc i h0 h1 h2 => by
    show laws_toByteS.lv0 l acc i = _
    rw [laws_toByteS.lv0_eq, if_pos h1, if_pos h0, if_pos (by omega)]; rfl) (fun acc i h0 => by
    show laws_toByteS.lv0 l acc i = _
    rw [laws_toByteS.lv0_eq, if_neg (by omega)]) l.length (List.replicate ((l.length : Int) : Int).toNat 0) 0 (by omega) (by omega) (by omega) (by simp) (fun j hj => by omega)
  rw [List.map_id] at h1
  exact h1
theorem eqByteS_v (l : List Int) (h : l.length ≤ 281474976710656) : laws_eqByteS.v l l = some true := by
  rw [laws_eqByteS.v_eq, if_pos rfl, loop_all (L := fun i => laws_eqByteS.lv0 l l i) (fun _ => true) l.length (by omega) (fun i h0 h1 => by
    show laws_eqByteS.lv0 l l i = _
    rw [laws_eqByteS.lv0_eq, if_pos h1, if_pos h0, if_pos h1, if_pos rfl]; rfl) (fun i h0 h1 => by
    show laws_eqByteS.lv0 l l i = _
    rw [laws_eqByteS.lv0_eq, if_neg (by omega)]) _ 0 rfl (by omega), (allI_iff _ _ _ _ rfl).2 (fun _ _ _ => rfl)]
theorem markByteS_v (l : List Int) (h : l.length ≤ 281474976710656) : ∃ l', laws_markByteS.v l 1 = some (1 + (l.length : Int), l') := by
  obtain ⟨l', h1, _⟩ := mark_loop (0 : Int) (fun _ k => k % 256) 1 (by omega) (fun l k i => laws_markByteS.lv0 l k i) (fun l k i h0 h1 h2 h3 => by
    show laws_markByteS.lv0 l k i = _
    rw [laws_markByteS.lv0_eq, if_pos h1, if_pos h0, wrap_id (x := k + 1) (by omega) (by omega)]) (fun l k i h0 => by
    show laws_markByteS.lv0 l k i = _
    rw [laws_markByteS.lv0_eq, if_neg (by omega)]) l.length l 1 0 (by omega) (by omega) (by omega) (by omega) (by omega) (by omega)
  exact ⟨l', by rw [laws_markByteS.v_eq]; simpa using h1⟩
theorem markText_l : ∀ (m : Nat) (x : Int) (s : ByteArray), 0 ≤ x → x < 10 ^ m → x ≤ 9223372036854775807 → s.size + m ≤ 1000000 → ∃ r, laws_markText.lv0 x s = some r
  | 0, x, s, h0, h1, h2, h3 => ⟨_, by rw [laws_markText.lv0_eq, if_neg (by simp at h1; omega), if_pos (by omega)]⟩
  | m + 1, x, s, h0, h1, h2, h3 => by
    by_cases hx : x > 0
    · have h4 : (strOfNums [(wrap64 (48 + (Int.tmod x 10))) % 256]).size = 1 := by rw [strOf_size]; rfl
      have h5 : Int.tdiv x 10 = x / 10 := Int.tdiv_eq_ediv_of_nonneg h0
      obtain ⟨r, hr⟩ := markText_l m (x / 10) ((strOfNums [(wrap64 (48 + (Int.tmod x 10))) % 256]) ++ s) (by omega) (by rw [Int.pow_succ] at h1; omega) (by omega) (by rw [ByteArray.size_append, h4]; omega)
      refine ⟨r, ?_⟩
      rw [laws_markText.lv0_eq, if_pos hx]
      simp only [Option.bind_some]
      rw [if_pos (by rw [h4]; omega), h5, wrap_id (by omega) (by omega), hr]
    · exact ⟨_, by rw [laws_markText.lv0_eq, if_neg hx, if_pos (by omega)]⟩
noncomputable def mtext (k : Int) : ByteArray := (laws_markText.v k).getD ⟨#[]⟩
theorem markText_v (k : Int) (h : 0 ≤ k) (h2 : k ≤ 9223372036854775807) : laws_markText.v k = some (mtext k) := by
  have : ∃ r, laws_markText.v k = some r := by
    rw [laws_markText.v_eq]
    by_cases hk : k ≤ 0
    · exact ⟨_, by rw [if_pos hk]⟩
    · rw [if_neg hk]
      exact markText_l 19 k ⟨#[]⟩ h (by omega) h2 (by show 0 + 19 ≤ _; omega)
  obtain ⟨r, hr⟩ := this
  rw [mtext, hr]; rfl
theorem getD_set {α : Type} (l : List α) (i : Int) (a z : α) (h0 : 0 ≤ i) (h : i < l.length) : (l.set i.toNat a).getD i.toNat z = a := by
  rw [List.getD, List.getElem?_set_self (by omega)]; rfl
theorem eqReading_v (a b : Int) (c : ByteArray) : laws_eqReading.v a b c a b c = some true := by
  rw [laws_eqReading.v_eq, if_pos rfl, if_pos rfl, if_pos rfl]
theorem eqReadingS_v (l : List S161) (h : l.length ≤ 281474976710656) : laws_eqReadingS.v l l = some true := by
  rw [laws_eqReadingS.v_eq, if_pos rfl, loop_all (L := fun i => laws_eqReadingS.lv0 l l i) (fun _ => true) l.length (by omega) (fun i h0 h1 => by
    show laws_eqReadingS.lv0 l l i = _
    rw [laws_eqReadingS.lv0_eq, if_pos h1, if_pos h0, if_pos h1, eqReading_v, Option.bind_some]) (fun i h0 h1 => by
    show laws_eqReadingS.lv0 l l i = _
    rw [laws_eqReadingS.lv0_eq, if_neg (by omega)]) _ 0 rfl (by omega), (allI_iff _ _ _ _ rfl).2 (fun _ _ _ => rfl)]
theorem readings_held (l : List S161) (k : Int) (hk : 0 ≤ k) (hk2 : k ≤ 1000000000000000) (h : l.length ≤ 281474976710656) : ∃ l', laws_markReadingS.v l k = some (k + (l.length : Int) * 3, l') ∧ l'.length = l.length ∧ laws_heldReadingS.v l' k = some (k + (l.length : Int) * 3) := by
  obtain ⟨l', h1, h2, h3⟩ := mark_held z161 (fun _ k => ⟨k, k + 1, mtext (k + 1 + 1)⟩) (fun x k => decide (x.f0 = k ∧ x.f1 = k + 1 ∧ x.f2 = mtext (k + 1 + 1))) 3 (by omega) (fun x k _ _ => by simp) (fun l k i => laws_markReadingS.lv0 l k i) (fun l k i => laws_heldReadingS.lv0 l k i) (fun l k i h0 h1 h2 h3 => by
    show laws_markReadingS.lv0 l k i = _
    have w1 : wrap64 (k + 1) = k + 1 := wrap_id (by omega) (by omega)
    have w2 : wrap64 (k + 1 + 1) = k + 1 + 1 := wrap_id (by omega) (by omega)
    have w3 : wrap64 (k + 1 + 1 + 1) = k + 3 := by rw [wrap_id (by omega) (by omega)]; omega
    have l1 : ∀ a : S161, i < ((l.set i.toNat a).length : Int) := fun a => by rw [List.length_set]; exact h1
    rw [laws_markReadingS.lv0_eq, if_pos h1, if_pos h0]
    simp only [Option.bind_some, w1, w2, w3, markText_v (k + 1 + 1) (by omega) (by omega), rd_T161, List.set_set, getD_set l i _ z161 h0 h1]) (fun l k i h0 => by
    show laws_markReadingS.lv0 l k i = _
    rw [laws_markReadingS.lv0_eq, if_neg (by omega)]) (fun l k i h0 h1 h2 h3 h4 => by
    show laws_heldReadingS.lv0 l k i = _
    have w1 : wrap64 (k + 1) = k + 1 := wrap_id (by omega) (by omega)
    have w2 : wrap64 (k + 1 + 1) = k + 1 + 1 := wrap_id (by omega) (by omega)
    have w3 : wrap64 (k + 1 + 1 + 1) = k + 3 := by rw [wrap_id (by omega) (by omega)]; omega
    have h5 := of_decide_eq_true h4
    rw [laws_heldReadingS.lv0_eq, if_pos h1, if_pos h0]
    simp only [w1, w2, w3, markText_v (k + 1 + 1) (by omega) (by omega), Option.bind_some, rd_T161, h5.1, h5.2.1, h5.2.2, if_true]) (fun l k i h0 => by
    show laws_heldReadingS.lv0 l k i = _
    rw [laws_heldReadingS.lv0_eq, if_neg (by omega)]) l k (by omega) (by omega) (by omega)
  exact ⟨l', by rw [laws_markReadingS.v_eq]; simpa using h1, h2, by rw [laws_heldReadingS.v_eq]; simpa using h3⟩
def numL (l : List Int) : Int := l.foldl (fun n c => n * 256 + c) 0
def numM (s : ByteArray) : Int := numL (bytesOf s)
theorem or_byte (n c : Int) (h0 : 0 ≤ n) (h1 : n < 4503599627370496) (h2 : 0 ≤ c) (h3 : c < 256) : Go.bits .or .i64 (wrap64 (n * 256)) (wrap64 c) = n * 256 + c := by
  rw [wrap_id (by omega) (by omega), wrap_id (by omega) (by omega)]
  exact Go.bits_join .i64 62 (by decide) (fun n h0 h1 => by rw [IntKind.wrap_i64]; omega) 8 (n * 256) c (by omega) (by omega) (by omega) (by omega) (by omega) (by omega)
theorem bytesOf_rd (s : ByteArray) (i : Int) (h0 : 0 ≤ i) (h1 : i < s.size) : rd (bytesOf s) i = bt s i := by
  unfold rd bt
  rw [dif_pos (by omega)]
  unfold bytesOf
  rw [List.getD, List.getElem?_map, List.getElem?_eq_getElem (by rw [Array.length_toList]; show _ < s.size; omega)]
  simp
  rfl
theorem bytesOf_range (s : ByteArray) : ∀ c ∈ bytesOf s, 0 ≤ c ∧ c ≤ 255 := by
  intro c hc
  unfold bytesOf at hc
  obtain ⟨b, _, rfl⟩ := List.mem_map.1 hc
  have := b.toNat_lt
  omega
theorem foldl_range (l : List Int) : ∀ (n : Int), (∀ c ∈ l, 0 ≤ c ∧ c ≤ 255) → 0 ≤ n → 0 ≤ l.foldl (fun n c => n * 256 + c) n ∧ l.foldl (fun n c => n * 256 + c) n < (n + 1) * 256 ^ l.length := by
  induction l with
  | nil => intro n _ hn; simp; omega
  | cons c l ih =>
    intro n h hn
    have h1 := h c (by simp)
    obtain ⟨h2, h3⟩ := ih (n * 256 + c) (fun x hx => h x (by simp [hx])) (by omega)
    refine ⟨h2, ?_⟩
    simp only [List.foldl_cons, List.length_cons]
    refine Int.lt_of_lt_of_le h3 ?_
    rw [Int.pow_succ, Int.mul_comm (256 ^ l.length) 256, ← Int.mul_assoc]
    exact Int.mul_le_mul_of_nonneg_right (by omega) (Int.pow_nonneg (by omega))
theorem impl_number_l (s : ByteArray) (hs : s.size ≤ 6) (t : ByteArray) (b : Bool) : ∀ (d i : Nat), s.size - i = d → i ≤ s.size → ∀ n : Int, n = numL ((bytesOf s).take i) → impl_reader_number.lv0 n (bytesOf s) ((bytesOf s).length : Int) i t b = some (numM s, t, b)
  | 0, i, h, hi, n, hn => by
    rw [impl_reader_number.lv0_eq, if_neg (by rw [bytesOf_length]; omega), hn, List.take_of_length_le (by rw [bytesOf_length]; omega)]; rfl
  | d + 1, i, h, hi, n, hn => by
    have hlt : i < s.size := by omega
    have hr := foldl_range ((bytesOf s).take i) 0 (fun c hc => bytesOf_range s c (List.mem_of_mem_take hc)) (by omega)
    have hlen : ((bytesOf s).take i).length = i := by rw [List.length_take, bytesOf_length]; omega
    rw [hlen] at hr
    have hp : (256 : Int) ^ i ≤ 256 ^ 5 := by
      have h5 : i = 0 ∨ i = 1 ∨ i = 2 ∨ i = 3 ∨ i = 4 ∨ i = 5 := by omega
      rcases h5 with rfl | rfl | rfl | rfl | rfl | rfl <;> decide
    have hn2 : 0 ≤ n ∧ n < 256 ^ 5 := by rw [hn]; unfold numL; omega
    have hb := bt_range s i
    rw [impl_reader_number.lv0_eq, if_pos (by rw [bytesOf_length]; omega), if_pos (by omega), if_pos (by rw [bytesOf_length]; omega), bytesOf_rd s i (by omega) (by omega), or_byte n _ hn2.1 (by omega) hb.1 (by omega), wrap_id (x := (i : Int) + 1) (by omega) (by omega)]
    refine impl_number_l s hs t b d (i + 1) (by omega) (by omega) _ ?_
    rw [List.take_succ_eq_append_getElem (by rw [bytesOf_length]; omega)]
    unfold numL
    rw [List.foldl_append]
    simp only [List.foldl_cons, List.foldl_nil]
    have h1 : (bytesOf s)[i]'(by rw [bytesOf_length]; omega) = bt s i := by
      rw [← bytesOf_rd s i (by omega) (by omega)]
      unfold rd
      rw [Int.toNat_natCast, List.getD, List.getElem?_eq_getElem (by rw [bytesOf_length]; omega)]
      rfl
    rw [h1, hn]
    rfl
/-- The reader at place p of x. -/
theorem take_ok (x : ByteArray) (p n : Nat) (h : p + n ≤ x.size) : impl_reader_take.v (x.extract p x.size) false n = some (x.extract p (p + n), x.extract (p + n) x.size, false) := by
  have hs : (x.extract p x.size).size = x.size - p := by rw [ByteArray.size_extract]; omega
  rw [impl_reader_take.v_eq, if_neg (by simp), if_neg (by omega), if_pos (by omega), if_pos (by omega), Int.toNat_natCast, hs]
  congr 1
  refine Prod.ext ?_ (Prod.ext ?_ rfl)
  · apply ByteArray.ext
    simp only [ByteArray.data_extract, Array.extract_extract]
    congr 1; omega
  · apply ByteArray.ext
    simp only [ByteArray.data_extract, Array.extract_extract]
    congr 1; omega
theorem take_short (x : ByteArray) (p n : Nat) (hp : p ≤ x.size) (h : x.size < p + n) : impl_reader_take.v (x.extract p x.size) false n = some (⟨#[]⟩, x.extract p x.size, true) := by
  have hs : (x.extract p x.size).size = x.size - p := by rw [ByteArray.size_extract]; omega
  rw [impl_reader_take.v_eq, if_neg (by simp), if_pos (by omega)]
theorem take_bad (t : ByteArray) (n : Int) : impl_reader_take.v t true n = some (⟨#[]⟩, t, true) := by rw [impl_reader_take.v_eq, if_pos rfl]
theorem number_of (t u v : ByteArray) (b c : Bool) (n : Int) (h : impl_reader_take.v t b n = some (u, v, c)) (hu : u.size ≤ 6) : impl_reader_number.v t b n = some (numM u, v, c) := by
  rw [impl_reader_number.v_eq, h]
  simp only [Option.bind_some]
  rw [if_pos (by omega)]
  exact impl_number_l u hu v c u.size 0 rfl (by omega) 0 rfl
theorem number_ok (x : ByteArray) (p n : Nat) (h : p + n ≤ x.size) (hn : n ≤ 6) : impl_reader_number.v (x.extract p x.size) false n = some (numM (x.extract p (p + n)), x.extract (p + n) x.size, false) :=
  number_of _ _ _ _ _ _ (take_ok x p n h) (by rw [ByteArray.size_extract]; omega)
theorem number_short (x : ByteArray) (p n : Nat) (hp : p ≤ x.size) (h : x.size < p + n) : impl_reader_number.v (x.extract p x.size) false n = some (0, x.extract p x.size, true) :=
  number_of _ _ _ _ _ _ (take_short x p n hp h) (by show 0 ≤ 6; omega)
theorem number_bad (t : ByteArray) (n : Int) : impl_reader_number.v t true n = some (0, t, true) := number_of _ _ _ _ _ _ (take_bad t n) (by show 0 ≤ 6; omega)
theorem done_bad (t : ByteArray) : impl_reader_done.v t true = some (false, t, true) := by rw [impl_reader_done.v_eq, if_pos rfl]
theorem ba_nil' (s : ByteArray) : (s.toList == ([] : List UInt8)) = decide (s.size = 0) := by
  rw [Bool.eq_iff_iff]
  simp only [beq_iff_eq, decide_eq_true_eq]
  rw [ba_toList]
  constructor
  · intro h; show s.data.size = 0; rw [← Array.length_toList, h]; rfl
  · intro h; have h2 : s.data.toList.length = 0 := by rw [Array.length_toList]; exact h
    exact List.eq_nil_of_length_eq_zero h2
theorem done_at (x : ByteArray) (p : Nat) (h : p ≤ x.size) : impl_reader_done.v (x.extract p x.size) false = some (decide (p = x.size), x.extract p x.size, false) := by
  rw [impl_reader_done.v_eq, if_neg (by simp), ba_nil', ByteArray.size_extract]
  congr 2
  by_cases h2 : p = x.size
  · simp [h2]
  · simp [h2]; omega
theorem at_zero (x : ByteArray) : x = x.extract 0 x.size := by
  apply ByteArray.ext
  rw [ByteArray.data_extract]
  show x.data = x.data.extract 0 x.data.size
  rw [Array.extract_size]
theorem numM_one (x : ByteArray) (p : Nat) (h : p < x.size) : numM (x.extract p (p + 1)) = bt x p := by
  unfold numM numL bytesOf
  rw [ByteArray.data_extract, Array.toList_extract]
  have h2 : (x.data.toList.extract p (p + 1)) = [x[p]] := by
    rw [List.extract_eq_take_drop, show p + 1 - p = 1 by omega, List.drop_eq_getElem_cons (by rw [Array.length_toList]; exact h)]
    rfl
  rw [h2, bt, dif_pos (by omega)]
  simp
theorem extract_sub (x : ByteArray) (a b c d : Nat) (h : a + d ≤ b) : (x.extract a b).extract c d = x.extract (a + c) (a + d) := by
  apply ByteArray.ext
  simp only [ByteArray.data_extract, Array.extract_extract]
  congr 1; omega
theorem spec_l02Of_l (s : ByteArray) (hs : s.size ≤ 6) : ∀ (d i : Nat), s.size - i = d → i ≤ s.size → ∀ n : Int, n = numL ((bytesOf s).take i) → spec_l02Of.lv0 s n i = some (numM s)
  | 0, i, h, hi, n, hn => by
    rw [spec_l02Of.lv0_eq, if_neg (by omega), hn, List.take_of_length_le (by rw [bytesOf_length]; omega)]; rfl
  | d + 1, i, h, hi, n, hn => by
    have hlt : i < s.size := by omega
    have hr := foldl_range ((bytesOf s).take i) 0 (fun c hc => bytesOf_range s c (List.mem_of_mem_take hc)) (by omega)
    have hlen : ((bytesOf s).take i).length = i := by rw [List.length_take, bytesOf_length]; omega
    rw [hlen] at hr
    have hp : (256 : Int) ^ i ≤ 256 ^ 5 := by
      have h5 : i = 0 ∨ i = 1 ∨ i = 2 ∨ i = 3 ∨ i = 4 ∨ i = 5 := by omega
      rcases h5 with rfl | rfl | rfl | rfl | rfl | rfl <;> decide
    have hn2 : 0 ≤ n ∧ n < 256 ^ 5 := by rw [hn]; unfold numL; omega
    have hb := bt_range s i
    rw [spec_l02Of.lv0_eq, if_pos (by omega), if_pos (by omega), wrap_id (x := n * 256) (by omega) (by omega), wrap_id (x := bt s i) (by omega) (by omega), wrap_id (x := n * 256 + bt s i) (by omega) (by omega), wrap_id (x := (i : Int) + 1) (by omega) (by omega)]
    refine spec_l02Of_l s hs d (i + 1) (by omega) (by omega) _ ?_
    rw [List.take_succ_eq_append_getElem (by rw [bytesOf_length]; omega)]
    unfold numL
    rw [List.foldl_append]
    simp only [List.foldl_cons, List.foldl_nil]
    have h1 : (bytesOf s)[i]'(by rw [bytesOf_length]; omega) = bt s i := by
      rw [← bytesOf_rd s i (by omega) (by omega)]
      unfold rd
      rw [Int.toNat_natCast, List.getD, List.getElem?_eq_getElem (by rw [bytesOf_length]; omega)]
      rfl
    rw [h1, hn]
    rfl
theorem spec_l02Of_v (s : ByteArray) (hs : s.size ≤ 6) : spec_l02Of.v s = some (numM s) := by
  rw [spec_l02Of.v_eq]
  exact spec_l02Of_l s hs s.size 0 rfl (by omega) 0 rfl
theorem wrap_bt (x : ByteArray) (i : Int) : wrap64 (bt x i) = bt x i := by
  have := bt_range x i
  exact wrap_id (by omega) (by omega)
theorem spec_l01In_v (n low high : Int) : spec_l01In.v n low high = some (inB n low high) := by
  rw [spec_l01In.v_eq]; unfold inB; split <;> simp <;> omega
theorem impl_within_v (n low high : Int) : impl_within.v n low high = some (inB n low high) := by
  rw [impl_within.v_eq]; unfold inB; split <;> simp <;> omega
theorem spec_l00Letter_v (c : Int) : spec_l00Letter.v c = some (letterB c) := by
  rw [spec_l00Letter.v_eq]; unfold letterB; repeat' split
  all_goals (congr 1; rw [Bool.eq_iff_iff]; simp <;> omega)
theorem impl_isLetter_v (c : Int) : impl_isLetter.v c = some (letterB c) := by
  rw [impl_isLetter.v_eq]; unfold letterB; repeat' split
  all_goals (congr 1; rw [Bool.eq_iff_iff]; simp <;> omega)
theorem spec_l00Digit_v (c : Int) : spec_l00Digit.v c = some (digitB c) := by
  rw [spec_l00Digit.v_eq]; unfold digitB; split <;> simp <;> omega
theorem spec_l00Word_l (s : ByteArray) (hs : s.size ≤ 9223372036854775807) (i : Int) (h : 0 ≤ i) : spec_l00Word.lv0 s i = some (allI (fun j => letterB (bt s j) || digitB (bt s j)) i s.size) := by
  refine loop_all _ s.size (by omega) (fun i h0 h1 => ?_) (fun i h0 h1 => ?_) _ i rfl h
  · rw [spec_l00Word.lv0_eq, if_pos h1, if_pos h0, spec_l00Letter_v, spec_l00Digit_v]
    simp only [Option.bind_some]
    cases letterB (bt s i) <;> cases digitB (bt s i) <;> simp
  · rw [spec_l00Word.lv0_eq, if_neg (by omega)]
theorem impl_NameOK_l (s : ByteArray) (hs : s.size ≤ 9223372036854775807) (i : Int) (h : 0 ≤ i) : impl_NameOK.lv0 s s.size i = some (allI (fun j => letterB (bt s j) || digitB (bt s j)) i s.size) := by
  refine loop_all (L := fun i => impl_NameOK.lv0 s s.size i) _ s.size (by omega) (fun i h0 h1 => ?_) (fun i h0 h1 => ?_) _ i rfl h
  · rw [impl_NameOK.lv0_eq, if_pos h1, if_pos h0, if_pos h1, impl_isLetter_v]
    simp only [Option.bind_some]
    cases letterB (bt s i) <;> simp [digitB]
    by_cases h2 : bt s i < 48
    · simp [h2, show ¬ 48 ≤ bt s i by omega]
    · by_cases h3 : 57 < bt s i
      · simp [h2, h3, show ¬ bt s i ≤ 57 by omega]
      · simp [h2, h3, show 48 ≤ bt s i by omega, show bt s i ≤ 57 by omega]
  · rw [impl_NameOK.lv0_eq, if_neg (by omega)]
theorem spec_NameOK_v (s : ByteArray) (hs : s.size ≤ 9223372036854775807) : spec_NameOK.v s = some (nameB s) := by
  rw [spec_NameOK.v_eq, spec_l00Word.v_eq]
  simp only [spec_l00Letter_v, spec_l00Word.jv0_eq, spec_l00Word_l s hs 1 (by omega), Option.bind_some, nameB]
  by_cases h1 : (s.size : Int) < 1
  · simp [h1]; omega
  · by_cases h2 : (s.size : Int) > 40
    · simp [h1, h2]; omega
    · simp only [if_neg h1, if_neg h2, if_pos (show 0 < (s.size : Int) by omega), Option.bind_some, show (1 ≤ s.size ∧ s.size ≤ 40) = True by simp; omega]
      cases letterB (bt s 0) <;> simp
theorem impl_NameOK_v (s : ByteArray) (hs : s.size ≤ 9223372036854775807) : impl_NameOK.v s = some (nameB s) := by
  rw [impl_NameOK.v_eq]
  simp only [impl_isLetter_v, impl_NameOK.jv0_eq, impl_NameOK_l s hs 0 (by omega), Option.bind_some, nameB]
  by_cases h1 : (s.size : Int) < 1
  · simp [h1]; omega
  · by_cases h2 : (s.size : Int) > 40
    · simp [h1, h2]; omega
    · simp only [if_neg h1, if_neg h2, if_pos (show 0 < (s.size : Int) by omega), Option.bind_some, show (1 ≤ s.size ∧ s.size ≤ 40) = True by simp; omega]
      rw [allI_step (i := 0) (by omega)]
      cases letterB (bt s 0) <;> simp
theorem spec_l02Text_v (s : ByteArray) (n : Int) (hs : s.size ≤ 9223372036854775807) : spec_l02Text.v s n = some (decide ((s.size : Int) ≤ n) && nameB s) := by
  rw [spec_l02Text.v_eq, spec_l01In_v, spec_NameOK_v s hs]
  simp only [Option.bind_some, inB]
  by_cases h : (1 : Int) ≤ s.size ∧ (s.size : Int) ≤ n
  · simp [h]
  · by_cases h2 : (s.size : Int) ≤ n
    · simp [h, h2, nameB, show ¬ (1 ≤ s.size) by omega]
    · simp [h, h2]
theorem impl_isOpName_v (s : ByteArray) (hs : s.size ≤ 9223372036854775807) : impl_isOpName.v s = some (decide ((s.size : Int) ≤ 12) && nameB s) := by
  rw [impl_isOpName.v_eq, impl_NameOK_v s hs]
  by_cases h : (s.size : Int) ≤ 12 <;> simp [h]
def reqB (c st k ls : Int) (nm : ByteArray) : Bool :=
  inB c 0 255 && inB st 1 65535 && inB k 1 4 && inB ls 0 1000 && (decide ((nm.size : Int) ≤ 12) && nameB nm) && (decide (ls > 0) == decide (k = 1 ∨ k = 3))
theorem spec_RequestOK_v (c st k ls : Int) (nm : ByteArray) (h : nm.size ≤ 9223372036854775807) : spec_RequestOK.v c st k ls nm = some (reqB c st k ls nm) := by
  rw [spec_RequestOK.v_eq]
  simp only [spec_l01In_v, Option.bind_some, spec_l02Text_v nm 12 h, reqB]
  generalize (decide ((nm.size : Int) ≤ 12) && nameB nm) = q
  cases inB c 0 255 <;> cases inB st 1 65535 <;> cases inB k 1 4 <;> cases inB ls 0 1000 <;> cases q <;> simp
  by_cases h1 : k = 1
  · simp [h1]
  · by_cases h2 : k = 3
    · simp [h2]
    · simp [h1, h2, show (k == 3) = false by simpa using h2]
theorem impl_RequestOK_v (c st k ls : Int) (nm : ByteArray) (h : nm.size ≤ 9223372036854775807) : impl_RequestOK.v c st k ls nm = some (reqB c st k ls nm) := by
  have e : impl_RequestOK.v c st k ls nm = impl_RequestOK.jv1 (if k = 1 ∨ k = 3 then 1 else 0) (if k = 1 ∨ k = 3 then 1000 else 0) c st k ls nm := by
    rw [impl_RequestOK.v_eq]
    by_cases h1 : k = 1
    · simp [h1, impl_RequestOK.jv0_eq]
    · by_cases h2 : k = 3
      · simp [h2, impl_RequestOK.jv0_eq]
      · simp [h1, h2, impl_RequestOK.jv0_eq, show (k == 3) = false by simpa using h2]
  rw [e, impl_RequestOK.jv1_eq]
  simp only [impl_within_v, Option.bind_some, impl_isOpName_v nm h, reqB]
  generalize (decide ((nm.size : Int) ≤ 12) && nameB nm) = q
  by_cases hk : k = 1 ∨ k = 3
  · have e2 : inB ls 1 1000 = (inB ls 0 1000 && decide (ls > 0)) := by unfold inB; rw [Bool.eq_iff_iff]; simp; omega
    simp only [if_pos hk, e2, decide_eq_true hk]
    cases inB c 0 255 <;> cases inB st 1 65535 <;> cases inB k 1 4 <;> cases inB ls 0 1000 <;> cases q <;> cases decide (ls > 0) <;> simp
  · have e2 : inB ls 0 0 = (inB ls 0 1000 && !decide (ls > 0)) := by unfold inB; rw [Bool.eq_iff_iff]; simp; omega
    simp only [if_neg hk, e2, decide_eq_false hk]
    cases inB c 0 255 <;> cases inB st 1 65535 <;> cases inB k 1 4 <;> cases inB ls 0 1000 <;> cases q <;> cases decide (ls > 0) <;> simp
/-- A request at place p of x: how long its name is; its parts. -/
def rN (x : ByteArray) (p : Nat) : Nat := (bt x (p + 6 : Nat)).toNat
def rB (x : ByteArray) (p : Nat) : Bool := reqB (bt x p) (numM (x.extract (p + 1) (p + 3))) (bt x (p + 3 : Nat)) (numM (x.extract (p + 4) (p + 6))) (x.extract (p + 7) (p + 7 + rN x p))
abbrev Req7 := Int × Int × Int × Int × ByteArray × ByteArray × Bool
theorem impl_request_ok (x : ByteArray) (p : Nat) (h : p + 7 + rN x p ≤ x.size) : impl_reader_request.v (x.extract p x.size) false =
    some (bt x p, numM (x.extract (p + 1) (p + 3)), bt x (p + 3 : Nat), numM (x.extract (p + 4) (p + 6)), x.extract (p + 7) (p + 7 + rN x p), x.extract (p + 7 + rN x p) x.size, false) := by
  rw [impl_reader_request.v_eq]
  rw [show (1 : Int) = ((1 : Nat) : Int) from rfl, show (2 : Int) = ((2 : Nat) : Int) from rfl]
  rw [number_ok x p 1 (by omega) (by omega), Option.bind_some]
  simp only
  rw [number_ok x (p + 1) 2 (by omega) (by omega), Option.bind_some]
  simp only
  rw [number_ok x (p + 1 + 2) 1 (by omega) (by omega), Option.bind_some]
  simp only
  rw [number_ok x (p + 1 + 2 + 1) 2 (by omega) (by omega), Option.bind_some]
  simp only
  rw [impl_reader_sized.v_eq, number_ok x (p + 1 + 2 + 1 + 2) 1 (by omega) (by omega), Option.bind_some]
  simp only
  have hb := bt_range x (p + 6 : Nat)
  have e6 : numM (x.extract (p + 1 + 2 + 1 + 2) (p + 1 + 2 + 1 + 2 + 1)) = ((rN x p : Nat) : Int) := by
    rw [numM_one x _ (by omega)]
    unfold rN
    rw [Int.toNat_of_nonneg hb.1]
  rw [e6, take_ok x (p + 1 + 2 + 1 + 2 + 1) (rN x p) (by omega), Option.bind_some, Option.bind_some]
  rw [numM_one x p (by omega), numM_one x (p + 1 + 2) (by omega)]
theorem impl_request_bad (t : ByteArray) : impl_reader_request.v t true = some (0, 0, 0, 0, ⟨#[]⟩, t, true) := by
  rw [impl_reader_request.v_eq]
  simp [number_bad, impl_reader_sized.v_eq, take_bad]
theorem impl_request_short (x : ByteArray) (p : Nat) (hp : p ≤ x.size) (h : x.size < p + 7 ∨ x.size < p + 7 + rN x p) : ∃ r : Req7, impl_reader_request.v (x.extract p x.size) false = some r ∧ r.2.2.2.2.2.2 = true := by
  rw [impl_reader_request.v_eq]
  have sized : ∀ (t : ByteArray) (b : Bool) (n : Int), impl_reader_sized.v t b n = (impl_reader_number.v t b n).bind fun r => (impl_reader_take.v r.2.1 r.2.2 r.1).bind fun q => some (q.1, q.2.1, q.2.2) := fun t b n => impl_reader_sized.v_eq t b n
  rw [show (1 : Int) = ((1 : Nat) : Int) from rfl, show (2 : Int) = ((2 : Nat) : Int) from rfl]
  rcases Nat.lt_or_ge x.size (p + 1) with h0 | h0
  · rw [number_short x p 1 hp h0]
    exact ⟨_, by simp [number_bad, sized, take_bad]; rfl, rfl⟩
  rw [number_ok x p 1 (by omega) (by omega), Option.bind_some]
  simp only
  rcases Nat.lt_or_ge x.size (p + 1 + 2) with h1 | h1
  · rw [number_short x (p + 1) 2 h0 h1]
    exact ⟨_, by simp [number_bad, sized, take_bad]; rfl, rfl⟩
  rw [number_ok x (p + 1) 2 (by omega) (by omega), Option.bind_some]
  simp only
  rcases Nat.lt_or_ge x.size (p + 1 + 2 + 1) with h2 | h2
  · rw [number_short x (p + 1 + 2) 1 h1 h2]
    exact ⟨_, by simp [number_bad, sized, take_bad]; rfl, rfl⟩
  rw [number_ok x (p + 1 + 2) 1 (by omega) (by omega), Option.bind_some]
  simp only
  rcases Nat.lt_or_ge x.size (p + 1 + 2 + 1 + 2) with h3 | h3
  · rw [number_short x (p + 1 + 2 + 1) 2 h2 h3]
    exact ⟨_, by simp [number_bad, sized, take_bad]; rfl, rfl⟩
  rw [number_ok x (p + 1 + 2 + 1) 2 (by omega) (by omega), Option.bind_some]
  simp only
  rcases Nat.lt_or_ge x.size (p + 1 + 2 + 1 + 2 + 1) with h4 | h4
  · rw [sized, number_short x (p + 1 + 2 + 1 + 2) 1 h3 h4]
    exact ⟨_, by simp [take_bad]; rfl, rfl⟩
  rw [sized, number_ok x (p + 1 + 2 + 1 + 2) 1 (by omega) (by omega), Option.bind_some]
  simp only
  have hb := bt_range x (p + 6 : Nat)
  have e6 : numM (x.extract (p + 1 + 2 + 1 + 2) (p + 1 + 2 + 1 + 2 + 1)) = ((rN x p : Nat) : Int) := by
    rw [numM_one x _ (by omega)]
    unfold rN
    rw [Int.toNat_of_nonneg hb.1]
  rw [e6, take_short x (p + 1 + 2 + 1 + 2 + 1) (rN x p) h4 (by omega)]
  exact ⟨_, rfl, rfl⟩
/-- The reference's way, from place p on to the end. -/
def rFits (x : ByteArray) (p : Nat) : Bool := decide (p + 7 + rN x p = x.size)
abbrev Req6 := Int × Int × Int × Int × ByteArray × Bool
def rYes (x : ByteArray) (p : Nat) : Req6 := (bt x p, numM (x.extract (p + 1) (p + 3)), bt x (p + 3 : Nat), numM (x.extract (p + 4) (p + 6)), x.extract (p + 7) (p + 7 + rN x p), true)
theorem spec_l02ReadRequest_v (x : ByteArray) (hx : x.size ≤ 9223372036854775000) : ∃ r : Req6, spec_l02ReadRequest.v x = some r ∧ (((rFits x 0 && rB x 0) = true ∧ r = rYes x 0) ∨ ((rFits x 0 && rB x 0) = false ∧ r.2.2.2.2.2 = false)) := by
  rw [spec_l02ReadRequest.v_eq]
  by_cases h7 : (x.size : Int) < 7
  · rw [if_pos h7, spec_l02ReadRequest.jv0_eq, if_pos rfl]
    refine ⟨_, rfl, .inr ⟨?_, rfl⟩⟩
    have : rFits x 0 = false := by unfold rFits; simp; omega
    rw [this]; rfl
  have hN : bt x 6 = ((rN x 0 : Nat) : Int) := by unfold rN; rw [Int.toNat_of_nonneg (bt_range x _).1]; rfl
  have hNr : rN x 0 ≤ 255 := by have := bt_range x 6; omega
  have w1 : wrap64 (7 + ((rN x 0 : Nat) : Int)) = ((7 + rN x 0 : Nat) : Int) := by rw [wrap_id (by omega) (by omega)]; omega
  rw [if_neg h7, if_pos (by omega), spec_l02ReadRequest.jv0_eq, wrap_bt, hN, w1]
  clear w1
  by_cases h8 : (x.size : Int) = ((7 + rN x 0 : Nat) : Int)
  · have c1 : (0 : Int) < x.size := by omega
    have c2 : (3 : Int) ≤ x.size := by omega
    have c3 : (3 : Int) < x.size := by omega
    have c4 : (6 : Int) ≤ x.size := by omega
    have c5 : (7 : Int) ≤ x.size := by omega
    have d5 := spec_l02Of_v (x.extract 1 3) (by rw [ByteArray.size_extract]; omega)
    have d6 := spec_l02Of_v (x.extract 4 6) (by rw [ByteArray.size_extract]; omega)
    have hne : ((x.size : Int) != ((7 + rN x 0 : Nat) : Int)) = false := by simp [h8]
    simp only [hne, Bool.false_eq_true, if_false, if_pos c1, if_pos c2, if_pos c3, if_pos c4, if_pos c5, if_pos (show (1 : Int) ≤ 3 by omega), if_pos (show (4 : Int) ≤ 6 by omega), d5, d6, wrap_bt, Option.bind_some]
    rw [spec_RequestOK_v _ _ _ _ _ (by rw [ByteArray.size_extract]; omega), Option.bind_some]
    have e7 : x.extract 7 x.size = x.extract (0 + 7) (0 + 7 + rN x 0) := by rw [show x.size = 0 + 7 + rN x 0 by omega]
    refine ⟨_, rfl, ?_⟩
    have hf : rFits x 0 = true := by unfold rFits; simp; omega
    cases hq : rB x 0
    · exact .inr ⟨by simp, by rw [e7]; exact hq⟩
    · refine .inl ⟨by rw [hf]; rfl, ?_⟩
      have hq2 : reqB (bt x 0) (numM (x.extract 1 3)) (bt x 3) (numM (x.extract 4 6)) (x.extract 7 x.size) = true := by rw [e7]; exact hq
      rw [hq2, e7]
      rfl
  · rw [if_pos (by simpa using h8)]
    refine ⟨_, rfl, .inr ⟨?_, rfl⟩⟩
    have : rFits x 0 = false := by unfold rFits; simp; omega
    rw [this]; rfl
def readingB (f v : Int) (m : ByteArray) : Bool := inB f 0 6 && (inB v 0 1000000000 && decide (m.size = 8))
theorem size_beq (m : ByteArray) (n : Nat) : ((m.size : Int) == (n : Int)) = decide (m.size = n) := by
  rw [Bool.eq_iff_iff, beq_iff_eq, decide_eq_true_eq]; omega
theorem impl_isReading_v (f v : Int) (m : ByteArray) : impl_isReading.v f v m = some (readingB f v m) := by
  rw [impl_isReading.v_eq, impl_within_v, impl_within_v]; unfold readingB
  have := size_beq m 8
  cases inB f 0 6 <;> cases inB v 0 1000000000 <;> simp_all
theorem spec_l02Reading_v (f v : Int) (m : ByteArray) : spec_l02Reading.v f v m = some (readingB f v m) := by
  rw [spec_l02Reading.v_eq, spec_l01In_v, spec_l01In_v]; unfold readingB
  have := size_beq m 8
  cases inB f 0 6 <;> cases inB v 0 1000000000 <;> simp_all
theorem batch_loop (n : Bool) (a b c d : Int) (e : ByteArray) (rs : List S161) (hl : rs.length ≤ 1000000) : ∀ k i : Nat, rs.length - i = k → i ≤ rs.length →
    ∃ r, impl_isBatch.lv0 rs rs.length i n a b c d e rs = some r ∧ spec_l02BatchOK.lv0 i n a b c d e rs = some r
  | 0, i, h, hi => by
    refine ⟨true, ?_, ?_⟩
    · rw [impl_isBatch.lv0_eq, if_neg (by omega)]
    · rw [spec_l02BatchOK.lv0_eq, if_neg (by omega)]
  | k + 1, i, h, hi => by
    obtain ⟨r, e1, e2⟩ := batch_loop n a b c d e rs hl k (i + 1) (by omega) (by omega)
    have hw : wrap64 ((i : Int) + 1) = ((i + 1 : Nat) : Int) := by rw [wrap_id (by omega) (by omega)]; omega
    have c1 : (i : Int) < (rs.length : Int) := by omega
    have c2 : (0 : Int) ≤ (i : Int) := by omega
    rw [impl_isBatch.lv0_eq, spec_l02BatchOK.lv0_eq]
    simp only [if_pos c1, if_pos c2, impl_isReading_v, spec_l02Reading_v, Option.bind_some, hw, e1, e2]
    clear hw
    cases readingB ((rd_T161 rs i).f0) ((rd_T161 rs i).f1) ((rd_T161 rs i).f2)
    · exact ⟨false, rfl, rfl⟩
    · simp only [if_true]
      by_cases h0 : (i : Int) > 0
      · have hw : wrap64 ((i : Int) - 1) = (i : Int) - 1 := wrap_id (by omega) (by omega)
        have c3 : (0 : Int) ≤ (i : Int) - 1 := by omega
        have c4 : (i : Int) - 1 < (rs.length : Int) := by omega
        simp only [if_pos h0, hw, if_pos c3, if_pos c4]
        split
        · exact ⟨false, rfl, rfl⟩
        · exact ⟨r, rfl, rfl⟩
      · simp only [if_neg h0]
        exact ⟨r, rfl, rfl⟩
theorem batch_both (n : Bool) (a b c d : Int) (e : ByteArray) (rs : List S161) (he : e.size ≤ 9223372036854775807) :
    ∃ r, impl_isBatch.v n a b c d e rs = some r ∧ spec_l02BatchOK.v n a b c d e rs = some r ∧ (n = false → reqB a b c d e = false → r = false) ∧ (n = false → rs.length > 7 → r = false) := by
  rw [impl_isBatch.v_eq, spec_l02BatchOK.v_eq]
  cases n
  · rw [if_neg (by simp), if_neg (by simp), impl_RequestOK_v _ _ _ _ _ he, spec_RequestOK_v _ _ _ _ _ he, Option.bind_some, Option.bind_some]
    cases reqB a b c d e
    · refine ⟨false, ?_, ?_, fun _ _ => rfl, fun _ _ => rfl⟩
      · rw [if_neg (by simp), impl_isBatch.jv0_eq, if_pos rfl]
      · rw [if_neg (by simp), spec_l02BatchOK.jv0_eq, if_pos rfl]
    · rw [if_pos rfl, if_pos rfl, impl_isBatch.jv0_eq, spec_l02BatchOK.jv0_eq]
      by_cases h7 : (rs.length : Int) > 7
      · rw [if_pos (decide_eq_true h7), if_pos (decide_eq_true h7)]
        exact ⟨false, rfl, rfl, fun _ _ => rfl, fun _ _ => rfl⟩
      · rw [if_neg (by simpa using h7), if_neg (by simpa using h7)]
        obtain ⟨r, e1, e2⟩ := batch_loop false a b c d e rs (by omega) rs.length 0 (by omega) (by omega)
        exact ⟨r, e1, e2, (fun _ h => by cases h), fun _ h => by omega⟩
  · rw [if_pos rfl, if_pos rfl]
    split
    · exact ⟨_, rfl, rfl, (fun h => by cases h), fun h => by cases h⟩
    · exact ⟨_, rfl, rfl, (fun h => by cases h), fun h => by cases h⟩
abbrev Batch8 := Bool × Int × Int × Int × Int × ByteArray × List S161 × Bool
def bNo : Batch8 := (false, 0, 0, 0, 0, ⟨#[]⟩, [], false)
def bAgree (r s : Batch8) : Prop := (r = s ∧ r.2.2.2.2.2.2.2 = true) ∨ (r = bNo ∧ s.2.2.2.2.2.2.2 = false)
theorem batch_end (y : ByteArray) (hy : y.size ≤ 1048576) (m n : Int) (hm : 0 ≤ m) (acc : List S161) :
    ∃ r s : Batch8, impl_readBatch.lv0 m n n y false false 0 0 0 0 ⟨#[]⟩ acc = some r ∧
      ((spec_l02ReadRequest.v y).bind fun q => if q.2.2.2.2.2 = true then ((spec_l02BatchOK.v false q.1 q.2.1 q.2.2.1 q.2.2.2.1 q.2.2.2.2.1 acc).bind fun t => (some (false, q.1, q.2.1, q.2.2.1, q.2.2.2.1, q.2.2.2.2.1, acc, t) : Option Batch8)) else some (false, q.1, q.2.1, q.2.2.1, q.2.2.2.1, q.2.2.2.2.1, acc, false)) = some s ∧ bAgree r s ∧ (r.2.2.2.2.2.2.1 = acc ∨ r = bNo) := by
  obtain ⟨q, e, h2⟩ := spec_l02ReadRequest_v y (by omega)
  rw [impl_readBatch.lv0_eq, if_neg (by omega), e, Option.bind_some]
  clear e
  rcases Decidable.em (0 + 7 + rN y 0 ≤ y.size) with h3 | h3
  · have hi := impl_request_ok y 0 h3
    rw [← at_zero y] at hi
    rw [hi, Option.bind_some]
    clear hi
    simp only
    rw [if_neg (by omega), done_at y _ h3, Option.bind_some]
    simp only
    by_cases h4 : 0 + 7 + rN y 0 = y.size
    · rw [if_pos (decide_eq_true h4)]
      obtain ⟨b, b1, b2, b3, _⟩ := batch_both false (bt y ((0 : Nat) : Int)) (numM (y.extract (0 + 1) (0 + 3))) (bt y ((0 + 3 : Nat) : Int)) (numM (y.extract (0 + 4) (0 + 6))) (y.extract (0 + 7) (0 + 7 + rN y 0)) acc (by rw [ByteArray.size_extract]; omega)
      rw [b1, Option.bind_some]
      have hf : rFits y 0 = true := by unfold rFits; exact decide_eq_true h4
      rcases h2 with ⟨h2, rfl⟩ | ⟨h2, h5⟩
      · have e3 : (rYes y 0).2.2.2.2.2 = true := rfl
        have e4 : spec_l02BatchOK.v false (rYes y 0).1 (rYes y 0).2.1 (rYes y 0).2.2.1 (rYes y 0).2.2.2.1 (rYes y 0).2.2.2.2.1 acc = some b := b2
        rw [if_pos e3, e4, Option.bind_some]
        cases b
        · exact ⟨_, _, rfl, rfl, .inr ⟨rfl, rfl⟩, .inr rfl⟩
        · exact ⟨_, _, rfl, rfl, .inl ⟨rfl, rfl⟩, .inl rfl⟩
      · have hb : rB y 0 = false := by rw [hf] at h2; exact h2
        have hb2 : b = false := b3 rfl hb
        subst hb2
        rw [h5]
        exact ⟨_, _, rfl, rfl, .inr ⟨rfl, rfl⟩, .inr rfl⟩
    · rw [if_neg (show ¬ decide (0 + 7 + rN y 0 = y.size) = true by rw [decide_eq_false h4]; simp)]
      have hf : rFits y 0 = false := by unfold rFits; exact decide_eq_false h4
      rcases h2 with ⟨h2, _⟩ | ⟨h2, h5⟩
      · rw [hf] at h2; cases h2
      · rw [h5]; exact ⟨_, _, rfl, rfl, .inr ⟨rfl, rfl⟩, .inr rfl⟩
  · obtain ⟨w, e2, e3⟩ := impl_request_short y 0 (by omega) (.inr (by omega))
    rw [← at_zero y] at e2
    rw [e2, Option.bind_some, if_neg (by omega), e3, done_bad, Option.bind_some]
    have hf : rFits y 0 = false := by unfold rFits; exact decide_eq_false (by omega)
    rcases h2 with ⟨h2, _⟩ | ⟨h2, h5⟩
    · rw [hf] at h2; cases h2
    · rw [h5]; exact ⟨_, _, rfl, rfl, .inr ⟨rfl, rfl⟩, .inr rfl⟩
theorem batch_many (y : ByteArray) (hy : y.size ≤ 1048576) (acc : List S161) (ha : acc.length > 7) :
    ∃ s : Batch8, ((spec_l02ReadRequest.v y).bind fun q => if q.2.2.2.2.2 = true then ((spec_l02BatchOK.v false q.1 q.2.1 q.2.2.1 q.2.2.2.1 q.2.2.2.2.1 acc).bind fun t => (some (false, q.1, q.2.1, q.2.2.1, q.2.2.2.1, q.2.2.2.2.1, acc, t) : Option Batch8)) else some (false, q.1, q.2.1, q.2.2.1, q.2.2.2.1, q.2.2.2.2.1, acc, false)) = some s ∧ s.2.2.2.2.2.2.2 = false := by
  obtain ⟨q, e, h2⟩ := spec_l02ReadRequest_v y (by omega)
  rw [e, Option.bind_some]
  rcases h2 with ⟨h2, rfl⟩ | ⟨h2, h5⟩
  · obtain ⟨b, b1, b2, b3, b4⟩ := batch_both false (rYes y 0).1 (rYes y 0).2.1 (rYes y 0).2.2.1 (rYes y 0).2.2.2.1 (rYes y 0).2.2.2.2.1 acc (by show (y.extract (0 + 7) (0 + 7 + rN y 0)).size ≤ _; rw [ByteArray.size_extract]; omega)
    have e3 : (rYes y 0).2.2.2.2.2 = true := rfl
    rw [if_pos e3, b2, b4 rfl ha, Option.bind_some]
    exact ⟨_, rfl, rfl⟩
  · rw [h5]; exact ⟨_, rfl, rfl⟩
/-- c readings from place p on. -/
def rdL (x : ByteArray) : Nat → Nat → List S161
  | _, 0 => []
  | p, c + 1 => ⟨bt x p, numM (x.extract (p + 1) (p + 5)), x.extract (p + 5) (p + 13)⟩ :: rdL x (p + 13) c
theorem rdL_len (x : ByteArray) : ∀ (c p : Nat), (rdL x p c).length = c
  | 0, p => rfl
  | c + 1, p => by simp [rdL, rdL_len x c]
theorem batch_impl (x : ByteArray) (m n : Int) (hn : n ≤ 1000) : ∀ (c p i : Nat) (acc : List S161), n - i = c → i ≤ 1000 → acc.length = i → p + 13 * c ≤ x.size →
    impl_readBatch.lv0 m n i (x.extract p x.size) false false 0 0 0 0 ⟨#[]⟩ acc = impl_readBatch.lv0 m n n (x.extract (p + 13 * c) x.size) false false 0 0 0 0 ⟨#[]⟩ (acc ++ rdL x p c)
  | 0, p, i, acc, h, hi, ha, hp => by
    have : n = i := by omega
    subst this
    simp [rdL]
  | c + 1, p, i, acc, h, hi, ha, hp => by
    have ih := batch_impl x m n hn c (p + 13) (i + 1) (acc ++ [⟨bt x p, numM (x.extract (p + 1) (p + 5)), x.extract (p + 5) (p + 13)⟩]) (by omega) (by omega) (by simp [ha]) (by omega)
    have hw : wrap64 ((i : Int) + 1) = ((i + 1 : Nat) : Int) := by rw [wrap_id (by omega) (by omega)]; omega
    rw [impl_readBatch.lv0_eq, if_pos (by omega), hw]
    clear hw
    rw [show (1 : Int) = ((1 : Nat) : Int) from rfl, show (4 : Int) = ((4 : Nat) : Int) from rfl, show (8 : Int) = ((8 : Nat) : Int) from rfl]
    rw [number_ok x p 1 (by omega) (by omega), Option.bind_some]
    simp only
    rw [number_ok x (p + 1) 4 (by omega) (by omega), Option.bind_some]
    simp only
    rw [take_ok x (p + 1 + 4) 8 (by omega), Option.bind_some]
    simp only
    rw [if_pos (by omega), numM_one x p (by omega)]
    rw [show p + 13 * (c + 1) = p + 13 + 13 * c by omega]
    show _ = impl_readBatch.lv0 m n n (x.extract (p + 13 + 13 * c) x.size) false false 0 0 0 0 ⟨#[]⟩ (acc ++ (⟨bt x p, numM (x.extract (p + 1) (p + 5)), x.extract (p + 5) (p + 13)⟩ :: rdL x (p + 13) c))
    rw [List.append_assoc] at ih
    exact ih
theorem batch_bad (m n : Int) (hn : n ≤ 1000) : ∀ (c i : Nat) (t : ByteArray) (acc : List S161), n - i = c → i ≤ 1000 → acc.length ≤ i →
    impl_readBatch.lv0 m n i t true false 0 0 0 0 ⟨#[]⟩ acc = some bNo
  | 0, i, t, acc, h, hi, ha => by
    rw [impl_readBatch.lv0_eq, if_neg (by omega), impl_request_bad, Option.bind_some]
    simp only [done_bad, Option.bind_some]
    split <;> rfl
  | c + 1, i, t, acc, h, hi, ha => by
    have ih := batch_bad m n hn c (i + 1)
    have hw : wrap64 ((i : Int) + 1) = ((i + 1 : Nat) : Int) := by rw [wrap_id (by omega) (by omega)]; omega
    rw [impl_readBatch.lv0_eq, if_pos (by omega), hw]
    clear hw
    rw [number_bad, Option.bind_some]
    simp only
    rw [number_bad, Option.bind_some]
    simp only
    rw [take_bad, Option.bind_some]
    simp only
    rw [if_pos (by omega)]
    exact ih _ _ (by omega) (by omega) (by simp; omega)
theorem batch_short (x : ByteArray) (m n : Int) (hn : n ≤ 1000) : ∀ (c p i : Nat) (acc : List S161), n - i = c → i ≤ 1000 → acc.length ≤ i → p ≤ x.size → x.size < p + 13 * c →
    impl_readBatch.lv0 m n i (x.extract p x.size) false false 0 0 0 0 ⟨#[]⟩ acc = some bNo
  | 0, p, i, acc, h, hi, ha, hp, hs => by omega
  | c + 1, p, i, acc, h, hi, ha, hp, hs => by
    have ih := batch_short x m n hn c (p + 1 + 4 + 8) (i + 1)
    have hb := batch_bad m n hn c (i + 1)
    have hw : wrap64 ((i : Int) + 1) = ((i + 1 : Nat) : Int) := by rw [wrap_id (by omega) (by omega)]; omega
    rw [impl_readBatch.lv0_eq, if_pos (by omega), hw]
    clear hw
    rw [show (1 : Int) = ((1 : Nat) : Int) from rfl, show (4 : Int) = ((4 : Nat) : Int) from rfl, show (8 : Int) = ((8 : Nat) : Int) from rfl]
    rcases Nat.lt_or_ge x.size (p + 1) with h0 | h0
    · rw [number_short x p 1 hp h0, Option.bind_some]
      simp only
      rw [number_bad, Option.bind_some]
      simp only
      rw [take_bad, Option.bind_some]
      simp only
      rw [if_pos (by omega)]
      exact hb _ _ (by omega) (by omega) (by simp; omega)
    rw [number_ok x p 1 (by omega) (by omega), Option.bind_some]
    simp only
    rcases Nat.lt_or_ge x.size (p + 1 + 4) with h1 | h1
    · rw [number_short x (p + 1) 4 h0 h1, Option.bind_some]
      simp only
      rw [take_bad, Option.bind_some]
      simp only
      rw [if_pos (by omega)]
      exact hb _ _ (by omega) (by omega) (by simp; omega)
    rw [number_ok x (p + 1) 4 (by omega) (by omega), Option.bind_some]
    simp only
    rcases Nat.lt_or_ge x.size (p + 1 + 4 + 8) with h2 | h2
    · rw [take_short x (p + 1 + 4) 8 h1 h2, Option.bind_some]
      simp only
      rw [if_pos (by omega)]
      exact hb _ _ (by omega) (by omega) (by simp; omega)
    rw [take_ok x (p + 1 + 4) 8 (by omega), Option.bind_some]
    simp only
    rw [if_pos (by omega)]
    exact ih _ (by omega) (by omega) (by simp; omega) (by omega) (by omega)
theorem bt_extract (x : ByteArray) (a b i : Nat) (h : i < b - a) (h2 : b ≤ x.size) : bt (x.extract a b) i = bt x (a + i : Nat) := by
  have h3 : i < (x.extract a b).size := by rw [ByteArray.size_extract]; omega
  unfold bt
  rw [dif_pos (by rw [Int.toNat_natCast]; exact h3), dif_pos (by rw [Int.toNat_natCast]; omega)]
  simp only [Int.toNat_natCast, ByteArray.getElem_extract]
theorem batch_spec (x : ByteArray) (hx : x.size ≤ 1048576) (n : Nat) (h1 : 1 ≤ n) (hn : n ≤ 255) (hs : 1 + 13 * (n - 1) ≤ x.size) : ∀ (c i : Nat) (acc : List S161), n - 1 - i = c → i ≤ n - 1 → acc.length = i →
    spec_l02ReadBatch.lv0 x n i false 0 0 0 0 ⟨#[]⟩ acc = spec_l02ReadBatch.lv0 x n (n - 1 : Nat) false 0 0 0 0 ⟨#[]⟩ (acc ++ rdL x (1 + 13 * i) c)
  | 0, i, acc, h, hi, ha => by
    have : i = n - 1 := by omega
    subst this
    simp [rdL]
  | c + 1, i, acc, h, hi, ha => by
    have ih := batch_spec x hx n h1 hn hs c (i + 1) (acc ++ [⟨bt x (1 + 13 * i : Nat), numM (x.extract (1 + 13 * i + 1) (1 + 13 * i + 5)), x.extract (1 + 13 * i + 5) (1 + 13 * i + 13)⟩]) (by omega) (by omega) (by simp [ha])
    have w1 : wrap64 ((i : Int) + 1) = ((i + 1 : Nat) : Int) := by rw [wrap_id (by omega) (by omega)]; omega
    have w2 : wrap64 ((n : Int) - 1) = ((n - 1 : Nat) : Int) := by rw [wrap_id (by omega) (by omega)]; omega
    have w3 : wrap64 (13 * (i : Int)) = ((13 * i : Nat) : Int) := by rw [wrap_id (by omega) (by omega)]; omega
    have w4 : wrap64 (1 + ((13 * i : Nat) : Int)) = ((1 + 13 * i : Nat) : Int) := by rw [wrap_id (by omega) (by omega)]; omega
    have w5 : wrap64 (14 + ((13 * i : Nat) : Int)) = ((14 + 13 * i : Nat) : Int) := by rw [wrap_id (by omega) (by omega)]; omega
    rw [spec_l02ReadBatch.lv0_eq]
    simp only [w1, w2, w3, w4, w5, Int.toNat_natCast]
    clear w1 w2 w3 w4 w5
    have c1 : ((i : Int) < ((n - 1 : Nat) : Int)) := by omega
    have c2 : (0 : Int) ≤ ((1 + 13 * i : Nat) : Int) := by omega
    have c3 : ((1 + 13 * i : Nat) : Int) ≤ ((14 + 13 * i : Nat) : Int) := by omega
    have c4 : ((14 + 13 * i : Nat) : Int) ≤ (x.size : Int) := by omega
    have sz : (x.extract (1 + 13 * i) (14 + 13 * i)).size = 13 := by rw [ByteArray.size_extract]; omega
    have d13 : 14 + 13 * i - (1 + 13 * i) = 13 := by omega
    simp only [if_pos c1, if_pos c2, if_pos c3, if_pos c4, sz, d13]
    rw [if_pos (by omega), if_pos (by omega), if_pos (by omega)]
    rw [extract_sub x _ _ 1 5 (by omega), extract_sub x _ _ 5 13 (by omega), spec_l02Of_v _ (by rw [ByteArray.size_extract]; omega), Option.bind_some, if_pos (by omega), wrap_bt, show bt (x.extract (1 + 13 * i) (14 + 13 * i)) 0 = bt x (1 + 13 * i : Nat) from bt_extract x (1 + 13 * i) (14 + 13 * i) 0 (by omega) (by omega)]
    rw [show 1 + 13 * (i + 1) = 1 + 13 * i + 13 by omega] at ih
    show _ = spec_l02ReadBatch.lv0 x n (n - 1 : Nat) false 0 0 0 0 ⟨#[]⟩ (acc ++ (⟨bt x (1 + 13 * i : Nat), numM (x.extract (1 + 13 * i + 1) (1 + 13 * i + 5)), x.extract (1 + 13 * i + 5) (1 + 13 * i + 13)⟩ :: rdL x (1 + 13 * i + 13) c))
    rw [List.append_assoc] at ih
    exact ih
theorem readBatch_nil (x : ByteArray) (h0 : x.size = 0) : impl_readBatch.v x = some bNo := by
  have e1 : x.toList = [] := by rw [ba_toList]; exact List.length_eq_zero_iff.1 (by rw [Array.length_toList]; exact h0)
  have hn : impl_reader_number.v x false 1 = some (0, x, true) := by
    have hn := number_short x 0 1 (by omega) (by omega)
    rwa [← at_zero x] at hn
  have w : wrap64 (0 - 1) = -1 := by rw [wrap_id (by omega) (by omega)]; rfl
  rw [impl_readBatch.v_eq, if_neg (by rw [e1]; simp), hn, Option.bind_some]
  simp only [w]
  rw [if_neg (by omega)]
  exact batch_bad (-1) 0 (by omega) 0 0 x [] (by omega) (by omega) (by simp)
theorem toList_nil (x : ByteArray) (h : x.toList = []) : x.size = 0 := by
  rw [ba_toList] at h
  have := congrArg List.length h
  rw [Array.length_toList] at this
  exact this
theorem toList_zero (x : ByteArray) : x.toList = [0] ↔ x.size = 1 ∧ bt x 0 = 0 := by
  rw [ba_toList]
  constructor
  · intro h
    have h1 : x.size = 1 := by have := congrArg List.length h; rwa [Array.length_toList] at this
    refine ⟨h1, ?_⟩
    have h2 : x.data.toList[0]? = some 0 := by rw [h]; rfl
    unfold bt
    rw [dif_pos (by rw [h1]; decide)]
    rw [Array.getElem?_toList, Array.getElem?_eq_getElem (by show 0 < x.size; omega)] at h2
    injection h2 with h2
    show (((x.data[0]'(by show 0 < x.size; omega)).toNat : Nat) : Int) = 0
    rw [h2]; rfl
  · rintro ⟨h1, h2⟩
    apply List.ext_getElem?
    intro i
    rcases Nat.lt_or_ge i 1 with h | h
    · have : i = 0 := by omega
      subst this
      unfold bt at h2
      rw [dif_pos (by rw [h1]; decide)] at h2
      rw [Array.getElem?_toList, Array.getElem?_eq_getElem (by show 0 < x.size; omega)]
      have h3 : (x.data[0]'(by show 0 < x.size; omega)).toNat = 0 := by
        have h4 : (((x.data[0]'(by show 0 < x.size; omega)).toNat : Nat) : Int) = 0 := h2
        omega
      have h5 : x.data[0]'(by show 0 < x.size; omega) = 0 := UInt8.toNat_inj.1 h3
      rw [h5]; rfl
    · rw [List.getElem?_eq_none (by rw [Array.length_toList]; show x.size ≤ i; omega), List.getElem?_eq_none (by simp; omega)]
theorem readBatch_both (x : ByteArray) (hx : x.size ≤ 1048576) : ∃ r s : Batch8, impl_readBatch.v x = some r ∧ spec_l02ReadBatch.v x = some s ∧ bAgree r s ∧ r.2.2.2.2.2.2.1.length ≤ 1000 := by
  by_cases h0 : x.size = 0
  · have e1 : x.toList = [] := by rw [ba_toList]; exact List.length_eq_zero_iff.1 (by rw [Array.length_toList]; exact h0)
    rw [readBatch_nil x h0, spec_l02ReadBatch.v_eq, if_pos e1]
    exact ⟨_, _, rfl, rfl, .inr ⟨rfl, rfl⟩, by simp [bNo]⟩
  · have e1 : ¬ x.toList = [] := fun h => h0 (toList_nil x h)
    have hn : impl_reader_number.v x false 1 = some (bt x 0, x.extract (0 + 1) x.size, false) := by
      have hn := number_ok x 0 1 (by omega) (by omega)
      rw [← at_zero x, numM_one x 0 (by omega)] at hn
      exact hn
    have hr := bt_range x 0
    have hz := toList_zero x
    rw [spec_l02ReadBatch.v_eq, if_neg e1, if_pos (by omega)]
    simp only [wrap_bt]
    rw [impl_readBatch.v_eq, hn, Option.bind_some]
    clear hn
    obtain ⟨n, hb⟩ : ∃ n : Nat, bt x 0 = n := ⟨(bt x 0).toNat, by omega⟩
    rw [hb] at hr hz
    simp only [hb]
    by_cases h1 : n = 0
    · subst h1
      rw [if_pos (show ((0 : Nat) : Int) = 0 from rfl)]
      by_cases h2 : x.size = 1
      · rw [if_pos (hz.2 ⟨h2, rfl⟩)]
        refine ⟨_, _, rfl, rfl, .inl ⟨?_, rfl⟩, by simp⟩
        rw [h2]; rfl
      · rw [if_neg (fun h => h2 (hz.1 h).1)]
        have w : wrap64 (((0 : Nat) : Int) - 1) = -1 := by rw [wrap_id (by omega) (by omega)]; rfl
        rw [w, if_neg (by omega)]
        have hm : mx (-1) 0 = 0 := rfl
        have h3 : ((x.size : Int) == 1) = false := by rw [beq_eq_false_iff_ne]; omega
        rw [hm, h3, impl_readBatch.lv0_eq, if_neg (by omega)]
        have hsz : ∃ q : Req7, impl_reader_request.v (x.extract (0 + 1) x.size) false = some q := by
          rcases Decidable.em (1 + 7 + rN x 1 ≤ x.size) with h4 | h4
          · exact ⟨_, impl_request_ok x 1 h4⟩
          · obtain ⟨w, e2, _⟩ := impl_request_short x 1 (by omega) (.inr (by omega))
            exact ⟨w, e2⟩
        obtain ⟨q, e2⟩ := hsz
        rw [e2, Option.bind_some, if_pos (by omega)]
        exact ⟨_, _, rfl, rfl, .inr ⟨rfl, rfl⟩, by simp [bNo]⟩
    · have h2 : ¬ x.toList = [0] := fun h => h1 (by have := (hz.1 h).2; omega)
      have w1 : wrap64 ((n : Int) - 1) = ((n - 1 : Nat) : Int) := by rw [wrap_id (by omega) (by omega)]; omega
      have w2 : wrap64 (13 * ((n - 1 : Nat) : Int)) = ((13 * (n - 1) : Nat) : Int) := by rw [wrap_id (by omega) (by omega)]; omega
      have w3 : wrap64 (1 + ((13 * (n - 1) : Nat) : Int)) = ((1 + 13 * (n - 1) : Nat) : Int) := by rw [wrap_id (by omega) (by omega)]; omega
      rw [if_neg h2, if_neg (show ¬ ((n : Int) = 0) by omega)]
      simp only [w1, w2, w3]
      have hm : mx ((n - 1 : Nat) : Int) 0 = ((n - 1 : Nat) : Int) := by unfold mx; split <;> omega
      rw [hm]
      by_cases h3 : (x.size : Int) < ((1 + 13 * (n - 1) : Nat) : Int)
      · rw [if_pos h3]
        split
        · exact ⟨_, _, rfl, rfl, .inr ⟨rfl, rfl⟩, by simp [bNo]⟩
        · clear w1 w2 w3
          have h5 := batch_short x ((n - 1 : Nat) : Int) ((n - 1 : Nat) : Int) (by omega) (n - 1) 1 0 [] (by omega) (by omega) (by simp) (by omega) (by omega)
          exact ⟨_, _, h5, rfl, .inr ⟨rfl, rfl⟩, by simp [bNo]⟩
      · rw [if_neg h3]
        have h6 := batch_spec x hx n (by omega) (by omega) (by clear w1 w2 w3; omega) (n - 1) 0 [] (by omega) (by omega) rfl
        have h6' : spec_l02ReadBatch.lv0 x (n : Int) 0 false 0 0 0 0 ⟨#[]⟩ [] = spec_l02ReadBatch.lv0 x n (n - 1 : Nat) false 0 0 0 0 ⟨#[]⟩ (rdL x 1 (n - 1)) := h6
        rw [h6', spec_l02ReadBatch.lv0_eq]
        simp only [w1, w2, w3, Int.toNat_natCast]
        clear w1 w2 w3
        have c1 : ¬ (((n - 1 : Nat) : Int) < ((n - 1 : Nat) : Int)) := by omega
        have c2 : (0 : Int) ≤ ((1 + 13 * (n - 1) : Nat) : Int) := by omega
        have c3 : ((1 + 13 * (n - 1) : Nat) : Int) ≤ (x.size : Int) := by omega
        simp only [if_neg c1, if_pos c2, if_pos c3]
        have hy : (x.extract (1 + 13 * (n - 1)) x.size).size ≤ 1048576 := by rw [ByteArray.size_extract]; omega
        by_cases h7 : ((n - 1 : Nat) : Int) > 7
        · obtain ⟨s, e6, e7⟩ := batch_many _ hy (rdL x 1 (n - 1)) (by rw [rdL_len]; omega)
          rw [e6, if_pos h7]
          exact ⟨_, _, rfl, rfl, .inr ⟨rfl, e7⟩, by simp [bNo]⟩
        obtain ⟨r, s, e5, e6, e7, e8⟩ := batch_end (x.extract (1 + 13 * (n - 1)) x.size) hy ((n - 1 : Nat) : Int) ((n - 1 : Nat) : Int) (by omega) (rdL x 1 (n - 1))
        rw [e6]
        · rw [if_neg h7]
          have h8 := batch_impl x ((n - 1 : Nat) : Int) ((n - 1 : Nat) : Int) (by omega) (n - 1) 1 0 [] (by omega) (by omega) rfl (by omega)
          have h8' : impl_readBatch.lv0 ((n - 1 : Nat) : Int) ((n - 1 : Nat) : Int) 0 (x.extract (0 + 1) x.size) false false 0 0 0 0 ⟨#[]⟩ [] = impl_readBatch.lv0 ((n - 1 : Nat) : Int) ((n - 1 : Nat) : Int) ((n - 1 : Nat) : Int) (x.extract (1 + 13 * (n - 1)) x.size) false false 0 0 0 0 ⟨#[]⟩ (rdL x 1 (n - 1)) := h8
          rw [h8']
          refine ⟨r, s, e5, rfl, e7, ?_⟩
          rcases e8 with e8 | rfl
          · rw [e8, rdL_len]; omega
          · simp [bNo]
abbrev BatchR := Bool × Int × Int × Int × Int × ByteArray × List S161 × Int
theorem readBatch_eq (l : List Int) (h : l.length ≤ 1048576) : ∃ r : BatchR, spec_ReadBatch.v l = some r ∧ impl_ReadBatch.v l = some r ∧ r.2.2.2.2.2.2.1.length ≤ 1048576 := by
  rw [spec_ReadBatch.v_eq, impl_ReadBatch.v_eq]
  by_cases h1 : (l.length : Int) > 65536
  · simp only [if_pos h1]; exact ⟨_, rfl, rfl, by simp⟩
  · rw [if_neg h1, if_neg h1]
    have hsz : (strOfNums l).size = l.length := strOf_size l
    obtain ⟨r, s, e1, e2, e3, e5⟩ := readBatch_both (strOfNums l) (by omega)
    rw [e1, e2, Option.bind_some, Option.bind_some]
    rcases e3 with ⟨rfl, e4⟩ | ⟨rfl, e4⟩
    · rw [if_pos e4]
      exact ⟨_, rfl, rfl, by show r.2.2.2.2.2.2.1.length ≤ 1048576; omega⟩
    · rw [if_neg (show ¬ s.2.2.2.2.2.2.2 = true by rw [e4]; simp), if_neg (by simp [bNo])]
      exact ⟨_, rfl, rfl, by simp⟩
theorem FnExactReadBatch_pure (y0 : List Int) : (y0.length ≤ 9223372036854775807 ∧ ∀ y ∈ y0, (Lit.int .u8 y).wf = true) → laws_FnExactReadBatch.v y0 = some true := by
  intro h
  rw [laws_FnExactReadBatch.v_eq]
  by_cases h1 : (y0.length : Int) > 1048576
  · rw [if_pos h1]
  · obtain ⟨r, e1, e2, hl⟩ := readBatch_eq y0 (by omega)
    obtain ⟨b', hb⟩ := markByteS_v y0 (by omega)
    obtain ⟨s', hs1, hs2, hs3⟩ := readings_held r.2.2.2.2.2.2.1 1 (by omega) (by omega) (by omega)
    have hq : ∀ (a b c d : Int) (e : ByteArray), laws_eqRequest.v a b c d e a b c d e = some true := fun a b c d e => by simp [laws_eqRequest.v_eq]
    have hbt : laws_eqBatch.v r.1 r.2.1 r.2.2.1 r.2.2.2.1 r.2.2.2.2.1 r.2.2.2.2.2.1 r.2.2.2.2.2.2.1 r.1 r.2.1 r.2.2.1 r.2.2.2.1 r.2.2.2.2.1 r.2.2.2.2.2.1 r.2.2.2.2.2.2.1 = some true := by
      rw [laws_eqBatch.v_eq, if_neg (by simp), hq, Option.bind_some, if_pos rfl, eqReadingS_v _ (by omega), Option.bind_some, if_pos rfl]
    have n1 : ¬ (1 + (y0.length : Int)) < 0 := by omega
    have n2 : ¬ (1 + (r.2.2.2.2.2.2.1.length : Int) * 3) < 0 := by omega
    simp only [if_neg h1, toByteS_v y0 (by omega), Option.bind_some, e1, e2, hbt, if_true, laws_FnExactReadBatch.jv0_eq, laws_FnExactReadBatch.jv1_eq, laws_FnExactReadBatch.jv2_eq, eqByteS_v y0 (by omega), hb, laws_markBatch.v_eq, laws_heldBatch.v_eq, hs1, hs3, bne_self_eq_false, Bool.false_eq_true, if_false, if_neg n1, if_neg n2]
end Go.Proofs.Ytofkobbiomhblaa.A
end
