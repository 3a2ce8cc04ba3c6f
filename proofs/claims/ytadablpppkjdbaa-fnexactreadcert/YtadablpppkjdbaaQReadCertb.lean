/- A part of the proof that FnExactReadCert returns true at every input: plain functions, contracts and lemmas. No conditions. -/
import Derived.Test.YtadablpppkjdbaaQReadCerta
set_option linter.unusedVariables false
set_option linter.unusedSimpArgs false
set_option linter.unusedSectionVars false
section
namespace Go.Proofs.Ytadablpppkjdbaa.A
open Go.RowKit Go.Proofs.YtadablpppkjdbaaW.PrintWords Go.Proofs.YtadablpppkjdbaaW.PrintLast Go.Proofs.YtadablpppkjdbaaW.PrintMore
attribute [local go_sem] max2_int min2_int max_two min_two max_three min_three max_four min_four
def impl_readMessage.f (k : Nat) (a0 : ByteArray) : Option (Int × Int × Int × Int × ByteArray × ByteArray × ByteArray × Bool) := (impl_reader_number.f k a0 false 1).bind fun bt487 => ((impl_reader_number.f k bt487.2.1 bt487.2.2 1).bind fun bt490 => ((impl_reader_number.f k bt490.2.1 bt490.2.2 1).bind fun bt493 => ((impl_reader_number.f k bt493.2.1 bt493.2.2 1).bind fun bt496 => ((impl_reader_sized.f k bt496.2.1 bt496.2.2 1).bind fun bt499 => ((impl_reader_sized.f k bt499.2.1 bt499.2.2 2).bind fun bt502 => ((impl_reader_take.f bt502.2.1 bt502.2.2 8).bind fun bt505 => ((impl_reader_done.f bt505.2.1 bt505.2.2).bind fun bt509 => (if bt509.1 = true then ((impl_MessageOK.f k bt487.1 bt490.1 bt493.1 bt496.1 bt499.1 bt502.1 bt505.1).bind fun t512 => (if t512 = true then (some (bt487.1, bt490.1, bt493.1, bt496.1, bt499.1, bt502.1, bt505.1, true)) else (some (0, 0, 0, 0, (⟨#[]⟩ : ByteArray), (⟨#[]⟩ : ByteArray), (⟨#[]⟩ : ByteArray), false)))) else (some (0, 0, 0, 0, (⟨#[]⟩ : ByteArray), (⟨#[]⟩ : ByteArray), (⟨#[]⟩ : ByteArray), false))))))))))
theorem impl_readMessage.mono : ∀ a0 k, LeO (impl_readMessage.f k a0) (impl_readMessage.f (k + 1) a0) := by
  intro a0 k
  unfold impl_readMessage.f
  repeat' first
      | (with_reducible exact impl_MessageOK.mono _ _ _ _ _ _ _ _)
      | (with_reducible exact impl_reader_number.mono _ _ _ _)
      | (with_reducible exact impl_reader_sized.mono _ _ _ _)
      | (with_reducible exact LeO.refl _)
      | (with_reducible exact LeO.none _)
      | (with_reducible refine LeO.ite ?_ ?_)
      | (with_reducible refine LeO.bind ?_ (fun _ => ?_))
      | exact impl_MessageOK.mono _ _ _ _ _ _ _ _
      | exact impl_reader_number.mono _ _ _ _
      | exact impl_reader_sized.mono _ _ _ _
      | exact LeO.none _
      | refine LeO.ite ?_ ?_
      | refine LeO.bind ?_ (fun _ => ?_)
noncomputable def impl_readMessage.v (a0 : ByteArray) : Option (Int × Int × Int × Int × ByteArray × ByteArray × ByteArray × Bool) := lim (fun k_ => impl_readMessage.f k_ a0)
theorem impl_readMessage.v_lim (a0 : ByteArray) : LimIs (fun k_ => impl_readMessage.f k_ a0) (impl_readMessage.v a0) := lim_is (fun k_ => impl_readMessage.mono a0 k_)
theorem impl_readMessage.v_eq (a0 : ByteArray) : impl_readMessage.v a0 = ((impl_reader_number.v a0 false 1).bind fun bt487 => ((impl_reader_number.v bt487.2.1 bt487.2.2 1).bind fun bt490 => ((impl_reader_number.v bt490.2.1 bt490.2.2 1).bind fun bt493 => ((impl_reader_number.v bt493.2.1 bt493.2.2 1).bind fun bt496 => ((impl_reader_sized.v bt496.2.1 bt496.2.2 1).bind fun bt499 => ((impl_reader_sized.v bt499.2.1 bt499.2.2 2).bind fun bt502 => ((impl_reader_take.v bt502.2.1 bt502.2.2 8).bind fun bt505 => ((impl_reader_done.v bt505.2.1 bt505.2.2).bind fun bt509 => (if bt509.1 = true then ((impl_MessageOK.v bt487.1 bt490.1 bt493.1 bt496.1 bt499.1 bt502.1 bt505.1).bind fun t512 => (if t512 = true then (some (bt487.1, bt490.1, bt493.1, bt496.1, bt499.1, bt502.1, bt505.1, true)) else (some (0, 0, 0, 0, (⟨#[]⟩ : ByteArray), (⟨#[]⟩ : ByteArray), (⟨#[]⟩ : ByteArray), false)))) else (some (0, 0, 0, 0, (⟨#[]⟩ : ByteArray), (⟨#[]⟩ : ByteArray), (⟨#[]⟩ : ByteArray), false)))))))))) : Option (Int × Int × Int × Int × ByteArray × ByteArray × ByteArray × Bool)) := by
  refine LimIs.eq (impl_readMessage.v_lim a0) ?_
  simp only [impl_readMessage.f]
  repeat' (with_reducible first | exact impl_MessageOK.v_lim _ _ _ _ _ _ _ | exact impl_reader_done.v_lim _ _ | exact impl_reader_number.v_lim _ _ _ | exact impl_reader_sized.v_lim _ _ _ | exact impl_reader_take.v_lim _ _ _ | exact LimIs.const _ | refine LimIs.ite ?_ ?_ | refine LimIs.bind ?_ (fun _ => ?_))
mutual
def impl_readCert.j0 : Nat → List ByteArray → Bool → Option (ByteArray × (List (S63)) × Bool)
  | 0, _, _ => none
  | k + 1, x4, x23 => if x23 = true then (some ((⟨#[]⟩ : ByteArray), ([] : List (S63)), false)) else (if 0 < (x4.length : Int) then (if 1 ≤ (x4.length : Int) then ((some (x4.drop 1 : List ByteArray)).bind fun y521 => (impl_readCert.l0 k y521 (y521.length : Int) 0 (rdOf ByteArray.empty x4 0) ([] : List (S63)))) else (none)) else (none))
def impl_readCert.l0 : Nat → List ByteArray → Int → Int → ByteArray → List (S63) → Option (ByteArray × (List (S63)) × Bool)
  | 0, _, _, _, _, _ => none
  | k + 1, x30, x31, x32, x521000, x521001 => if x32 < x31 then (if 0 ≤ x32 then (if x32 < (x30.length : Int) then ((impl_readMessage.f k (rdOf ByteArray.empty x30 x32)).bind fun bt527 => (if bt527.2.2.2.2.2.2.2 = true then ((impl_isPrepare.f k bt527.1 bt527.2.1 bt527.2.2.1 bt527.2.2.2.1 bt527.2.2.2.2.1 bt527.2.2.2.2.2.1 bt527.2.2.2.2.2.2.1).bind fun t536 => (if t536 = true then (if x521001.length < 1759218604441 then (impl_readCert.l0 k x30 x31 (wrap64 (x32 + 1)) x521000 (x521001 ++ [(⟨bt527.1, bt527.2.1, bt527.2.2.1, bt527.2.2.2.1, bt527.2.2.2.2.1, bt527.2.2.2.2.2.1, bt527.2.2.2.2.2.2.1⟩ : S63)])) else (none)) else (some ((⟨#[]⟩ : ByteArray), ([] : List (S63)), false)))) else (some ((⟨#[]⟩ : ByteArray), ([] : List (S63)), false)))) else (none)) else (none)) else (some (x521000, x521001, true))
end
def impl_readCert.f (k : Nat) (a0 : ByteArray) : Option (ByteArray × (List (S63)) × Bool) := (impl_readList.f k a0).bind fun bt514 => (if bt514.2 = true then ((impl_within.f (bt514.1.length : Int) 1 8).bind fun t518 => (impl_readCert.j0 k bt514.1 (!t518))) else (impl_readCert.j0 k bt514.1 true))
theorem impl_readCert.mono_l : ∀ k, (∀ y0 y1, LeO (impl_readCert.j0 k y0 y1) (impl_readCert.j0 (k + 1) y0 y1)) ∧ (∀ y0 y1 y2 y3 y4, LeO (impl_readCert.l0 k y0 y1 y2 y3 y4) (impl_readCert.l0 (k + 1) y0 y1 y2 y3 y4))
  | 0 => ⟨fun _ _ r h => by simp [impl_readCert.j0] at h, fun _ _ _ _ _ r h => by simp [impl_readCert.l0] at h⟩
  | k + 1 => by
    obtain ⟨ih0, ih1⟩ := impl_readCert.mono_l k
    refine ⟨?_, ?_⟩
    · intro y0 y1
      unfold impl_readCert.j0
      repeat' first
      | (with_reducible exact ih0 _ _)
      | (with_reducible exact ih1 _ _ _ _ _)
      | (with_reducible exact impl_isPrepare.mono _ _ _ _ _ _ _ _)
      | (with_reducible exact impl_readList.mono _ _)
      | (with_reducible exact impl_readMessage.mono _ _)
      | (with_reducible exact LeO.refl _)
      | (with_reducible exact LeO.none _)
      | (with_reducible refine LeO.ite ?_ ?_)
      | (with_reducible refine LeO.bind ?_ (fun _ => ?_))
      | exact ih0 _ _
      | exact ih1 _ _ _ _ _
      | exact impl_isPrepare.mono _ _ _ _ _ _ _ _
      | exact impl_readList.mono _ _
      | exact impl_readMessage.mono _ _
      | exact LeO.none _
      | refine LeO.ite ?_ ?_
      | refine LeO.bind ?_ (fun _ => ?_)
    · intro y0 y1 y2 y3 y4
      unfold impl_readCert.l0
      repeat' first
      | (with_reducible exact ih0 _ _)
      | (with_reducible exact ih1 _ _ _ _ _)
      | (with_reducible exact impl_isPrepare.mono _ _ _ _ _ _ _ _)
      | (with_reducible exact impl_readList.mono _ _)
      | (with_reducible exact impl_readMessage.mono _ _)
      | (with_reducible exact LeO.refl _)
      | (with_reducible exact LeO.none _)
      | (with_reducible refine LeO.ite ?_ ?_)
      | (with_reducible refine LeO.bind ?_ (fun _ => ?_))
      | exact ih0 _ _
      | exact ih1 _ _ _ _ _
      | exact impl_isPrepare.mono _ _ _ _ _ _ _ _
      | exact impl_readList.mono _ _
      | exact impl_readMessage.mono _ _
      | exact LeO.none _
      | refine LeO.ite ?_ ?_
      | refine LeO.bind ?_ (fun _ => ?_)
theorem impl_readCert.mono : ∀ a0 k, LeO (impl_readCert.f k a0) (impl_readCert.f (k + 1) a0) := by
  intro a0 k
  obtain ⟨ih0, ih1⟩ := impl_readCert.mono_l k
  unfold impl_readCert.f
  repeat' first
      | (with_reducible exact ih0 _ _)
      | (with_reducible exact ih1 _ _ _ _ _)
      | (with_reducible exact impl_isPrepare.mono _ _ _ _ _ _ _ _)
      | (with_reducible exact impl_readList.mono _ _)
      | (with_reducible exact impl_readMessage.mono _ _)
      | (with_reducible exact LeO.refl _)
      | (with_reducible exact LeO.none _)
      | (with_reducible refine LeO.ite ?_ ?_)
      | (with_reducible refine LeO.bind ?_ (fun _ => ?_))
      | exact ih0 _ _
      | exact ih1 _ _ _ _ _
      | exact impl_isPrepare.mono _ _ _ _ _ _ _ _
      | exact impl_readList.mono _ _
      | exact impl_readMessage.mono _ _
      | exact LeO.none _
      | refine LeO.ite ?_ ?_
      | refine LeO.bind ?_ (fun _ => ?_)
noncomputable def impl_readCert.jv0 (x4 : List ByteArray) (x23 : Bool) : Option (ByteArray × (List (S63)) × Bool) := lim (fun k_ => impl_readCert.j0 k_ x4 x23)
noncomputable def impl_readCert.lv0 (x30 : List ByteArray) (x31 : Int) (x32 : Int) (x521000 : ByteArray) (x521001 : List (S63)) : Option (ByteArray × (List (S63)) × Bool) := lim (fun k_ => impl_readCert.l0 k_ x30 x31 x32 x521000 x521001)
noncomputable def impl_readCert.v (a0 : ByteArray) : Option (ByteArray × (List (S63)) × Bool) := lim (fun k_ => impl_readCert.f k_ a0)
theorem impl_readCert.jv0_lim (x4 : List ByteArray) (x23 : Bool) : LimIs (fun k_ => impl_readCert.j0 k_ x4 x23) (impl_readCert.jv0 x4 x23) := lim_is (fun k_ => (impl_readCert.mono_l k_).1 x4 x23)
theorem impl_readCert.lv0_lim (x30 : List ByteArray) (x31 : Int) (x32 : Int) (x521000 : ByteArray) (x521001 : List (S63)) : LimIs (fun k_ => impl_readCert.l0 k_ x30 x31 x32 x521000 x521001) (impl_readCert.lv0 x30 x31 x32 x521000 x521001) := lim_is (fun k_ => (impl_readCert.mono_l k_).2 x30 x31 x32 x521000 x521001)
theorem impl_readCert.v_lim (a0 : ByteArray) : LimIs (fun k_ => impl_readCert.f k_ a0) (impl_readCert.v a0) := lim_is (fun k_ => impl_readCert.mono a0 k_)
theorem impl_readCert.jv0_eq (x4 : List ByteArray) (x23 : Bool) : impl_readCert.jv0 x4 x23 = (if x23 = true then (some ((⟨#[]⟩ : ByteArray), ([] : List (S63)), false)) else (if 0 < (x4.length : Int) then (if 1 ≤ (x4.length : Int) then ((some (x4.drop 1 : List ByteArray)).bind fun y521 => (impl_readCert.lv0 y521 (y521.length : Int) 0 (rdOf ByteArray.empty x4 0) ([] : List (S63)))) else (none)) else (none)) : Option (ByteArray × (List (S63)) × Bool)) := by
  refine LimIs.eq (impl_readCert.jv0_lim x4 x23) ?_
  refine LimIs.step (fun k_ => (impl_readCert.mono_l k_).1 x4 x23) ?_
  simp only [impl_readCert.j0]
  repeat' (with_reducible first | exact impl_readCert.lv0_lim _ _ _ _ _ | exact LimIs.const _ | refine LimIs.ite ?_ ?_ | refine LimIs.bind ?_ (fun _ => ?_))
theorem impl_readCert.lv0_eq (x30 : List ByteArray) (x31 : Int) (x32 : Int) (x521000 : ByteArray) (x521001 : List (S63)) : impl_readCert.lv0 x30 x31 x32 x521000 x521001 = (if x32 < x31 then (if 0 ≤ x32 then (if x32 < (x30.length : Int) then ((impl_readMessage.v (rdOf ByteArray.empty x30 x32)).bind fun bt527 => (if bt527.2.2.2.2.2.2.2 = true then ((impl_isPrepare.v bt527.1 bt527.2.1 bt527.2.2.1 bt527.2.2.2.1 bt527.2.2.2.2.1 bt527.2.2.2.2.2.1 bt527.2.2.2.2.2.2.1).bind fun t536 => (if t536 = true then (if x521001.length < 1759218604441 then (impl_readCert.lv0 x30 x31 (wrap64 (x32 + 1)) x521000 (x521001 ++ [(⟨bt527.1, bt527.2.1, bt527.2.2.1, bt527.2.2.2.1, bt527.2.2.2.2.1, bt527.2.2.2.2.2.1, bt527.2.2.2.2.2.2.1⟩ : S63)])) else (none)) else (some ((⟨#[]⟩ : ByteArray), ([] : List (S63)), false)))) else (some ((⟨#[]⟩ : ByteArray), ([] : List (S63)), false)))) else (none)) else (none)) else (some (x521000, x521001, true)) : Option (ByteArray × (List (S63)) × Bool)) := by
  refine LimIs.eq (impl_readCert.lv0_lim x30 x31 x32 x521000 x521001) ?_
  refine LimIs.step (fun k_ => (impl_readCert.mono_l k_).2 x30 x31 x32 x521000 x521001) ?_
  simp only [impl_readCert.l0]
  repeat' (with_reducible first | exact impl_isPrepare.v_lim _ _ _ _ _ _ _ | exact impl_readCert.lv0_lim _ _ _ _ _ | exact impl_readMessage.v_lim _ | exact LimIs.const _ | refine LimIs.ite ?_ ?_ | refine LimIs.bind ?_ (fun _ => ?_))
theorem impl_readCert.v_eq (a0 : ByteArray) : impl_readCert.v a0 = ((impl_readList.v a0).bind fun bt514 => (if bt514.2 = true then ((impl_within.v (bt514.1.length : Int) 1 8).bind fun t518 => (impl_readCert.jv0 bt514.1 (!t518))) else (impl_readCert.jv0 bt514.1 true)) : Option (ByteArray × (List (S63)) × Bool)) := by
  refine LimIs.eq (impl_readCert.v_lim a0) ?_
  simp only [impl_readCert.f]
  repeat' (with_reducible first | exact impl_readCert.jv0_lim _ _ | exact impl_readList.v_lim _ | exact impl_within.v_lim _ _ _ | exact LimIs.const _ | refine LimIs.ite ?_ ?_ | refine LimIs.bind ?_ (fun _ => ?_))
def impl_ReadCert.f (k : Nat) (l0 : List Int) : Option (ByteArray × (List (S63)) × Int) := if (l0.length : Int) > 65536 then (some ((⟨#[]⟩ : ByteArray), ([] : List (S63)), 2)) else ((impl_readCert.f k (strOfNums l0)).bind fun bt541 => (if bt541.2.2 = true then (some (bt541.1, bt541.2.1, 0)) else (some ((⟨#[]⟩ : ByteArray), ([] : List (S63)), 3))))
theorem impl_ReadCert.mono : ∀ a0 k, LeO (impl_ReadCert.f k a0) (impl_ReadCert.f (k + 1) a0) := by
  intro a0 k
  unfold impl_ReadCert.f
  repeat' first
      | (with_reducible exact impl_readCert.mono _ _)
      | (with_reducible exact LeO.refl _)
      | (with_reducible exact LeO.none _)
      | (with_reducible refine LeO.ite ?_ ?_)
      | (with_reducible refine LeO.bind ?_ (fun _ => ?_))
      | exact impl_readCert.mono _ _
      | exact LeO.none _
      | refine LeO.ite ?_ ?_
      | refine LeO.bind ?_ (fun _ => ?_)
noncomputable def impl_ReadCert.v (l0 : List Int) : Option (ByteArray × (List (S63)) × Int) := lim (fun k_ => impl_ReadCert.f k_ l0)
theorem impl_ReadCert.v_lim (l0 : List Int) : LimIs (fun k_ => impl_ReadCert.f k_ l0) (impl_ReadCert.v l0) := lim_is (fun k_ => impl_ReadCert.mono l0 k_)
theorem impl_ReadCert.v_eq (l0 : List Int) : impl_ReadCert.v l0 = (if (l0.length : Int) > 65536 then (some ((⟨#[]⟩ : ByteArray), ([] : List (S63)), 2)) else ((impl_readCert.v (strOfNums l0)).bind fun bt541 => (if bt541.2.2 = true then (some (bt541.1, bt541.2.1, 0)) else (some ((⟨#[]⟩ : ByteArray), ([] : List (S63)), 3)))) : Option (ByteArray × (List (S63)) × Int)) := by
  refine LimIs.eq (impl_ReadCert.v_lim l0) ?_
  simp only [impl_ReadCert.f]
  repeat' (with_reducible first | exact impl_readCert.v_lim _ | exact LimIs.const _ | refine LimIs.ite ?_ ?_ | refine LimIs.bind ?_ (fun _ => ?_))
def laws_heldMessageS.l0 : Nat → List (S63) → Int → Int → Option (Int)
  | 0, _, _, _ => none
  | k + 1, x0, x1, x5 => if x5 < (x0.length : Int) then (if 0 ≤ x5 then (if ((rd_T63 x0 x5).f0) = x1 then (if ((rd_T63 x0 x5).f1) = (wrap64 (x1 + 1)) then (if ((rd_T63 x0 x5).f2) = (wrap64 ((wrap64 (x1 + 1)) + 1)) then (if ((rd_T63 x0 x5).f3) = (wrap64 ((wrap64 ((wrap64 (x1 + 1)) + 1)) + 1)) then ((laws_markText.f k (wrap64 ((wrap64 ((wrap64 ((wrap64 (x1 + 1)) + 1)) + 1)) + 1))).bind fun t552 => (if ((rd_T63 x0 x5).f4).toList = t552.toList then ((laws_markText.f k (wrap64 ((wrap64 ((wrap64 ((wrap64 ((wrap64 (x1 + 1)) + 1)) + 1)) + 1)) + 1))).bind fun t554 => (if ((rd_T63 x0 x5).f5).toList = t554.toList then ((laws_markText.f k (wrap64 ((wrap64 ((wrap64 ((wrap64 ((wrap64 ((wrap64 (x1 + 1)) + 1)) + 1)) + 1)) + 1)) + 1))).bind fun t556 => (if ((rd_T63 x0 x5).f6).toList = t556.toList then (laws_heldMessageS.l0 k x0 (wrap64 ((wrap64 ((wrap64 ((wrap64 ((wrap64 ((wrap64 ((wrap64 (x1 + 1)) + 1)) + 1)) + 1)) + 1)) + 1)) + 1)) (wrap64 (x5 + 1))) else (some (-1)))) else (some (-1)))) else (some (-1)))) else (some (-1))) else (some (-1))) else (some (-1))) else (some (-1))) else (none)) else (some x1)
def laws_heldMessageS.f (k : Nat) (l0 : List (S63)) (a1 : Int) : Option (Int) := laws_heldMessageS.l0 k l0 a1 0
theorem laws_heldMessageS.mono_l : ∀ k, (∀ y0 y1 y2, LeO (laws_heldMessageS.l0 k y0 y1 y2) (laws_heldMessageS.l0 (k + 1) y0 y1 y2))
  | 0 => fun _ _ _ r h => by simp [laws_heldMessageS.l0] at h
  | k + 1 => by
    have ih0 := laws_heldMessageS.mono_l k
    · intro y0 y1 y2
      unfold laws_heldMessageS.l0
      repeat' first
      | (with_reducible exact ih0 _ _ _)
      | (with_reducible exact laws_markText.mono _ _)
      | (with_reducible exact LeO.refl _)
      | (with_reducible exact LeO.none _)
      | (with_reducible refine LeO.ite ?_ ?_)
      | (with_reducible refine LeO.bind ?_ (fun _ => ?_))
      | exact ih0 _ _ _
      | exact laws_markText.mono _ _
      | exact LeO.none _
      | refine LeO.ite ?_ ?_
      | refine LeO.bind ?_ (fun _ => ?_)
theorem laws_heldMessageS.mono : ∀ a0 a1 k, LeO (laws_heldMessageS.f k a0 a1) (laws_heldMessageS.f (k + 1) a0 a1) := by
  intro a0 a1 k
  have ih0 := laws_heldMessageS.mono_l k
  unfold laws_heldMessageS.f
  repeat' first
      | (with_reducible exact ih0 _ _ _)
      | (with_reducible exact laws_markText.mono _ _)
      | (with_reducible exact LeO.refl _)
      | (with_reducible exact LeO.none _)
      | (with_reducible refine LeO.ite ?_ ?_)
      | (with_reducible refine LeO.bind ?_ (fun _ => ?_))
      | exact ih0 _ _ _
      | exact laws_markText.mono _ _
      | exact LeO.none _
      | refine LeO.ite ?_ ?_
      | refine LeO.bind ?_ (fun _ => ?_)
noncomputable def laws_heldMessageS.lv0 (x0 : List (S63)) (x1 : Int) (x5 : Int) : Option (Int) := lim (fun k_ => laws_heldMessageS.l0 k_ x0 x1 x5)
noncomputable def laws_heldMessageS.v (l0 : List (S63)) (a1 : Int) : Option (Int) := lim (fun k_ => laws_heldMessageS.f k_ l0 a1)
theorem laws_heldMessageS.lv0_lim (x0 : List (S63)) (x1 : Int) (x5 : Int) : LimIs (fun k_ => laws_heldMessageS.l0 k_ x0 x1 x5) (laws_heldMessageS.lv0 x0 x1 x5) := lim_is (fun k_ => (laws_heldMessageS.mono_l k_) x0 x1 x5)
theorem laws_heldMessageS.v_lim (l0 : List (S63)) (a1 : Int) : LimIs (fun k_ => laws_heldMessageS.f k_ l0 a1) (laws_heldMessageS.v l0 a1) := lim_is (fun k_ => laws_heldMessageS.mono l0 a1 k_)
theorem laws_heldMessageS.lv0_eq (x0 : List (S63)) (x1 : Int) (x5 : Int) : laws_heldMessageS.lv0 x0 x1 x5 = (if x5 < (x0.length : Int) then (if 0 ≤ x5 then (if ((rd_T63 x0 x5).f0) = x1 then (if ((rd_T63 x0 x5).f1) = (wrap64 (x1 + 1)) then (if ((rd_T63 x0 x5).f2) = (wrap64 ((wrap64 (x1 + 1)) + 1)) then (if ((rd_T63 x0 x5).f3) = (wrap64 ((wrap64 ((wrap64 (x1 + 1)) + 1)) + 1)) then ((laws_markText.v (wrap64 ((wrap64 ((wrap64 ((wrap64 (x1 + 1)) + 1)) + 1)) + 1))).bind fun t552 => (if ((rd_T63 x0 x5).f4).toList = t552.toList then ((laws_markText.v (wrap64 ((wrap64 ((wrap64 ((wrap64 ((wrap64 (x1 + 1)) + 1)) + 1)) + 1)) + 1))).bind fun t554 => (if ((rd_T63 x0 x5).f5).toList = t554.toList then ((laws_markText.v (wrap64 ((wrap64 ((wrap64 ((wrap64 ((wrap64 ((wrap64 (x1 + 1)) + 1)) + 1)) + 1)) + 1)) + 1))).bind fun t556 => (if ((rd_T63 x0 x5).f6).toList = t556.toList then (laws_heldMessageS.lv0 x0 (wrap64 ((wrap64 ((wrap64 ((wrap64 ((wrap64 ((wrap64 ((wrap64 (x1 + 1)) + 1)) + 1)) + 1)) + 1)) + 1)) + 1)) (wrap64 (x5 + 1))) else (some (-1)))) else (some (-1)))) else (some (-1)))) else (some (-1))) else (some (-1))) else (some (-1))) else (some (-1))) else (none)) else (some x1) : Option (Int)) := by
  refine LimIs.eq (laws_heldMessageS.lv0_lim x0 x1 x5) ?_
  refine LimIs.step (fun k_ => (laws_heldMessageS.mono_l k_) x0 x1 x5) ?_
  simp only [laws_heldMessageS.l0]
  repeat' (with_reducible first | exact laws_heldMessageS.lv0_lim _ _ _ | exact laws_markText.v_lim _ | exact LimIs.const _ | refine LimIs.ite ?_ ?_ | refine LimIs.bind ?_ (fun _ => ?_))
theorem laws_heldMessageS.v_eq (l0 : List (S63)) (a1 : Int) : laws_heldMessageS.v l0 a1 = (laws_heldMessageS.lv0 l0 a1 0 : Option (Int)) := by
  refine LimIs.eq (laws_heldMessageS.v_lim l0 a1) ?_
  simp only [laws_heldMessageS.f]
  repeat' (with_reducible first | exact laws_heldMessageS.lv0_lim _ _ _ | exact LimIs.const _ | refine LimIs.ite ?_ ?_ | refine LimIs.bind ?_ (fun _ => ?_))
def laws_heldCert.f (k : Nat) (a0_0 : ByteArray) (l0_1 : List (S63)) (a1 : Int) : Option (Int) := (laws_heldMessageS.f k l0_1 a1).bind fun t558 => (if t558 < 0 then (some (-1)) else (some t558))
theorem laws_heldCert.mono : ∀ a0 a1 a2 k, LeO (laws_heldCert.f k a0 a1 a2) (laws_heldCert.f (k + 1) a0 a1 a2) := by
  intro a0 a1 a2 k
  unfold laws_heldCert.f
  repeat' first
      | (with_reducible exact laws_heldMessageS.mono _ _ _)
      | (with_reducible exact LeO.refl _)
      | (with_reducible exact LeO.none _)
      | (with_reducible refine LeO.ite ?_ ?_)
      | (with_reducible refine LeO.bind ?_ (fun _ => ?_))
      | exact laws_heldMessageS.mono _ _ _
      | exact LeO.none _
      | refine LeO.ite ?_ ?_
      | refine LeO.bind ?_ (fun _ => ?_)
noncomputable def laws_heldCert.v (a0_0 : ByteArray) (l0_1 : List (S63)) (a1 : Int) : Option (Int) := lim (fun k_ => laws_heldCert.f k_ a0_0 l0_1 a1)
theorem laws_heldCert.v_lim (a0_0 : ByteArray) (l0_1 : List (S63)) (a1 : Int) : LimIs (fun k_ => laws_heldCert.f k_ a0_0 l0_1 a1) (laws_heldCert.v a0_0 l0_1 a1) := lim_is (fun k_ => laws_heldCert.mono a0_0 l0_1 a1 k_)
theorem laws_heldCert.v_eq (a0_0 : ByteArray) (l0_1 : List (S63)) (a1 : Int) : laws_heldCert.v a0_0 l0_1 a1 = ((laws_heldMessageS.v l0_1 a1).bind fun t558 => (if t558 < 0 then (some (-1)) else (some t558)) : Option (Int)) := by
  refine LimIs.eq (laws_heldCert.v_lim a0_0 l0_1 a1) ?_
  simp only [laws_heldCert.f]
  repeat' (with_reducible first | exact laws_heldMessageS.v_lim _ _ | exact LimIs.const _ | refine LimIs.ite ?_ ?_ | refine LimIs.bind ?_ (fun _ => ?_))
mutual
def laws_FnExactReadCert.j0 : Nat → List Int → Int → List Int → Int → Bool → ByteArray → List (S63) → ByteArray → List (S63) → Option (Bool)
  | 0, _, _, _, _, _, _, _, _, _ => none
  | k + 1, x0, x4, x5, x7, x37, x568000, x568001, x577000, x577001 => if x37 = true then (some false) else ((laws_toByteS.f k x0).bind fun t578 => ((laws_eqByteS.f k x5 t578).bind fun t581 => (if t581 = true then ((laws_markByteS.f k x5 1).bind fun bt582 => (if bt582.1 < 0 then (laws_FnExactReadCert.j1 k x0 x4 true x568000 x568001 x577000 x577001) else ((laws_eqCert.f k x577000 x577001 x568000 x568001).bind fun t584 => (if t584 = true then (laws_FnExactReadCert.j1 k x0 x4 (x7 != x4) x568000 x568001 x577000 x577001) else (laws_FnExactReadCert.j1 k x0 x4 true x568000 x568001 x577000 x577001))))) else (some false))))
def laws_FnExactReadCert.j1 : Nat → List Int → Int → Bool → ByteArray → List (S63) → ByteArray → List (S63) → Option (Bool)
  | 0, _, _, _, _, _, _, _ => none
  | k + 1, x0, x4, x58, x568000, x568001, x577000, x577001 => if x58 = true then (some false) else ((laws_markCert.f k x577000 x577001 1).bind fun bt585 => ((laws_heldCert.f k x577000 bt585.2 1).bind fun t587 => (if t587 < 0 then (some false) else (if t587 = bt585.1 then ((laws_toByteS.f k x0).bind fun t588 => ((impl_ReadCert.f k t588).bind fun bt591 => ((laws_eqCert.f k bt591.1 bt591.2.1 x568000 x568001).bind fun t597 => (if t597 = true then (laws_FnExactReadCert.j2 k bt585.1 (bt591.2.2 != x4) x577000 bt585.2) else (laws_FnExactReadCert.j2 k bt585.1 true x577000 bt585.2))))) else (some false)))))
def laws_FnExactReadCert.j2 : Nat → Int → Bool → ByteArray → List (S63) → Option (Bool)
  | 0, _, _, _, _ => none
  | k + 1, x9, x84, x577000, x577001 => if x84 = true then (some false) else ((laws_heldCert.f k x577000 x577001 1).bind fun t598 => (if t598 < 0 then (some false) else (if t598 = x9 then (some true) else (some false))))
end
def laws_FnExactReadCert.f (k : Nat) (l0 : List Int) : Option (Bool) := if (l0.length : Int) > 1048576 then (some true) else ((laws_toByteS.f k l0).bind fun t559 => ((spec_ReadCert.f k t559).bind fun bt562 => ((laws_toByteS.f k l0).bind fun t568 => ((impl_ReadCert.f k t568).bind fun bt571 => ((laws_eqCert.f k bt571.1 bt571.2.1 bt562.1 bt562.2.1).bind fun t577 => (if t577 = true then (laws_FnExactReadCert.j0 k l0 bt562.2.2 t568 bt571.2.2 (bt571.2.2 != bt562.2.2) bt562.1 bt562.2.1 bt571.1 bt571.2.1) else (laws_FnExactReadCert.j0 k l0 bt562.2.2 t568 bt571.2.2 true bt562.1 bt562.2.1 bt571.1 bt571.2.1)))))))
theorem laws_FnExactReadCert.mono_l : ∀ k, (∀ y0 y1 y2 y3 y4 y5 y6 y7 y8, LeO (laws_FnExactReadCert.j0 k y0 y1 y2 y3 y4 y5 y6 y7 y8) (laws_FnExactReadCert.j0 (k + 1) y0 y1 y2 y3 y4 y5 y6 y7 y8)) ∧ (∀ y0 y1 y2 y3 y4 y5 y6, LeO (laws_FnExactReadCert.j1 k y0 y1 y2 y3 y4 y5 y6) (laws_FnExactReadCert.j1 (k + 1) y0 y1 y2 y3 y4 y5 y6)) ∧ (∀ y0 y1 y2 y3, LeO (laws_FnExactReadCert.j2 k y0 y1 y2 y3) (laws_FnExactReadCert.j2 (k + 1) y0 y1 y2 y3))
  | 0 => ⟨fun _ _ _ _ _ _ _ _ _ r h => by simp [laws_FnExactReadCert.j0] at h, fun _ _ _ _ _ _ _ r h => by simp [laws_FnExactReadCert.j1] at h, fun _ _ _ _ r h => by simp [laws_FnExactReadCert.j2] at h⟩
  | k + 1 => by
    obtain ⟨ih0, ih1, ih2⟩ := laws_FnExactReadCert.mono_l k
    refine ⟨?_, ?_, ?_⟩
    · intro y0 y1 y2 y3 y4 y5 y6 y7 y8
      unfold laws_FnExactReadCert.j0
      repeat' first
      | (with_reducible exact ih0 _ _ _ _ _ _ _ _ _)
      | (with_reducible exact ih1 _ _ _ _ _ _ _)
      | (with_reducible exact ih2 _ _ _ _)
      | (with_reducible exact impl_ReadCert.mono _ _)
      | (with_reducible exact laws_eqByteS.mono _ _ _)
      | (with_reducible exact laws_eqCert.mono _ _ _ _ _)
      | (with_reducible exact laws_heldCert.mono _ _ _ _)
      | (with_reducible exact laws_markByteS.mono _ _ _)
      | (with_reducible exact laws_markCert.mono _ _ _ _)
      | (with_reducible exact laws_toByteS.mono _ _)
      | (with_reducible exact spec_ReadCert.mono _ _)
      | (with_reducible exact LeO.refl _)
      | (with_reducible exact LeO.none _)
      | (with_reducible refine LeO.ite ?_ ?_)
      | (with_reducible refine LeO.bind ?_ (fun _ => ?_))
      | exact ih0 _ _ _ _ _ _ _ _ _
      | exact ih1 _ _ _ _ _ _ _
      | exact ih2 _ _ _ _
      | exact impl_ReadCert.mono _ _
      | exact laws_eqByteS.mono _ _ _
      | exact laws_eqCert.mono _ _ _ _ _
      | exact laws_heldCert.mono _ _ _ _
      | exact laws_markByteS.mono _ _ _
      | exact laws_markCert.mono _ _ _ _
      | exact laws_toByteS.mono _ _
      | exact spec_ReadCert.mono _ _
      | exact LeO.none _
      | refine LeO.ite ?_ ?_
      | refine LeO.bind ?_ (fun _ => ?_)
    · intro y0 y1 y2 y3 y4 y5 y6
      unfold laws_FnExactReadCert.j1
      repeat' first
      | (with_reducible exact ih0 _ _ _ _ _ _ _ _ _)
      | (with_reducible exact ih1 _ _ _ _ _ _ _)
      | (with_reducible exact ih2 _ _ _ _)
      | (with_reducible exact impl_ReadCert.mono _ _)
      | (with_reducible exact laws_eqByteS.mono _ _ _)
      | (with_reducible exact laws_eqCert.mono _ _ _ _ _)
      | (with_reducible exact laws_heldCert.mono _ _ _ _)
      | (with_reducible exact laws_markByteS.mono _ _ _)
      | (with_reducible exact laws_markCert.mono _ _ _ _)
      | (with_reducible exact laws_toByteS.mono _ _)
      | (with_reducible exact spec_ReadCert.mono _ _)
      | (with_reducible exact LeO.refl _)
      | (with_reducible exact LeO.none _)
      | (with_reducible refine LeO.ite ?_ ?_)
      | (with_reducible refine LeO.bind ?_ (fun _ => ?_))
      | exact ih0 _ _ _ _ _ _ _ _ _
      | exact ih1 _ _ _ _ _ _ _
      | exact ih2 _ _ _ _
      | exact impl_ReadCert.mono _ _
      | exact laws_eqByteS.mono _ _ _
      | exact laws_eqCert.mono _ _ _ _ _
      | exact laws_heldCert.mono _ _ _ _
      | exact laws_markByteS.mono _ _ _
      | exact laws_markCert.mono _ _ _ _
      | exact laws_toByteS.mono _ _
      | exact spec_ReadCert.mono _ _
      | exact LeO.none _
      | refine LeO.ite ?_ ?_
      | refine LeO.bind ?_ (fun _ => ?_)
    · intro y0 y1 y2 y3
      unfold laws_FnExactReadCert.j2
      repeat' first
      | (with_reducible exact ih0 _ _ _ _ _ _ _ _ _)
      | (with_reducible exact ih1 _ _ _ _ _ _ _)
      | (with_reducible exact ih2 _ _ _ _)
      | (with_reducible exact impl_ReadCert.mono _ _)
      | (with_reducible exact laws_eqByteS.mono _ _ _)
      | (with_reducible exact laws_eqCert.mono _ _ _ _ _)
      | (with_reducible exact laws_heldCert.mono _ _ _ _)
      | (with_reducible exact laws_markByteS.mono _ _ _)
      | (with_reducible exact laws_markCert.mono _ _ _ _)
      | (with_reducible exact laws_toByteS.mono _ _)
      | (with_reducible exact spec_ReadCert.mono _ _)
      | (with_reducible exact LeO.refl _)
      | (with_reducible exact LeO.none _)
      | (with_reducible refine LeO.ite ?_ ?_)
      | (with_reducible refine LeO.bind ?_ (fun _ => ?_))
      | exact ih0 _ _ _ _ _ _ _ _ _
      | exact ih1 _ _ _ _ _ _ _
      | exact ih2 _ _ _ _
      | exact impl_ReadCert.mono _ _
      | exact laws_eqByteS.mono _ _ _
      | exact laws_eqCert.mono _ _ _ _ _
      | exact laws_heldCert.mono _ _ _ _
      | exact laws_markByteS.mono _ _ _
      | exact laws_markCert.mono _ _ _ _
      | exact laws_toByteS.mono _ _
      | exact spec_ReadCert.mono _ _
      | exact LeO.none _
      | refine LeO.ite ?_ ?_
      | refine LeO.bind ?_ (fun _ => ?_)
theorem laws_FnExactReadCert.mono : ∀ a0 k, LeO (laws_FnExactReadCert.f k a0) (laws_FnExactReadCert.f (k + 1) a0) := by
  intro a0 k
  obtain ⟨ih0, ih1, ih2⟩ := laws_FnExactReadCert.mono_l k
  unfold laws_FnExactReadCert.f
  repeat' first
      | (with_reducible exact ih0 _ _ _ _ _ _ _ _ _)
      | (with_reducible exact ih1 _ _ _ _ _ _ _)
      | (with_reducible exact ih2 _ _ _ _)
      | (with_reducible exact impl_ReadCert.mono _ _)
      | (with_reducible exact laws_eqByteS.mono _ _ _)
      | (with_reducible exact laws_eqCert.mono _ _ _ _ _)
      | (with_reducible exact laws_heldCert.mono _ _ _ _)
      | (with_reducible exact laws_markByteS.mono _ _ _)
      | (with_reducible exact laws_markCert.mono _ _ _ _)
      | (with_reducible exact laws_toByteS.mono _ _)
      | (with_reducible exact spec_ReadCert.mono _ _)
      | (with_reducible exact LeO.refl _)
      | (with_reducible exact LeO.none _)
      | (with_reducible refine LeO.ite ?_ ?_)
      | (with_reducible refine LeO.bind ?_ (fun _ => ?_))
      | exact ih0 _ _ _ _ _ _ _ _ _
      | exact ih1 _ _ _ _ _ _ _
      | exact ih2 _ _ _ _
      | exact impl_ReadCert.mono _ _
      | exact laws_eqByteS.mono _ _ _
      | exact laws_eqCert.mono _ _ _ _ _
      | exact laws_heldCert.mono _ _ _ _
      | exact laws_markByteS.mono _ _ _
      | exact laws_markCert.mono _ _ _ _
      | exact laws_toByteS.mono _ _
      | exact spec_ReadCert.mono _ _
      | exact LeO.none _
      | refine LeO.ite ?_ ?_
      | refine LeO.bind ?_ (fun _ => ?_)
noncomputable def laws_FnExactReadCert.jv0 (x0 : List Int) (x4 : Int) (x5 : List Int) (x7 : Int) (x37 : Bool) (x568000 : ByteArray) (x568001 : List (S63)) (x577000 : ByteArray) (x577001 : List (S63)) : Option (Bool) := lim (fun k_ => laws_FnExactReadCert.j0 k_ x0 x4 x5 x7 x37 x568000 x568001 x577000 x577001)
noncomputable def laws_FnExactReadCert.jv1 (x0 : List Int) (x4 : Int) (x58 : Bool) (x568000 : ByteArray) (x568001 : List (S63)) (x577000 : ByteArray) (x577001 : List (S63)) : Option (Bool) := lim (fun k_ => laws_FnExactReadCert.j1 k_ x0 x4 x58 x568000 x568001 x577000 x577001)
noncomputable def laws_FnExactReadCert.jv2 (x9 : Int) (x84 : Bool) (x577000 : ByteArray) (x577001 : List (S63)) : Option (Bool) := lim (fun k_ => laws_FnExactReadCert.j2 k_ x9 x84 x577000 x577001)
noncomputable def laws_FnExactReadCert.v (l0 : List Int) : Option (Bool) := lim (fun k_ => laws_FnExactReadCert.f k_ l0)
theorem laws_FnExactReadCert.jv0_lim (x0 : List Int) (x4 : Int) (x5 : List Int) (x7 : Int) (x37 : Bool) (x568000 : ByteArray) (x568001 : List (S63)) (x577000 : ByteArray) (x577001 : List (S63)) : LimIs (fun k_ => laws_FnExactReadCert.j0 k_ x0 x4 x5 x7 x37 x568000 x568001 x577000 x577001) (laws_FnExactReadCert.jv0 x0 x4 x5 x7 x37 x568000 x568001 x577000 x577001) := lim_is (fun k_ => (laws_FnExactReadCert.mono_l k_).1 x0 x4 x5 x7 x37 x568000 x568001 x577000 x577001)
theorem laws_FnExactReadCert.jv1_lim (x0 : List Int) (x4 : Int) (x58 : Bool) (x568000 : ByteArray) (x568001 : List (S63)) (x577000 : ByteArray) (x577001 : List (S63)) : LimIs (fun k_ => laws_FnExactReadCert.j1 k_ x0 x4 x58 x568000 x568001 x577000 x577001) (laws_FnExactReadCert.jv1 x0 x4 x58 x568000 x568001 x577000 x577001) := lim_is (fun k_ => (laws_FnExactReadCert.mono_l k_).2.1 x0 x4 x58 x568000 x568001 x577000 x577001)
theorem laws_FnExactReadCert.jv2_lim (x9 : Int) (x84 : Bool) (x577000 : ByteArray) (x577001 : List (S63)) : LimIs (fun k_ => laws_FnExactReadCert.j2 k_ x9 x84 x577000 x577001) (laws_FnExactReadCert.jv2 x9 x84 x577000 x577001) := lim_is (fun k_ => (laws_FnExactReadCert.mono_l k_).2.2 x9 x84 x577000 x577001)
theorem laws_FnExactReadCert.v_lim (l0 : List Int) : LimIs (fun k_ => laws_FnExactReadCert.f k_ l0) (laws_FnExactReadCert.v l0) := lim_is (fun k_ => laws_FnExactReadCert.mono l0 k_)
theorem laws_FnExactReadCert.jv0_eq (x0 : List Int) (x4 : Int) (x5 : List Int) (x7 : Int) (x37 : Bool) (x568000 : ByteArray) (x568001 : List (S63)) (x577000 : ByteArray) (x577001 : List (S63)) : laws_FnExactReadCert.jv0 x0 x4 x5 x7 x37 x568000 x568001 x577000 x577001 = (if x37 = true then (some false) else ((laws_toByteS.v x0).bind fun t578 => ((laws_eqByteS.v x5 t578).bind fun t581 => (if t581 = true then ((laws_markByteS.v x5 1).bind fun bt582 => (if bt582.1 < 0 then (laws_FnExactReadCert.jv1 x0 x4 true x568000 x568001 x577000 x577001) else ((laws_eqCert.v x577000 x577001 x568000 x568001).bind fun t584 => (if t584 = true then (laws_FnExactReadCert.jv1 x0 x4 (x7 != x4) x568000 x568001 x577000 x577001) else (laws_FnExactReadCert.jv1 x0 x4 true x568000 x568001 x577000 x577001))))) else (some false)))) : Option (Bool)) := by
  refine LimIs.eq (laws_FnExactReadCert.jv0_lim x0 x4 x5 x7 x37 x568000 x568001 x577000 x577001) ?_
  refine LimIs.step (fun k_ => (laws_FnExactReadCert.mono_l k_).1 x0 x4 x5 x7 x37 x568000 x568001 x577000 x577001) ?_
  simp only [laws_FnExactReadCert.j0]
  repeat' (with_reducible first | exact laws_FnExactReadCert.jv1_lim _ _ _ _ _ _ _ | exact laws_eqByteS.v_lim _ _ | exact laws_eqCert.v_lim _ _ _ _ | exact laws_markByteS.v_lim _ _ | exact laws_toByteS.v_lim _ | exact LimIs.const _ | refine LimIs.ite ?_ ?_ | refine LimIs.bind ?_ (fun _ => ?_))
theorem laws_FnExactReadCert.jv1_eq (x0 : List Int) (x4 : Int) (x58 : Bool) (x568000 : ByteArray) (x568001 : List (S63)) (x577000 : ByteArray) (x577001 : List (S63)) : laws_FnExactReadCert.jv1 x0 x4 x58 x568000 x568001 x577000 x577001 = (if x58 = true then (some false) else ((laws_markCert.v x577000 x577001 1).bind fun bt585 => ((laws_heldCert.v x577000 bt585.2 1).bind fun t587 => (if t587 < 0 then (some false) else (if t587 = bt585.1 then ((laws_toByteS.v x0).bind fun t588 => ((impl_ReadCert.v t588).bind fun bt591 => ((laws_eqCert.v bt591.1 bt591.2.1 x568000 x568001).bind fun t597 => (if t597 = true then (laws_FnExactReadCert.jv2 bt585.1 (bt591.2.2 != x4) x577000 bt585.2) else (laws_FnExactReadCert.jv2 bt585.1 true x577000 bt585.2))))) else (some false))))) : Option (Bool)) := by
  refine LimIs.eq (laws_FnExactReadCert.jv1_lim x0 x4 x58 x568000 x568001 x577000 x577001) ?_
  refine LimIs.step (fun k_ => (laws_FnExactReadCert.mono_l k_).2.1 x0 x4 x58 x568000 x568001 x577000 x577001) ?_
  simp only [laws_FnExactReadCert.j1]
  repeat' (with_reducible first | exact impl_ReadCert.v_lim _ | exact laws_FnExactReadCert.jv2_lim _ _ _ _ | exact laws_eqCert.v_lim _ _ _ _ | exact laws_heldCert.v_lim _ _ _ | exact laws_markCert.v_lim _ _ _ | exact laws_toByteS.v_lim _ | exact LimIs.const _ | refine LimIs.ite ?_ ?_ | refine LimIs.bind ?_ (fun _ => ?_))
theorem laws_FnExactReadCert.jv2_eq (x9 : Int) (x84 : Bool) (x577000 : ByteArray) (x577001 : List (S63)) : laws_FnExactReadCert.jv2 x9 x84 x577000 x577001 = (if x84 = true then (some false) else ((laws_heldCert.v x577000 x577001 1).bind fun t598 => (if t598 < 0 then (some false) else (if t598 = x9 then (some true) else (some false)))) : Option (Bool)) := by
  refine LimIs.eq (laws_FnExactReadCert.jv2_lim x9 x84 x577000 x577001) ?_
  refine LimIs.step (fun k_ => (laws_FnExactReadCert.mono_l k_).2.2 x9 x84 x577000 x577001) ?_
  simp only [laws_FnExactReadCert.j2]
  repeat' (with_reducible first | exact laws_heldCert.v_lim _ _ _ | exact LimIs.const _ | refine LimIs.ite ?_ ?_ | refine LimIs.bind ?_ (fun _ => ?_))
theorem laws_FnExactReadCert.v_eq (l0 : List Int) : laws_FnExactReadCert.v l0 = (if (l0.length : Int) > 1048576 then (some true) else ((laws_toByteS.v l0).bind fun t559 => ((spec_ReadCert.v t559).bind fun bt562 => ((laws_toByteS.v l0).bind fun t568 => ((impl_ReadCert.v t568).bind fun bt571 => ((laws_eqCert.v bt571.1 bt571.2.1 bt562.1 bt562.2.1).bind fun t577 => (if t577 = true then (laws_FnExactReadCert.jv0 l0 bt562.2.2 t568 bt571.2.2 (bt571.2.2 != bt562.2.2) bt562.1 bt562.2.1 bt571.1 bt571.2.1) else (laws_FnExactReadCert.jv0 l0 bt562.2.2 t568 bt571.2.2 true bt562.1 bt562.2.1 bt571.1 bt571.2.1))))))) : Option (Bool)) := by
  refine LimIs.eq (laws_FnExactReadCert.v_lim l0) ?_
  simp only [laws_FnExactReadCert.f]
  repeat' (with_reducible first | exact impl_ReadCert.v_lim _ | exact laws_FnExactReadCert.jv0_lim _ _ _ _ _ _ _ _ _ | exact laws_eqCert.v_lim _ _ _ _ | exact laws_toByteS.v_lim _ | exact spec_ReadCert.v_lim _ | exact LimIs.const _ | refine LimIs.ite ?_ ?_ | refine LimIs.bind ?_ (fun _ => ?_))
end Go.Proofs.Ytadablpppkjdbaa.A
end

section
namespace Go.Proofs.YtadablpppkjdbaaW.PrintWords
open Go.RowKit
namespace Kd
def B (e : Nat) (W : World) (base : Nat) (ok : Nat → Prop) (v : Value) (xs : List Int) : Prop :=
  (∀ k, v.ownBlock = some k → ok k) ∧ xs.length ≤ 9223372036854775807 ∧ ((v = .slice none 0 0 ∧ xs = []) ∨ ∃ (g c m : Nat) (cells : Array Value), v = .slice (some ⟨g, 0, none⟩) xs.length c ∧ base ≤ g ∧ W.heap[g]? = some (.cells cells e (m, m + 1)) ∧ cells.size ≤ m ∧
    xs.length ≤ c ∧ xs.length ≤ cells.size ∧ ∀ j, j < xs.length → cells[j]? = some (.int .u8 (xs.getD j 0)))
end Kd
end Go.Proofs.YtadablpppkjdbaaW.PrintWords
end

section
namespace Go.Proofs.Ytadablpppkjdbaa.A
open Go.RowKit Go.Proofs.YtadablpppkjdbaaW.PrintWords Go.Proofs.YtadablpppkjdbaaW.PrintLast Go.Proofs.YtadablpppkjdbaaW.PrintMore
attribute [local go_sem] max2_int min2_int max_two min_two max_three min_three max_four min_four
end Go.Proofs.Ytadablpppkjdbaa.A
end

section
namespace Go.Proofs.YtadablpppkjdbaaW.PrintWords
open Go.RowKit
theorem wrap_id {x : Int} (h0 : -9223372036854775808 ≤ x) (h1 : x ≤ 9223372036854775807) : wrap64 x = x := by unfold wrap64; omega
/-- p at d places from i on. -/
def allB (p : Int → Bool) : Nat → Int → Bool
  | 0, _ => true
  | d + 1, i => p i && allB p d (i + 1)
def allI (p : Int → Bool) (i n : Int) : Bool := allB p (n - i).toNat i
theorem allI_step {p : Int → Bool} {i n : Int} (h : i < n) : allI p i n = (p i && allI p (i + 1) n) := by
  unfold allI
  obtain ⟨d, hd⟩ : ∃ d : Nat, (n - i).toNat = d + 1 := ⟨(n - i).toNat - 1, by omega⟩
  rw [hd, show (n - (i + 1)).toNat = d by omega]
  rfl
theorem allI_end {p : Int → Bool} {i n : Int} (h : n ≤ i) : allI p i n = true := by
  unfold allI
  rw [show (n - i).toNat = 0 by omega]
  rfl
theorem allI_iff (p : Int → Bool) (n : Int) : ∀ (d : Nat) (i : Int), (n - i).toNat = d → (allI p i n = true ↔ ∀ j, i ≤ j → j < n → p j = true)
  | 0, i, h => by
    rw [allI_end (by omega)]
    exact ⟨fun _ j h1 h2 => by omega, fun _ => rfl⟩
  | d + 1, i, h => by
    rw [allI_step (by omega), Bool.and_eq_true, allI_iff p n d (i + 1) (by omega)]
    refine ⟨fun ⟨h1, h2⟩ j h3 h4 => ?_, fun h1 => ⟨h1 i (by omega) (by omega), fun j h3 h4 => h1 j (by omega) h4⟩⟩
    by_cases e : j = i
    · rw [e]; exact h1
    · exact h2 j (by omega) h4
/-- A loop that asks p at each place. -/
theorem loop_all {L : Int → Option Bool} (p : Int → Bool) (n : Int) (hn : n ≤ 9223372036854775807) (hL : ∀ i, 0 ≤ i → i < n → L i = if p i = true then L (wrap64 (i + 1)) else some false) (hE : ∀ i, 0 ≤ i → n ≤ i → L i = some true) :
    ∀ (d : Nat) (i : Int), (n - i).toNat = d → 0 ≤ i → L i = some (allI p i n)
  | 0, i, h, h0 => by rw [hE i h0 (by omega), allI_end (by omega)]
  | d + 1, i, h, h0 => by
    rw [hL i h0 (by omega), allI_step (by omega), wrap_id (by omega) (by omega), loop_all p n hn hL hE d (i + 1) (by omega) (by omega)]
    cases p i <;> simp
def inB (n low high : Int) : Bool := decide (low ≤ n ∧ n ≤ high)
theorem ba_toList (a : ByteArray) : a.toList = a.data.toList := ByteArray.toList_eq a
theorem strOf_size (l : List Int) : (strOfNums l).size = l.length := by
  show (strOfNums l).data.size = _
  simp [strOfNums]
theorem int_succ_mul (a c : Int) : a * c + c = (a + 1) * c := by rw [Int.add_mul, Int.one_mul]
theorem copy_loop {α β : Type} (d : α) (g : α → β) (l : List α) (hn : l.length ≤ 9223372036854775806) (L : List β → Int → Option (List β))
    (hL : ∀ acc i, 0 ≤ i → i < (l.length : Int) → acc.length = l.length → L acc i = L (acc.set i.toNat (g (l.getD i.toNat d))) (wrap64 (i + 1))) (hE : ∀ acc i, (l.length : Int) ≤ i → L acc i = some acc) :
    ∀ (n : Nat) (acc : List β) (i : Int), ((l.length : Int) - i).toNat = n → 0 ≤ i → i ≤ l.length → acc.length = l.length → (∀ j : Nat, j < i.toNat → acc[j]? = (l.map g)[j]?) → L acc i = some (l.map g)
  | 0, acc, i, h, h0, h1, ha, hj => by
    rw [hE acc i (by omega)]
    congr 1
    apply List.ext_getElem?
    intro j
    by_cases hjl : j < l.length
    · exact hj j (by omega)
    · rw [List.getElem?_eq_none (by omega), List.getElem?_eq_none (by simp; omega)]
  | n + 1, acc, i, h, h0, h1, ha, hj => by
    have hlt : i < (l.length : Int) := by omega
    rw [hL acc i h0 hlt ha, wrap_id (by omega) (by omega)]
    refine copy_loop d g l hn L hL hE n _ (i + 1) (by omega) (by omega) (by omega) (by simp [ha]) (fun j hj2 => ?_)
    by_cases e : j = i.toNat
    · subst e
      rw [List.getElem?_set_self (by omega), List.getElem?_map, List.getElem?_eq_getElem (by omega : i.toNat < l.length)]
      simp [List.getD, List.getElem?_eq_getElem (by omega : i.toNat < l.length)]
    · rw [List.getElem?_set_ne (by omega)]
      exact hj j (by omega)
theorem mark_loop {α : Type} (z : α) (g : α → Int → α) (c : Int) (hc : 0 ≤ c) (L : List α → Int → Int → Option (Int × List α))
    (hL : ∀ l k i, 0 ≤ i → i < (l.length : Int) → 0 ≤ k → k + c ≤ 4611686018427387904 → L l k i = L (l.set i.toNat (g (l.getD i.toNat z) k)) (k + c) (wrap64 (i + 1))) (hE : ∀ l k i, (l.length : Int) ≤ i → L l k i = some (k, l)) :
    ∀ (n : Nat) (l : List α) (k i : Int), ((l.length : Int) - i).toNat = n → 0 ≤ i → i ≤ l.length → (l.length : Int) ≤ 9223372036854775806 → 0 ≤ k → k + n * c ≤ 4611686018427387904 →
      ∃ l', L l k i = some (k + n * c, l') ∧ l'.length = l.length ∧ (∀ j : Nat, j < i.toNat → l'[j]? = l[j]?) ∧ (∀ j : Nat, i.toNat ≤ j → j < l.length → ∃ x, l'[j]? = some (g x (k + (j - i) * c)))
  | 0, l, k, i, h, h0, h1, hn, hk, hkn => ⟨l, by rw [hE l k i (by omega)]; simp, rfl, fun _ _ => rfl, fun j h2 h3 => by omega⟩
  | n + 1, l, k, i, h, h0, h1, hn, hk, hkn => by
    have hlt : i < (l.length : Int) := by omega
    have hm : ((n + 1 : Nat) : Int) * c = n * c + c := by rw [Int.natCast_add, Int.add_mul]; simp
    have hnc : 0 ≤ (n : Int) * c := Int.mul_nonneg (by omega) hc
    rw [hm] at hkn
    obtain ⟨l', e1, e2, e3, e4⟩ := mark_loop z g c hc L hL hE n (l.set i.toNat (g (l.getD i.toNat z) k)) (k + c) (i + 1) (by simp; omega) (by omega) (by simp; omega) (by simpa using hn) (by omega) (by omega)
    refine ⟨l', ?_, by simpa using e2, fun j hj => ?_, fun j h2 h3 => ?_⟩
    · rw [hL l k i h0 hlt hk (by omega), wrap_id (by omega) (by omega), e1, hm]
      congr 2
      omega
    · rw [e3 j (by omega), List.getElem?_set_ne (by omega)]
    · by_cases e : j = i.toNat
      · subst e
        refine ⟨l.getD i.toNat z, ?_⟩
        rw [e3 i.toNat (by omega), List.getElem?_set_self (by omega), show ((i.toNat : Int) - i) = 0 by omega]
        simp
      · obtain ⟨x, hx⟩ := e4 j (by omega) (by simpa using h3)
        refine ⟨x, ?_⟩
        rw [hx]
        congr 2
        have : ((j : Int) - (i + 1)) * c + c = (j - i) * c := by rw [int_succ_mul]; congr 1; omega
        omega
theorem held_loop {α : Type} (z : α) (chk : α → Int → Bool) (c : Int) (hc : 0 ≤ c) (l : List α) (hn : (l.length : Int) ≤ 9223372036854775806) (H : Int → Int → Option Int)
    (hH : ∀ k i, 0 ≤ i → i < (l.length : Int) → 0 ≤ k → k + c ≤ 4611686018427387904 → chk (l.getD i.toNat z) k = true → H k i = H (k + c) (wrap64 (i + 1))) (hE : ∀ k i, (l.length : Int) ≤ i → H k i = some k) :
    ∀ (n : Nat) (k i : Int), ((l.length : Int) - i).toNat = n → 0 ≤ i → i ≤ l.length → 0 ≤ k → k + n * c ≤ 4611686018427387904 →
      (∀ j : Nat, i.toNat ≤ j → j < l.length → chk (l.getD j z) (k + (j - i) * c) = true) → H k i = some (k + n * c)
  | 0, k, i, h, h0, h1, hk, hkn, _ => by rw [hE k i (by omega)]; simp
  | n + 1, k, i, h, h0, h1, hk, hkn, hj => by
    have hlt : i < (l.length : Int) := by omega
    have hm : ((n + 1 : Nat) : Int) * c = n * c + c := by rw [Int.natCast_add, Int.add_mul]; simp
    have hnc : 0 ≤ (n : Int) * c := Int.mul_nonneg (by omega) hc
    rw [hm] at hkn ⊢
    have h2 := hj i.toNat (Nat.le_refl _) (by omega)
    rw [show ((i.toNat : Int) - i) = 0 by omega, Int.zero_mul, Int.add_zero] at h2
    rw [hH k i h0 hlt hk (by omega) h2, wrap_id (by omega) (by omega)]
    rw [held_loop z chk c hc l hn H hH hE n (k + c) (i + 1) (by omega) (by omega) (by omega) (by omega) (by omega) (fun j h3 h4 => by
      have h5 := hj j (by omega) h4
      have : ((j : Int) - (i + 1)) * c + c = (j - i) * c := by rw [int_succ_mul]; congr 1; omega
      rw [show k + c + ((j : Int) - (i + 1)) * c = k + (j - i) * c by omega]
      exact h5)]
    congr 1
    omega
/-- What is marked is held: the two loops together, from the begin. -/
theorem mark_held {α : Type} (z : α) (g : α → Int → α) (chk : α → Int → Bool) (c : Int) (hc : 0 ≤ c) (hg : ∀ x k, 0 ≤ k → k + c ≤ 4611686018427387904 → chk (g x k) k = true) (L : List α → Int → Int → Option (Int × List α)) (H : List α → Int → Int → Option Int)
    (hL : ∀ l k i, 0 ≤ i → i < (l.length : Int) → 0 ≤ k → k + c ≤ 4611686018427387904 → L l k i = L (l.set i.toNat (g (l.getD i.toNat z) k)) (k + c) (wrap64 (i + 1))) (hE : ∀ l k i, (l.length : Int) ≤ i → L l k i = some (k, l))
    (hH : ∀ l k i, 0 ≤ i → i < (l.length : Int) → 0 ≤ k → k + c ≤ 4611686018427387904 → chk (l.getD i.toNat z) k = true → H l k i = H l (k + c) (wrap64 (i + 1))) (hE2 : ∀ l k i, (l.length : Int) ≤ i → H l k i = some k)
    (l : List α) (k : Int) (hn : (l.length : Int) ≤ 9223372036854775806) (hk : 0 ≤ k) (hkn : k + l.length * c ≤ 4611686018427387904) :
    ∃ l', L l k 0 = some (k + l.length * c, l') ∧ l'.length = l.length ∧ H l' k 0 = some (k + l.length * c) := by
  obtain ⟨l', e1, e2, e3, e4⟩ := mark_loop z g c hc L hL hE l.length l k 0 (by omega) (by omega) (by omega) hn hk hkn
  refine ⟨l', e1, e2, ?_⟩
  rw [← e2]
  refine held_loop z chk c hc l' (by omega) (H l') (hH l') (hE2 l') l'.length k 0 (by omega) (by omega) (by omega) hk (by rw [e2]; exact hkn) (fun j h2 h3 => ?_)
  obtain ⟨x, hx⟩ := e4 j (by omega) (by omega)
  rw [List.getD, hx]
  simp only [Option.getD_some]
  have hb : (j : Int) * c + c ≤ l.length * c := by
    rw [int_succ_mul]
    exact Int.mul_le_mul_of_nonneg_right (by omega) hc
  have hj0 : 0 ≤ (j : Int) * c := Int.mul_nonneg (by omega) hc
  have h0 : ((j : Int) - 0) = j := by omega
  rw [h0]
  exact hg x _ (by omega) (by omega)
end Go.Proofs.YtadablpppkjdbaaW.PrintWords
end

section
namespace Go.Proofs.Ytadablpppkjdbaa.A
open Go.RowKit Go.Proofs.YtadablpppkjdbaaW.PrintWords
theorem markText_l : ∀ (m : Nat) (x : Int) (s : ByteArray), 0 ≤ x → x < 10 ^ m → x ≤ 9223372036854775807 → s.size + m ≤ 1000000 → ∃ r, laws_markText.lv0 x s = some r
  | 0, x, s, h0, h1, h2, h3 => ⟨_, by rw [laws_markText.lv0_eq, if_neg (by simp at h1; omega), if_pos (by omega)]⟩
  | m + 1, x, s, h0, h1, h2, h3 => by
    by_cases hx : x > 0
    · have h4 : (strOfNums [(wrap64 (48 + (Int.tmod x 10))) % 256]).size = 1 := by rw [strOf_size]; rfl
      have h5 : Int.tdiv x 10 = x / 10 := Int.tdiv_eq_ediv_of_nonneg h0
      obtain ⟨r, hr⟩ := markText_l m (x / 10) ((strOfNums [(wrap64 (48 + (Int.tmod x 10))) % 256]) ++ s) (by omega) (by rw [Int.pow_succ] at h1; omega) (by omega) (by rw [ByteArray.size_append, h4]; omega)
      refine ⟨r, ?_⟩
      rw [laws_markText.lv0_eq, if_pos hx]
      simp only [Option.bind_some]
      rw [if_pos (by rw [h4]; omega), h5, wrap_id (by omega) (by omega), hr]
    · exact ⟨_, by rw [laws_markText.lv0_eq, if_neg hx, if_pos (by omega)]⟩
noncomputable def mtext (k : Int) : ByteArray := (laws_markText.v k).getD ⟨#[]⟩
theorem markText_v (k : Int) (h : 0 ≤ k) (h2 : k ≤ 9223372036854775807) : laws_markText.v k = some (mtext k) := by
  have : ∃ r, laws_markText.v k = some r := by
    rw [laws_markText.v_eq]
    by_cases hk : k ≤ 0
    · exact ⟨_, by rw [if_pos hk]⟩
    · rw [if_neg hk]
      exact markText_l 19 k ⟨#[]⟩ h (by omega) h2 (by show 0 + 19 ≤ _; omega)
  obtain ⟨r, hr⟩ := this
  rw [mtext, hr]; rfl
theorem getD_set {α : Type} (l : List α) (i : Int) (a z : α) (h0 : 0 ≤ i) (h : i < l.length) : (l.set i.toNat a).getD i.toNat z = a := by
  rw [List.getD, List.getElem?_set_self (by omega)]; rfl
theorem eqMessageS_v (l : List S63) (h : l.length ≤ 281474976710656) : laws_eqMessageS.v l l = some true := by
  rw [laws_eqMessageS.v_eq, if_pos rfl, loop_all (L := fun i => laws_eqMessageS.lv0 l l i) (fun _ => true) l.length (by omega) (fun i h0 h1 => by
    show laws_eqMessageS.lv0 l l i = _
    rw [laws_eqMessageS.lv0_eq, if_pos h1, if_pos h0, if_pos h1, laws_eqMessage.v_eq, if_pos rfl, if_pos rfl, if_pos rfl, if_pos rfl, if_pos rfl, if_pos rfl, if_pos rfl, Option.bind_some]) (fun i h0 h1 => by
    show laws_eqMessageS.lv0 l l i = _
    rw [laws_eqMessageS.lv0_eq, if_neg (by omega)]) _ 0 rfl (by omega), (allI_iff _ _ _ _ rfl).2 (fun _ _ _ => rfl)]
theorem msgs_held (l : List S63) (k : Int) (hk : 0 ≤ k) (hk2 : k ≤ 1000000000000000) (h : l.length ≤ 281474976710656) : ∃ l', laws_markMessageS.v l k = some (k + (l.length : Int) * 7, l') ∧ l'.length = l.length ∧ laws_heldMessageS.v l' k = some (k + (l.length : Int) * 7) := by
  obtain ⟨l', h1, h2, h3⟩ := mark_held z63 (fun _ k => ⟨k, k + 1, k + 1 + 1, k + 1 + 1 + 1, mtext (k + 1 + 1 + 1 + 1), mtext (k + 1 + 1 + 1 + 1 + 1), mtext (k + 1 + 1 + 1 + 1 + 1 + 1)⟩) (fun x k => decide (x.f0 = k ∧ x.f1 = k + 1 ∧ x.f2 = k + 1 + 1 ∧ x.f3 = k + 1 + 1 + 1 ∧ x.f4 = mtext (k + 1 + 1 + 1 + 1) ∧ x.f5 = mtext (k + 1 + 1 + 1 + 1 + 1) ∧ x.f6 = mtext (k + 1 + 1 + 1 + 1 + 1 + 1))) 7 (by omega) (fun x k _ _ => by simp) (fun l k i => laws_markMessageS.lv0 l k i) (fun l k i => laws_heldMessageS.lv0 l k i) (fun l k i h0 h1 h2 h3 => by
    show laws_markMessageS.lv0 l k i = _
    have t4 := markText_v (k + 1 + 1 + 1 + 1) (by omega) (by omega)
    have t5 := markText_v (k + 1 + 1 + 1 + 1 + 1) (by omega) (by omega)
    have t6 := markText_v (k + 1 + 1 + 1 + 1 + 1 + 1) (by omega) (by omega)
    have w1 : wrap64 (k + 1) = k + 1 := wrap_id (by omega) (by omega)
    have w2 : wrap64 (k + 1 + 1) = k + 1 + 1 := wrap_id (by omega) (by omega)
    have w3 : wrap64 (k + 1 + 1 + 1) = k + 1 + 1 + 1 := wrap_id (by omega) (by omega)
    have w4 : wrap64 (k + 1 + 1 + 1 + 1) = k + 1 + 1 + 1 + 1 := wrap_id (by omega) (by omega)
    have w5 : wrap64 (k + 1 + 1 + 1 + 1 + 1) = k + 1 + 1 + 1 + 1 + 1 := wrap_id (by omega) (by omega)
    have w6 : wrap64 (k + 1 + 1 + 1 + 1 + 1 + 1) = k + 1 + 1 + 1 + 1 + 1 + 1 := wrap_id (by omega) (by omega)
    have w7 : wrap64 (k + 1 + 1 + 1 + 1 + 1 + 1 + 1) = k + 7 := by rw [wrap_id (by omega) (by omega)]; omega
    rw [laws_markMessageS.lv0_eq, if_pos h1, if_pos h0]
    simp only [Option.bind_some, w1, w2, w3, w4, w5, w6, w7, t4, t5, t6, rd_T63, List.set_set, getD_set l i _ z63 h0 h1]) (fun l k i h0 => by
    show laws_markMessageS.lv0 l k i = _
    rw [laws_markMessageS.lv0_eq, if_neg (by omega)]) (fun l k i h0 h1 h2 h3 h4 => by
    show laws_heldMessageS.lv0 l k i = _
    have t4 := markText_v (k + 1 + 1 + 1 + 1) (by omega) (by omega)
    have t5 := markText_v (k + 1 + 1 + 1 + 1 + 1) (by omega) (by omega)
    have t6 := markText_v (k + 1 + 1 + 1 + 1 + 1 + 1) (by omega) (by omega)
    have w1 : wrap64 (k + 1) = k + 1 := wrap_id (by omega) (by omega)
    have w2 : wrap64 (k + 1 + 1) = k + 1 + 1 := wrap_id (by omega) (by omega)
    have w3 : wrap64 (k + 1 + 1 + 1) = k + 1 + 1 + 1 := wrap_id (by omega) (by omega)
    have w4 : wrap64 (k + 1 + 1 + 1 + 1) = k + 1 + 1 + 1 + 1 := wrap_id (by omega) (by omega)
    have w5 : wrap64 (k + 1 + 1 + 1 + 1 + 1) = k + 1 + 1 + 1 + 1 + 1 := wrap_id (by omega) (by omega)
    have w6 : wrap64 (k + 1 + 1 + 1 + 1 + 1 + 1) = k + 1 + 1 + 1 + 1 + 1 + 1 := wrap_id (by omega) (by omega)
    have w7 : wrap64 (k + 1 + 1 + 1 + 1 + 1 + 1 + 1) = k + 7 := by rw [wrap_id (by omega) (by omega)]; omega
    obtain ⟨q0, q1, q2, q3, q4, q5, q6⟩ := of_decide_eq_true h4
    rw [laws_heldMessageS.lv0_eq, if_pos h1, if_pos h0]
    simp only [w1, w2, w3, w4, w5, w6, w7, t4, t5, t6, Option.bind_some, rd_T63, q0, q1, q2, q3, q4, q5, q6, if_true]) (fun l k i h0 => by
    show laws_heldMessageS.lv0 l k i = _
    rw [laws_heldMessageS.lv0_eq, if_neg (by omega)]) l k (by omega) (by omega) (by omega)
  exact ⟨l', by rw [laws_markMessageS.v_eq]; simpa using h1, h2, by rw [laws_heldMessageS.v_eq]; simpa using h3⟩
theorem markByteS_v (l : List Int) (h : l.length ≤ 281474976710656) : ∃ l', laws_markByteS.v l 1 = some (1 + (l.length : Int), l') := by
  obtain ⟨l', h1, _⟩ := mark_loop (0 : Int) (fun _ k => k % 256) 1 (by omega) (fun l k i => laws_markByteS.lv0 l k i) (fun l k i h0 h1 h2 h3 => by
    show laws_markByteS.lv0 l k i = _
    rw [laws_markByteS.lv0_eq, if_pos h1, if_pos h0, wrap_id (x := k + 1) (by omega) (by omega)]) (fun l k i h0 => by
    show laws_markByteS.lv0 l k i = _
    rw [laws_markByteS.lv0_eq, if_neg (by omega)]) l.length l 1 0 (by omega) (by omega) (by omega) (by omega) (by omega) (by omega)
  exact ⟨l', by rw [laws_markByteS.v_eq]; simpa using h1⟩
theorem toByteS_v (l : List Int) (h : l.length ≤ 281474976710656) : laws_toByteS.v l = some l := by
  rw [laws_toByteS.v_eq, if_pos (by omega), if_pos (by simpa using h)]
  have h1 := copy_loop (0 : Int) id l (by omega) (fun acc i => laws_toByteS.lv0 l acc i) (fun acc i h0 h1 h2 => by
    show laws_toByteS.lv0 l acc i = _
    rw [laws_toByteS.lv0_eq, if_pos h1, if_pos h0, if_pos (by omega)]; rfl) (fun acc i h0 => by
    show laws_toByteS.lv0 l acc i = _
    rw [laws_toByteS.lv0_eq, if_neg (by omega)]) l.length (List.replicate ((l.length : Int) : Int).toNat 0) 0 (by omega) (by omega) (by omega) (by simp) (fun j hj => by omega)
  rw [List.map_id] at h1
  exact h1
theorem eqByteS_v (l : List Int) (h : l.length ≤ 281474976710656) : laws_eqByteS.v l l = some true := by
  rw [laws_eqByteS.v_eq, if_pos rfl, loop_all (L := fun i => laws_eqByteS.lv0 l l i) (fun _ => true) l.length (by omega) (fun i h0 h1 => by
    show laws_eqByteS.lv0 l l i = _
    rw [laws_eqByteS.lv0_eq, if_pos h1, if_pos h0, if_pos h1, if_pos rfl]; rfl) (fun i h0 h1 => by
    show laws_eqByteS.lv0 l l i = _
    rw [laws_eqByteS.lv0_eq, if_neg (by omega)]) _ 0 rfl (by omega), (allI_iff _ _ _ _ rfl).2 (fun _ _ _ => rfl)]
def numL (l : List Int) : Int := l.foldl (fun n c => n * 256 + c) 0
def numM (s : ByteArray) : Int := numL (bytesOf s)
theorem or_byte (n c : Int) (h0 : 0 ≤ n) (h1 : n < 4503599627370496) (h2 : 0 ≤ c) (h3 : c < 256) : Go.bits .or .i64 (wrap64 (n * 256)) (wrap64 c) = n * 256 + c := by
  rw [wrap_id (by omega) (by omega), wrap_id (by omega) (by omega)]
  exact Go.bits_join .i64 62 (by decide) (fun n h0 h1 => by rw [IntKind.wrap_i64]; omega) 8 (n * 256) c (by omega) (by omega) (by omega) (by omega) (by omega) (by omega)
theorem bytesOf_rd (s : ByteArray) (i : Int) (h0 : 0 ≤ i) (h1 : i < s.size) : rd (bytesOf s) i = bt s i := by
  unfold rd bt
  rw [dif_pos (by omega)]
  unfold bytesOf
  rw [List.getD, List.getElem?_map, List.getElem?_eq_getElem (by rw [Array.length_toList]; show _ < s.size; omega)]
  simp
  rfl
theorem bytesOf_range (s : ByteArray) : ∀ c ∈ bytesOf s, 0 ≤ c ∧ c ≤ 255 := by
  intro c hc
  unfold bytesOf at hc
  obtain ⟨b, _, rfl⟩ := List.mem_map.1 hc
  have := b.toNat_lt
  omega
theorem foldl_range (l : List Int) : ∀ (n : Int), (∀ c ∈ l, 0 ≤ c ∧ c ≤ 255) → 0 ≤ n → 0 ≤ l.foldl (fun n c => n * 256 + c) n ∧ l.foldl (fun n c => n * 256 + c) n < (n + 1) * 256 ^ l.length := by
  induction l with
  | nil => intro n _ hn; simp; omega
  | cons c l ih =>
    intro n h hn
    have h1 := h c (by simp)
    obtain ⟨h2, h3⟩ := ih (n * 256 + c) (fun x hx => h x (by simp [hx])) (by omega)
    refine ⟨h2, ?_⟩
    simp only [List.foldl_cons, List.length_cons]
    refine Int.lt_of_lt_of_le h3 ?_
    rw [Int.pow_succ, Int.mul_comm (256 ^ l.length) 256, ← Int.mul_assoc]
    exact Int.mul_le_mul_of_nonneg_right (by omega) (Int.pow_nonneg (by omega))
theorem numM_range (s : ByteArray) : 0 ≤ numM s ∧ numM s < 256 ^ s.size := by
  have h := foldl_range (bytesOf s) 0 (bytesOf_range s) (by omega)
  rw [bytesOf_length] at h
  simpa [numM, numL] using h
theorem at_zero (x : ByteArray) : x = x.extract 0 x.size := by
  apply ByteArray.ext
  rw [ByteArray.data_extract]
  show x.data = x.data.extract 0 x.data.size
  rw [Array.extract_size]
theorem numM_one (x : ByteArray) (p : Nat) (h : p < x.size) : numM (x.extract p (p + 1)) = bt x p := by
  unfold numM numL bytesOf
  rw [ByteArray.data_extract, Array.toList_extract]
  have h2 : (x.data.toList.extract p (p + 1)) = [x[p]] := by
    rw [List.extract_eq_take_drop, show p + 1 - p = 1 by omega, List.drop_eq_getElem_cons (by rw [Array.length_toList]; exact h)]
    rfl
  rw [h2, bt, dif_pos (by omega)]
  simp
theorem impl_number_l (s : ByteArray) (hs : s.size ≤ 6) (t : ByteArray) (b : Bool) : ∀ (d i : Nat), s.size - i = d → i ≤ s.size → ∀ n : Int, n = numL ((bytesOf s).take i) → impl_reader_number.lv0 n (bytesOf s) ((bytesOf s).length : Int) i t b = some (numM s, t, b)
  | 0, i, h, hi, n, hn => by
    rw [impl_reader_number.lv0_eq, if_neg (by rw [bytesOf_length]; omega), hn, List.take_of_length_le (by rw [bytesOf_length]; omega)]; rfl
  | d + 1, i, h, hi, n, hn => by
    have hlt : i < s.size := by omega
    have hr := foldl_range ((bytesOf s).take i) 0 (fun c hc => bytesOf_range s c (List.mem_of_mem_take hc)) (by omega)
    have hlen : ((bytesOf s).take i).length = i := by rw [List.length_take, bytesOf_length]; omega
    rw [hlen] at hr
    have hp : (256 : Int) ^ i ≤ 256 ^ 5 := by
      have h5 : i = 0 ∨ i = 1 ∨ i = 2 ∨ i = 3 ∨ i = 4 ∨ i = 5 := by omega
      rcases h5 with rfl | rfl | rfl | rfl | rfl | rfl <;> decide
    have hn2 : 0 ≤ n ∧ n < 256 ^ 5 := by rw [hn]; unfold numL; omega
    have hb := bt_range s i
    rw [impl_reader_number.lv0_eq, if_pos (by rw [bytesOf_length]; omega), if_pos (by omega), if_pos (by rw [bytesOf_length]; omega), bytesOf_rd s i (by omega) (by omega), or_byte n _ hn2.1 (by omega) hb.1 (by omega), wrap_id (x := (i : Int) + 1) (by omega) (by omega)]
    refine impl_number_l s hs t b d (i + 1) (by omega) (by omega) _ ?_
    rw [List.take_succ_eq_append_getElem (by rw [bytesOf_length]; omega)]
    unfold numL
    rw [List.foldl_append]
    simp only [List.foldl_cons, List.foldl_nil]
    have h1 : (bytesOf s)[i]'(by rw [bytesOf_length]; omega) = bt s i := by
      rw [← bytesOf_rd s i (by omega) (by omega)]
      unfold rd
      rw [Int.toNat_natCast, List.getD, List.getElem?_eq_getElem (by rw [bytesOf_length]; omega)]
      rfl
    rw [h1, hn]
    rfl
/-- The reader at place p of x. -/
theorem take_ok (x : ByteArray) (p n : Nat) (h : p + n ≤ x.size) : impl_reader_take.v (x.extract p x.size) false n = some (x.extract p (p + n), x.extract (p + n) x.size, false) := by
  have hs : (x.extract p x.size).size = x.size - p := by rw [ByteArray.size_extract]; omega
  rw [impl_reader_take.v_eq, if_neg (by simp), if_neg (by omega), if_pos (by omega), if_pos (by omega), Int.toNat_natCast, hs]
  congr 1
  refine Prod.ext ?_ (Prod.ext ?_ rfl)
  · apply ByteArray.ext
    simp only [ByteArray.data_extract, Array.extract_extract]
    congr 1; omega
  · apply ByteArray.ext
    simp only [ByteArray.data_extract, Array.extract_extract]
    congr 1; omega
theorem take_short (x : ByteArray) (p n : Nat) (hp : p ≤ x.size) (h : x.size < p + n) : impl_reader_take.v (x.extract p x.size) false n = some (⟨#[]⟩, x.extract p x.size, true) := by
  have hs : (x.extract p x.size).size = x.size - p := by rw [ByteArray.size_extract]; omega
  rw [impl_reader_take.v_eq, if_neg (by simp), if_pos (by omega)]
theorem take_bad (t : ByteArray) (n : Int) : impl_reader_take.v t true n = some (⟨#[]⟩, t, true) := by rw [impl_reader_take.v_eq, if_pos rfl]
theorem number_of (t u v : ByteArray) (b c : Bool) (n : Int) (h : impl_reader_take.v t b n = some (u, v, c)) (hu : u.size ≤ 6) : impl_reader_number.v t b n = some (numM u, v, c) := by
  rw [impl_reader_number.v_eq, h]
  simp only [Option.bind_some]
  rw [if_pos (by omega)]
  exact impl_number_l u hu v c u.size 0 rfl (by omega) 0 rfl
theorem number_ok (x : ByteArray) (p n : Nat) (h : p + n ≤ x.size) (hn : n ≤ 6) : impl_reader_number.v (x.extract p x.size) false n = some (numM (x.extract p (p + n)), x.extract (p + n) x.size, false) :=
  number_of _ _ _ _ _ _ (take_ok x p n h) (by rw [ByteArray.size_extract]; omega)
theorem number_short (x : ByteArray) (p n : Nat) (hp : p ≤ x.size) (h : x.size < p + n) : impl_reader_number.v (x.extract p x.size) false n = some (0, x.extract p x.size, true) :=
  number_of _ _ _ _ _ _ (take_short x p n hp h) (by show 0 ≤ 6; omega)
theorem number_bad (t : ByteArray) (n : Int) : impl_reader_number.v t true n = some (0, t, true) := number_of _ _ _ _ _ _ (take_bad t n) (by show 0 ≤ 6; omega)
theorem done_bad (t : ByteArray) : impl_reader_done.v t true = some (false, t, true) := by rw [impl_reader_done.v_eq, if_pos rfl]
theorem ba_nil' (s : ByteArray) : (s.toList == ([] : List UInt8)) = decide (s.size = 0) := by
  rw [Bool.eq_iff_iff]
  simp only [beq_iff_eq, decide_eq_true_eq]
  rw [ba_toList]
  constructor
  · intro h; show s.data.size = 0; rw [← Array.length_toList, h]; rfl
  · intro h; have h2 : s.data.toList.length = 0 := by rw [Array.length_toList]; exact h
    exact List.eq_nil_of_length_eq_zero h2
theorem ba_ne' (s : ByteArray) : (s.toList != ([] : List UInt8)) = decide (s.size ≠ 0) := by
  rw [bne, ba_nil']; simp
theorem done_at (x : ByteArray) (p : Nat) (h : p ≤ x.size) : impl_reader_done.v (x.extract p x.size) false = some (decide (p = x.size), x.extract p x.size, false) := by
  rw [impl_reader_done.v_eq, if_neg (by simp), ba_nil', ByteArray.size_extract]
  congr 2
  by_cases h2 : p = x.size
  · simp [h2]
  · simp [h2]; omega
theorem spec_l01In_v (n low high : Int) : spec_l01In.v n low high = some (inB n low high) := by
  rw [spec_l01In.v_eq]; unfold inB; split <;> simp <;> omega
theorem impl_within_v (n low high : Int) : impl_within.v n low high = some (inB n low high) := by
  rw [impl_within.v_eq]; unfold inB; split <;> simp <;> omega
def msgB (k v s f : Int) (d b m : ByteArray) : Bool :=
  inB k 1 5 && inB v 0 20 && inB f 0 6 && decide (m.size = 8) && decide (b.size ≤ 20000) && (if k ≤ 3 then inB s 1 8 && decide (d.size = 32) && (decide (b.size ≠ 0) == decide (k = 1)) else decide (s = 0) && decide (d.size = 0))
theorem spec_MessageOK_v (k v s f : Int) (d b m : ByteArray) : spec_MessageOK.v k v s f d b m = some (msgB k v s f d b m) := by
  rw [spec_MessageOK.v_eq]
  simp only [spec_l01In_v, Option.bind_some, spec_MessageOK.jv0_eq, ba_nil', ba_ne', msgB]
  have e4 : ((m.size : Int) = 8) = (m.size = 8) := propext ⟨by omega, by omega⟩
  have e5 : ((b.size : Int) > 20000) = ¬ (b.size ≤ 20000) := propext ⟨by omega, by omega⟩
  have e6 : ((d.size : Int) = 32) = (d.size = 32) := propext ⟨by omega, by omega⟩
  simp only [e4, e5, e6]
  generalize inB v 0 20 = q1
  generalize inB f 0 6 = q2
  generalize inB s 1 8 = q3
  by_cases hk : 1 ≤ k ∧ k ≤ 5
  · have hk2 : inB k 1 5 = true := by simp [inB, hk]
    rw [hk2]
    cases q1
    · simp
    cases q2
    · simp
    by_cases h4 : m.size = 8
    · by_cases h5 : b.size ≤ 20000
      · simp only [h4, h5, if_true, not_true_eq_false, decide_false, decide_true, Bool.false_eq_true, if_false, Bool.true_and, Bool.and_true]
        have hk3 : k = 1 ∨ k = 2 ∨ k = 3 ∨ k = 4 ∨ k = 5 := by omega
        rcases hk3 with rfl | rfl | rfl | rfl | rfl <;> cases q3 <;> by_cases h6 : d.size = 32 <;> by_cases h7 : b.size = 0 <;> by_cases h8 : s = 0 <;> simp [h6, h7, h8]
      · simp [h4, h5]
    · simp [h4]
  · have hk2 : inB k 1 5 = false := by simp only [inB, decide_eq_false_iff_not]; exact hk
    rw [hk2]; simp
theorem impl_MessageOK_v (k v s f : Int) (d b m : ByteArray) : impl_MessageOK.v k v s f d b m = some (msgB k v s f d b m) := by
  rw [impl_MessageOK.v_eq]
  simp only [impl_within_v, Option.bind_some, impl_MessageOK.jv0_eq, impl_MessageOK.jv1_eq, impl_isHash.v_eq, ba_nil', ba_ne', msgB]
  have e4 : ((m.size : Int) = 8) = (m.size = 8) := propext ⟨by omega, by omega⟩
  have e5 : ((b.size : Int) > 20000) = ¬ (b.size ≤ 20000) := propext ⟨by omega, by omega⟩
  have e6 : ((d.size : Int) == 32) = decide (d.size = 32) := by rw [Bool.eq_iff_iff]; simp; omega
  simp only [e4, e5, e6]
  generalize inB v 0 20 = q1
  generalize inB f 0 6 = q2
  generalize inB s 1 8 = q3
  cases q1
  · simp
  cases q2
  · simp
  by_cases h4 : m.size = 8
  · by_cases h5 : b.size ≤ 20000
    · simp only [h4, h5, if_true, not_true_eq_false, decide_false, decide_true, Bool.false_eq_true, if_false, Bool.true_and, Bool.and_true]
      by_cases hk : 1 ≤ k ∧ k ≤ 5
      · have hk2 : inB k 1 5 = true := by simp [inB, hk]
        rw [hk2]
        have hk3 : k = 1 ∨ k = 2 ∨ k = 3 ∨ k = 4 ∨ k = 5 := by omega
        rcases hk3 with rfl | rfl | rfl | rfl | rfl <;> cases q3 <;> by_cases h6 : d.size = 32 <;> by_cases h7 : b.size = 0 <;> by_cases h8 : s = 0 <;> simp [h6, h7, h8]
      · have hk2 : inB k 1 5 = false := by simp only [inB, decide_eq_false_iff_not]; exact hk
        rw [hk2]
        have h1 : ¬ k = 1 := by omega
        have h2 : ¬ k = 2 := by omega
        have h3 : ¬ k = 3 := by omega
        have h44 : ¬ k = 4 := by omega
        have h55 : ¬ k = 5 := by omega
        simp [h1, h2, h3, h44, h55]
    · simp [h4, h5]
  · simp [h4]
theorem spec_l02Of_l (s : ByteArray) (hs : s.size ≤ 6) : ∀ (d i : Nat), s.size - i = d → i ≤ s.size → ∀ n : Int, n = numL ((bytesOf s).take i) → spec_l02Of.lv0 s n i = some (numM s)
  | 0, i, h, hi, n, hn => by
    rw [spec_l02Of.lv0_eq, if_neg (by omega), hn, List.take_of_length_le (by rw [bytesOf_length]; omega)]; rfl
  | d + 1, i, h, hi, n, hn => by
    have hlt : i < s.size := by omega
    have hr := foldl_range ((bytesOf s).take i) 0 (fun c hc => bytesOf_range s c (List.mem_of_mem_take hc)) (by omega)
    have hlen : ((bytesOf s).take i).length = i := by rw [List.length_take, bytesOf_length]; omega
    rw [hlen] at hr
    have hp : (256 : Int) ^ i ≤ 256 ^ 5 := by
      have h5 : i = 0 ∨ i = 1 ∨ i = 2 ∨ i = 3 ∨ i = 4 ∨ i = 5 := by omega
      rcases h5 with rfl | rfl | rfl | rfl | rfl | rfl <;> decide
    have hn2 : 0 ≤ n ∧ n < 256 ^ 5 := by rw [hn]; unfold numL; omega
    have hb := bt_range s i
    rw [spec_l02Of.lv0_eq, if_pos (by omega), if_pos (by omega), wrap_id (x := n * 256) (by omega) (by omega), wrap_id (x := bt s i) (by omega) (by omega), wrap_id (x := n * 256 + bt s i) (by omega) (by omega), wrap_id (x := (i : Int) + 1) (by omega) (by omega)]
    refine spec_l02Of_l s hs d (i + 1) (by omega) (by omega) _ ?_
    rw [List.take_succ_eq_append_getElem (by rw [bytesOf_length]; omega)]
    unfold numL
    rw [List.foldl_append]
    simp only [List.foldl_cons, List.foldl_nil]
    have h1 : (bytesOf s)[i]'(by rw [bytesOf_length]; omega) = bt s i := by
      rw [← bytesOf_rd s i (by omega) (by omega)]
      unfold rd
      rw [Int.toNat_natCast, List.getD, List.getElem?_eq_getElem (by rw [bytesOf_length]; omega)]
      rfl
    rw [h1, hn]
    rfl
theorem spec_l02Of_v (s : ByteArray) (hs : s.size ≤ 6) : spec_l02Of.v s = some (numM s) := by
  rw [spec_l02Of.v_eq]
  exact spec_l02Of_l s hs s.size 0 rfl (by omega) 0 rfl
theorem wrap_bt (x : ByteArray) (i : Int) : wrap64 (bt x i) = bt x i := by
  have := bt_range x i
  exact wrap_id (by omega) (by omega)
/-- Where a message's parts lie in its bytes: how long the digest is, how long the body is. -/
def mD (x : ByteArray) : Nat := (bt x 4).toNat
def mB (x : ByteArray) : Nat := (numM (x.extract (5 + mD x) (7 + mD x))).toNat
def mFits (x : ByteArray) : Bool := decide (15 + mD x + mB x = x.size)
def mOK (x : ByteArray) : Bool := mFits x && msgB (bt x 0) (bt x 1) (bt x 2) (bt x 3) (x.extract 5 (5 + mD x)) (x.extract (7 + mD x) (7 + mD x + mB x)) (x.extract (7 + mD x + mB x) x.size)
abbrev Msg7 := Int × Int × Int × Int × ByteArray × ByteArray × ByteArray × Bool
def mNo : Msg7 := (0, 0, 0, 0, ⟨#[]⟩, ⟨#[]⟩, ⟨#[]⟩, false)
def mYes (x : ByteArray) : Msg7 := (bt x 0, bt x 1, bt x 2, bt x 3, x.extract 5 (5 + mD x), x.extract (7 + mD x) (7 + mD x + mB x), x.extract (7 + mD x + mB x) x.size, true)
theorem impl_readMessage_v (x : ByteArray) : impl_readMessage.v x = some (if mOK x = true then mYes x else mNo) := by
  rw [impl_readMessage.v_eq]
  conv => lhs; rw [at_zero x]
  have bad : ∀ (t : ByteArray), impl_reader_done.v t true = some (false, t, true) := done_bad
  have sized : ∀ (t : ByteArray) (b : Bool) (n : Int), impl_reader_sized.v t b n = (impl_reader_number.v t b n).bind fun r => (impl_reader_take.v r.2.1 r.2.2 r.1).bind fun q => some (q.1, q.2.1, q.2.2) := fun t b n => impl_reader_sized.v_eq t b n
  have hs := x.size
  rcases Nat.lt_or_ge x.size (0 + 1) with h0 | h0
  · have hno : mOK x = false := by unfold mOK mFits; simp; intro h; omega
    rw [show (1 : Int) = ((1 : Nat) : Int) from rfl, number_short x 0 1 (by omega) (by omega)]
    simp [number_bad, sized, take_bad, bad, hno, mNo]
  rw [show (1 : Int) = ((1 : Nat) : Int) from rfl, number_ok x 0 1 h0 (by omega), Option.bind_some]
  simp only
  rcases Nat.lt_or_ge x.size (0 + 1 + 1) with h1 | h1
  · have hno : mOK x = false := by unfold mOK mFits; simp; intro h; omega
    rw [number_short x (0 + 1) 1 (by omega) (by omega)]
    simp [number_bad, sized, take_bad, bad, hno, mNo]
  rw [number_ok x (0 + 1) 1 h1 (by omega), Option.bind_some]
  simp only
  rcases Nat.lt_or_ge x.size (0 + 1 + 1 + 1) with h2 | h2
  · have hno : mOK x = false := by unfold mOK mFits; simp; intro h; omega
    rw [number_short x (0 + 1 + 1) 1 (by omega) (by omega)]
    simp [number_bad, sized, take_bad, bad, hno, mNo]
  rw [number_ok x (0 + 1 + 1) 1 h2 (by omega), Option.bind_some]
  simp only
  rcases Nat.lt_or_ge x.size (0 + 1 + 1 + 1 + 1) with h3 | h3
  · have hno : mOK x = false := by unfold mOK mFits; simp; intro h; omega
    rw [number_short x (0 + 1 + 1 + 1) 1 (by omega) (by omega)]
    simp [number_bad, sized, take_bad, bad, hno, mNo]
  rw [number_ok x (0 + 1 + 1 + 1) 1 h3 (by omega), Option.bind_some]
  simp only
  rcases Nat.lt_or_ge x.size (4 + 1) with h4 | h4
  · have hno : mOK x = false := by unfold mOK mFits; simp; intro h; omega
    rw [sized, number_short x 4 1 (by omega) (by omega)]
    simp [number_bad, sized, take_bad, bad, hno, mNo]
  rw [sized, number_ok x 4 1 h4 (by omega), Option.bind_some]
  simp only
  have hb4 := bt_range x 4
  have hD : numM (x.extract 4 (4 + 1)) = ((mD x : Nat) : Int) := by
    rw [numM_one x 4 (by omega)]
    unfold mD
    rw [Int.toNat_of_nonneg hb4.1]; rfl
  rw [hD]
  rcases Nat.lt_or_ge x.size (4 + 1 + mD x) with h5 | h5
  · have hno : mOK x = false := by unfold mOK mFits; simp; intro h; omega
    rw [take_short x (4 + 1) (mD x) (by omega) (by omega)]
    simp [number_bad, sized, take_bad, bad, hno, mNo]
  rw [take_ok x (4 + 1) (mD x) h5, Option.bind_some, Option.bind_some]
  simp only
  rcases Nat.lt_or_ge x.size (4 + 1 + mD x + 2) with h6 | h6
  · have hno : mOK x = false := by unfold mOK mFits; simp; intro h; omega
    rw [sized, show (2 : Int) = ((2 : Nat) : Int) from rfl, number_short x (4 + 1 + mD x) 2 (by omega) (by omega)]
    simp [number_bad, sized, take_bad, bad, hno, mNo]
  rw [sized, show (2 : Int) = ((2 : Nat) : Int) from rfl, number_ok x (4 + 1 + mD x) 2 h6 (by omega), Option.bind_some]
  simp only
  have hB : numM (x.extract (4 + 1 + mD x) (4 + 1 + mD x + 2)) = ((mB x : Nat) : Int) := by
    unfold mB
    rw [Int.toNat_of_nonneg (numM_range _).1, show 4 + 1 + mD x = 5 + mD x by omega, show 5 + mD x + 2 = 7 + mD x by omega]
  rw [hB]
  rcases Nat.lt_or_ge x.size (4 + 1 + mD x + 2 + mB x) with h7 | h7
  · have hno : mOK x = false := by unfold mOK mFits; simp; intro h; omega
    rw [take_short x (4 + 1 + mD x + 2) (mB x) (by omega) (by omega)]
    simp [number_bad, sized, take_bad, bad, hno, mNo]
  rw [take_ok x (4 + 1 + mD x + 2) (mB x) h7, Option.bind_some, Option.bind_some]
  simp only
  rcases Nat.lt_or_ge x.size (4 + 1 + mD x + 2 + mB x + 8) with h8 | h8
  · have hno : mOK x = false := by unfold mOK mFits; simp; intro h; omega
    rw [show (8 : Int) = ((8 : Nat) : Int) from rfl, take_short x (4 + 1 + mD x + 2 + mB x) 8 (by omega) (by omega)]
    simp [bad, hno, mNo]
  rw [show (8 : Int) = ((8 : Nat) : Int) from rfl, take_ok x (4 + 1 + mD x + 2 + mB x) 8 h8, Option.bind_some]
  simp only
  rw [done_at x _ h8, Option.bind_some]
  simp only
  by_cases h9 : 15 + mD x + mB x = x.size
  · have e0 : numM (x.extract 0 (0 + 1)) = bt x 0 := numM_one x 0 (by omega)
    have e1 : numM (x.extract (0 + 1) (0 + 1 + 1)) = bt x 1 := numM_one x 1 (by omega)
    have e2 : numM (x.extract (0 + 1 + 1) (0 + 1 + 1 + 1)) = bt x 2 := numM_one x 2 (by omega)
    have e3 : numM (x.extract (0 + 1 + 1 + 1) (0 + 1 + 1 + 1 + 1)) = bt x 3 := numM_one x 3 (by omega)
    rw [if_pos (by simp; omega), e0, e1, e2, e3, impl_MessageOK_v, Option.bind_some, show 4 + 1 = 5 by rfl, show 5 + mD x + 2 = 7 + mD x by omega, show 7 + mD x + mB x + 8 = x.size by omega]
    unfold mOK mFits
    rw [decide_eq_true h9, Bool.true_and]
    unfold mYes mNo
    split <;> rfl
  · have hno : mOK x = false := by unfold mOK mFits; simp [h9]
    rw [if_neg (by simp; omega)]
    simp [hno, mNo]
theorem spec_l02ReadMessage_v (x : ByteArray) (hx : x.size ≤ 9223372036854775000) : ∃ r : Msg7, spec_l02ReadMessage.v x = some r ∧ ((mOK x = true ∧ r = mYes x) ∨ (mOK x = false ∧ r.2.2.2.2.2.2.2 = false)) := by
  rw [spec_l02ReadMessage.v_eq]
  by_cases h7 : (x.size : Int) < 7
  · rw [if_pos h7, spec_l02ReadMessage.jv0_eq, if_pos rfl]
    exact ⟨_, rfl, .inr ⟨by unfold mOK mFits; simp; intro h; omega, rfl⟩⟩
  rw [if_neg h7, if_pos (by omega), spec_l02ReadMessage.jv0_eq]
  have hb4 := bt_range x 4
  have hD : bt x 4 = ((mD x : Nat) : Int) := by unfold mD; rw [Int.toNat_of_nonneg hb4.1]
  rw [hD]
  have hm : mD x ≤ 255 := by omega
  have w0 : wrap64 ((mD x : Nat) : Int) = ((mD x : Nat) : Int) := wrap_id (by omega) (by omega)
  have w1 : wrap64 (7 + ((mD x : Nat) : Int)) = ((7 + mD x : Nat) : Int) := by rw [wrap_id (by omega) (by omega)]; omega
  have w2 : wrap64 (5 + ((mD x : Nat) : Int)) = ((5 + mD x : Nat) : Int) := by rw [wrap_id (by omega) (by omega)]; omega
  have w3 : wrap64 (((5 + mD x : Nat) : Int) + 2) = ((7 + mD x : Nat) : Int) := by rw [wrap_id (by omega) (by omega)]; omega
  simp only [w0, w1, w2, w3]
  clear w0 w1 w2 w3
  by_cases h8 : (x.size : Int) < ((7 + mD x : Nat) : Int)
  · rw [if_pos (by simpa using h8)]
    exact ⟨_, rfl, .inr ⟨by unfold mOK mFits; simp; intro h; omega, rfl⟩⟩
  have d1 : (4 : Int) < x.size := by omega
  have d2 : (0 : Int) ≤ ((5 + mD x : Nat) : Int) := by omega
  have d3 : ((5 + mD x : Nat) : Int) ≤ ((7 + mD x : Nat) : Int) := by omega
  have d4 : ((7 + mD x : Nat) : Int) ≤ x.size := by omega
  have d5 := spec_l02Of_v (x.extract (5 + mD x) (7 + mD x)) (by rw [ByteArray.size_extract]; omega)
  simp only [decide_eq_false h8, Bool.false_eq_true, if_false, if_pos d1, if_pos d2, if_pos d3, if_pos d4, Int.toNat_natCast, d5, Option.bind_some]
  have hB : numM (x.extract (5 + mD x) (7 + mD x)) = ((mB x : Nat) : Int) := by unfold mB; rw [Int.toNat_of_nonneg (numM_range _).1]
  have hB2 : mB x < 65536 := by
    have h1 := (numM_range (x.extract (5 + mD x) (7 + mD x))).2
    rw [ByteArray.size_extract, show min (7 + mD x) x.size - (5 + mD x) = 2 by omega, hB] at h1
    omega
  rw [hB]
  have w4 : wrap64 (((7 + mD x : Nat) : Int) + ((mB x : Nat) : Int)) = ((7 + mD x + mB x : Nat) : Int) := by rw [wrap_id (by omega) (by omega)]; omega
  have w5 : wrap64 (((7 + mD x + mB x : Nat) : Int) + 8) = ((15 + mD x + mB x : Nat) : Int) := by rw [wrap_id (by omega) (by omega)]; omega
  simp only [w4, w5]
  clear w4 w5
  by_cases h9 : (x.size : Int) = ((15 + mD x + mB x : Nat) : Int)
  · have hb0 := bt_range x 0
    have hb1 := bt_range x 1
    have hb2 := bt_range x 2
    have hb3 := bt_range x 3
    have c1 : (0 : Int) < x.size := by omega
    have c2 : (1 : Int) < x.size := by omega
    have c3 : (2 : Int) < x.size := by omega
    have c4 : (3 : Int) < x.size := by omega
    have c5 : (5 : Int) ≤ ((5 + mD x : Nat) : Int) := by omega
    have c6 : ((5 + mD x : Nat) : Int) ≤ x.size := by omega
    have c7 : (0 : Int) ≤ ((7 + mD x : Nat) : Int) := by omega
    have c8 : ((7 + mD x : Nat) : Int) ≤ ((7 + mD x + mB x : Nat) : Int) := by omega
    have c9 : ((7 + mD x + mB x : Nat) : Int) ≤ x.size := by omega
    have c10 : (0 : Int) ≤ ((7 + mD x + mB x : Nat) : Int) := by omega
    simp only [if_pos h9, if_pos c1, if_pos c2, if_pos c3, if_pos c4, if_pos c5, if_pos c6, if_pos c7, if_pos c8, if_pos c9, if_pos c10, wrap_bt, spec_MessageOK_v, Option.bind_some]
    refine ⟨_, rfl, ?_⟩
    simp only [Int.toNat_natCast]
    have hf : mFits x = true := by unfold mFits; simp; omega
    cases hq : msgB (bt x 0) (bt x 1) (bt x 2) (bt x 3) (x.extract 5 (5 + mD x)) (x.extract (7 + mD x) (7 + mD x + mB x)) (x.extract (7 + mD x + mB x) x.size)
    · exact .inr ⟨by unfold mOK; rw [hq]; simp, rfl⟩
    · exact .inl ⟨by unfold mOK; rw [hq, hf]; rfl, rfl⟩
  · rw [if_neg h9]
    exact ⟨_, rfl, .inr ⟨by unfold mOK mFits; simp; intro h; omega, rfl⟩⟩
/-- How long the text at place p is. -/
def tN (x : ByteArray) (p : Nat) : Nat := (numM (x.extract p (p + 2))).toNat
/-- c texts from place p on to the end of x, each of at most m bytes. -/
def listM (m : Nat) : Nat → ByteArray → Nat → Option (List ByteArray)
  | 0, x, p => if p = x.size then some [] else none
  | c + 1, x, p => if p + 2 ≤ x.size ∧ tN x p ≤ m ∧ p + 2 + tN x p ≤ x.size then (listM m c x (p + 2 + tN x p)).map (x.extract (p + 2) (p + 2 + tN x p) :: ·) else none
theorem tN_lt (x : ByteArray) (p : Nat) : tN x p < 65536 := by
  have h1 := numM_range (x.extract p (p + 2))
  have h2 : (256 : Int) ^ (x.extract p (p + 2)).size ≤ 256 ^ 2 := by
    rw [ByteArray.size_extract]
    have h5 : min (p + 2) x.size - p = 0 ∨ min (p + 2) x.size - p = 1 ∨ min (p + 2) x.size - p = 2 := by omega
    rcases h5 with h5 | h5 | h5 <;> rw [h5] <;> decide
  unfold tN
  omega
theorem listM_len (m : Nat) : ∀ (c : Nat) (x : ByteArray) (p : Nat) (l : List ByteArray), listM m c x p = some l → l.length = c ∧ (∀ s ∈ l, s.size ≤ m)
  | 0, x, p, l, h => by
    unfold listM at h
    split at h
    · cases h; simp
    · cases h
  | c + 1, x, p, l, h => by
    unfold listM at h
    split at h
    · rename_i h1
      obtain ⟨l', h2, rfl⟩ := Option.map_eq_some_iff.1 h
      have h3 := listM_len m c x _ l' h2
      refine ⟨by simp [h3.1], fun s hs => ?_⟩
      rcases List.mem_cons.1 hs with rfl | hs
      · rw [ByteArray.size_extract]; omega
      · exact h3.2 s hs
    · cases h
/-- The bound on each text asked at the end, or at once. -/
theorem listM_all (m : Nat) : ∀ (c : Nat) (x : ByteArray) (p : Nat), (listM 65535 c x p).bind (fun l => if (l.any fun s => decide (s.size > m)) = true then none else some l) = (if m ≤ 65535 then listM m c x p else listM 65535 c x p) := by
  intro c x p
  by_cases hm : m ≤ 65535
  · rw [if_pos hm]
    induction c generalizing p with
    | zero => unfold listM; split <;> simp
    | succ c ih =>
      unfold listM
      have ht := tN_lt x p
      by_cases h1 : p + 2 ≤ x.size ∧ p + 2 + tN x p ≤ x.size
      · rw [if_pos ⟨h1.1, by omega, h1.2⟩]
        have hsz : (x.extract (p + 2) (p + 2 + tN x p)).size = tN x p := by rw [ByteArray.size_extract]; omega
        have ih2 := ih (p + 2 + tN x p)
        by_cases h2 : tN x p ≤ m
        · rw [if_pos ⟨h1.1, h2, h1.2⟩, ← ih2]
          cases listM 65535 c x (p + 2 + tN x p) with
          | none => rfl
          | some l =>
            simp only [Option.map_some, Option.bind_some, List.any_cons, hsz]
            rw [decide_eq_false (by omega), Bool.false_or]
            split <;> rfl
        · rw [if_neg (by omega)]
          cases listM 65535 c x (p + 2 + tN x p) with
          | none => rfl
          | some l =>
            simp only [Option.map_some, Option.bind_some, List.any_cons, hsz]
            rw [decide_eq_true (by omega), Bool.true_or, if_pos rfl]
      · rw [if_neg (by omega), if_neg (by omega)]; rfl
  · rw [if_neg hm]
    cases h : listM 65535 c x p with
    | none => rfl
    | some l =>
      have h2 := (listM_len 65535 c x p l h).2
      rw [Option.bind_some, if_neg]
      simp only [Bool.not_eq_true, List.any_eq_false, decide_eq_true_eq]
      intro s hs
      have := h2 s hs
      omega
def lsM (x : ByteArray) : Option (List ByteArray) := if x.size = 0 then none else if bt x 0 > 100 then none else listM 20000 (bt x 0).toNat x 1
def lsR (o : Option (List ByteArray)) : List ByteArray × Bool := match o with | some l => (l, true) | none => ([], false)
theorem sized_bad (t : ByteArray) (n : Int) : impl_reader_sized.v t true n = some (⟨#[]⟩, t, true) := by
  rw [impl_reader_sized.v_eq, number_bad, Option.bind_some]
  simp only
  rw [take_bad, Option.bind_some]
theorem readList_bad : ∀ (d : Nat) (acc : List ByteArray) (c i : Int) (t : ByteArray), (c - i).toNat = d → 0 ≤ i → c ≤ 1000 → acc.length + d ≤ 1000 → impl_readList.lv0 acc c i t true = some ([], false)
  | 0, acc, c, i, t, h, h0, hc, ha => by
    rw [impl_readList.lv0_eq, if_neg (by omega), done_bad, Option.bind_some]
    simp
  | d + 1, acc, c, i, t, h, h0, hc, ha => by
    rw [impl_readList.lv0_eq, if_pos (by omega), sized_bad, Option.bind_some]
    simp only
    rw [if_pos (by omega), wrap_id (by omega) (by omega)]
    exact readList_bad d _ c (i + 1) t (by omega) (by omega) hc (by simp; omega)
theorem contains_v (l : List ByteArray) : contains_impl_readList_1.v l = some (l.any fun s => decide (s.size > 20000)) := by
  rw [contains_impl_readList_1.v_eq]
  congr 2
  funext s
  rw [impl_readList_1.v_eq]
  simp only [Option.getD_some]
  rw [Bool.eq_iff_iff]; simp; omega
theorem readList_l (x : ByteArray) : ∀ (d : Nat) (acc : List ByteArray) (c i : Int) (p : Nat), (c - i).toNat = d → 0 ≤ i → c ≤ 1000 → acc.length + d ≤ 1000 → p ≤ x.size →
    impl_readList.lv0 acc c i (x.extract p x.size) false = some (match listM 65535 d x p with | some l => (if ((acc ++ l).length > 100 ∨ ((acc ++ l).any fun s => decide (s.size > 20000)) = true) then ([], false) else (acc ++ l, true)) | none => ([], false))
  | 0, acc, c, i, p, h, h0, hc, ha, hp => by
    rw [impl_readList.lv0_eq, if_neg (by omega), done_at x p hp, Option.bind_some]
    simp only
    unfold listM
    by_cases h1 : p = x.size
    · rw [if_pos (decide_eq_true h1), if_pos h1]
      simp only [List.append_nil]
      by_cases h2 : acc.length > 100
      · rw [if_pos (by omega), if_pos (.inl h2)]
      · rw [if_neg (by omega), contains_v, Option.bind_some]
        cases h3 : acc.any fun s => decide (s.size > 20000)
        · simp [h2]
        · simp
    · rw [decide_eq_false h1, if_neg (by simp), if_neg h1]
  | d + 1, acc, c, i, p, h, h0, hc, ha, hp => by
    have hw : wrap64 (i + 1) = i + 1 := wrap_id (by omega) (by omega)
    rw [impl_readList.lv0_eq, if_pos (by omega), hw]
    clear hw
    unfold listM
    have ht := tN_lt x p
    rcases Nat.lt_or_ge x.size (p + 2) with h1 | h1
    · rw [impl_reader_sized.v_eq, show (2 : Int) = ((2 : Nat) : Int) from rfl, number_short x p 2 hp h1, Option.bind_some]
      simp only
      rw [take_bad, Option.bind_some, Option.bind_some]
      simp only
      rw [if_pos (by omega), if_neg (by omega)]
      exact readList_bad d _ c (i + 1) _ (by omega) (by omega) hc (by simp; omega)
    · have hn : numM (x.extract p (p + 2)) = ((tN x p : Nat) : Int) := by unfold tN; rw [Int.toNat_of_nonneg (numM_range _).1]
      rw [impl_reader_sized.v_eq, show (2 : Int) = ((2 : Nat) : Int) from rfl, number_ok x p 2 h1 (by omega), Option.bind_some]
      simp only
      rw [hn]
      rcases Nat.lt_or_ge x.size (p + 2 + tN x p) with h2 | h2
      · rw [take_short x (p + 2) (tN x p) h1 h2, Option.bind_some, Option.bind_some]
        simp only
        rw [if_pos (by omega), if_neg (by omega)]
        exact readList_bad d _ c (i + 1) _ (by omega) (by omega) hc (by simp; omega)
      · rw [take_ok x (p + 2) (tN x p) h2, Option.bind_some, Option.bind_some]
        simp only
        rw [if_pos (by omega), readList_l x d _ c (i + 1) (p + 2 + tN x p) (by omega) (by omega) hc (by simp; omega) h2, if_pos ⟨h1, by omega, h2⟩]
        cases listM 65535 d x (p + 2 + tN x p) with
        | none => rfl
        | some l => simp
theorem impl_readList_v (x : ByteArray) : impl_readList.v x = some (lsR (lsM x)) := by
  rw [impl_readList.v_eq]
  unfold lsM
  conv => lhs; rw [at_zero x]
  by_cases h0 : x.size = 0
  · rw [show (1 : Int) = ((1 : Nat) : Int) from rfl, number_short x 0 1 (by omega) (by omega), Option.bind_some, if_pos h0]
    exact readList_bad 0 _ _ _ _ rfl (by omega) (by omega) (by simp)
  · have hb := bt_range x 0
    have hone : numM (x.extract 0 (0 + 1)) = bt x 0 := numM_one x 0 (by omega)
    rw [show (1 : Int) = ((1 : Nat) : Int) from rfl, number_ok x 0 1 (by omega) (by omega), Option.bind_some, if_neg h0, hone]
    simp only
    rw [readList_l x (bt x 0).toNat [] (bt x 0) 0 (0 + 1) (by omega) (by omega) (by omega) (by simp; omega) (by omega)]
    simp only [List.nil_append]
    have hall := listM_all 20000 (bt x 0).toNat x (0 + 1)
    rw [if_pos (by omega)] at hall
    by_cases h1 : bt x 0 > 100
    · rw [if_pos h1]
      cases h2 : listM 65535 (bt x 0).toNat x (0 + 1) with
      | none => rfl
      | some l =>
        have h3 := (listM_len _ _ _ _ _ h2).1
        simp only
        rw [if_pos (.inl (by omega))]; rfl
    · rw [if_neg h1]
      rw [show (1 : Nat) = 0 + 1 from rfl, ← hall]
      cases h2 : listM 65535 (bt x 0).toNat x (0 + 1) with
      | none => rfl
      | some l =>
        have h3 := (listM_len _ _ _ _ _ h2).1
        simp only [Option.bind_some]
        cases h4 : l.any fun s => decide (s.size > 20000)
        · rw [if_neg (by simp; omega), if_neg (by simp)]; rfl
        · rw [if_pos (.inr rfl), if_pos rfl]; rfl
theorem spec_readList_l (x : ByteArray) (hx : x.size ≤ 9223372036854000000) : ∀ (d : Nat) (acc : List ByteArray) (p : Nat), d ≤ 1000 → acc.length + d ≤ 1000 → p ≤ x.size →
    ∃ r, spec_l02ReadList.lv0 x acc p d = some r ∧ ((∃ l, listM 20000 d x p = some l ∧ r = (acc ++ l, true)) ∨ (listM 20000 d x p = none ∧ r.2 = false))
  | 0, acc, p, hd, ha, hp => by
    rw [spec_l02ReadList.lv0_eq, if_neg (by omega)]
    unfold listM
    by_cases h1 : p = x.size
    · rw [if_pos (by omega), if_pos h1]; exact ⟨_, rfl, .inl ⟨[], rfl, by simp⟩⟩
    · rw [if_neg (by omega), if_neg h1]; exact ⟨_, rfl, .inr ⟨rfl, rfl⟩⟩
  | d + 1, acc, p, hd, ha, hp => by
    have w1 : wrap64 ((p : Int) + 2) = ((p + 2 : Nat) : Int) := by rw [wrap_id (by omega) (by omega)]; omega
    have w2 : wrap64 (((d + 1 : Nat) : Int) - 1) = ((d : Nat) : Int) := by rw [wrap_id (by omega) (by omega)]; omega
    rw [spec_l02ReadList.lv0_eq, if_pos (by omega)]
    simp only [w1, w2]
    clear w1 w2
    unfold listM
    rcases Nat.lt_or_ge x.size (p + 2) with h1 | h1
    · rw [if_pos (by omega), if_neg (by omega)]; exact ⟨_, rfl, .inr ⟨rfl, rfl⟩⟩
    · have hn : numM (x.extract p (p + 2)) = ((tN x p : Nat) : Int) := by unfold tN; rw [Int.toNat_of_nonneg (numM_range _).1]
      have d5 := spec_l02Of_v (x.extract p (p + 2)) (by rw [ByteArray.size_extract]; omega)
      have ht := tN_lt x p
      rw [if_neg (by omega), if_pos (by omega), if_pos (by omega), if_pos (by omega), Int.toNat_natCast, Int.toNat_natCast, d5, Option.bind_some, hn]
      clear d5 hn
      have w3 : wrap64 (((p + 2 : Nat) : Int) + ((tN x p : Nat) : Int)) = ((p + 2 + tN x p : Nat) : Int) := by rw [wrap_id (by omega) (by omega)]; omega
      have w4 : wrap64 (2 + ((tN x p : Nat) : Int)) = ((2 + tN x p : Nat) : Int) := by rw [wrap_id (by omega) (by omega)]; omega
      have w5 : wrap64 ((p : Int) + ((2 + tN x p : Nat) : Int)) = ((p + 2 + tN x p : Nat) : Int) := by rw [wrap_id (by omega) (by omega)]; omega
      simp only [w3, w4, w5]
      clear w3 w4 w5
      by_cases h2 : tN x p ≤ 20000
      · rw [if_neg (by omega)]
        rcases Nat.lt_or_ge x.size (p + 2 + tN x p) with h3 | h3
        · rw [if_pos (by omega), if_neg (by omega)]; exact ⟨_, rfl, .inr ⟨rfl, rfl⟩⟩
        · rw [if_neg (by omega), if_pos (by omega), if_pos (by omega), if_pos (by omega), if_pos (by omega), if_pos ⟨h1, h2, h3⟩]
          obtain ⟨r, e, h4⟩ := spec_readList_l x hx d (acc ++ [x.extract (p + 2) (p + 2 + tN x p)]) (p + 2 + tN x p) (by omega) (by simp; omega) h3
          refine ⟨r, e, ?_⟩
          rcases h4 with ⟨l, h5, rfl⟩ | ⟨h5, h6⟩
          · exact .inl ⟨_, by rw [h5]; rfl, by simp⟩
          · exact .inr ⟨by rw [h5]; rfl, h6⟩
      · rw [if_pos (by omega), if_neg (by omega)]; exact ⟨_, rfl, .inr ⟨rfl, rfl⟩⟩
theorem spec_l02ReadList_v (x : ByteArray) (hx : x.size ≤ 9223372036854000000) : ∃ r, spec_l02ReadList.v x = some r ∧ ((∃ l, lsM x = some l ∧ r = (l, true)) ∨ (lsM x = none ∧ r.2 = false)) := by
  rw [spec_l02ReadList.v_eq]
  unfold lsM
  simp only [Option.bind_some]
  by_cases h0 : x.size = 0
  · rw [if_pos (by have h := ba_nil' x; rw [decide_eq_true h0] at h; exact beq_iff_eq.1 h), spec_l02ReadList.jv0_eq, if_pos rfl, if_pos h0]
    exact ⟨_, rfl, .inr ⟨rfl, rfl⟩⟩
  · have hb := bt_range x 0
    rw [if_neg (by have h := ba_nil' x; rw [decide_eq_false h0] at h; exact beq_eq_false_iff_ne.1 h), if_pos (by omega), spec_l02ReadList.jv0_eq, if_neg h0]
    by_cases h1 : bt x 0 > 100
    · rw [if_pos (decide_eq_true h1), if_pos h1]; exact ⟨_, rfl, .inr ⟨rfl, rfl⟩⟩
    · rw [decide_eq_false h1, if_neg (by simp), if_neg h1, if_pos (by omega), wrap_bt]
      obtain ⟨r, e, h4⟩ := spec_readList_l x hx (bt x 0).toNat [] 1 (by omega) (by simp; omega) (by omega)
      rw [Int.toNat_of_nonneg hb.1] at e
      refine ⟨r, e, ?_⟩
      simpa using h4
theorem rdOf_at (l : List ByteArray) (i : Nat) (h : i < l.length) : rdOf ByteArray.empty l i = l[i] := by
  unfold rdOf
  rw [Int.toNat_natCast, List.getD_eq_getElem?_getD, List.getElem?_eq_getElem h]
  rfl
abbrev Cert3 := ByteArray × List S63 × Bool
def cNo : Cert3 := (⟨#[]⟩, [], false)
def mRec (x : ByteArray) : S63 := ⟨(mYes x).1, (mYes x).2.1, (mYes x).2.2.1, (mYes x).2.2.2.1, (mYes x).2.2.2.2.1, (mYes x).2.2.2.2.2.1, (mYes x).2.2.2.2.2.2.1⟩
def pOK (x : ByteArray) : Bool := mOK x && decide (bt x 0 = 2)
theorem mOK_msg {x : ByteArray} (h : mOK x = true) : msgB (bt x 0) (bt x 1) (bt x 2) (bt x 3) (x.extract 5 (5 + mD x)) (x.extract (7 + mD x) (7 + mD x + mB x)) (x.extract (7 + mD x + mB x) x.size) = true := by
  rw [mOK, Bool.and_eq_true] at h
  exact h.2
theorem cert_impl_l (b : ByteArray) (l : List ByteArray) (hl : l.length ≤ 1000) : ∀ (d i : Nat) (acc : List S63), l.length - i = d → i ≤ l.length → acc.length ≤ i → impl_readCert.lv0 l l.length i b acc = some (if (l.drop i).all pOK = true then (b, acc ++ (l.drop i).map mRec, true) else cNo)
  | 0, i, acc, h, hi, ha => by rw [impl_readCert.lv0_eq, if_neg (by omega), List.drop_eq_nil_of_le (by omega)]; simp
  | d + 1, i, acc, h, hi, ha => by
    have hlt : i < l.length := by omega
    have w : wrap64 ((i : Int) + 1) = ((i + 1 : Nat) : Int) := by rw [wrap_id (by omega) (by omega)]; omega
    rw [impl_readCert.lv0_eq, if_pos (by omega), if_pos (by omega), if_pos (by omega), rdOf_at l i hlt, impl_readMessage_v, Option.bind_some, List.drop_eq_getElem_cons hlt, List.all_cons, w]
    clear w
    cases hm : mOK l[i] with
    | false => simp [mNo, pOK, hm, cNo]
    | true =>
      have hb := mOK_msg hm
      simp only [if_true]
      have hy : (mYes l[i]).2.2.2.2.2.2.2 = true := rfl
      rw [if_pos hy, impl_isPrepare.v_eq]
      show (if bt l[i] 0 = 2 then _ else _ : Option Bool).bind _ = _
      by_cases hk : bt l[i] 0 = 2
      · rw [if_pos hk, impl_MessageOK_v]
        show ((some (msgB _ _ _ _ _ _ _)).bind _ : Option Bool).bind _ = _
        rw [show msgB (mYes l[i]).1 (mYes l[i]).2.1 (mYes l[i]).2.2.1 (mYes l[i]).2.2.2.1 (mYes l[i]).2.2.2.2.1 (mYes l[i]).2.2.2.2.2.1 (mYes l[i]).2.2.2.2.2.2.1 = true from hb]
        simp only [Option.bind_some, if_true]
        rw [if_pos (by omega)]
        have ih := cert_impl_l b l hl d (i + 1) (acc ++ [mRec l[i]]) (by omega) (by omega) (by rw [List.length_append]; simp; omega)
        have hp : pOK l[i] = true := by rw [pOK, hm, decide_eq_true hk]; rfl
        rw [hp, Bool.true_and, List.map_cons]
        rw [List.append_assoc] at ih
        exact ih
      · rw [if_neg hk]
        have hp : pOK l[i] = false := by rw [pOK, decide_eq_false hk, Bool.and_false]
        rw [hp]
        rfl
theorem cert_spec_l (b : ByteArray) (l : List ByteArray) (hl : l.length ≤ 1000) (hz : ∀ t ∈ l, t.size ≤ 20000) : ∀ (d i : Nat) (acc : List S63), l.length - i = d → i ≤ l.length → acc.length ≤ i → spec_l06Read.lv0 l i b acc = some (if (l.drop i).all pOK = true then (b, acc ++ (l.drop i).map mRec, true) else cNo)
  | 0, i, acc, h, hi, ha => by rw [spec_l06Read.lv0_eq, if_neg (by omega), List.drop_eq_nil_of_le (by omega)]; simp
  | d + 1, i, acc, h, hi, ha => by
    have hlt : i < l.length := by omega
    have w : wrap64 ((i : Int) + 1) = ((i + 1 : Nat) : Int) := by rw [wrap_id (by omega) (by omega)]; omega
    obtain ⟨r, e, hr⟩ := spec_l02ReadMessage_v l[i] (by have := hz _ (List.getElem_mem hlt); omega)
    rw [spec_l06Read.lv0_eq, if_pos (by omega), if_pos (by omega), rdOf_at l i hlt, e, Option.bind_some, List.drop_eq_getElem_cons hlt, List.all_cons, w]
    clear w
    rcases hr with ⟨hm, rfl⟩ | ⟨hm, hf⟩
    · have hy : (mYes l[i]).2.2.2.2.2.2.2 = true := rfl
      rw [if_pos hy]
      by_cases hk : bt l[i] 0 = 2
      · rw [if_pos (show (mYes l[i]).1 = 2 from hk), if_pos (by omega)]
        have ih := cert_spec_l b l hl hz d (i + 1) (acc ++ [mRec l[i]]) (by omega) (by omega) (by rw [List.length_append]; simp; omega)
        have hp : pOK l[i] = true := by rw [pOK, hm, decide_eq_true hk]; rfl
        rw [hp, Bool.true_and, List.map_cons]
        rw [List.append_assoc] at ih
        exact ih
      · rw [if_neg (show ¬ (mYes l[i]).1 = 2 from hk)]
        have hp : pOK l[i] = false := by rw [pOK, decide_eq_false hk, Bool.and_false]
        rw [hp]
        rfl
    · rw [if_neg (by rw [hf]; decide)]
      have hp : pOK l[i] = false := by rw [pOK, hm, Bool.false_and]
      rw [hp]
      rfl
theorem lsM_len {x : ByteArray} {l : List ByteArray} (h : lsM x = some l) : l.length ≤ 100 ∧ ∀ t ∈ l, t.size ≤ 20000 := by
  unfold lsM at h
  split at h
  · cases h
  split at h
  · cases h
  · obtain ⟨h1, h2⟩ := listM_len 20000 _ _ _ _ h
    exact ⟨by omega, h2⟩
theorem cert_read (x : ByteArray) (hx : x.size ≤ 1048576) : ∃ r : Cert3, spec_l06Read.v x = some r ∧ impl_readCert.v x = some r ∧ r.2.1.length ≤ 100 := by
  obtain ⟨q, e, hq⟩ := spec_l02ReadList_v x (by omega)
  rw [spec_l06Read.v_eq, impl_readCert.v_eq, e, impl_readList_v, Option.bind_some, Option.bind_some]
  rcases hq with ⟨l, hl, rfl⟩ | ⟨hn, hf⟩
  · rw [hl]
    obtain ⟨h1, h2⟩ := lsM_len hl
    simp only [lsR, if_true, spec_l01In_v, impl_within_v, Option.bind_some, spec_l06Read.jv0_eq, impl_readCert.jv0_eq]
    by_cases hb : inB (l.length : Int) 1 8 = true
    · have hb2 : (1 : Int) ≤ l.length ∧ (l.length : Int) ≤ 8 := by
        unfold inB at hb
        simp at hb
        omega
      obtain ⟨a, t, rfl⟩ : ∃ a t, l = a :: t := by
        cases l with
        | nil => simp at hb2
        | cons a t => exact ⟨a, t, rfl⟩
      rw [hb]
      simp only [Bool.not_true, Bool.false_eq_true, if_false]
      have hlen : (a :: t).length = t.length + 1 := rfl
      have s1 := cert_spec_l a (a :: t) (by omega) h2 _ 1 [] rfl (by omega) (by simp)
      have i1 := cert_impl_l a t (by omega) _ 0 [] rfl (by omega) (by simp)
      rw [List.drop_succ_cons, List.drop_zero] at s1
      rw [List.drop_zero] at i1
      rw [if_pos (by omega), if_pos (by omega), if_pos (by omega), show rdOf ByteArray.empty (a :: t) 0 = a from rfl, show (a :: t).drop 1 = t from rfl]
      refine ⟨_, s1, i1, ?_⟩
      split
      · simp; omega
      · simp [cNo]
    · rw [Bool.not_eq_true] at hb
      rw [hb]
      exact ⟨cNo, rfl, rfl, by simp [cNo]⟩
  · rw [hn, if_neg (by rw [hf]; decide)]
    simp only [lsR, Bool.false_eq_true, if_false, spec_l06Read.jv0_eq, impl_readCert.jv0_eq, if_true]
    exact ⟨cNo, rfl, rfl, by simp [cNo]⟩
theorem readCert_eq (l : List Int) (h : l.length ≤ 1048576) : ∃ r : ByteArray × List S63 × Int, spec_ReadCert.v l = some r ∧ impl_ReadCert.v l = some r ∧ r.2.1.length ≤ 100 := by
  rw [spec_ReadCert.v_eq, impl_ReadCert.v_eq]
  by_cases h1 : (l.length : Int) > 65536
  · rw [if_pos h1, if_pos h1]; exact ⟨_, rfl, rfl, by simp⟩
  · obtain ⟨r, e1, e2, e3⟩ := cert_read (strOfNums l) (by rw [strOf_size]; omega)
    rw [if_neg h1, if_neg h1, e1, e2]
    simp only [Option.bind_some]
    by_cases hb : r.2.2 = true
    · simp only [if_pos hb]; exact ⟨_, rfl, rfl, e3⟩
    · simp only [if_neg hb]; exact ⟨_, rfl, rfl, by simp⟩
theorem FnExactReadCert_pure (y0 : List Int) : (y0.length ≤ 9223372036854775807 ∧ ∀ y ∈ y0, (Lit.int .u8 y).wf = true) → laws_FnExactReadCert.v y0 = some true := by
  intro _
  rw [laws_FnExactReadCert.v_eq]
  by_cases h1 : (y0.length : Int) > 1048576
  · rw [if_pos h1]
  obtain ⟨r, r1, r2, r3⟩ := readCert_eq y0 (by omega)
  obtain ⟨b', hb⟩ := markByteS_v y0 (by omega)
  obtain ⟨l', m1, m2, m3⟩ := msgs_held r.2.1 1 (by omega) (by omega) (by omega)
  have n1 : ¬ ((1 : Int) + (y0.length : Int) < 0) := by omega
  have n2 : ¬ ((1 : Int) + (r.2.1.length : Int) * 7 < 0) := by omega
  simp only [if_neg h1, toByteS_v y0 (show y0.length ≤ 281474976710656 by omega), Option.bind_some, r1, r2, if_true, bne_self_eq_false, laws_FnExactReadCert.jv0_eq, laws_FnExactReadCert.jv1_eq, laws_FnExactReadCert.jv2_eq, laws_eqCert.v_eq, laws_markCert.v_eq, laws_heldCert.v_eq, eqMessageS_v _ (show r.2.1.length ≤ 281474976710656 by omega), eqByteS_v y0 (show y0.length ≤ 281474976710656 by omega), hb, m1, m3, if_neg n1, if_neg n2, Bool.false_eq_true, if_false]
end Go.Proofs.Ytadablpppkjdbaa.A
end
