/- A part of the proof that FnRequests returns true at every input: plain functions, contracts and lemmas. No conditions. -/
import Derived.Test.YtdpdbegglkdgnaaQRequestsa
set_option linter.unusedVariables false
set_option linter.unusedSimpArgs false
set_option linter.unusedSectionVars false
section
namespace Go.Proofs.Ytdpdbegglkdgnaa.A
open Go.RowKit Go.Proofs.YtdpdbegglkdgnaaW.PrintWords Go.Proofs.YtdpdbegglkdgnaaW.PrintLast Go.Proofs.YtdpdbegglkdgnaaW.PrintMore
attribute [local go_sem] max2_int min2_int max_two min_two max_three min_three max_four min_four
def impl_reader_take.f (s0_0 : ByteArray) (s0_1 : Bool) (a1 : Int) : Option (ByteArray × ByteArray × Bool) := if s0_1 = true then (some ((⟨#[]⟩ : ByteArray), s0_0, true)) else (if a1 > (s0_0.size : Int) then (some ((⟨#[]⟩ : ByteArray), s0_0, true)) else (if 0 ≤ a1 then (if a1 ≤ (s0_0.size : Int) then (some (s0_0.extract 0 (a1 : Int).toNat, s0_0.extract (a1 : Int).toNat s0_0.size, s0_1)) else (none)) else (none)))
def impl_reader_take.v (s0_0 : ByteArray) (s0_1 : Bool) (a1 : Int) : Option (ByteArray × ByteArray × Bool) := impl_reader_take.f s0_0 s0_1 a1
theorem impl_reader_take.v_lim (s0_0 : ByteArray) (s0_1 : Bool) (a1 : Int) : LimIs (fun _ => impl_reader_take.f s0_0 s0_1 a1) (impl_reader_take.v s0_0 s0_1 a1) := LimIs.const _
theorem impl_reader_take.v_eq (s0_0 : ByteArray) (s0_1 : Bool) (a1 : Int) : impl_reader_take.v s0_0 s0_1 a1 = (if s0_1 = true then (some ((⟨#[]⟩ : ByteArray), s0_0, true)) else (if a1 > (s0_0.size : Int) then (some ((⟨#[]⟩ : ByteArray), s0_0, true)) else (if 0 ≤ a1 then (if a1 ≤ (s0_0.size : Int) then (some (s0_0.extract 0 (a1 : Int).toNat, s0_0.extract (a1 : Int).toNat s0_0.size, s0_1)) else (none)) else (none))) : Option (ByteArray × ByteArray × Bool)) := rfl
def impl_reader_number.l0 : Nat → Int → List Int → Int → Int → ByteArray → Bool → Option (Int × ByteArray × Bool)
  | 0, _, _, _, _, _, _ => none
  | k + 1, x5, x11, x12, x13, x1000, x1001 => if x13 < x12 then (if 0 ≤ x13 then (if x13 < (x11.length : Int) then (impl_reader_number.l0 k (Go.bits .or .i64 (wrap64 (x5 * 256)) (wrap64 (rd x11 x13))) x11 x12 (wrap64 (x13 + 1)) x1000 x1001) else (none)) else (none)) else (some (x5, x1000, x1001))
def impl_reader_number.f (k : Nat) (s0_0 : ByteArray) (s0_1 : Bool) (a1 : Int) : Option (Int × ByteArray × Bool) := (impl_reader_take.f s0_0 s0_1 a1).bind fun bt475 => (if bt475.1.size ≤ 140737488355328 then ((some (bytesOf bt475.1 : List Int)).bind fun y478 => (impl_reader_number.l0 k 0 y478 (y478.length : Int) 0 bt475.2.1 bt475.2.2)) else (none))
theorem impl_reader_number.mono_l : ∀ k, (∀ y0 y1 y2 y3 y4 y5, LeO (impl_reader_number.l0 k y0 y1 y2 y3 y4 y5) (impl_reader_number.l0 (k + 1) y0 y1 y2 y3 y4 y5))
  | 0 => fun _ _ _ _ _ _ r h => by simp [impl_reader_number.l0] at h
  | k + 1 => by
    have ih0 := impl_reader_number.mono_l k
    · intro y0 y1 y2 y3 y4 y5
      unfold impl_reader_number.l0
      repeat' first
      | (with_reducible exact ih0 _ _ _ _ _ _)
      | (with_reducible exact LeO.refl _)
      | (with_reducible exact LeO.none _)
      | (with_reducible refine LeO.ite ?_ ?_)
      | (with_reducible refine LeO.bind ?_ (fun _ => ?_))
      | exact ih0 _ _ _ _ _ _
      | exact LeO.none _
      | refine LeO.ite ?_ ?_
      | refine LeO.bind ?_ (fun _ => ?_)
theorem impl_reader_number.mono : ∀ a0 a1 a2 k, LeO (impl_reader_number.f k a0 a1 a2) (impl_reader_number.f (k + 1) a0 a1 a2) := by
  intro a0 a1 a2 k
  have ih0 := impl_reader_number.mono_l k
  unfold impl_reader_number.f
  repeat' first
      | (with_reducible exact ih0 _ _ _ _ _ _)
      | (with_reducible exact LeO.refl _)
      | (with_reducible exact LeO.none _)
      | (with_reducible refine LeO.ite ?_ ?_)
      | (with_reducible refine LeO.bind ?_ (fun _ => ?_))
      | exact ih0 _ _ _ _ _ _
      | exact LeO.none _
      | refine LeO.ite ?_ ?_
      | refine LeO.bind ?_ (fun _ => ?_)
noncomputable def impl_reader_number.lv0 (x5 : Int) (x11 : List Int) (x12 : Int) (x13 : Int) (x1000 : ByteArray) (x1001 : Bool) : Option (Int × ByteArray × Bool) := lim (fun k_ => impl_reader_number.l0 k_ x5 x11 x12 x13 x1000 x1001)
noncomputable def impl_reader_number.v (s0_0 : ByteArray) (s0_1 : Bool) (a1 : Int) : Option (Int × ByteArray × Bool) := lim (fun k_ => impl_reader_number.f k_ s0_0 s0_1 a1)
theorem impl_reader_number.lv0_lim (x5 : Int) (x11 : List Int) (x12 : Int) (x13 : Int) (x1000 : ByteArray) (x1001 : Bool) : LimIs (fun k_ => impl_reader_number.l0 k_ x5 x11 x12 x13 x1000 x1001) (impl_reader_number.lv0 x5 x11 x12 x13 x1000 x1001) := lim_is (fun k_ => (impl_reader_number.mono_l k_) x5 x11 x12 x13 x1000 x1001)
theorem impl_reader_number.v_lim (s0_0 : ByteArray) (s0_1 : Bool) (a1 : Int) : LimIs (fun k_ => impl_reader_number.f k_ s0_0 s0_1 a1) (impl_reader_number.v s0_0 s0_1 a1) := lim_is (fun k_ => impl_reader_number.mono s0_0 s0_1 a1 k_)
theorem impl_reader_number.lv0_eq (x5 : Int) (x11 : List Int) (x12 : Int) (x13 : Int) (x1000 : ByteArray) (x1001 : Bool) : impl_reader_number.lv0 x5 x11 x12 x13 x1000 x1001 = (if x13 < x12 then (if 0 ≤ x13 then (if x13 < (x11.length : Int) then (impl_reader_number.lv0 (Go.bits .or .i64 (wrap64 (x5 * 256)) (wrap64 (rd x11 x13))) x11 x12 (wrap64 (x13 + 1)) x1000 x1001) else (none)) else (none)) else (some (x5, x1000, x1001)) : Option (Int × ByteArray × Bool)) := by
  refine LimIs.eq (impl_reader_number.lv0_lim x5 x11 x12 x13 x1000 x1001) ?_
  refine LimIs.step (fun k_ => (impl_reader_number.mono_l k_) x5 x11 x12 x13 x1000 x1001) ?_
  simp only [impl_reader_number.l0]
  repeat' (with_reducible first | exact impl_reader_number.lv0_lim _ _ _ _ _ _ | exact LimIs.const _ | refine LimIs.ite ?_ ?_ | refine LimIs.bind ?_ (fun _ => ?_))
theorem impl_reader_number.v_eq (s0_0 : ByteArray) (s0_1 : Bool) (a1 : Int) : impl_reader_number.v s0_0 s0_1 a1 = ((impl_reader_take.v s0_0 s0_1 a1).bind fun bt475 => (if bt475.1.size ≤ 140737488355328 then ((some (bytesOf bt475.1 : List Int)).bind fun y478 => (impl_reader_number.lv0 0 y478 (y478.length : Int) 0 bt475.2.1 bt475.2.2)) else (none)) : Option (Int × ByteArray × Bool)) := by
  refine LimIs.eq (impl_reader_number.v_lim s0_0 s0_1 a1) ?_
  simp only [impl_reader_number.f]
  repeat' (with_reducible first | exact impl_reader_number.lv0_lim _ _ _ _ _ _ | exact impl_reader_take.v_lim _ _ _ | exact LimIs.const _ | refine LimIs.ite ?_ ?_ | refine LimIs.bind ?_ (fun _ => ?_))
def impl_reader_sized.f (k : Nat) (s0_0 : ByteArray) (s0_1 : Bool) (a1 : Int) : Option (ByteArray × ByteArray × Bool) := (impl_reader_number.f k s0_0 s0_1 a1).bind fun bt482 => ((impl_reader_take.f bt482.2.1 bt482.2.2 bt482.1).bind fun bt485 => (some (bt485.1, bt485.2.1, bt485.2.2)))
theorem impl_reader_sized.mono : ∀ a0 a1 a2 k, LeO (impl_reader_sized.f k a0 a1 a2) (impl_reader_sized.f (k + 1) a0 a1 a2) := by
  intro a0 a1 a2 k
  unfold impl_reader_sized.f
  repeat' first
      | (with_reducible exact impl_reader_number.mono _ _ _ _)
      | (with_reducible exact LeO.refl _)
      | (with_reducible exact LeO.none _)
      | (with_reducible refine LeO.ite ?_ ?_)
      | (with_reducible refine LeO.bind ?_ (fun _ => ?_))
      | exact impl_reader_number.mono _ _ _ _
      | exact LeO.none _
      | refine LeO.ite ?_ ?_
      | refine LeO.bind ?_ (fun _ => ?_)
noncomputable def impl_reader_sized.v (s0_0 : ByteArray) (s0_1 : Bool) (a1 : Int) : Option (ByteArray × ByteArray × Bool) := lim (fun k_ => impl_reader_sized.f k_ s0_0 s0_1 a1)
theorem impl_reader_sized.v_lim (s0_0 : ByteArray) (s0_1 : Bool) (a1 : Int) : LimIs (fun k_ => impl_reader_sized.f k_ s0_0 s0_1 a1) (impl_reader_sized.v s0_0 s0_1 a1) := lim_is (fun k_ => impl_reader_sized.mono s0_0 s0_1 a1 k_)
theorem impl_reader_sized.v_eq (s0_0 : ByteArray) (s0_1 : Bool) (a1 : Int) : impl_reader_sized.v s0_0 s0_1 a1 = ((impl_reader_number.v s0_0 s0_1 a1).bind fun bt482 => ((impl_reader_take.v bt482.2.1 bt482.2.2 bt482.1).bind fun bt485 => (some (bt485.1, bt485.2.1, bt485.2.2))) : Option (ByteArray × ByteArray × Bool)) := by
  refine LimIs.eq (impl_reader_sized.v_lim s0_0 s0_1 a1) ?_
  simp only [impl_reader_sized.f]
  repeat' (with_reducible first | exact impl_reader_number.v_lim _ _ _ | exact impl_reader_take.v_lim _ _ _ | exact LimIs.const _ | refine LimIs.ite ?_ ?_ | refine LimIs.bind ?_ (fun _ => ?_))
def spec_l02Of.l0 : Nat → ByteArray → Int → Int → Option (Int)
  | 0, _, _, _ => none
  | k + 1, x0, x3, x4 => if x4 < (x0.size : Int) then (if 0 ≤ x4 then (spec_l02Of.l0 k x0 (wrap64 ((wrap64 (x3 * 256)) + (wrap64 (bt x0 x4)))) (wrap64 (x4 + 1))) else (none)) else (some x3)
def spec_l02Of.f (k : Nat) (a0 : ByteArray) : Option (Int) := spec_l02Of.l0 k a0 0 0
theorem spec_l02Of.mono_l : ∀ k, (∀ y0 y1 y2, LeO (spec_l02Of.l0 k y0 y1 y2) (spec_l02Of.l0 (k + 1) y0 y1 y2))
  | 0 => fun _ _ _ r h => by simp [spec_l02Of.l0] at h
  | k + 1 => by
    have ih0 := spec_l02Of.mono_l k
    · intro y0 y1 y2
      unfold spec_l02Of.l0
      repeat' first
      | (with_reducible exact ih0 _ _ _)
      | (with_reducible exact LeO.refl _)
      | (with_reducible exact LeO.none _)
      | (with_reducible refine LeO.ite ?_ ?_)
      | (with_reducible refine LeO.bind ?_ (fun _ => ?_))
      | exact ih0 _ _ _
      | exact LeO.none _
      | refine LeO.ite ?_ ?_
      | refine LeO.bind ?_ (fun _ => ?_)
theorem spec_l02Of.mono : ∀ a0 k, LeO (spec_l02Of.f k a0) (spec_l02Of.f (k + 1) a0) := by
  intro a0 k
  have ih0 := spec_l02Of.mono_l k
  unfold spec_l02Of.f
  repeat' first
      | (with_reducible exact ih0 _ _ _)
      | (with_reducible exact LeO.refl _)
      | (with_reducible exact LeO.none _)
      | (with_reducible refine LeO.ite ?_ ?_)
      | (with_reducible refine LeO.bind ?_ (fun _ => ?_))
      | exact ih0 _ _ _
      | exact LeO.none _
      | refine LeO.ite ?_ ?_
      | refine LeO.bind ?_ (fun _ => ?_)
noncomputable def spec_l02Of.lv0 (x0 : ByteArray) (x3 : Int) (x4 : Int) : Option (Int) := lim (fun k_ => spec_l02Of.l0 k_ x0 x3 x4)
noncomputable def spec_l02Of.v (a0 : ByteArray) : Option (Int) := lim (fun k_ => spec_l02Of.f k_ a0)
theorem spec_l02Of.lv0_lim (x0 : ByteArray) (x3 : Int) (x4 : Int) : LimIs (fun k_ => spec_l02Of.l0 k_ x0 x3 x4) (spec_l02Of.lv0 x0 x3 x4) := lim_is (fun k_ => (spec_l02Of.mono_l k_) x0 x3 x4)
theorem spec_l02Of.v_lim (a0 : ByteArray) : LimIs (fun k_ => spec_l02Of.f k_ a0) (spec_l02Of.v a0) := lim_is (fun k_ => spec_l02Of.mono a0 k_)
theorem spec_l02Of.lv0_eq (x0 : ByteArray) (x3 : Int) (x4 : Int) : spec_l02Of.lv0 x0 x3 x4 = (if x4 < (x0.size : Int) then (if 0 ≤ x4 then (spec_l02Of.lv0 x0 (wrap64 ((wrap64 (x3 * 256)) + (wrap64 (bt x0 x4)))) (wrap64 (x4 + 1))) else (none)) else (some x3) : Option (Int)) := by
  refine LimIs.eq (spec_l02Of.lv0_lim x0 x3 x4) ?_
  refine LimIs.step (fun k_ => (spec_l02Of.mono_l k_) x0 x3 x4) ?_
  simp only [spec_l02Of.l0]
  repeat' (with_reducible first | exact spec_l02Of.lv0_lim _ _ _ | exact LimIs.const _ | refine LimIs.ite ?_ ?_ | refine LimIs.bind ?_ (fun _ => ?_))
theorem spec_l02Of.v_eq (a0 : ByteArray) : spec_l02Of.v a0 = (spec_l02Of.lv0 a0 0 0 : Option (Int)) := by
  refine LimIs.eq (spec_l02Of.v_lim a0) ?_
  simp only [spec_l02Of.f]
  repeat' (with_reducible first | exact spec_l02Of.lv0_lim _ _ _ | exact LimIs.const _ | refine LimIs.ite ?_ ?_ | refine LimIs.bind ?_ (fun _ => ?_))
def spec_RequestOf.f (l0 : List Int) : Option (Int × Int × Int × Int × ByteArray) := (spec_l00Source.f l0).bind fun bt589 => ((spec_l00Src_request.f bt589.1 bt589.2.1 bt589.2.2).bind fun bt593 => (some (bt593.1, bt593.2.1, bt593.2.2.1, bt593.2.2.2.1, bt593.2.2.2.2.1)))
def spec_RequestOf.v (l0 : List Int) : Option (Int × Int × Int × Int × ByteArray) := spec_RequestOf.f l0
theorem spec_RequestOf.v_lim (l0 : List Int) : LimIs (fun _ => spec_RequestOf.f l0) (spec_RequestOf.v l0) := LimIs.const _
theorem spec_RequestOf.v_eq (l0 : List Int) : spec_RequestOf.v l0 = ((spec_l00Source.v l0).bind fun bt589 => ((spec_l00Src_request.v bt589.1 bt589.2.1 bt589.2.2).bind fun bt593 => (some (bt593.1, bt593.2.1, bt593.2.2.1, bt593.2.2.2.1, bt593.2.2.2.2.1))) : Option (Int × Int × Int × Int × ByteArray)) := rfl
def impl_isLetter.f (a0 : Int) : Option (Bool) := if a0 ≥ 97 then (if a0 ≤ 122 then (some true) else (if a0 ≥ 65 then (if a0 ≤ 90 then (some true) else (some (a0 == 95))) else (some (a0 == 95)))) else (if a0 ≥ 65 then (if a0 ≤ 90 then (some true) else (some (a0 == 95))) else (some (a0 == 95)))
def impl_isLetter.v (a0 : Int) : Option (Bool) := impl_isLetter.f a0
theorem impl_isLetter.v_lim (a0 : Int) : LimIs (fun _ => impl_isLetter.f a0) (impl_isLetter.v a0) := LimIs.const _
theorem impl_isLetter.v_eq (a0 : Int) : impl_isLetter.v a0 = (if a0 ≥ 97 then (if a0 ≤ 122 then (some true) else (if a0 ≥ 65 then (if a0 ≤ 90 then (some true) else (some (a0 == 95))) else (some (a0 == 95)))) else (if a0 ≥ 65 then (if a0 ≤ 90 then (some true) else (some (a0 == 95))) else (some (a0 == 95))) : Option (Bool)) := rfl
mutual
def impl_NameOK.j0 : Nat → ByteArray → Bool → Option (Bool)
  | 0, _, _ => none
  | k + 1, x0, x17 => if x17 = true then (some false) else (impl_NameOK.l0 k x0 (x0.size : Int) 0)
def impl_NameOK.l0 : Nat → ByteArray → Int → Int → Option (Bool)
  | 0, _, _, _ => none
  | k + 1, x0, x19, x20 => if x20 < x19 then (if 0 ≤ x20 then (if x20 < (x0.size : Int) then ((impl_isLetter.f (bt x0 x20)).bind fun t601 => (if t601 = true then (impl_NameOK.l0 k x0 x19 (wrap64 (x20 + 1))) else (if (bt x0 x20) < 48 then (some false) else (if (bt x0 x20) > 57 then (some false) else (impl_NameOK.l0 k x0 x19 (wrap64 (x20 + 1))))))) else (none)) else (none)) else (some true)
end
def impl_NameOK.f (k : Nat) (a0 : ByteArray) : Option (Bool) := if (a0.size : Int) < 1 then (impl_NameOK.j0 k a0 true) else (if (a0.size : Int) > 40 then (impl_NameOK.j0 k a0 true) else (if 0 < (a0.size : Int) then ((impl_isLetter.f (bt a0 0)).bind fun t600 => (impl_NameOK.j0 k a0 (!t600))) else (none)))
theorem impl_NameOK.mono_l : ∀ k, (∀ y0 y1, LeO (impl_NameOK.j0 k y0 y1) (impl_NameOK.j0 (k + 1) y0 y1)) ∧ (∀ y0 y1 y2, LeO (impl_NameOK.l0 k y0 y1 y2) (impl_NameOK.l0 (k + 1) y0 y1 y2))
  | 0 => ⟨fun _ _ r h => by simp [impl_NameOK.j0] at h, fun _ _ _ r h => by simp [impl_NameOK.l0] at h⟩
  | k + 1 => by
    obtain ⟨ih0, ih1⟩ := impl_NameOK.mono_l k
    refine ⟨?_, ?_⟩
    · intro y0 y1
      unfold impl_NameOK.j0
      repeat' first
      | (with_reducible exact ih0 _ _)
      | (with_reducible exact ih1 _ _ _)
      | (with_reducible exact LeO.refl _)
      | (with_reducible exact LeO.none _)
      | (with_reducible refine LeO.ite ?_ ?_)
      | (with_reducible refine LeO.bind ?_ (fun _ => ?_))
      | exact ih0 _ _
      | exact ih1 _ _ _
      | exact LeO.none _
      | refine LeO.ite ?_ ?_
      | refine LeO.bind ?_ (fun _ => ?_)
    · intro y0 y1 y2
      unfold impl_NameOK.l0
      repeat' first
      | (with_reducible exact ih0 _ _)
      | (with_reducible exact ih1 _ _ _)
      | (with_reducible exact LeO.refl _)
      | (with_reducible exact LeO.none _)
      | (with_reducible refine LeO.ite ?_ ?_)
      | (with_reducible refine LeO.bind ?_ (fun _ => ?_))
      | exact ih0 _ _
      | exact ih1 _ _ _
      | exact LeO.none _
      | refine LeO.ite ?_ ?_
      | refine LeO.bind ?_ (fun _ => ?_)
theorem impl_NameOK.mono : ∀ a0 k, LeO (impl_NameOK.f k a0) (impl_NameOK.f (k + 1) a0) := by
  intro a0 k
  obtain ⟨ih0, ih1⟩ := impl_NameOK.mono_l k
  unfold impl_NameOK.f
  repeat' first
      | (with_reducible exact ih0 _ _)
      | (with_reducible exact ih1 _ _ _)
      | (with_reducible exact LeO.refl _)
      | (with_reducible exact LeO.none _)
      | (with_reducible refine LeO.ite ?_ ?_)
      | (with_reducible refine LeO.bind ?_ (fun _ => ?_))
      | exact ih0 _ _
      | exact ih1 _ _ _
      | exact LeO.none _
      | refine LeO.ite ?_ ?_
      | refine LeO.bind ?_ (fun _ => ?_)
noncomputable def impl_NameOK.jv0 (x0 : ByteArray) (x17 : Bool) : Option (Bool) := lim (fun k_ => impl_NameOK.j0 k_ x0 x17)
noncomputable def impl_NameOK.lv0 (x0 : ByteArray) (x19 : Int) (x20 : Int) : Option (Bool) := lim (fun k_ => impl_NameOK.l0 k_ x0 x19 x20)
noncomputable def impl_NameOK.v (a0 : ByteArray) : Option (Bool) := lim (fun k_ => impl_NameOK.f k_ a0)
theorem impl_NameOK.jv0_lim (x0 : ByteArray) (x17 : Bool) : LimIs (fun k_ => impl_NameOK.j0 k_ x0 x17) (impl_NameOK.jv0 x0 x17) := lim_is (fun k_ => (impl_NameOK.mono_l k_).1 x0 x17)
theorem impl_NameOK.lv0_lim (x0 : ByteArray) (x19 : Int) (x20 : Int) : LimIs (fun k_ => impl_NameOK.l0 k_ x0 x19 x20) (impl_NameOK.lv0 x0 x19 x20) := lim_is (fun k_ => (impl_NameOK.mono_l k_).2 x0 x19 x20)
theorem impl_NameOK.v_lim (a0 : ByteArray) : LimIs (fun k_ => impl_NameOK.f k_ a0) (impl_NameOK.v a0) := lim_is (fun k_ => impl_NameOK.mono a0 k_)
theorem impl_NameOK.jv0_eq (x0 : ByteArray) (x17 : Bool) : impl_NameOK.jv0 x0 x17 = (if x17 = true then (some false) else (impl_NameOK.lv0 x0 (x0.size : Int) 0) : Option (Bool)) := by
  refine LimIs.eq (impl_NameOK.jv0_lim x0 x17) ?_
  refine LimIs.step (fun k_ => (impl_NameOK.mono_l k_).1 x0 x17) ?_
  simp only [impl_NameOK.j0]
  repeat' (with_reducible first | exact impl_NameOK.lv0_lim _ _ _ | exact LimIs.const _ | refine LimIs.ite ?_ ?_ | refine LimIs.bind ?_ (fun _ => ?_))
theorem impl_NameOK.lv0_eq (x0 : ByteArray) (x19 : Int) (x20 : Int) : impl_NameOK.lv0 x0 x19 x20 = (if x20 < x19 then (if 0 ≤ x20 then (if x20 < (x0.size : Int) then ((impl_isLetter.v (bt x0 x20)).bind fun t601 => (if t601 = true then (impl_NameOK.lv0 x0 x19 (wrap64 (x20 + 1))) else (if (bt x0 x20) < 48 then (some false) else (if (bt x0 x20) > 57 then (some false) else (impl_NameOK.lv0 x0 x19 (wrap64 (x20 + 1))))))) else (none)) else (none)) else (some true) : Option (Bool)) := by
  refine LimIs.eq (impl_NameOK.lv0_lim x0 x19 x20) ?_
  refine LimIs.step (fun k_ => (impl_NameOK.mono_l k_).2 x0 x19 x20) ?_
  simp only [impl_NameOK.l0]
  repeat' (with_reducible first | exact impl_NameOK.lv0_lim _ _ _ | exact impl_isLetter.v_lim _ | exact LimIs.const _ | refine LimIs.ite ?_ ?_ | refine LimIs.bind ?_ (fun _ => ?_))
theorem impl_NameOK.v_eq (a0 : ByteArray) : impl_NameOK.v a0 = (if (a0.size : Int) < 1 then (impl_NameOK.jv0 a0 true) else (if (a0.size : Int) > 40 then (impl_NameOK.jv0 a0 true) else (if 0 < (a0.size : Int) then ((impl_isLetter.v (bt a0 0)).bind fun t600 => (impl_NameOK.jv0 a0 (!t600))) else (none))) : Option (Bool)) := by
  refine LimIs.eq (impl_NameOK.v_lim a0) ?_
  simp only [impl_NameOK.f]
  repeat' (with_reducible first | exact impl_NameOK.jv0_lim _ _ | exact impl_isLetter.v_lim _ | exact LimIs.const _ | refine LimIs.ite ?_ ?_ | refine LimIs.bind ?_ (fun _ => ?_))
def impl_isOpName.f (k : Nat) (a0 : ByteArray) : Option (Bool) := if (a0.size : Int) ≤ 12 then ((impl_NameOK.f k a0).bind fun t602 => (some t602)) else (some false)
theorem impl_isOpName.mono : ∀ a0 k, LeO (impl_isOpName.f k a0) (impl_isOpName.f (k + 1) a0) := by
  intro a0 k
  unfold impl_isOpName.f
  repeat' first
      | (with_reducible exact impl_NameOK.mono _ _)
      | (with_reducible exact LeO.refl _)
      | (with_reducible exact LeO.none _)
      | (with_reducible refine LeO.ite ?_ ?_)
      | (with_reducible refine LeO.bind ?_ (fun _ => ?_))
      | exact impl_NameOK.mono _ _
      | exact LeO.none _
      | refine LeO.ite ?_ ?_
      | refine LeO.bind ?_ (fun _ => ?_)
noncomputable def impl_isOpName.v (a0 : ByteArray) : Option (Bool) := lim (fun k_ => impl_isOpName.f k_ a0)
theorem impl_isOpName.v_lim (a0 : ByteArray) : LimIs (fun k_ => impl_isOpName.f k_ a0) (impl_isOpName.v a0) := lim_is (fun k_ => impl_isOpName.mono a0 k_)
theorem impl_isOpName.v_eq (a0 : ByteArray) : impl_isOpName.v a0 = (if (a0.size : Int) ≤ 12 then ((impl_NameOK.v a0).bind fun t602 => (some t602)) else (some false) : Option (Bool)) := by
  refine LimIs.eq (impl_isOpName.v_lim a0) ?_
  simp only [impl_isOpName.f]
  repeat' (with_reducible first | exact impl_NameOK.v_lim _ | exact LimIs.const _ | refine LimIs.ite ?_ ?_ | refine LimIs.bind ?_ (fun _ => ?_))
mutual
def impl_RequestOK.j0 : Nat → Int → Int → Bool → Int → Int → Int → Int → ByteArray → Option (Bool)
  | 0, _, _, _, _, _, _, _, _ => none
  | k + 1, x3, x4, x12, x604000, x604001, x604002, x604003, x604004 => if x12 = true then (impl_RequestOK.j1 k 1 1000 x604000 x604001 x604002 x604003 x604004) else (impl_RequestOK.j1 k x3 x4 x604000 x604001 x604002 x604003 x604004)
def impl_RequestOK.j1 : Nat → Int → Int → Int → Int → Int → Int → ByteArray → Option (Bool)
  | 0, _, _, _, _, _, _, _ => none
  | k + 1, x3, x4, x604000, x604001, x604002, x604003, x604004 => (impl_within.f x604000 0 255).bind fun t604 => (if t604 = true then ((impl_within.f x604001 1 65535).bind fun t605 => (if t605 = true then ((impl_within.f x604002 1 4).bind fun t606 => (if t606 = true then ((impl_within.f x604003 x3 x4).bind fun t607 => (if t607 = true then ((impl_isOpName.f k x604004).bind fun t608 => (some t608)) else (some false))) else (some false))) else (some false))) else (some false))
end
def impl_RequestOK.f (k : Nat) (a0_0 : Int) (a0_1 : Int) (a0_2 : Int) (a0_3 : Int) (a0_4 : ByteArray) : Option (Bool) := if a0_2 = 1 then (impl_RequestOK.j0 k 0 0 true a0_0 a0_1 a0_2 a0_3 a0_4) else (impl_RequestOK.j0 k 0 0 (a0_2 == 3) a0_0 a0_1 a0_2 a0_3 a0_4)
theorem impl_RequestOK.mono_l : ∀ k, (∀ y0 y1 y2 y3 y4 y5 y6 y7, LeO (impl_RequestOK.j0 k y0 y1 y2 y3 y4 y5 y6 y7) (impl_RequestOK.j0 (k + 1) y0 y1 y2 y3 y4 y5 y6 y7)) ∧ (∀ y0 y1 y2 y3 y4 y5 y6, LeO (impl_RequestOK.j1 k y0 y1 y2 y3 y4 y5 y6) (impl_RequestOK.j1 (k + 1) y0 y1 y2 y3 y4 y5 y6))
  | 0 => ⟨fun _ _ _ _ _ _ _ _ r h => by simp [impl_RequestOK.j0] at h, fun _ _ _ _ _ _ _ r h => by simp [impl_RequestOK.j1] at h⟩
  | k + 1 => by
    obtain ⟨ih0, ih1⟩ := impl_RequestOK.mono_l k
    refine ⟨?_, ?_⟩
    · intro y0 y1 y2 y3 y4 y5 y6 y7
      unfold impl_RequestOK.j0
      repeat' first
      | (with_reducible exact ih0 _ _ _ _ _ _ _ _)
      | (with_reducible exact ih1 _ _ _ _ _ _ _)
      | (with_reducible exact impl_isOpName.mono _ _)
      | (with_reducible exact LeO.refl _)
      | (with_reducible exact LeO.none _)
      | (with_reducible refine LeO.ite ?_ ?_)
      | (with_reducible refine LeO.bind ?_ (fun _ => ?_))
      | exact ih0 _ _ _ _ _ _ _ _
      | exact ih1 _ _ _ _ _ _ _
      | exact impl_isOpName.mono _ _
      | exact LeO.none _
      | refine LeO.ite ?_ ?_
      | refine LeO.bind ?_ (fun _ => ?_)
    · intro y0 y1 y2 y3 y4 y5 y6
      unfold impl_RequestOK.j1
      repeat' first
      | (with_reducible exact ih0 _ _ _ _ _ _ _ _)
      | (with_reducible exact ih1 _ _ _ _ _ _ _)
      | (with_reducible exact impl_isOpName.mono _ _)
      | (with_reducible exact LeO.refl _)
      | (with_reducible exact LeO.none _)
      | (with_reducible refine LeO.ite ?_ ?_)
      | (with_reducible refine LeO.bind ?_ (fun _ => ?_))
      | exact ih0 _ _ _ _ _ _ _ _
      | exact ih1 _ _ _ _ _ _ _
      | exact impl_isOpName.mono _ _
      | exact LeO.none _
      | refine LeO.ite ?_ ?_
      | refine LeO.bind ?_ (fun _ => ?_)
theorem impl_RequestOK.mono : ∀ a0 a1 a2 a3 a4 k, LeO (impl_RequestOK.f k a0 a1 a2 a3 a4) (impl_RequestOK.f (k + 1) a0 a1 a2 a3 a4) := by
  intro a0 a1 a2 a3 a4 k
  obtain ⟨ih0, ih1⟩ := impl_RequestOK.mono_l k
  unfold impl_RequestOK.f
  repeat' first
      | (with_reducible exact ih0 _ _ _ _ _ _ _ _)
      | (with_reducible exact ih1 _ _ _ _ _ _ _)
      | (with_reducible exact impl_isOpName.mono _ _)
      | (with_reducible exact LeO.refl _)
      | (with_reducible exact LeO.none _)
      | (with_reducible refine LeO.ite ?_ ?_)
      | (with_reducible refine LeO.bind ?_ (fun _ => ?_))
      | exact ih0 _ _ _ _ _ _ _ _
      | exact ih1 _ _ _ _ _ _ _
      | exact impl_isOpName.mono _ _
      | exact LeO.none _
      | refine LeO.ite ?_ ?_
      | refine LeO.bind ?_ (fun _ => ?_)
noncomputable def impl_RequestOK.jv0 (x3 : Int) (x4 : Int) (x12 : Bool) (x604000 : Int) (x604001 : Int) (x604002 : Int) (x604003 : Int) (x604004 : ByteArray) : Option (Bool) := lim (fun k_ => impl_RequestOK.j0 k_ x3 x4 x12 x604000 x604001 x604002 x604003 x604004)
noncomputable def impl_RequestOK.jv1 (x3 : Int) (x4 : Int) (x604000 : Int) (x604001 : Int) (x604002 : Int) (x604003 : Int) (x604004 : ByteArray) : Option (Bool) := lim (fun k_ => impl_RequestOK.j1 k_ x3 x4 x604000 x604001 x604002 x604003 x604004)
noncomputable def impl_RequestOK.v (a0_0 : Int) (a0_1 : Int) (a0_2 : Int) (a0_3 : Int) (a0_4 : ByteArray) : Option (Bool) := lim (fun k_ => impl_RequestOK.f k_ a0_0 a0_1 a0_2 a0_3 a0_4)
theorem impl_RequestOK.jv0_lim (x3 : Int) (x4 : Int) (x12 : Bool) (x604000 : Int) (x604001 : Int) (x604002 : Int) (x604003 : Int) (x604004 : ByteArray) : LimIs (fun k_ => impl_RequestOK.j0 k_ x3 x4 x12 x604000 x604001 x604002 x604003 x604004) (impl_RequestOK.jv0 x3 x4 x12 x604000 x604001 x604002 x604003 x604004) := lim_is (fun k_ => (impl_RequestOK.mono_l k_).1 x3 x4 x12 x604000 x604001 x604002 x604003 x604004)
theorem impl_RequestOK.jv1_lim (x3 : Int) (x4 : Int) (x604000 : Int) (x604001 : Int) (x604002 : Int) (x604003 : Int) (x604004 : ByteArray) : LimIs (fun k_ => impl_RequestOK.j1 k_ x3 x4 x604000 x604001 x604002 x604003 x604004) (impl_RequestOK.jv1 x3 x4 x604000 x604001 x604002 x604003 x604004) := lim_is (fun k_ => (impl_RequestOK.mono_l k_).2 x3 x4 x604000 x604001 x604002 x604003 x604004)
theorem impl_RequestOK.v_lim (a0_0 : Int) (a0_1 : Int) (a0_2 : Int) (a0_3 : Int) (a0_4 : ByteArray) : LimIs (fun k_ => impl_RequestOK.f k_ a0_0 a0_1 a0_2 a0_3 a0_4) (impl_RequestOK.v a0_0 a0_1 a0_2 a0_3 a0_4) := lim_is (fun k_ => impl_RequestOK.mono a0_0 a0_1 a0_2 a0_3 a0_4 k_)
theorem impl_RequestOK.jv0_eq (x3 : Int) (x4 : Int) (x12 : Bool) (x604000 : Int) (x604001 : Int) (x604002 : Int) (x604003 : Int) (x604004 : ByteArray) : impl_RequestOK.jv0 x3 x4 x12 x604000 x604001 x604002 x604003 x604004 = (if x12 = true then (impl_RequestOK.jv1 1 1000 x604000 x604001 x604002 x604003 x604004) else (impl_RequestOK.jv1 x3 x4 x604000 x604001 x604002 x604003 x604004) : Option (Bool)) := by
  refine LimIs.eq (impl_RequestOK.jv0_lim x3 x4 x12 x604000 x604001 x604002 x604003 x604004) ?_
  refine LimIs.step (fun k_ => (impl_RequestOK.mono_l k_).1 x3 x4 x12 x604000 x604001 x604002 x604003 x604004) ?_
  simp only [impl_RequestOK.j0]
  repeat' (with_reducible first | exact impl_RequestOK.jv1_lim _ _ _ _ _ _ _ | exact LimIs.const _ | refine LimIs.ite ?_ ?_ | refine LimIs.bind ?_ (fun _ => ?_))
theorem impl_RequestOK.jv1_eq (x3 : Int) (x4 : Int) (x604000 : Int) (x604001 : Int) (x604002 : Int) (x604003 : Int) (x604004 : ByteArray) : impl_RequestOK.jv1 x3 x4 x604000 x604001 x604002 x604003 x604004 = ((impl_within.v x604000 0 255).bind fun t604 => (if t604 = true then ((impl_within.v x604001 1 65535).bind fun t605 => (if t605 = true then ((impl_within.v x604002 1 4).bind fun t606 => (if t606 = true then ((impl_within.v x604003 x3 x4).bind fun t607 => (if t607 = true then ((impl_isOpName.v x604004).bind fun t608 => (some t608)) else (some false))) else (some false))) else (some false))) else (some false)) : Option (Bool)) := by
  refine LimIs.eq (impl_RequestOK.jv1_lim x3 x4 x604000 x604001 x604002 x604003 x604004) ?_
  refine LimIs.step (fun k_ => (impl_RequestOK.mono_l k_).2 x3 x4 x604000 x604001 x604002 x604003 x604004) ?_
  simp only [impl_RequestOK.j1]
  repeat' (with_reducible first | exact impl_isOpName.v_lim _ | exact impl_within.v_lim _ _ _ | exact LimIs.const _ | refine LimIs.ite ?_ ?_ | refine LimIs.bind ?_ (fun _ => ?_))
theorem impl_RequestOK.v_eq (a0_0 : Int) (a0_1 : Int) (a0_2 : Int) (a0_3 : Int) (a0_4 : ByteArray) : impl_RequestOK.v a0_0 a0_1 a0_2 a0_3 a0_4 = (if a0_2 = 1 then (impl_RequestOK.jv0 0 0 true a0_0 a0_1 a0_2 a0_3 a0_4) else (impl_RequestOK.jv0 0 0 (a0_2 == 3) a0_0 a0_1 a0_2 a0_3 a0_4) : Option (Bool)) := by
  refine LimIs.eq (impl_RequestOK.v_lim a0_0 a0_1 a0_2 a0_3 a0_4) ?_
  simp only [impl_RequestOK.f]
  repeat' (with_reducible first | exact impl_RequestOK.jv0_lim _ _ _ _ _ _ _ _ | exact LimIs.const _ | refine LimIs.ite ?_ ?_ | refine LimIs.bind ?_ (fun _ => ?_))
def impl_requestText.f (k : Nat) (a0_0 : Int) (a0_1 : Int) (a0_2 : Int) (a0_3 : Int) (a0_4 : ByteArray) : Option (ByteArray) := (impl_number.f k a0_0 1).bind fun t610 => ((impl_number.f k a0_1 2).bind fun t611 => (if t610.size + t611.size ≤ 9223372036854775807 then ((impl_number.f k a0_2 1).bind fun t612 => (if (t610 ++ t611).size + t612.size ≤ 9223372036854775807 then ((impl_number.f k a0_3 2).bind fun t613 => (if ((t610 ++ t611) ++ t612).size + t613.size ≤ 9223372036854775807 then ((impl_number.f k (a0_4.size : Int) 1).bind fun t614 => (if (((t610 ++ t611) ++ t612) ++ t613).size + t614.size ≤ 9223372036854775807 then (if ((((t610 ++ t611) ++ t612) ++ t613) ++ t614).size + a0_4.size ≤ 9223372036854775807 then (some (((((t610 ++ t611) ++ t612) ++ t613) ++ t614) ++ a0_4)) else (none)) else (none))) else (none))) else (none))) else (none)))
theorem impl_requestText.mono : ∀ a0 a1 a2 a3 a4 k, LeO (impl_requestText.f k a0 a1 a2 a3 a4) (impl_requestText.f (k + 1) a0 a1 a2 a3 a4) := by
  intro a0 a1 a2 a3 a4 k
  unfold impl_requestText.f
  repeat' first
      | (with_reducible exact impl_number.mono _ _ _)
      | (with_reducible exact LeO.refl _)
      | (with_reducible exact LeO.none _)
      | (with_reducible refine LeO.ite ?_ ?_)
      | (with_reducible refine LeO.bind ?_ (fun _ => ?_))
      | exact impl_number.mono _ _ _
      | exact LeO.none _
      | refine LeO.ite ?_ ?_
      | refine LeO.bind ?_ (fun _ => ?_)
noncomputable def impl_requestText.v (a0_0 : Int) (a0_1 : Int) (a0_2 : Int) (a0_3 : Int) (a0_4 : ByteArray) : Option (ByteArray) := lim (fun k_ => impl_requestText.f k_ a0_0 a0_1 a0_2 a0_3 a0_4)
theorem impl_requestText.v_lim (a0_0 : Int) (a0_1 : Int) (a0_2 : Int) (a0_3 : Int) (a0_4 : ByteArray) : LimIs (fun k_ => impl_requestText.f k_ a0_0 a0_1 a0_2 a0_3 a0_4) (impl_requestText.v a0_0 a0_1 a0_2 a0_3 a0_4) := lim_is (fun k_ => impl_requestText.mono a0_0 a0_1 a0_2 a0_3 a0_4 k_)
theorem impl_requestText.v_eq (a0_0 : Int) (a0_1 : Int) (a0_2 : Int) (a0_3 : Int) (a0_4 : ByteArray) : impl_requestText.v a0_0 a0_1 a0_2 a0_3 a0_4 = ((impl_number.v a0_0 1).bind fun t610 => ((impl_number.v a0_1 2).bind fun t611 => (if t610.size + t611.size ≤ 9223372036854775807 then ((impl_number.v a0_2 1).bind fun t612 => (if (t610 ++ t611).size + t612.size ≤ 9223372036854775807 then ((impl_number.v a0_3 2).bind fun t613 => (if ((t610 ++ t611) ++ t612).size + t613.size ≤ 9223372036854775807 then ((impl_number.v (a0_4.size : Int) 1).bind fun t614 => (if (((t610 ++ t611) ++ t612) ++ t613).size + t614.size ≤ 9223372036854775807 then (if ((((t610 ++ t611) ++ t612) ++ t613) ++ t614).size + a0_4.size ≤ 9223372036854775807 then (some (((((t610 ++ t611) ++ t612) ++ t613) ++ t614) ++ a0_4)) else (none)) else (none))) else (none))) else (none))) else (none))) : Option (ByteArray)) := by
  refine LimIs.eq (impl_requestText.v_lim a0_0 a0_1 a0_2 a0_3 a0_4) ?_
  simp only [impl_requestText.f]
  repeat' (with_reducible first | exact impl_number.v_lim _ _ | exact LimIs.const _ | refine LimIs.ite ?_ ?_ | refine LimIs.bind ?_ (fun _ => ?_))
def impl_RequestBytes.f (k : Nat) (a0_0 : Int) (a0_1 : Int) (a0_2 : Int) (a0_3 : Int) (a0_4 : ByteArray) : Option (List Int × Int) := (impl_RequestOK.f k a0_0 a0_1 a0_2 a0_3 a0_4).bind fun t616 => (if t616 = true then ((impl_requestText.f k a0_0 a0_1 a0_2 a0_3 a0_4).bind fun t617 => (if t617.size ≤ 140737488355328 then (some ((bytesOf t617), 0)) else (none))) else (some (([] : List Int), 1)))
theorem impl_RequestBytes.mono : ∀ a0 a1 a2 a3 a4 k, LeO (impl_RequestBytes.f k a0 a1 a2 a3 a4) (impl_RequestBytes.f (k + 1) a0 a1 a2 a3 a4) := by
  intro a0 a1 a2 a3 a4 k
  unfold impl_RequestBytes.f
  repeat' first
      | (with_reducible exact impl_RequestOK.mono _ _ _ _ _ _)
      | (with_reducible exact impl_requestText.mono _ _ _ _ _ _)
      | (with_reducible exact LeO.refl _)
      | (with_reducible exact LeO.none _)
      | (with_reducible refine LeO.ite ?_ ?_)
      | (with_reducible refine LeO.bind ?_ (fun _ => ?_))
      | exact impl_RequestOK.mono _ _ _ _ _ _
      | exact impl_requestText.mono _ _ _ _ _ _
      | exact LeO.none _
      | refine LeO.ite ?_ ?_
      | refine LeO.bind ?_ (fun _ => ?_)
noncomputable def impl_RequestBytes.v (a0_0 : Int) (a0_1 : Int) (a0_2 : Int) (a0_3 : Int) (a0_4 : ByteArray) : Option (List Int × Int) := lim (fun k_ => impl_RequestBytes.f k_ a0_0 a0_1 a0_2 a0_3 a0_4)
theorem impl_RequestBytes.v_lim (a0_0 : Int) (a0_1 : Int) (a0_2 : Int) (a0_3 : Int) (a0_4 : ByteArray) : LimIs (fun k_ => impl_RequestBytes.f k_ a0_0 a0_1 a0_2 a0_3 a0_4) (impl_RequestBytes.v a0_0 a0_1 a0_2 a0_3 a0_4) := lim_is (fun k_ => impl_RequestBytes.mono a0_0 a0_1 a0_2 a0_3 a0_4 k_)
theorem impl_RequestBytes.v_eq (a0_0 : Int) (a0_1 : Int) (a0_2 : Int) (a0_3 : Int) (a0_4 : ByteArray) : impl_RequestBytes.v a0_0 a0_1 a0_2 a0_3 a0_4 = ((impl_RequestOK.v a0_0 a0_1 a0_2 a0_3 a0_4).bind fun t616 => (if t616 = true then ((impl_requestText.v a0_0 a0_1 a0_2 a0_3 a0_4).bind fun t617 => (if t617.size ≤ 140737488355328 then (some ((bytesOf t617), 0)) else (none))) else (some (([] : List Int), 1))) : Option (List Int × Int)) := by
  refine LimIs.eq (impl_RequestBytes.v_lim a0_0 a0_1 a0_2 a0_3 a0_4) ?_
  simp only [impl_RequestBytes.f]
  repeat' (with_reducible first | exact impl_RequestOK.v_lim _ _ _ _ _ | exact impl_requestText.v_lim _ _ _ _ _ | exact LimIs.const _ | refine LimIs.ite ?_ ?_ | refine LimIs.bind ?_ (fun _ => ?_))
def spec_l00Letter.f (a0 : Int) : Option (Bool) := if a0 ≥ 97 then (if a0 ≤ 122 then (some true) else (if a0 ≥ 65 then (if a0 ≤ 90 then (some true) else (some (a0 == 95))) else (some (a0 == 95)))) else (if a0 ≥ 65 then (if a0 ≤ 90 then (some true) else (some (a0 == 95))) else (some (a0 == 95)))
def spec_l00Letter.v (a0 : Int) : Option (Bool) := spec_l00Letter.f a0
theorem spec_l00Letter.v_lim (a0 : Int) : LimIs (fun _ => spec_l00Letter.f a0) (spec_l00Letter.v a0) := LimIs.const _
theorem spec_l00Letter.v_eq (a0 : Int) : spec_l00Letter.v a0 = (if a0 ≥ 97 then (if a0 ≤ 122 then (some true) else (if a0 ≥ 65 then (if a0 ≤ 90 then (some true) else (some (a0 == 95))) else (some (a0 == 95)))) else (if a0 ≥ 65 then (if a0 ≤ 90 then (some true) else (some (a0 == 95))) else (some (a0 == 95))) : Option (Bool)) := rfl
def spec_l00Digit.f (a0 : Int) : Option (Bool) := if a0 ≥ 48 then (some (decide (a0 ≤ 57))) else (some false)
def spec_l00Digit.v (a0 : Int) : Option (Bool) := spec_l00Digit.f a0
theorem spec_l00Digit.v_lim (a0 : Int) : LimIs (fun _ => spec_l00Digit.f a0) (spec_l00Digit.v a0) := LimIs.const _
theorem spec_l00Digit.v_eq (a0 : Int) : spec_l00Digit.v a0 = (if a0 ≥ 48 then (some (decide (a0 ≤ 57))) else (some false) : Option (Bool)) := rfl
mutual
def spec_l00Word.j0 : Nat → ByteArray → Bool → Option (Bool)
  | 0, _, _ => none
  | k + 1, x0, x17 => if x17 = true then (some false) else (spec_l00Word.l0 k x0 1)
def spec_l00Word.l0 : Nat → ByteArray → Int → Option (Bool)
  | 0, _, _ => none
  | k + 1, x0, x3 => if x3 < (x0.size : Int) then (if 0 ≤ x3 then ((spec_l00Letter.f (bt x0 x3)).bind fun t622 => (if t622 = true then (spec_l00Word.l0 k x0 (wrap64 (x3 + 1))) else ((spec_l00Digit.f (bt x0 x3)).bind fun t623 => (if t623 = true then (spec_l00Word.l0 k x0 (wrap64 (x3 + 1))) else (some false))))) else (none)) else (some true)
end
def spec_l00Word.f (k : Nat) (a0 : ByteArray) : Option (Bool) := if (a0.size : Int) < 1 then (spec_l00Word.j0 k a0 true) else (if (a0.size : Int) > 40 then (spec_l00Word.j0 k a0 true) else (if 0 < (a0.size : Int) then ((spec_l00Letter.f (bt a0 0)).bind fun t621 => (spec_l00Word.j0 k a0 (!t621))) else (none)))
theorem spec_l00Word.mono_l : ∀ k, (∀ y0 y1, LeO (spec_l00Word.j0 k y0 y1) (spec_l00Word.j0 (k + 1) y0 y1)) ∧ (∀ y0 y1, LeO (spec_l00Word.l0 k y0 y1) (spec_l00Word.l0 (k + 1) y0 y1))
  | 0 => ⟨fun _ _ r h => by simp [spec_l00Word.j0] at h, fun _ _ r h => by simp [spec_l00Word.l0] at h⟩
  | k + 1 => by
    obtain ⟨ih0, ih1⟩ := spec_l00Word.mono_l k
    refine ⟨?_, ?_⟩
    · intro y0 y1
      unfold spec_l00Word.j0
      repeat' first
      | (with_reducible exact ih0 _ _)
      | (with_reducible exact ih1 _ _)
      | (with_reducible exact LeO.refl _)
      | (with_reducible exact LeO.none _)
      | (with_reducible refine LeO.ite ?_ ?_)
      | (with_reducible refine LeO.bind ?_ (fun _ => ?_))
      | exact ih0 _ _
      | exact ih1 _ _
      | exact LeO.none _
      | refine LeO.ite ?_ ?_
      | refine LeO.bind ?_ (fun _ => ?_)
    · intro y0 y1
      unfold spec_l00Word.l0
      repeat' first
      | (with_reducible exact ih0 _ _)
      | (with_reducible exact ih1 _ _)
      | (with_reducible exact LeO.refl _)
      | (with_reducible exact LeO.none _)
      | (with_reducible refine LeO.ite ?_ ?_)
      | (with_reducible refine LeO.bind ?_ (fun _ => ?_))
      | exact ih0 _ _
      | exact ih1 _ _
      | exact LeO.none _
      | refine LeO.ite ?_ ?_
      | refine LeO.bind ?_ (fun _ => ?_)
theorem spec_l00Word.mono : ∀ a0 k, LeO (spec_l00Word.f k a0) (spec_l00Word.f (k + 1) a0) := by
  intro a0 k
  obtain ⟨ih0, ih1⟩ := spec_l00Word.mono_l k
  unfold spec_l00Word.f
  repeat' first
      | (with_reducible exact ih0 _ _)
      | (with_reducible exact ih1 _ _)
      | (with_reducible exact LeO.refl _)
      | (with_reducible exact LeO.none _)
      | (with_reducible refine LeO.ite ?_ ?_)
      | (with_reducible refine LeO.bind ?_ (fun _ => ?_))
      | exact ih0 _ _
      | exact ih1 _ _
      | exact LeO.none _
      | refine LeO.ite ?_ ?_
      | refine LeO.bind ?_ (fun _ => ?_)
noncomputable def spec_l00Word.jv0 (x0 : ByteArray) (x17 : Bool) : Option (Bool) := lim (fun k_ => spec_l00Word.j0 k_ x0 x17)
noncomputable def spec_l00Word.lv0 (x0 : ByteArray) (x3 : Int) : Option (Bool) := lim (fun k_ => spec_l00Word.l0 k_ x0 x3)
noncomputable def spec_l00Word.v (a0 : ByteArray) : Option (Bool) := lim (fun k_ => spec_l00Word.f k_ a0)
theorem spec_l00Word.jv0_lim (x0 : ByteArray) (x17 : Bool) : LimIs (fun k_ => spec_l00Word.j0 k_ x0 x17) (spec_l00Word.jv0 x0 x17) := lim_is (fun k_ => (spec_l00Word.mono_l k_).1 x0 x17)
theorem spec_l00Word.lv0_lim (x0 : ByteArray) (x3 : Int) : LimIs (fun k_ => spec_l00Word.l0 k_ x0 x3) (spec_l00Word.lv0 x0 x3) := lim_is (fun k_ => (spec_l00Word.mono_l k_).2 x0 x3)
theorem spec_l00Word.v_lim (a0 : ByteArray) : LimIs (fun k_ => spec_l00Word.f k_ a0) (spec_l00Word.v a0) := lim_is (fun k_ => spec_l00Word.mono a0 k_)
theorem spec_l00Word.jv0_eq (x0 : ByteArray) (x17 : Bool) : spec_l00Word.jv0 x0 x17 = (if x17 = true then (some false) else (spec_l00Word.lv0 x0 1) : Option (Bool)) := by
  refine LimIs.eq (spec_l00Word.jv0_lim x0 x17) ?_
  refine LimIs.step (fun k_ => (spec_l00Word.mono_l k_).1 x0 x17) ?_
  simp only [spec_l00Word.j0]
  repeat' (with_reducible first | exact spec_l00Word.lv0_lim _ _ | exact LimIs.const _ | refine LimIs.ite ?_ ?_ | refine LimIs.bind ?_ (fun _ => ?_))
theorem spec_l00Word.lv0_eq (x0 : ByteArray) (x3 : Int) : spec_l00Word.lv0 x0 x3 = (if x3 < (x0.size : Int) then (if 0 ≤ x3 then ((spec_l00Letter.v (bt x0 x3)).bind fun t622 => (if t622 = true then (spec_l00Word.lv0 x0 (wrap64 (x3 + 1))) else ((spec_l00Digit.v (bt x0 x3)).bind fun t623 => (if t623 = true then (spec_l00Word.lv0 x0 (wrap64 (x3 + 1))) else (some false))))) else (none)) else (some true) : Option (Bool)) := by
  refine LimIs.eq (spec_l00Word.lv0_lim x0 x3) ?_
  refine LimIs.step (fun k_ => (spec_l00Word.mono_l k_).2 x0 x3) ?_
  simp only [spec_l00Word.l0]
  repeat' (with_reducible first | exact spec_l00Digit.v_lim _ | exact spec_l00Letter.v_lim _ | exact spec_l00Word.lv0_lim _ _ | exact LimIs.const _ | refine LimIs.ite ?_ ?_ | refine LimIs.bind ?_ (fun _ => ?_))
theorem spec_l00Word.v_eq (a0 : ByteArray) : spec_l00Word.v a0 = (if (a0.size : Int) < 1 then (spec_l00Word.jv0 a0 true) else (if (a0.size : Int) > 40 then (spec_l00Word.jv0 a0 true) else (if 0 < (a0.size : Int) then ((spec_l00Letter.v (bt a0 0)).bind fun t621 => (spec_l00Word.jv0 a0 (!t621))) else (none))) : Option (Bool)) := by
  refine LimIs.eq (spec_l00Word.v_lim a0) ?_
  simp only [spec_l00Word.f]
  repeat' (with_reducible first | exact spec_l00Letter.v_lim _ | exact spec_l00Word.jv0_lim _ _ | exact LimIs.const _ | refine LimIs.ite ?_ ?_ | refine LimIs.bind ?_ (fun _ => ?_))
def spec_NameOK.f (k : Nat) (a0 : ByteArray) : Option (Bool) := (spec_l00Word.f k a0).bind fun t624 => (some t624)
theorem spec_NameOK.mono : ∀ a0 k, LeO (spec_NameOK.f k a0) (spec_NameOK.f (k + 1) a0) := by
  intro a0 k
  unfold spec_NameOK.f
  repeat' first
      | (with_reducible exact spec_l00Word.mono _ _)
      | (with_reducible exact LeO.refl _)
      | (with_reducible exact LeO.none _)
      | (with_reducible refine LeO.ite ?_ ?_)
      | (with_reducible refine LeO.bind ?_ (fun _ => ?_))
      | exact spec_l00Word.mono _ _
      | exact LeO.none _
      | refine LeO.ite ?_ ?_
      | refine LeO.bind ?_ (fun _ => ?_)
noncomputable def spec_NameOK.v (a0 : ByteArray) : Option (Bool) := lim (fun k_ => spec_NameOK.f k_ a0)
theorem spec_NameOK.v_lim (a0 : ByteArray) : LimIs (fun k_ => spec_NameOK.f k_ a0) (spec_NameOK.v a0) := lim_is (fun k_ => spec_NameOK.mono a0 k_)
theorem spec_NameOK.v_eq (a0 : ByteArray) : spec_NameOK.v a0 = ((spec_l00Word.v a0).bind fun t624 => (some t624) : Option (Bool)) := by
  refine LimIs.eq (spec_NameOK.v_lim a0) ?_
  simp only [spec_NameOK.f]
  repeat' (with_reducible first | exact spec_l00Word.v_lim _ | exact LimIs.const _ | refine LimIs.ite ?_ ?_ | refine LimIs.bind ?_ (fun _ => ?_))
def spec_l02Text.f (k : Nat) (a0 : ByteArray) (a1 : Int) : Option (Bool) := (spec_l01In.f (a0.size : Int) 1 a1).bind fun t625 => (if t625 = true then ((spec_NameOK.f k a0).bind fun t626 => (some t626)) else (some false))
theorem spec_l02Text.mono : ∀ a0 a1 k, LeO (spec_l02Text.f k a0 a1) (spec_l02Text.f (k + 1) a0 a1) := by
  intro a0 a1 k
  unfold spec_l02Text.f
  repeat' first
      | (with_reducible exact spec_NameOK.mono _ _)
      | (with_reducible exact LeO.refl _)
      | (with_reducible exact LeO.none _)
      | (with_reducible refine LeO.ite ?_ ?_)
      | (with_reducible refine LeO.bind ?_ (fun _ => ?_))
      | exact spec_NameOK.mono _ _
      | exact LeO.none _
      | refine LeO.ite ?_ ?_
      | refine LeO.bind ?_ (fun _ => ?_)
noncomputable def spec_l02Text.v (a0 : ByteArray) (a1 : Int) : Option (Bool) := lim (fun k_ => spec_l02Text.f k_ a0 a1)
theorem spec_l02Text.v_lim (a0 : ByteArray) (a1 : Int) : LimIs (fun k_ => spec_l02Text.f k_ a0 a1) (spec_l02Text.v a0 a1) := lim_is (fun k_ => spec_l02Text.mono a0 a1 k_)
theorem spec_l02Text.v_eq (a0 : ByteArray) (a1 : Int) : spec_l02Text.v a0 a1 = ((spec_l01In.v (a0.size : Int) 1 a1).bind fun t625 => (if t625 = true then ((spec_NameOK.v a0).bind fun t626 => (some t626)) else (some false)) : Option (Bool)) := by
  refine LimIs.eq (spec_l02Text.v_lim a0 a1) ?_
  simp only [spec_l02Text.f]
  repeat' (with_reducible first | exact spec_NameOK.v_lim _ | exact spec_l01In.v_lim _ _ _ | exact LimIs.const _ | refine LimIs.ite ?_ ?_ | refine LimIs.bind ?_ (fun _ => ?_))
def spec_RequestOK.f (k : Nat) (a0_0 : Int) (a0_1 : Int) (a0_2 : Int) (a0_3 : Int) (a0_4 : ByteArray) : Option (Bool) := (spec_l01In.f a0_0 0 255).bind fun t628 => (if t628 = true then ((spec_l01In.f a0_1 1 65535).bind fun t629 => (if t629 = true then ((spec_l01In.f a0_2 1 4).bind fun t630 => (if t630 = true then ((spec_l01In.f a0_3 0 1000).bind fun t631 => (if t631 = true then ((spec_l02Text.f k a0_4 12).bind fun t632 => (if t632 = true then (if a0_2 = 1 then (some ((decide (a0_3 > 0)) == true)) else (some ((decide (a0_3 > 0)) == (a0_2 == 3)))) else (some false))) else (some false))) else (some false))) else (some false))) else (some false))
theorem spec_RequestOK.mono : ∀ a0 a1 a2 a3 a4 k, LeO (spec_RequestOK.f k a0 a1 a2 a3 a4) (spec_RequestOK.f (k + 1) a0 a1 a2 a3 a4) := by
  intro a0 a1 a2 a3 a4 k
  unfold spec_RequestOK.f
  repeat' first
      | (with_reducible exact spec_l02Text.mono _ _ _)
      | (with_reducible exact LeO.refl _)
      | (with_reducible exact LeO.none _)
      | (with_reducible refine LeO.ite ?_ ?_)
      | (with_reducible refine LeO.bind ?_ (fun _ => ?_))
      | exact spec_l02Text.mono _ _ _
      | exact LeO.none _
      | refine LeO.ite ?_ ?_
      | refine LeO.bind ?_ (fun _ => ?_)
noncomputable def spec_RequestOK.v (a0_0 : Int) (a0_1 : Int) (a0_2 : Int) (a0_3 : Int) (a0_4 : ByteArray) : Option (Bool) := lim (fun k_ => spec_RequestOK.f k_ a0_0 a0_1 a0_2 a0_3 a0_4)
theorem spec_RequestOK.v_lim (a0_0 : Int) (a0_1 : Int) (a0_2 : Int) (a0_3 : Int) (a0_4 : ByteArray) : LimIs (fun k_ => spec_RequestOK.f k_ a0_0 a0_1 a0_2 a0_3 a0_4) (spec_RequestOK.v a0_0 a0_1 a0_2 a0_3 a0_4) := lim_is (fun k_ => spec_RequestOK.mono a0_0 a0_1 a0_2 a0_3 a0_4 k_)
theorem spec_RequestOK.v_eq (a0_0 : Int) (a0_1 : Int) (a0_2 : Int) (a0_3 : Int) (a0_4 : ByteArray) : spec_RequestOK.v a0_0 a0_1 a0_2 a0_3 a0_4 = ((spec_l01In.v a0_0 0 255).bind fun t628 => (if t628 = true then ((spec_l01In.v a0_1 1 65535).bind fun t629 => (if t629 = true then ((spec_l01In.v a0_2 1 4).bind fun t630 => (if t630 = true then ((spec_l01In.v a0_3 0 1000).bind fun t631 => (if t631 = true then ((spec_l02Text.v a0_4 12).bind fun t632 => (if t632 = true then (if a0_2 = 1 then (some ((decide (a0_3 > 0)) == true)) else (some ((decide (a0_3 > 0)) == (a0_2 == 3)))) else (some false))) else (some false))) else (some false))) else (some false))) else (some false)) : Option (Bool)) := by
  refine LimIs.eq (spec_RequestOK.v_lim a0_0 a0_1 a0_2 a0_3 a0_4) ?_
  simp only [spec_RequestOK.f]
  repeat' (with_reducible first | exact spec_l01In.v_lim _ _ _ | exact spec_l02Text.v_lim _ _ | exact LimIs.const _ | refine LimIs.ite ?_ ?_ | refine LimIs.bind ?_ (fun _ => ?_))
def spec_RequestBytes.f (k : Nat) (a0_0 : Int) (a0_1 : Int) (a0_2 : Int) (a0_3 : Int) (a0_4 : ByteArray) : Option (List Int × Int) := (spec_RequestOK.f k a0_0 a0_1 a0_2 a0_3 a0_4).bind fun t634 => (if t634 = true then ((spec_l02Request.f k a0_0 a0_1 a0_2 a0_3 a0_4).bind fun t635 => (some (t635, 0))) else (some ((([] : List Int)), 1)))
theorem spec_RequestBytes.mono : ∀ a0 a1 a2 a3 a4 k, LeO (spec_RequestBytes.f k a0 a1 a2 a3 a4) (spec_RequestBytes.f (k + 1) a0 a1 a2 a3 a4) := by
  intro a0 a1 a2 a3 a4 k
  unfold spec_RequestBytes.f
  repeat' first
      | (with_reducible exact spec_RequestOK.mono _ _ _ _ _ _)
      | (with_reducible exact spec_l02Request.mono _ _ _ _ _ _)
      | (with_reducible exact LeO.refl _)
      | (with_reducible exact LeO.none _)
      | (with_reducible refine LeO.ite ?_ ?_)
      | (with_reducible refine LeO.bind ?_ (fun _ => ?_))
      | exact spec_RequestOK.mono _ _ _ _ _ _
      | exact spec_l02Request.mono _ _ _ _ _ _
      | exact LeO.none _
      | refine LeO.ite ?_ ?_
      | refine LeO.bind ?_ (fun _ => ?_)
noncomputable def spec_RequestBytes.v (a0_0 : Int) (a0_1 : Int) (a0_2 : Int) (a0_3 : Int) (a0_4 : ByteArray) : Option (List Int × Int) := lim (fun k_ => spec_RequestBytes.f k_ a0_0 a0_1 a0_2 a0_3 a0_4)
theorem spec_RequestBytes.v_lim (a0_0 : Int) (a0_1 : Int) (a0_2 : Int) (a0_3 : Int) (a0_4 : ByteArray) : LimIs (fun k_ => spec_RequestBytes.f k_ a0_0 a0_1 a0_2 a0_3 a0_4) (spec_RequestBytes.v a0_0 a0_1 a0_2 a0_3 a0_4) := lim_is (fun k_ => spec_RequestBytes.mono a0_0 a0_1 a0_2 a0_3 a0_4 k_)
theorem spec_RequestBytes.v_eq (a0_0 : Int) (a0_1 : Int) (a0_2 : Int) (a0_3 : Int) (a0_4 : ByteArray) : spec_RequestBytes.v a0_0 a0_1 a0_2 a0_3 a0_4 = ((spec_RequestOK.v a0_0 a0_1 a0_2 a0_3 a0_4).bind fun t634 => (if t634 = true then ((spec_l02Request.v a0_0 a0_1 a0_2 a0_3 a0_4).bind fun t635 => (some (t635, 0))) else (some ((([] : List Int)), 1))) : Option (List Int × Int)) := by
  refine LimIs.eq (spec_RequestBytes.v_lim a0_0 a0_1 a0_2 a0_3 a0_4) ?_
  simp only [spec_RequestBytes.f]
  repeat' (with_reducible first | exact spec_RequestOK.v_lim _ _ _ _ _ | exact spec_l02Request.v_lim _ _ _ _ _ | exact LimIs.const _ | refine LimIs.ite ?_ ?_ | refine LimIs.bind ?_ (fun _ => ?_))
def impl_reader_request.f (k : Nat) (s0_0 : ByteArray) (s0_1 : Bool) : Option (Int × Int × Int × Int × ByteArray × ByteArray × Bool) := (impl_reader_number.f k s0_0 s0_1 1).bind fun bt642 => ((impl_reader_number.f k bt642.2.1 bt642.2.2 2).bind fun bt645 => ((impl_reader_number.f k bt645.2.1 bt645.2.2 1).bind fun bt648 => ((impl_reader_number.f k bt648.2.1 bt648.2.2 2).bind fun bt651 => ((impl_reader_sized.f k bt651.2.1 bt651.2.2 1).bind fun bt654 => (some (bt642.1, bt645.1, bt648.1, bt651.1, bt654.1, bt654.2.1, bt654.2.2))))))
theorem impl_reader_request.mono : ∀ a0 a1 k, LeO (impl_reader_request.f k a0 a1) (impl_reader_request.f (k + 1) a0 a1) := by
  intro a0 a1 k
  unfold impl_reader_request.f
  repeat' first
      | (with_reducible exact impl_reader_number.mono _ _ _ _)
      | (with_reducible exact impl_reader_sized.mono _ _ _ _)
      | (with_reducible exact LeO.refl _)
      | (with_reducible exact LeO.none _)
      | (with_reducible refine LeO.ite ?_ ?_)
      | (with_reducible refine LeO.bind ?_ (fun _ => ?_))
      | exact impl_reader_number.mono _ _ _ _
      | exact impl_reader_sized.mono _ _ _ _
      | exact LeO.none _
      | refine LeO.ite ?_ ?_
      | refine LeO.bind ?_ (fun _ => ?_)
noncomputable def impl_reader_request.v (s0_0 : ByteArray) (s0_1 : Bool) : Option (Int × Int × Int × Int × ByteArray × ByteArray × Bool) := lim (fun k_ => impl_reader_request.f k_ s0_0 s0_1)
theorem impl_reader_request.v_lim (s0_0 : ByteArray) (s0_1 : Bool) : LimIs (fun k_ => impl_reader_request.f k_ s0_0 s0_1) (impl_reader_request.v s0_0 s0_1) := lim_is (fun k_ => impl_reader_request.mono s0_0 s0_1 k_)
theorem impl_reader_request.v_eq (s0_0 : ByteArray) (s0_1 : Bool) : impl_reader_request.v s0_0 s0_1 = ((impl_reader_number.v s0_0 s0_1 1).bind fun bt642 => ((impl_reader_number.v bt642.2.1 bt642.2.2 2).bind fun bt645 => ((impl_reader_number.v bt645.2.1 bt645.2.2 1).bind fun bt648 => ((impl_reader_number.v bt648.2.1 bt648.2.2 2).bind fun bt651 => ((impl_reader_sized.v bt651.2.1 bt651.2.2 1).bind fun bt654 => (some (bt642.1, bt645.1, bt648.1, bt651.1, bt654.1, bt654.2.1, bt654.2.2)))))) : Option (Int × Int × Int × Int × ByteArray × ByteArray × Bool)) := by
  refine LimIs.eq (impl_reader_request.v_lim s0_0 s0_1) ?_
  simp only [impl_reader_request.f]
  repeat' (with_reducible first | exact impl_reader_number.v_lim _ _ _ | exact impl_reader_sized.v_lim _ _ _ | exact LimIs.const _ | refine LimIs.ite ?_ ?_ | refine LimIs.bind ?_ (fun _ => ?_))
def impl_ReadRequest.f (k : Nat) (l0 : List Int) : Option (Int × Int × Int × Int × ByteArray × Int) := if (l0.length : Int) > 65536 then (some (0, 0, 0, 0, (⟨#[]⟩ : ByteArray), 2)) else ((impl_reader_request.f k (strOfNums l0) false).bind fun bt659 => ((impl_reader_done.f bt659.2.2.2.2.2.1 bt659.2.2.2.2.2.2).bind fun bt667 => (if bt667.1 = true then ((impl_RequestOK.f k bt659.1 bt659.2.1 bt659.2.2.1 bt659.2.2.2.1 bt659.2.2.2.2.1).bind fun t670 => (if t670 = true then (some (bt659.1, bt659.2.1, bt659.2.2.1, bt659.2.2.2.1, bt659.2.2.2.2.1, 0)) else (some (0, 0, 0, 0, (⟨#[]⟩ : ByteArray), 3)))) else (some (0, 0, 0, 0, (⟨#[]⟩ : ByteArray), 3)))))
theorem impl_ReadRequest.mono : ∀ a0 k, LeO (impl_ReadRequest.f k a0) (impl_ReadRequest.f (k + 1) a0) := by
  intro a0 k
  unfold impl_ReadRequest.f
  repeat' first
      | (with_reducible exact impl_RequestOK.mono _ _ _ _ _ _)
      | (with_reducible exact impl_reader_request.mono _ _ _)
      | (with_reducible exact LeO.refl _)
      | (with_reducible exact LeO.none _)
      | (with_reducible refine LeO.ite ?_ ?_)
      | (with_reducible refine LeO.bind ?_ (fun _ => ?_))
      | exact impl_RequestOK.mono _ _ _ _ _ _
      | exact impl_reader_request.mono _ _ _
      | exact LeO.none _
      | refine LeO.ite ?_ ?_
      | refine LeO.bind ?_ (fun _ => ?_)
noncomputable def impl_ReadRequest.v (l0 : List Int) : Option (Int × Int × Int × Int × ByteArray × Int) := lim (fun k_ => impl_ReadRequest.f k_ l0)
theorem impl_ReadRequest.v_lim (l0 : List Int) : LimIs (fun k_ => impl_ReadRequest.f k_ l0) (impl_ReadRequest.v l0) := lim_is (fun k_ => impl_ReadRequest.mono l0 k_)
theorem impl_ReadRequest.v_eq (l0 : List Int) : impl_ReadRequest.v l0 = (if (l0.length : Int) > 65536 then (some (0, 0, 0, 0, (⟨#[]⟩ : ByteArray), 2)) else ((impl_reader_request.v (strOfNums l0) false).bind fun bt659 => ((impl_reader_done.v bt659.2.2.2.2.2.1 bt659.2.2.2.2.2.2).bind fun bt667 => (if bt667.1 = true then ((impl_RequestOK.v bt659.1 bt659.2.1 bt659.2.2.1 bt659.2.2.2.1 bt659.2.2.2.2.1).bind fun t670 => (if t670 = true then (some (bt659.1, bt659.2.1, bt659.2.2.1, bt659.2.2.2.1, bt659.2.2.2.2.1, 0)) else (some (0, 0, 0, 0, (⟨#[]⟩ : ByteArray), 3)))) else (some (0, 0, 0, 0, (⟨#[]⟩ : ByteArray), 3))))) : Option (Int × Int × Int × Int × ByteArray × Int)) := by
  refine LimIs.eq (impl_ReadRequest.v_lim l0) ?_
  simp only [impl_ReadRequest.f]
  repeat' (with_reducible first | exact impl_RequestOK.v_lim _ _ _ _ _ | exact impl_reader_done.v_lim _ _ | exact impl_reader_request.v_lim _ _ | exact LimIs.const _ | refine LimIs.ite ?_ ?_ | refine LimIs.bind ?_ (fun _ => ?_))
def spec_BatchOf.f (k : Nat) (l0 : List Int) : Option (Bool × Int × Int × Int × Int × ByteArray × (List (S70))) := (spec_l00Source.f l0).bind fun bt672 => ((spec_l00Src_batch.f k bt672.1 bt672.2.1 bt672.2.2).bind fun bt676 => (some (bt676.1, bt676.2.1, bt676.2.2.1, bt676.2.2.2.1, bt676.2.2.2.2.1, bt676.2.2.2.2.2.1, bt676.2.2.2.2.2.2.1)))
theorem spec_BatchOf.mono : ∀ a0 k, LeO (spec_BatchOf.f k a0) (spec_BatchOf.f (k + 1) a0) := by
  intro a0 k
  unfold spec_BatchOf.f
  repeat' first
      | (with_reducible exact spec_l00Src_batch.mono _ _ _ _)
      | (with_reducible exact LeO.refl _)
      | (with_reducible exact LeO.none _)
      | (with_reducible refine LeO.ite ?_ ?_)
      | (with_reducible refine LeO.bind ?_ (fun _ => ?_))
      | exact spec_l00Src_batch.mono _ _ _ _
      | exact LeO.none _
      | refine LeO.ite ?_ ?_
      | refine LeO.bind ?_ (fun _ => ?_)
noncomputable def spec_BatchOf.v (l0 : List Int) : Option (Bool × Int × Int × Int × Int × ByteArray × (List (S70))) := lim (fun k_ => spec_BatchOf.f k_ l0)
theorem spec_BatchOf.v_lim (l0 : List Int) : LimIs (fun k_ => spec_BatchOf.f k_ l0) (spec_BatchOf.v l0) := lim_is (fun k_ => spec_BatchOf.mono l0 k_)
theorem spec_BatchOf.v_eq (l0 : List Int) : spec_BatchOf.v l0 = ((spec_l00Source.v l0).bind fun bt672 => ((spec_l00Src_batch.v bt672.1 bt672.2.1 bt672.2.2).bind fun bt676 => (some (bt676.1, bt676.2.1, bt676.2.2.1, bt676.2.2.2.1, bt676.2.2.2.2.1, bt676.2.2.2.2.2.1, bt676.2.2.2.2.2.2.1))) : Option (Bool × Int × Int × Int × Int × ByteArray × (List (S70)))) := by
  refine LimIs.eq (spec_BatchOf.v_lim l0) ?_
  simp only [spec_BatchOf.f]
  repeat' (with_reducible first | exact spec_l00Source.v_lim _ | exact spec_l00Src_batch.v_lim _ _ _ | exact LimIs.const _ | refine LimIs.ite ?_ ?_ | refine LimIs.bind ?_ (fun _ => ?_))
def impl_isReading.f (a0_0 : Int) (a0_1 : Int) (a0_2 : ByteArray) : Option (Bool) := (impl_within.f a0_0 0 6).bind fun t688 => (if t688 = true then ((impl_within.f a0_1 0 1000000000).bind fun t689 => (if t689 = true then (some ((a0_2.size : Int) == 8)) else (some false))) else (some false))
def impl_isReading.v (a0_0 : Int) (a0_1 : Int) (a0_2 : ByteArray) : Option (Bool) := impl_isReading.f a0_0 a0_1 a0_2
theorem impl_isReading.v_lim (a0_0 : Int) (a0_1 : Int) (a0_2 : ByteArray) : LimIs (fun _ => impl_isReading.f a0_0 a0_1 a0_2) (impl_isReading.v a0_0 a0_1 a0_2) := LimIs.const _
theorem impl_isReading.v_eq (a0_0 : Int) (a0_1 : Int) (a0_2 : ByteArray) : impl_isReading.v a0_0 a0_1 a0_2 = ((impl_within.v a0_0 0 6).bind fun t688 => (if t688 = true then ((impl_within.v a0_1 0 1000000000).bind fun t689 => (if t689 = true then (some ((a0_2.size : Int) == 8)) else (some false))) else (some false)) : Option (Bool)) := rfl
mutual
def impl_isBatch.j0 : Nat → Bool → Bool → Int → Int → Int → Int → ByteArray → List (S70) → Option (Bool)
  | 0, _, _, _, _, _, _, _, _ => none
  | k + 1, x26, x691000, x691001, x691002, x691003, x691004, x691005, x691006 => if x26 = true then (some false) else (impl_isBatch.l0 k x691006 (x691006.length : Int) 0 x691000 x691001 x691002 x691003 x691004 x691005 x691006)
def impl_isBatch.l0 : Nat → List (S70) → Int → Int → Bool → Int → Int → Int → Int → ByteArray → List (S70) → Option (Bool)
  | 0, _, _, _, _, _, _, _, _, _, _ => none
  | k + 1, x28, x29, x30, x691000, x691001, x691002, x691003, x691004, x691005, x691006 => if x30 < x29 then (if 0 ≤ x30 then (if x30 < (x28.length : Int) then ((impl_isReading.f ((rd_T70 x28 x30).f0) ((rd_T70 x28 x30).f1) ((rd_T70 x28 x30).f2)).bind fun t694 => (if t694 = true then (if x30 > 0 then (if 0 ≤ (wrap64 (x30 - 1)) then (if (wrap64 (x30 - 1)) < (x691006.length : Int) then (if ((rd_T70 x691006 (wrap64 (x30 - 1))).f0) ≥ ((rd_T70 x28 x30).f0) then (some false) else (impl_isBatch.l0 k x28 x29 (wrap64 (x30 + 1)) x691000 x691001 x691002 x691003 x691004 x691005 x691006)) else (none)) else (none)) else (impl_isBatch.l0 k x28 x29 (wrap64 (x30 + 1)) x691000 x691001 x691002 x691003 x691004 x691005 x691006)) else (some false))) else (none)) else (none)) else (some true)
end
def impl_isBatch.f (k : Nat) (a0_0 : Bool) (a0_1 : Int) (a0_2 : Int) (a0_3 : Int) (a0_4 : Int) (a0_5 : ByteArray) (l0_6 : List (S70)) : Option (Bool) := if a0_0 = true then (if (a0_1 == 0 && (a0_2 == 0 && (a0_3 == 0 && (a0_4 == 0 && (a0_5.toList == ([] : List UInt8)))))) = true then (some ((l0_6.length : Int) == 0)) else (some false)) else ((impl_RequestOK.f k a0_1 a0_2 a0_3 a0_4 a0_5).bind fun t691 => (if t691 = true then (impl_isBatch.j0 k (decide ((l0_6.length : Int) > 7)) a0_0 a0_1 a0_2 a0_3 a0_4 a0_5 l0_6) else (impl_isBatch.j0 k true a0_0 a0_1 a0_2 a0_3 a0_4 a0_5 l0_6)))
theorem impl_isBatch.mono_l : ∀ k, (∀ y0 y1 y2 y3 y4 y5 y6 y7, LeO (impl_isBatch.j0 k y0 y1 y2 y3 y4 y5 y6 y7) (impl_isBatch.j0 (k + 1) y0 y1 y2 y3 y4 y5 y6 y7)) ∧ (∀ y0 y1 y2 y3 y4 y5 y6 y7 y8 y9, LeO (impl_isBatch.l0 k y0 y1 y2 y3 y4 y5 y6 y7 y8 y9) (impl_isBatch.l0 (k + 1) y0 y1 y2 y3 y4 y5 y6 y7 y8 y9))
  | 0 => ⟨fun _ _ _ _ _ _ _ _ r h => by simp [impl_isBatch.j0] at h, fun _ _ _ _ _ _ _ _ _ _ r h => by simp [impl_isBatch.l0] at h⟩
  | k + 1 => by
    obtain ⟨ih0, ih1⟩ := impl_isBatch.mono_l k
    refine ⟨?_, ?_⟩
    · intro y0 y1 y2 y3 y4 y5 y6 y7
      unfold impl_isBatch.j0
      repeat' first
      | (with_reducible exact ih0 _ _ _ _ _ _ _ _)
      | (with_reducible exact ih1 _ _ _ _ _ _ _ _ _ _)
      | (with_reducible exact impl_RequestOK.mono _ _ _ _ _ _)
      | (with_reducible exact LeO.refl _)
      | (with_reducible exact LeO.none _)
      | (with_reducible refine LeO.ite ?_ ?_)
      | (with_reducible refine LeO.bind ?_ (fun _ => ?_))
      | exact ih0 _ _ _ _ _ _ _ _
      | exact ih1 _ _ _ _ _ _ _ _ _ _
      | exact impl_RequestOK.mono _ _ _ _ _ _
      | exact LeO.none _
      | refine LeO.ite ?_ ?_
      | refine LeO.bind ?_ (fun _ => ?_)
    · intro y0 y1 y2 y3 y4 y5 y6 y7 y8 y9
      unfold impl_isBatch.l0
      repeat' first
      | (with_reducible exact ih0 _ _ _ _ _ _ _ _)
      | (with_reducible exact ih1 _ _ _ _ _ _ _ _ _ _)
      | (with_reducible exact impl_RequestOK.mono _ _ _ _ _ _)
      | (with_reducible exact LeO.refl _)
      | (with_reducible exact LeO.none _)
      | (with_reducible refine LeO.ite ?_ ?_)
      | (with_reducible refine LeO.bind ?_ (fun _ => ?_))
      | exact ih0 _ _ _ _ _ _ _ _
      | exact ih1 _ _ _ _ _ _ _ _ _ _
      | exact impl_RequestOK.mono _ _ _ _ _ _
      | exact LeO.none _
      | refine LeO.ite ?_ ?_
      | refine LeO.bind ?_ (fun _ => ?_)
theorem impl_isBatch.mono : ∀ a0 a1 a2 a3 a4 a5 a6 k, LeO (impl_isBatch.f k a0 a1 a2 a3 a4 a5 a6) (impl_isBatch.f (k + 1) a0 a1 a2 a3 a4 a5 a6) := by
  intro a0 a1 a2 a3 a4 a5 a6 k
  obtain ⟨ih0, ih1⟩ := impl_isBatch.mono_l k
  unfold impl_isBatch.f
  repeat' first
      | (with_reducible exact ih0 _ _ _ _ _ _ _ _)
      | (with_reducible exact ih1 _ _ _ _ _ _ _ _ _ _)
      | (with_reducible exact impl_RequestOK.mono _ _ _ _ _ _)
      | (with_reducible exact LeO.refl _)
      | (with_reducible exact LeO.none _)
      | (with_reducible refine LeO.ite ?_ ?_)
      | (with_reducible refine LeO.bind ?_ (fun _ => ?_))
      | exact ih0 _ _ _ _ _ _ _ _
      | exact ih1 _ _ _ _ _ _ _ _ _ _
      | exact impl_RequestOK.mono _ _ _ _ _ _
      | exact LeO.none _
      | refine LeO.ite ?_ ?_
      | refine LeO.bind ?_ (fun _ => ?_)
noncomputable def impl_isBatch.jv0 (x26 : Bool) (x691000 : Bool) (x691001 : Int) (x691002 : Int) (x691003 : Int) (x691004 : Int) (x691005 : ByteArray) (x691006 : List (S70)) : Option (Bool) := lim (fun k_ => impl_isBatch.j0 k_ x26 x691000 x691001 x691002 x691003 x691004 x691005 x691006)
noncomputable def impl_isBatch.lv0 (x28 : List (S70)) (x29 : Int) (x30 : Int) (x691000 : Bool) (x691001 : Int) (x691002 : Int) (x691003 : Int) (x691004 : Int) (x691005 : ByteArray) (x691006 : List (S70)) : Option (Bool) := lim (fun k_ => impl_isBatch.l0 k_ x28 x29 x30 x691000 x691001 x691002 x691003 x691004 x691005 x691006)
noncomputable def impl_isBatch.v (a0_0 : Bool) (a0_1 : Int) (a0_2 : Int) (a0_3 : Int) (a0_4 : Int) (a0_5 : ByteArray) (l0_6 : List (S70)) : Option (Bool) := lim (fun k_ => impl_isBatch.f k_ a0_0 a0_1 a0_2 a0_3 a0_4 a0_5 l0_6)
theorem impl_isBatch.jv0_lim (x26 : Bool) (x691000 : Bool) (x691001 : Int) (x691002 : Int) (x691003 : Int) (x691004 : Int) (x691005 : ByteArray) (x691006 : List (S70)) : LimIs (fun k_ => impl_isBatch.j0 k_ x26 x691000 x691001 x691002 x691003 x691004 x691005 x691006) (impl_isBatch.jv0 x26 x691000 x691001 x691002 x691003 x691004 x691005 x691006) := lim_is (fun k_ => (impl_isBatch.mono_l k_).1 x26 x691000 x691001 x691002 x691003 x691004 x691005 x691006)
theorem impl_isBatch.lv0_lim (x28 : List (S70)) (x29 : Int) (x30 : Int) (x691000 : Bool) (x691001 : Int) (x691002 : Int) (x691003 : Int) (x691004 : Int) (x691005 : ByteArray) (x691006 : List (S70)) : LimIs (fun k_ => impl_isBatch.l0 k_ x28 x29 x30 x691000 x691001 x691002 x691003 x691004 x691005 x691006) (impl_isBatch.lv0 x28 x29 x30 x691000 x691001 x691002 x691003 x691004 x691005 x691006) := lim_is (fun k_ => (impl_isBatch.mono_l k_).2 x28 x29 x30 x691000 x691001 x691002 x691003 x691004 x691005 x691006)
theorem impl_isBatch.v_lim (a0_0 : Bool) (a0_1 : Int) (a0_2 : Int) (a0_3 : Int) (a0_4 : Int) (a0_5 : ByteArray) (l0_6 : List (S70)) : LimIs (fun k_ => impl_isBatch.f k_ a0_0 a0_1 a0_2 a0_3 a0_4 a0_5 l0_6) (impl_isBatch.v a0_0 a0_1 a0_2 a0_3 a0_4 a0_5 l0_6) := lim_is (fun k_ => impl_isBatch.mono a0_0 a0_1 a0_2 a0_3 a0_4 a0_5 l0_6 k_)
theorem impl_isBatch.jv0_eq (x26 : Bool) (x691000 : Bool) (x691001 : Int) (x691002 : Int) (x691003 : Int) (x691004 : Int) (x691005 : ByteArray) (x691006 : List (S70)) : impl_isBatch.jv0 x26 x691000 x691001 x691002 x691003 x691004 x691005 x691006 = (if x26 = true then (some false) else (impl_isBatch.lv0 x691006 (x691006.length : Int) 0 x691000 x691001 x691002 x691003 x691004 x691005 x691006) : Option (Bool)) := by
  refine LimIs.eq (impl_isBatch.jv0_lim x26 x691000 x691001 x691002 x691003 x691004 x691005 x691006) ?_
  refine LimIs.step (fun k_ => (impl_isBatch.mono_l k_).1 x26 x691000 x691001 x691002 x691003 x691004 x691005 x691006) ?_
  simp only [impl_isBatch.j0]
  repeat' (with_reducible first | exact impl_isBatch.lv0_lim _ _ _ _ _ _ _ _ _ _ | exact LimIs.const _ | refine LimIs.ite ?_ ?_ | refine LimIs.bind ?_ (fun _ => ?_))
theorem impl_isBatch.lv0_eq (x28 : List (S70)) (x29 : Int) (x30 : Int) (x691000 : Bool) (x691001 : Int) (x691002 : Int) (x691003 : Int) (x691004 : Int) (x691005 : ByteArray) (x691006 : List (S70)) : impl_isBatch.lv0 x28 x29 x30 x691000 x691001 x691002 x691003 x691004 x691005 x691006 = (if x30 < x29 then (if 0 ≤ x30 then (if x30 < (x28.length : Int) then ((impl_isReading.v ((rd_T70 x28 x30).f0) ((rd_T70 x28 x30).f1) ((rd_T70 x28 x30).f2)).bind fun t694 => (if t694 = true then (if x30 > 0 then (if 0 ≤ (wrap64 (x30 - 1)) then (if (wrap64 (x30 - 1)) < (x691006.length : Int) then (if ((rd_T70 x691006 (wrap64 (x30 - 1))).f0) ≥ ((rd_T70 x28 x30).f0) then (some false) else (impl_isBatch.lv0 x28 x29 (wrap64 (x30 + 1)) x691000 x691001 x691002 x691003 x691004 x691005 x691006)) else (none)) else (none)) else (impl_isBatch.lv0 x28 x29 (wrap64 (x30 + 1)) x691000 x691001 x691002 x691003 x691004 x691005 x691006)) else (some false))) else (none)) else (none)) else (some true) : Option (Bool)) := by
  refine LimIs.eq (impl_isBatch.lv0_lim x28 x29 x30 x691000 x691001 x691002 x691003 x691004 x691005 x691006) ?_
  refine LimIs.step (fun k_ => (impl_isBatch.mono_l k_).2 x28 x29 x30 x691000 x691001 x691002 x691003 x691004 x691005 x691006) ?_
  simp only [impl_isBatch.l0]
  repeat' (with_reducible first | exact impl_isBatch.lv0_lim _ _ _ _ _ _ _ _ _ _ | exact impl_isReading.v_lim _ _ _ | exact LimIs.const _ | refine LimIs.ite ?_ ?_ | refine LimIs.bind ?_ (fun _ => ?_))
theorem impl_isBatch.v_eq (a0_0 : Bool) (a0_1 : Int) (a0_2 : Int) (a0_3 : Int) (a0_4 : Int) (a0_5 : ByteArray) (l0_6 : List (S70)) : impl_isBatch.v a0_0 a0_1 a0_2 a0_3 a0_4 a0_5 l0_6 = (if a0_0 = true then (if (a0_1 == 0 && (a0_2 == 0 && (a0_3 == 0 && (a0_4 == 0 && (a0_5.toList == ([] : List UInt8)))))) = true then (some ((l0_6.length : Int) == 0)) else (some false)) else ((impl_RequestOK.v a0_1 a0_2 a0_3 a0_4 a0_5).bind fun t691 => (if t691 = true then (impl_isBatch.jv0 (decide ((l0_6.length : Int) > 7)) a0_0 a0_1 a0_2 a0_3 a0_4 a0_5 l0_6) else (impl_isBatch.jv0 true a0_0 a0_1 a0_2 a0_3 a0_4 a0_5 l0_6))) : Option (Bool)) := by
  refine LimIs.eq (impl_isBatch.v_lim a0_0 a0_1 a0_2 a0_3 a0_4 a0_5 l0_6) ?_
  simp only [impl_isBatch.f]
  repeat' (with_reducible first | exact impl_RequestOK.v_lim _ _ _ _ _ | exact impl_isBatch.jv0_lim _ _ _ _ _ _ _ _ | exact LimIs.const _ | refine LimIs.ite ?_ ?_ | refine LimIs.bind ?_ (fun _ => ?_))
def impl_batchText.l0 : Nat → ByteArray → List (S70) → Int → Int → Bool → Int → Int → Int → Int → ByteArray → List (S70) → Option (ByteArray)
  | 0, _, _, _, _, _, _, _, _, _, _, _ => none
  | k + 1, x3, x14, x15, x16, x697000, x697001, x697002, x697003, x697004, x697005, x697006 => if x16 < x15 then (if 0 ≤ x16 then (if x16 < (x14.length : Int) then ((impl_number.f k ((rd_T70 x14 x16).f0) 1).bind fun t700 => ((impl_number.f k ((rd_T70 x14 x16).f1) 4).bind fun t701 => (if t700.size + t701.size ≤ 9223372036854775807 then (if (t700 ++ t701).size + ((rd_T70 x14 x16).f2).size ≤ 9223372036854775807 then (if x3.size + ((t700 ++ t701) ++ ((rd_T70 x14 x16).f2)).size ≤ 9223372036854775807 then (impl_batchText.l0 k (x3 ++ ((t700 ++ t701) ++ ((rd_T70 x14 x16).f2))) x14 x15 (wrap64 (x16 + 1)) x697000 x697001 x697002 x697003 x697004 x697005 x697006) else (none)) else (none)) else (none)))) else (none)) else (none)) else ((impl_requestText.f k x697001 x697002 x697003 x697004 x697005).bind fun t702 => (if x3.size + t702.size ≤ 9223372036854775807 then (some (x3 ++ t702)) else (none)))
def impl_batchText.f (k : Nat) (a0_0 : Bool) (a0_1 : Int) (a0_2 : Int) (a0_3 : Int) (a0_4 : Int) (a0_5 : ByteArray) (l0_6 : List (S70)) : Option (ByteArray) := if a0_0 = true then (some (⟨#[0]⟩ : ByteArray)) else ((impl_number.f k (wrap64 ((l0_6.length : Int) + 1)) 1).bind fun t697 => (impl_batchText.l0 k t697 l0_6 (l0_6.length : Int) 0 a0_0 a0_1 a0_2 a0_3 a0_4 a0_5 l0_6))
theorem impl_batchText.mono_l : ∀ k, (∀ y0 y1 y2 y3 y4 y5 y6 y7 y8 y9 y10, LeO (impl_batchText.l0 k y0 y1 y2 y3 y4 y5 y6 y7 y8 y9 y10) (impl_batchText.l0 (k + 1) y0 y1 y2 y3 y4 y5 y6 y7 y8 y9 y10))
  | 0 => fun _ _ _ _ _ _ _ _ _ _ _ r h => by simp [impl_batchText.l0] at h
  | k + 1 => by
    have ih0 := impl_batchText.mono_l k
    · intro y0 y1 y2 y3 y4 y5 y6 y7 y8 y9 y10
      unfold impl_batchText.l0
      repeat' first
      | (with_reducible exact ih0 _ _ _ _ _ _ _ _ _ _ _)
      | (with_reducible exact impl_number.mono _ _ _)
      | (with_reducible exact impl_requestText.mono _ _ _ _ _ _)
      | (with_reducible exact LeO.refl _)
      | (with_reducible exact LeO.none _)
      | (with_reducible refine LeO.ite ?_ ?_)
      | (with_reducible refine LeO.bind ?_ (fun _ => ?_))
      | exact ih0 _ _ _ _ _ _ _ _ _ _ _
      | exact impl_number.mono _ _ _
      | exact impl_requestText.mono _ _ _ _ _ _
      | exact LeO.none _
      | refine LeO.ite ?_ ?_
      | refine LeO.bind ?_ (fun _ => ?_)
theorem impl_batchText.mono : ∀ a0 a1 a2 a3 a4 a5 a6 k, LeO (impl_batchText.f k a0 a1 a2 a3 a4 a5 a6) (impl_batchText.f (k + 1) a0 a1 a2 a3 a4 a5 a6) := by
  intro a0 a1 a2 a3 a4 a5 a6 k
  have ih0 := impl_batchText.mono_l k
  unfold impl_batchText.f
  repeat' first
      | (with_reducible exact ih0 _ _ _ _ _ _ _ _ _ _ _)
      | (with_reducible exact impl_number.mono _ _ _)
      | (with_reducible exact impl_requestText.mono _ _ _ _ _ _)
      | (with_reducible exact LeO.refl _)
      | (with_reducible exact LeO.none _)
      | (with_reducible refine LeO.ite ?_ ?_)
      | (with_reducible refine LeO.bind ?_ (fun _ => ?_))
      | exact ih0 _ _ _ _ _ _ _ _ _ _ _
      | exact impl_number.mono _ _ _
      | exact impl_requestText.mono _ _ _ _ _ _
      | exact LeO.none _
      | refine LeO.ite ?_ ?_
      | refine LeO.bind ?_ (fun _ => ?_)
noncomputable def impl_batchText.lv0 (x3 : ByteArray) (x14 : List (S70)) (x15 : Int) (x16 : Int) (x697000 : Bool) (x697001 : Int) (x697002 : Int) (x697003 : Int) (x697004 : Int) (x697005 : ByteArray) (x697006 : List (S70)) : Option (ByteArray) := lim (fun k_ => impl_batchText.l0 k_ x3 x14 x15 x16 x697000 x697001 x697002 x697003 x697004 x697005 x697006)
noncomputable def impl_batchText.v (a0_0 : Bool) (a0_1 : Int) (a0_2 : Int) (a0_3 : Int) (a0_4 : Int) (a0_5 : ByteArray) (l0_6 : List (S70)) : Option (ByteArray) := lim (fun k_ => impl_batchText.f k_ a0_0 a0_1 a0_2 a0_3 a0_4 a0_5 l0_6)
theorem impl_batchText.lv0_lim (x3 : ByteArray) (x14 : List (S70)) (x15 : Int) (x16 : Int) (x697000 : Bool) (x697001 : Int) (x697002 : Int) (x697003 : Int) (x697004 : Int) (x697005 : ByteArray) (x697006 : List (S70)) : LimIs (fun k_ => impl_batchText.l0 k_ x3 x14 x15 x16 x697000 x697001 x697002 x697003 x697004 x697005 x697006) (impl_batchText.lv0 x3 x14 x15 x16 x697000 x697001 x697002 x697003 x697004 x697005 x697006) := lim_is (fun k_ => (impl_batchText.mono_l k_) x3 x14 x15 x16 x697000 x697001 x697002 x697003 x697004 x697005 x697006)
theorem impl_batchText.v_lim (a0_0 : Bool) (a0_1 : Int) (a0_2 : Int) (a0_3 : Int) (a0_4 : Int) (a0_5 : ByteArray) (l0_6 : List (S70)) : LimIs (fun k_ => impl_batchText.f k_ a0_0 a0_1 a0_2 a0_3 a0_4 a0_5 l0_6) (impl_batchText.v a0_0 a0_1 a0_2 a0_3 a0_4 a0_5 l0_6) := lim_is (fun k_ => impl_batchText.mono a0_0 a0_1 a0_2 a0_3 a0_4 a0_5 l0_6 k_)
theorem impl_batchText.lv0_eq (x3 : ByteArray) (x14 : List (S70)) (x15 : Int) (x16 : Int) (x697000 : Bool) (x697001 : Int) (x697002 : Int) (x697003 : Int) (x697004 : Int) (x697005 : ByteArray) (x697006 : List (S70)) : impl_batchText.lv0 x3 x14 x15 x16 x697000 x697001 x697002 x697003 x697004 x697005 x697006 = (if x16 < x15 then (if 0 ≤ x16 then (if x16 < (x14.length : Int) then ((impl_number.v ((rd_T70 x14 x16).f0) 1).bind fun t700 => ((impl_number.v ((rd_T70 x14 x16).f1) 4).bind fun t701 => (if t700.size + t701.size ≤ 9223372036854775807 then (if (t700 ++ t701).size + ((rd_T70 x14 x16).f2).size ≤ 9223372036854775807 then (if x3.size + ((t700 ++ t701) ++ ((rd_T70 x14 x16).f2)).size ≤ 9223372036854775807 then (impl_batchText.lv0 (x3 ++ ((t700 ++ t701) ++ ((rd_T70 x14 x16).f2))) x14 x15 (wrap64 (x16 + 1)) x697000 x697001 x697002 x697003 x697004 x697005 x697006) else (none)) else (none)) else (none)))) else (none)) else (none)) else ((impl_requestText.v x697001 x697002 x697003 x697004 x697005).bind fun t702 => (if x3.size + t702.size ≤ 9223372036854775807 then (some (x3 ++ t702)) else (none))) : Option (ByteArray)) := by
  refine LimIs.eq (impl_batchText.lv0_lim x3 x14 x15 x16 x697000 x697001 x697002 x697003 x697004 x697005 x697006) ?_
  refine LimIs.step (fun k_ => (impl_batchText.mono_l k_) x3 x14 x15 x16 x697000 x697001 x697002 x697003 x697004 x697005 x697006) ?_
  simp only [impl_batchText.l0]
  repeat' (with_reducible first | exact impl_batchText.lv0_lim _ _ _ _ _ _ _ _ _ _ _ | exact impl_number.v_lim _ _ | exact impl_requestText.v_lim _ _ _ _ _ | exact LimIs.const _ | refine LimIs.ite ?_ ?_ | refine LimIs.bind ?_ (fun _ => ?_))
theorem impl_batchText.v_eq (a0_0 : Bool) (a0_1 : Int) (a0_2 : Int) (a0_3 : Int) (a0_4 : Int) (a0_5 : ByteArray) (l0_6 : List (S70)) : impl_batchText.v a0_0 a0_1 a0_2 a0_3 a0_4 a0_5 l0_6 = (if a0_0 = true then (some (⟨#[0]⟩ : ByteArray)) else ((impl_number.v (wrap64 ((l0_6.length : Int) + 1)) 1).bind fun t697 => (impl_batchText.lv0 t697 l0_6 (l0_6.length : Int) 0 a0_0 a0_1 a0_2 a0_3 a0_4 a0_5 l0_6)) : Option (ByteArray)) := by
  refine LimIs.eq (impl_batchText.v_lim a0_0 a0_1 a0_2 a0_3 a0_4 a0_5 l0_6) ?_
  simp only [impl_batchText.f]
  repeat' (with_reducible first | exact impl_batchText.lv0_lim _ _ _ _ _ _ _ _ _ _ _ | exact impl_number.v_lim _ _ | exact LimIs.const _ | refine LimIs.ite ?_ ?_ | refine LimIs.bind ?_ (fun _ => ?_))
def impl_BatchBytes.f (k : Nat) (a0_0 : Bool) (a0_1 : Int) (a0_2 : Int) (a0_3 : Int) (a0_4 : Int) (a0_5 : ByteArray) (l0_6 : List (S70)) : Option (List Int × Int) := (impl_isBatch.f k a0_0 a0_1 a0_2 a0_3 a0_4 a0_5 l0_6).bind fun t704 => (if t704 = true then ((impl_batchText.f k a0_0 a0_1 a0_2 a0_3 a0_4 a0_5 l0_6).bind fun t705 => (if t705.size ≤ 140737488355328 then (some ((bytesOf t705), 0)) else (none))) else (some (([] : List Int), 1)))
theorem impl_BatchBytes.mono : ∀ a0 a1 a2 a3 a4 a5 a6 k, LeO (impl_BatchBytes.f k a0 a1 a2 a3 a4 a5 a6) (impl_BatchBytes.f (k + 1) a0 a1 a2 a3 a4 a5 a6) := by
  intro a0 a1 a2 a3 a4 a5 a6 k
  unfold impl_BatchBytes.f
  repeat' first
      | (with_reducible exact impl_batchText.mono _ _ _ _ _ _ _ _)
      | (with_reducible exact impl_isBatch.mono _ _ _ _ _ _ _ _)
      | (with_reducible exact LeO.refl _)
      | (with_reducible exact LeO.none _)
      | (with_reducible refine LeO.ite ?_ ?_)
      | (with_reducible refine LeO.bind ?_ (fun _ => ?_))
      | exact impl_batchText.mono _ _ _ _ _ _ _ _
      | exact impl_isBatch.mono _ _ _ _ _ _ _ _
      | exact LeO.none _
      | refine LeO.ite ?_ ?_
      | refine LeO.bind ?_ (fun _ => ?_)
noncomputable def impl_BatchBytes.v (a0_0 : Bool) (a0_1 : Int) (a0_2 : Int) (a0_3 : Int) (a0_4 : Int) (a0_5 : ByteArray) (l0_6 : List (S70)) : Option (List Int × Int) := lim (fun k_ => impl_BatchBytes.f k_ a0_0 a0_1 a0_2 a0_3 a0_4 a0_5 l0_6)
theorem impl_BatchBytes.v_lim (a0_0 : Bool) (a0_1 : Int) (a0_2 : Int) (a0_3 : Int) (a0_4 : Int) (a0_5 : ByteArray) (l0_6 : List (S70)) : LimIs (fun k_ => impl_BatchBytes.f k_ a0_0 a0_1 a0_2 a0_3 a0_4 a0_5 l0_6) (impl_BatchBytes.v a0_0 a0_1 a0_2 a0_3 a0_4 a0_5 l0_6) := lim_is (fun k_ => impl_BatchBytes.mono a0_0 a0_1 a0_2 a0_3 a0_4 a0_5 l0_6 k_)
theorem impl_BatchBytes.v_eq (a0_0 : Bool) (a0_1 : Int) (a0_2 : Int) (a0_3 : Int) (a0_4 : Int) (a0_5 : ByteArray) (l0_6 : List (S70)) : impl_BatchBytes.v a0_0 a0_1 a0_2 a0_3 a0_4 a0_5 l0_6 = ((impl_isBatch.v a0_0 a0_1 a0_2 a0_3 a0_4 a0_5 l0_6).bind fun t704 => (if t704 = true then ((impl_batchText.v a0_0 a0_1 a0_2 a0_3 a0_4 a0_5 l0_6).bind fun t705 => (if t705.size ≤ 140737488355328 then (some ((bytesOf t705), 0)) else (none))) else (some (([] : List Int), 1))) : Option (List Int × Int)) := by
  refine LimIs.eq (impl_BatchBytes.v_lim a0_0 a0_1 a0_2 a0_3 a0_4 a0_5 l0_6) ?_
  simp only [impl_BatchBytes.f]
  repeat' (with_reducible first | exact impl_batchText.v_lim _ _ _ _ _ _ _ | exact impl_isBatch.v_lim _ _ _ _ _ _ _ | exact LimIs.const _ | refine LimIs.ite ?_ ?_ | refine LimIs.bind ?_ (fun _ => ?_))
def spec_l02Reading.f (a0_0 : Int) (a0_1 : Int) (a0_2 : ByteArray) : Option (Bool) := (spec_l01In.f a0_0 0 6).bind fun t710 => (if t710 = true then ((spec_l01In.f a0_1 0 1000000000).bind fun t711 => (if t711 = true then (some ((a0_2.size : Int) == 8)) else (some false))) else (some false))
def spec_l02Reading.v (a0_0 : Int) (a0_1 : Int) (a0_2 : ByteArray) : Option (Bool) := spec_l02Reading.f a0_0 a0_1 a0_2
theorem spec_l02Reading.v_lim (a0_0 : Int) (a0_1 : Int) (a0_2 : ByteArray) : LimIs (fun _ => spec_l02Reading.f a0_0 a0_1 a0_2) (spec_l02Reading.v a0_0 a0_1 a0_2) := LimIs.const _
theorem spec_l02Reading.v_eq (a0_0 : Int) (a0_1 : Int) (a0_2 : ByteArray) : spec_l02Reading.v a0_0 a0_1 a0_2 = ((spec_l01In.v a0_0 0 6).bind fun t710 => (if t710 = true then ((spec_l01In.v a0_1 0 1000000000).bind fun t711 => (if t711 = true then (some ((a0_2.size : Int) == 8)) else (some false))) else (some false)) : Option (Bool)) := rfl
mutual
def spec_l02BatchOK.j0 : Nat → Bool → Bool → Int → Int → Int → Int → ByteArray → List (S70) → Option (Bool)
  | 0, _, _, _, _, _, _, _, _ => none
  | k + 1, x25, x713000, x713001, x713002, x713003, x713004, x713005, x713006 => if x25 = true then (some false) else (spec_l02BatchOK.l0 k 0 x713000 x713001 x713002 x713003 x713004 x713005 x713006)
def spec_l02BatchOK.l0 : Nat → Int → Bool → Int → Int → Int → Int → ByteArray → List (S70) → Option (Bool)
  | 0, _, _, _, _, _, _, _, _ => none
  | k + 1, x3, x713000, x713001, x713002, x713003, x713004, x713005, x713006 => if x3 < (x713006.length : Int) then (if 0 ≤ x3 then ((spec_l02Reading.f ((rd_T70 x713006 x3).f0) ((rd_T70 x713006 x3).f1) ((rd_T70 x713006 x3).f2)).bind fun t715 => (if t715 = true then (if x3 > 0 then (if 0 ≤ (wrap64 (x3 - 1)) then (if (wrap64 (x3 - 1)) < (x713006.length : Int) then (if ((rd_T70 x713006 (wrap64 (x3 - 1))).f0) ≥ ((rd_T70 x713006 x3).f0) then (some false) else (spec_l02BatchOK.l0 k (wrap64 (x3 + 1)) x713000 x713001 x713002 x713003 x713004 x713005 x713006)) else (none)) else (none)) else (spec_l02BatchOK.l0 k (wrap64 (x3 + 1)) x713000 x713001 x713002 x713003 x713004 x713005 x713006)) else (some false))) else (none)) else (some true)
end
def spec_l02BatchOK.f (k : Nat) (a0_0 : Bool) (a0_1 : Int) (a0_2 : Int) (a0_3 : Int) (a0_4 : Int) (a0_5 : ByteArray) (l0_6 : List (S70)) : Option (Bool) := if a0_0 = true then (if (a0_1 == 0 && (a0_2 == 0 && (a0_3 == 0 && (a0_4 == 0 && (a0_5.toList == ([] : List UInt8)))))) = true then (some ((l0_6.length : Int) == 0)) else (some false)) else ((spec_RequestOK.f k a0_1 a0_2 a0_3 a0_4 a0_5).bind fun t713 => (if t713 = true then (spec_l02BatchOK.j0 k (decide ((l0_6.length : Int) > 7)) a0_0 a0_1 a0_2 a0_3 a0_4 a0_5 l0_6) else (spec_l02BatchOK.j0 k true a0_0 a0_1 a0_2 a0_3 a0_4 a0_5 l0_6)))
theorem spec_l02BatchOK.mono_l : ∀ k, (∀ y0 y1 y2 y3 y4 y5 y6 y7, LeO (spec_l02BatchOK.j0 k y0 y1 y2 y3 y4 y5 y6 y7) (spec_l02BatchOK.j0 (k + 1) y0 y1 y2 y3 y4 y5 y6 y7)) ∧ (∀ y0 y1 y2 y3 y4 y5 y6 y7, LeO (spec_l02BatchOK.l0 k y0 y1 y2 y3 y4 y5 y6 y7) (spec_l02BatchOK.l0 (k + 1) y0 y1 y2 y3 y4 y5 y6 y7))
  | 0 => ⟨fun _ _ _ _ _ _ _ _ r h => by simp [spec_l02BatchOK.j0] at h, fun _ _ _ _ _ _ _ _ r h => by simp [spec_l02BatchOK.l0] at h⟩
  | k + 1 => by
    obtain ⟨ih0, ih1⟩ := spec_l02BatchOK.mono_l k
    refine ⟨?_, ?_⟩
    · intro y0 y1 y2 y3 y4 y5 y6 y7
      unfold spec_l02BatchOK.j0
      repeat' first
      | (with_reducible exact ih0 _ _ _ _ _ _ _ _)
      | (with_reducible exact ih1 _ _ _ _ _ _ _ _)
      | (with_reducible exact spec_RequestOK.mono _ _ _ _ _ _)
      | (with_reducible exact LeO.refl _)
      | (with_reducible exact LeO.none _)
      | (with_reducible refine LeO.ite ?_ ?_)
      | (with_reducible refine LeO.bind ?_ (fun _ => ?_))
      | exact ih0 _ _ _ _ _ _ _ _
      | exact ih1 _ _ _ _ _ _ _ _
      | exact spec_RequestOK.mono _ _ _ _ _ _
      | exact LeO.none _
      | refine LeO.ite ?_ ?_
      | refine LeO.bind ?_ (fun _ => ?_)
    · intro y0 y1 y2 y3 y4 y5 y6 y7
      unfold spec_l02BatchOK.l0
      repeat' first
      | (with_reducible exact ih0 _ _ _ _ _ _ _ _)
      | (with_reducible exact ih1 _ _ _ _ _ _ _ _)
      | (with_reducible exact spec_RequestOK.mono _ _ _ _ _ _)
      | (with_reducible exact LeO.refl _)
      | (with_reducible exact LeO.none _)
      | (with_reducible refine LeO.ite ?_ ?_)
      | (with_reducible refine LeO.bind ?_ (fun _ => ?_))
      | exact ih0 _ _ _ _ _ _ _ _
      | exact ih1 _ _ _ _ _ _ _ _
      | exact spec_RequestOK.mono _ _ _ _ _ _
      | exact LeO.none _
      | refine LeO.ite ?_ ?_
      | refine LeO.bind ?_ (fun _ => ?_)
theorem spec_l02BatchOK.mono : ∀ a0 a1 a2 a3 a4 a5 a6 k, LeO (spec_l02BatchOK.f k a0 a1 a2 a3 a4 a5 a6) (spec_l02BatchOK.f (k + 1) a0 a1 a2 a3 a4 a5 a6) := by
  intro a0 a1 a2 a3 a4 a5 a6 k
  obtain ⟨ih0, ih1⟩ := spec_l02BatchOK.mono_l k
  unfold spec_l02BatchOK.f
  repeat' first
      | (with_reducible exact ih0 _ _ _ _ _ _ _ _)
      | (with_reducible exact ih1 _ _ _ _ _ _ _ _)
      | (with_reducible exact spec_RequestOK.mono _ _ _ _ _ _)
      | (with_reducible exact LeO.refl _)
      | (with_reducible exact LeO.none _)
      | (with_reducible refine LeO.ite ?_ ?_)
      | (with_reducible refine LeO.bind ?_ (fun _ => ?_))
      | exact ih0 _ _ _ _ _ _ _ _
      | exact ih1 _ _ _ _ _ _ _ _
      | exact spec_RequestOK.mono _ _ _ _ _ _
      | exact LeO.none _
      | refine LeO.ite ?_ ?_
      | refine LeO.bind ?_ (fun _ => ?_)
noncomputable def spec_l02BatchOK.jv0 (x25 : Bool) (x713000 : Bool) (x713001 : Int) (x713002 : Int) (x713003 : Int) (x713004 : Int) (x713005 : ByteArray) (x713006 : List (S70)) : Option (Bool) := lim (fun k_ => spec_l02BatchOK.j0 k_ x25 x713000 x713001 x713002 x713003 x713004 x713005 x713006)
noncomputable def spec_l02BatchOK.lv0 (x3 : Int) (x713000 : Bool) (x713001 : Int) (x713002 : Int) (x713003 : Int) (x713004 : Int) (x713005 : ByteArray) (x713006 : List (S70)) : Option (Bool) := lim (fun k_ => spec_l02BatchOK.l0 k_ x3 x713000 x713001 x713002 x713003 x713004 x713005 x713006)
noncomputable def spec_l02BatchOK.v (a0_0 : Bool) (a0_1 : Int) (a0_2 : Int) (a0_3 : Int) (a0_4 : Int) (a0_5 : ByteArray) (l0_6 : List (S70)) : Option (Bool) := lim (fun k_ => spec_l02BatchOK.f k_ a0_0 a0_1 a0_2 a0_3 a0_4 a0_5 l0_6)
theorem spec_l02BatchOK.jv0_lim (x25 : Bool) (x713000 : Bool) (x713001 : Int) (x713002 : Int) (x713003 : Int) (x713004 : Int) (x713005 : ByteArray) (x713006 : List (S70)) : LimIs (fun k_ => spec_l02BatchOK.j0 k_ x25 x713000 x713001 x713002 x713003 x713004 x713005 x713006) (spec_l02BatchOK.jv0 x25 x713000 x713001 x713002 x713003 x713004 x713005 x713006) := lim_is (fun k_ => (spec_l02BatchOK.mono_l k_).1 x25 x713000 x713001 x713002 x713003 x713004 x713005 x713006)
theorem spec_l02BatchOK.lv0_lim (x3 : Int) (x713000 : Bool) (x713001 : Int) (x713002 : Int) (x713003 : Int) (x713004 : Int) (x713005 : ByteArray) (x713006 : List (S70)) : LimIs (fun k_ => spec_l02BatchOK.l0 k_ x3 x713000 x713001 x713002 x713003 x713004 x713005 x713006) (spec_l02BatchOK.lv0 x3 x713000 x713001 x713002 x713003 x713004 x713005 x713006) := lim_is (fun k_ => (spec_l02BatchOK.mono_l k_).2 x3 x713000 x713001 x713002 x713003 x713004 x713005 x713006)
theorem spec_l02BatchOK.v_lim (a0_0 : Bool) (a0_1 : Int) (a0_2 : Int) (a0_3 : Int) (a0_4 : Int) (a0_5 : ByteArray) (l0_6 : List (S70)) : LimIs (fun k_ => spec_l02BatchOK.f k_ a0_0 a0_1 a0_2 a0_3 a0_4 a0_5 l0_6) (spec_l02BatchOK.v a0_0 a0_1 a0_2 a0_3 a0_4 a0_5 l0_6) := lim_is (fun k_ => spec_l02BatchOK.mono a0_0 a0_1 a0_2 a0_3 a0_4 a0_5 l0_6 k_)
theorem spec_l02BatchOK.jv0_eq (x25 : Bool) (x713000 : Bool) (x713001 : Int) (x713002 : Int) (x713003 : Int) (x713004 : Int) (x713005 : ByteArray) (x713006 : List (S70)) : spec_l02BatchOK.jv0 x25 x713000 x713001 x713002 x713003 x713004 x713005 x713006 = (if x25 = true then (some false) else (spec_l02BatchOK.lv0 0 x713000 x713001 x713002 x713003 x713004 x713005 x713006) : Option (Bool)) := by
  refine LimIs.eq (spec_l02BatchOK.jv0_lim x25 x713000 x713001 x713002 x713003 x713004 x713005 x713006) ?_
  refine LimIs.step (fun k_ => (spec_l02BatchOK.mono_l k_).1 x25 x713000 x713001 x713002 x713003 x713004 x713005 x713006) ?_
  simp only [spec_l02BatchOK.j0]
  repeat' (with_reducible first | exact spec_l02BatchOK.lv0_lim _ _ _ _ _ _ _ _ | exact LimIs.const _ | refine LimIs.ite ?_ ?_ | refine LimIs.bind ?_ (fun _ => ?_))
theorem spec_l02BatchOK.lv0_eq (x3 : Int) (x713000 : Bool) (x713001 : Int) (x713002 : Int) (x713003 : Int) (x713004 : Int) (x713005 : ByteArray) (x713006 : List (S70)) : spec_l02BatchOK.lv0 x3 x713000 x713001 x713002 x713003 x713004 x713005 x713006 = (if x3 < (x713006.length : Int) then (if 0 ≤ x3 then ((spec_l02Reading.v ((rd_T70 x713006 x3).f0) ((rd_T70 x713006 x3).f1) ((rd_T70 x713006 x3).f2)).bind fun t715 => (if t715 = true then (if x3 > 0 then (if 0 ≤ (wrap64 (x3 - 1)) then (if (wrap64 (x3 - 1)) < (x713006.length : Int) then (if ((rd_T70 x713006 (wrap64 (x3 - 1))).f0) ≥ ((rd_T70 x713006 x3).f0) then (some false) else (spec_l02BatchOK.lv0 (wrap64 (x3 + 1)) x713000 x713001 x713002 x713003 x713004 x713005 x713006)) else (none)) else (none)) else (spec_l02BatchOK.lv0 (wrap64 (x3 + 1)) x713000 x713001 x713002 x713003 x713004 x713005 x713006)) else (some false))) else (none)) else (some true) : Option (Bool)) := by
  refine LimIs.eq (spec_l02BatchOK.lv0_lim x3 x713000 x713001 x713002 x713003 x713004 x713005 x713006) ?_
  refine LimIs.step (fun k_ => (spec_l02BatchOK.mono_l k_).2 x3 x713000 x713001 x713002 x713003 x713004 x713005 x713006) ?_
  simp only [spec_l02BatchOK.l0]
  repeat' (with_reducible first | exact spec_l02BatchOK.lv0_lim _ _ _ _ _ _ _ _ | exact spec_l02Reading.v_lim _ _ _ | exact LimIs.const _ | refine LimIs.ite ?_ ?_ | refine LimIs.bind ?_ (fun _ => ?_))
theorem spec_l02BatchOK.v_eq (a0_0 : Bool) (a0_1 : Int) (a0_2 : Int) (a0_3 : Int) (a0_4 : Int) (a0_5 : ByteArray) (l0_6 : List (S70)) : spec_l02BatchOK.v a0_0 a0_1 a0_2 a0_3 a0_4 a0_5 l0_6 = (if a0_0 = true then (if (a0_1 == 0 && (a0_2 == 0 && (a0_3 == 0 && (a0_4 == 0 && (a0_5.toList == ([] : List UInt8)))))) = true then (some ((l0_6.length : Int) == 0)) else (some false)) else ((spec_RequestOK.v a0_1 a0_2 a0_3 a0_4 a0_5).bind fun t713 => (if t713 = true then (spec_l02BatchOK.jv0 (decide ((l0_6.length : Int) > 7)) a0_0 a0_1 a0_2 a0_3 a0_4 a0_5 l0_6) else (spec_l02BatchOK.jv0 true a0_0 a0_1 a0_2 a0_3 a0_4 a0_5 l0_6))) : Option (Bool)) := by
  refine LimIs.eq (spec_l02BatchOK.v_lim a0_0 a0_1 a0_2 a0_3 a0_4 a0_5 l0_6) ?_
  simp only [spec_l02BatchOK.f]
  repeat' (with_reducible first | exact spec_RequestOK.v_lim _ _ _ _ _ | exact spec_l02BatchOK.jv0_lim _ _ _ _ _ _ _ _ | exact LimIs.const _ | refine LimIs.ite ?_ ?_ | refine LimIs.bind ?_ (fun _ => ?_))
def spec_BatchBytes.f (k : Nat) (a0_0 : Bool) (a0_1 : Int) (a0_2 : Int) (a0_3 : Int) (a0_4 : Int) (a0_5 : ByteArray) (l0_6 : List (S70)) : Option (List Int × Int) := (spec_l02BatchOK.f k a0_0 a0_1 a0_2 a0_3 a0_4 a0_5 l0_6).bind fun t719 => (if t719 = true then ((spec_l02Batch.f k a0_0 a0_1 a0_2 a0_3 a0_4 a0_5 l0_6).bind fun t720 => (some (t720, 0))) else (some ((([] : List Int)), 1)))
theorem spec_BatchBytes.mono : ∀ a0 a1 a2 a3 a4 a5 a6 k, LeO (spec_BatchBytes.f k a0 a1 a2 a3 a4 a5 a6) (spec_BatchBytes.f (k + 1) a0 a1 a2 a3 a4 a5 a6) := by
  intro a0 a1 a2 a3 a4 a5 a6 k
  unfold spec_BatchBytes.f
  repeat' first
      | (with_reducible exact spec_l02Batch.mono _ _ _ _ _ _ _ _)
      | (with_reducible exact spec_l02BatchOK.mono _ _ _ _ _ _ _ _)
      | (with_reducible exact LeO.refl _)
      | (with_reducible exact LeO.none _)
      | (with_reducible refine LeO.ite ?_ ?_)
      | (with_reducible refine LeO.bind ?_ (fun _ => ?_))
      | exact spec_l02Batch.mono _ _ _ _ _ _ _ _
      | exact spec_l02BatchOK.mono _ _ _ _ _ _ _ _
      | exact LeO.none _
      | refine LeO.ite ?_ ?_
      | refine LeO.bind ?_ (fun _ => ?_)
noncomputable def spec_BatchBytes.v (a0_0 : Bool) (a0_1 : Int) (a0_2 : Int) (a0_3 : Int) (a0_4 : Int) (a0_5 : ByteArray) (l0_6 : List (S70)) : Option (List Int × Int) := lim (fun k_ => spec_BatchBytes.f k_ a0_0 a0_1 a0_2 a0_3 a0_4 a0_5 l0_6)
theorem spec_BatchBytes.v_lim (a0_0 : Bool) (a0_1 : Int) (a0_2 : Int) (a0_3 : Int) (a0_4 : Int) (a0_5 : ByteArray) (l0_6 : List (S70)) : LimIs (fun k_ => spec_BatchBytes.f k_ a0_0 a0_1 a0_2 a0_3 a0_4 a0_5 l0_6) (spec_BatchBytes.v a0_0 a0_1 a0_2 a0_3 a0_4 a0_5 l0_6) := lim_is (fun k_ => spec_BatchBytes.mono a0_0 a0_1 a0_2 a0_3 a0_4 a0_5 l0_6 k_)
theorem spec_BatchBytes.v_eq (a0_0 : Bool) (a0_1 : Int) (a0_2 : Int) (a0_3 : Int) (a0_4 : Int) (a0_5 : ByteArray) (l0_6 : List (S70)) : spec_BatchBytes.v a0_0 a0_1 a0_2 a0_3 a0_4 a0_5 l0_6 = ((spec_l02BatchOK.v a0_0 a0_1 a0_2 a0_3 a0_4 a0_5 l0_6).bind fun t719 => (if t719 = true then ((spec_l02Batch.v a0_0 a0_1 a0_2 a0_3 a0_4 a0_5 l0_6).bind fun t720 => (some (t720, 0))) else (some ((([] : List Int)), 1))) : Option (List Int × Int)) := by
  refine LimIs.eq (spec_BatchBytes.v_lim a0_0 a0_1 a0_2 a0_3 a0_4 a0_5 l0_6) ?_
  simp only [spec_BatchBytes.f]
  repeat' (with_reducible first | exact spec_l02Batch.v_lim _ _ _ _ _ _ _ | exact spec_l02BatchOK.v_lim _ _ _ _ _ _ _ | exact LimIs.const _ | refine LimIs.ite ?_ ?_ | refine LimIs.bind ?_ (fun _ => ?_))
def impl_readBatch.l0 : Nat → Int → Int → Int → ByteArray → Bool → Bool → Int → Int → Int → Int → ByteArray → List (S70) → Option (Bool × Int × Int × Int × Int × ByteArray × (List (S70)) × Bool)
  | 0, _, _, _, _, _, _, _, _, _, _, _, _ => none
  | k + 1, x5, x20, x21, x728000, x728001, x732000, x732001, x732002, x732003, x732004, x732005, x732006 => if x21 < x20 then ((impl_reader_number.f k x728000 x728001 1).bind fun bt732 => ((impl_reader_number.f k bt732.2.1 bt732.2.2 4).bind fun bt735 => ((impl_reader_take.f bt735.2.1 bt735.2.2 8).bind fun bt738 => (if x732006.length < 4398046511104 then (impl_readBatch.l0 k x5 x20 (wrap64 (x21 + 1)) bt738.2.1 bt738.2.2 x732000 x732001 x732002 x732003 x732004 x732005 (x732006 ++ [(⟨bt732.1, bt735.1, bt738.1⟩ : S70)])) else (none))))) else ((impl_reader_request.f k x728000 x728001).bind fun bt744 => (if x5 < 0 then (some (false, 0, 0, 0, 0, (⟨#[]⟩ : ByteArray), ([] : List (S70)), false)) else ((impl_reader_done.f bt744.2.2.2.2.2.1 bt744.2.2.2.2.2.2).bind fun bt751 => (if bt751.1 = true then ((impl_isBatch.f k x732000 bt744.1 bt744.2.1 bt744.2.2.1 bt744.2.2.2.1 bt744.2.2.2.2.1 x732006).bind fun t754 => (if t754 = true then (some (x732000, bt744.1, bt744.2.1, bt744.2.2.1, bt744.2.2.2.1, bt744.2.2.2.2.1, x732006, true)) else (some (false, 0, 0, 0, 0, (⟨#[]⟩ : ByteArray), ([] : List (S70)), false)))) else (some (false, 0, 0, 0, 0, (⟨#[]⟩ : ByteArray), ([] : List (S70)), false))))))
def impl_readBatch.f (k : Nat) (a0 : ByteArray) : Option (Bool × Int × Int × Int × Int × ByteArray × (List (S70)) × Bool) := if a0.toList = ([0] : List UInt8) then (some (true, 0, 0, 0, 0, (⟨#[]⟩ : ByteArray), ([] : List (S70)), true)) else ((impl_reader_number.f k a0 false 1).bind fun bt728 => (if (wrap64 (bt728.1 - 1)) > 7 then (some (false, 0, 0, 0, 0, (⟨#[]⟩ : ByteArray), ([] : List (S70)), false)) else (impl_readBatch.l0 k (wrap64 (bt728.1 - 1)) (mx (wrap64 (bt728.1 - 1)) 0) 0 bt728.2.1 bt728.2.2 false 0 0 0 0 (⟨#[]⟩ : ByteArray) ([] : List (S70)))))
theorem impl_readBatch.mono_l : ∀ k, (∀ y0 y1 y2 y3 y4 y5 y6 y7 y8 y9 y10 y11, LeO (impl_readBatch.l0 k y0 y1 y2 y3 y4 y5 y6 y7 y8 y9 y10 y11) (impl_readBatch.l0 (k + 1) y0 y1 y2 y3 y4 y5 y6 y7 y8 y9 y10 y11))
  | 0 => fun _ _ _ _ _ _ _ _ _ _ _ _ r h => by simp [impl_readBatch.l0] at h
  | k + 1 => by
    have ih0 := impl_readBatch.mono_l k
    · intro y0 y1 y2 y3 y4 y5 y6 y7 y8 y9 y10 y11
      unfold impl_readBatch.l0
      repeat' first
      | (with_reducible exact ih0 _ _ _ _ _ _ _ _ _ _ _ _)
      | (with_reducible exact impl_isBatch.mono _ _ _ _ _ _ _ _)
      | (with_reducible exact impl_reader_number.mono _ _ _ _)
      | (with_reducible exact impl_reader_request.mono _ _ _)
      | (with_reducible exact LeO.refl _)
      | (with_reducible exact LeO.none _)
      | (with_reducible refine LeO.ite ?_ ?_)
      | (with_reducible refine LeO.bind ?_ (fun _ => ?_))
      | exact ih0 _ _ _ _ _ _ _ _ _ _ _ _
      | exact impl_isBatch.mono _ _ _ _ _ _ _ _
      | exact impl_reader_number.mono _ _ _ _
      | exact impl_reader_request.mono _ _ _
      | exact LeO.none _
      | refine LeO.ite ?_ ?_
      | refine LeO.bind ?_ (fun _ => ?_)
theorem impl_readBatch.mono : ∀ a0 k, LeO (impl_readBatch.f k a0) (impl_readBatch.f (k + 1) a0) := by
  intro a0 k
  have ih0 := impl_readBatch.mono_l k
  unfold impl_readBatch.f
  repeat' first
      | (with_reducible exact ih0 _ _ _ _ _ _ _ _ _ _ _ _)
      | (with_reducible exact impl_isBatch.mono _ _ _ _ _ _ _ _)
      | (with_reducible exact impl_reader_number.mono _ _ _ _)
      | (with_reducible exact impl_reader_request.mono _ _ _)
      | (with_reducible exact LeO.refl _)
      | (with_reducible exact LeO.none _)
      | (with_reducible refine LeO.ite ?_ ?_)
      | (with_reducible refine LeO.bind ?_ (fun _ => ?_))
      | exact ih0 _ _ _ _ _ _ _ _ _ _ _ _
      | exact impl_isBatch.mono _ _ _ _ _ _ _ _
      | exact impl_reader_number.mono _ _ _ _
      | exact impl_reader_request.mono _ _ _
      | exact LeO.none _
      | refine LeO.ite ?_ ?_
      | refine LeO.bind ?_ (fun _ => ?_)
noncomputable def impl_readBatch.lv0 (x5 : Int) (x20 : Int) (x21 : Int) (x728000 : ByteArray) (x728001 : Bool) (x732000 : Bool) (x732001 : Int) (x732002 : Int) (x732003 : Int) (x732004 : Int) (x732005 : ByteArray) (x732006 : List (S70)) : Option (Bool × Int × Int × Int × Int × ByteArray × (List (S70)) × Bool) := lim (fun k_ => impl_readBatch.l0 k_ x5 x20 x21 x728000 x728001 x732000 x732001 x732002 x732003 x732004 x732005 x732006)
noncomputable def impl_readBatch.v (a0 : ByteArray) : Option (Bool × Int × Int × Int × Int × ByteArray × (List (S70)) × Bool) := lim (fun k_ => impl_readBatch.f k_ a0)
theorem impl_readBatch.lv0_lim (x5 : Int) (x20 : Int) (x21 : Int) (x728000 : ByteArray) (x728001 : Bool) (x732000 : Bool) (x732001 : Int) (x732002 : Int) (x732003 : Int) (x732004 : Int) (x732005 : ByteArray) (x732006 : List (S70)) : LimIs (fun k_ => impl_readBatch.l0 k_ x5 x20 x21 x728000 x728001 x732000 x732001 x732002 x732003 x732004 x732005 x732006) (impl_readBatch.lv0 x5 x20 x21 x728000 x728001 x732000 x732001 x732002 x732003 x732004 x732005 x732006) := lim_is (fun k_ => (impl_readBatch.mono_l k_) x5 x20 x21 x728000 x728001 x732000 x732001 x732002 x732003 x732004 x732005 x732006)
theorem impl_readBatch.v_lim (a0 : ByteArray) : LimIs (fun k_ => impl_readBatch.f k_ a0) (impl_readBatch.v a0) := lim_is (fun k_ => impl_readBatch.mono a0 k_)
theorem impl_readBatch.lv0_eq (x5 : Int) (x20 : Int) (x21 : Int) (x728000 : ByteArray) (x728001 : Bool) (x732000 : Bool) (x732001 : Int) (x732002 : Int) (x732003 : Int) (x732004 : Int) (x732005 : ByteArray) (x732006 : List (S70)) : impl_readBatch.lv0 x5 x20 x21 x728000 x728001 x732000 x732001 x732002 x732003 x732004 x732005 x732006 = (if x21 < x20 then ((impl_reader_number.v x728000 x728001 1).bind fun bt732 => ((impl_reader_number.v bt732.2.1 bt732.2.2 4).bind fun bt735 => ((impl_reader_take.v bt735.2.1 bt735.2.2 8).bind fun bt738 => (if x732006.length < 4398046511104 then (impl_readBatch.lv0 x5 x20 (wrap64 (x21 + 1)) bt738.2.1 bt738.2.2 x732000 x732001 x732002 x732003 x732004 x732005 (x732006 ++ [(⟨bt732.1, bt735.1, bt738.1⟩ : S70)])) else (none))))) else ((impl_reader_request.v x728000 x728001).bind fun bt744 => (if x5 < 0 then (some (false, 0, 0, 0, 0, (⟨#[]⟩ : ByteArray), ([] : List (S70)), false)) else ((impl_reader_done.v bt744.2.2.2.2.2.1 bt744.2.2.2.2.2.2).bind fun bt751 => (if bt751.1 = true then ((impl_isBatch.v x732000 bt744.1 bt744.2.1 bt744.2.2.1 bt744.2.2.2.1 bt744.2.2.2.2.1 x732006).bind fun t754 => (if t754 = true then (some (x732000, bt744.1, bt744.2.1, bt744.2.2.1, bt744.2.2.2.1, bt744.2.2.2.2.1, x732006, true)) else (some (false, 0, 0, 0, 0, (⟨#[]⟩ : ByteArray), ([] : List (S70)), false)))) else (some (false, 0, 0, 0, 0, (⟨#[]⟩ : ByteArray), ([] : List (S70)), false)))))) : Option (Bool × Int × Int × Int × Int × ByteArray × (List (S70)) × Bool)) := by
  refine LimIs.eq (impl_readBatch.lv0_lim x5 x20 x21 x728000 x728001 x732000 x732001 x732002 x732003 x732004 x732005 x732006) ?_
  refine LimIs.step (fun k_ => (impl_readBatch.mono_l k_) x5 x20 x21 x728000 x728001 x732000 x732001 x732002 x732003 x732004 x732005 x732006) ?_
  simp only [impl_readBatch.l0]
  repeat' (with_reducible first | exact impl_isBatch.v_lim _ _ _ _ _ _ _ | exact impl_readBatch.lv0_lim _ _ _ _ _ _ _ _ _ _ _ _ | exact impl_reader_done.v_lim _ _ | exact impl_reader_number.v_lim _ _ _ | exact impl_reader_request.v_lim _ _ | exact impl_reader_take.v_lim _ _ _ | exact LimIs.const _ | refine LimIs.ite ?_ ?_ | refine LimIs.bind ?_ (fun _ => ?_))
theorem impl_readBatch.v_eq (a0 : ByteArray) : impl_readBatch.v a0 = (if a0.toList = ([0] : List UInt8) then (some (true, 0, 0, 0, 0, (⟨#[]⟩ : ByteArray), ([] : List (S70)), true)) else ((impl_reader_number.v a0 false 1).bind fun bt728 => (if (wrap64 (bt728.1 - 1)) > 7 then (some (false, 0, 0, 0, 0, (⟨#[]⟩ : ByteArray), ([] : List (S70)), false)) else (impl_readBatch.lv0 (wrap64 (bt728.1 - 1)) (mx (wrap64 (bt728.1 - 1)) 0) 0 bt728.2.1 bt728.2.2 false 0 0 0 0 (⟨#[]⟩ : ByteArray) ([] : List (S70))))) : Option (Bool × Int × Int × Int × Int × ByteArray × (List (S70)) × Bool)) := by
  refine LimIs.eq (impl_readBatch.v_lim a0) ?_
  simp only [impl_readBatch.f]
  repeat' (with_reducible first | exact impl_readBatch.lv0_lim _ _ _ _ _ _ _ _ _ _ _ _ | exact impl_reader_number.v_lim _ _ _ | exact LimIs.const _ | refine LimIs.ite ?_ ?_ | refine LimIs.bind ?_ (fun _ => ?_))
def impl_ReadBatch.f (k : Nat) (l0 : List Int) : Option (Bool × Int × Int × Int × Int × ByteArray × (List (S70)) × Int) := if (l0.length : Int) > 65536 then (some (false, 0, 0, 0, 0, (⟨#[]⟩ : ByteArray), ([] : List (S70)), 2)) else ((impl_readBatch.f k (strOfNums l0)).bind fun bt756 => (if bt756.2.2.2.2.2.2.2 = true then (some (bt756.1, bt756.2.1, bt756.2.2.1, bt756.2.2.2.1, bt756.2.2.2.2.1, bt756.2.2.2.2.2.1, bt756.2.2.2.2.2.2.1, 0)) else (some (false, 0, 0, 0, 0, (⟨#[]⟩ : ByteArray), ([] : List (S70)), 3))))
theorem impl_ReadBatch.mono : ∀ a0 k, LeO (impl_ReadBatch.f k a0) (impl_ReadBatch.f (k + 1) a0) := by
  intro a0 k
  unfold impl_ReadBatch.f
  repeat' first
      | (with_reducible exact impl_readBatch.mono _ _)
      | (with_reducible exact LeO.refl _)
      | (with_reducible exact LeO.none _)
      | (with_reducible refine LeO.ite ?_ ?_)
      | (with_reducible refine LeO.bind ?_ (fun _ => ?_))
      | exact impl_readBatch.mono _ _
      | exact LeO.none _
      | refine LeO.ite ?_ ?_
      | refine LeO.bind ?_ (fun _ => ?_)
noncomputable def impl_ReadBatch.v (l0 : List Int) : Option (Bool × Int × Int × Int × Int × ByteArray × (List (S70)) × Int) := lim (fun k_ => impl_ReadBatch.f k_ l0)
theorem impl_ReadBatch.v_lim (l0 : List Int) : LimIs (fun k_ => impl_ReadBatch.f k_ l0) (impl_ReadBatch.v l0) := lim_is (fun k_ => impl_ReadBatch.mono l0 k_)
theorem impl_ReadBatch.v_eq (l0 : List Int) : impl_ReadBatch.v l0 = (if (l0.length : Int) > 65536 then (some (false, 0, 0, 0, 0, (⟨#[]⟩ : ByteArray), ([] : List (S70)), 2)) else ((impl_readBatch.v (strOfNums l0)).bind fun bt756 => (if bt756.2.2.2.2.2.2.2 = true then (some (bt756.1, bt756.2.1, bt756.2.2.1, bt756.2.2.2.1, bt756.2.2.2.2.1, bt756.2.2.2.2.2.1, bt756.2.2.2.2.2.2.1, 0)) else (some (false, 0, 0, 0, 0, (⟨#[]⟩ : ByteArray), ([] : List (S70)), 3)))) : Option (Bool × Int × Int × Int × Int × ByteArray × (List (S70)) × Int)) := by
  refine LimIs.eq (impl_ReadBatch.v_lim l0) ?_
  simp only [impl_ReadBatch.f]
  repeat' (with_reducible first | exact impl_readBatch.v_lim _ | exact LimIs.const _ | refine LimIs.ite ?_ ?_ | refine LimIs.bind ?_ (fun _ => ?_))
mutual
def laws_sameBatch.j0 : Nat → Bool → Bool → Int → Int → Int → Int → ByteArray → List (S70) → Bool → Int → Int → Int → Int → ByteArray → List (S70) → Option (Bool)
  | 0, _, _, _, _, _, _, _, _, _, _, _, _, _, _, _ => none
  | k + 1, x26, x768000, x768001, x768002, x768003, x768004, x768005, x768006, x769000, x769001, x769002, x769003, x769004, x769005, x769006 => if x26 = true then (some false) else (laws_sameBatch.l0 k 0 x768000 x768001 x768002 x768003 x768004 x768005 x768006 x769000 x769001 x769002 x769003 x769004 x769005 x769006)
def laws_sameBatch.l0 : Nat → Int → Bool → Int → Int → Int → Int → ByteArray → List (S70) → Bool → Int → Int → Int → Int → ByteArray → List (S70) → Option (Bool)
  | 0, _, _, _, _, _, _, _, _, _, _, _, _, _, _, _ => none
  | k + 1, x5, x768000, x768001, x768002, x768003, x768004, x768005, x768006, x769000, x769001, x769002, x769003, x769004, x769005, x769006 => if x5 < (x768006.length : Int) then (if 0 ≤ x5 then (if x5 < (x769006.length : Int) then (if (!(((rd_T70 x768006 x5).f0) == ((rd_T70 x769006 x5).f0)) || (!(((rd_T70 x768006 x5).f1) == ((rd_T70 x769006 x5).f1)) || (!((((rd_T70 x768006 x5).f2).toList) == (((rd_T70 x769006 x5).f2).toList))))) = true then (some false) else (laws_sameBatch.l0 k (wrap64 (x5 + 1)) x768000 x768001 x768002 x768003 x768004 x768005 x768006 x769000 x769001 x769002 x769003 x769004 x769005 x769006)) else (none)) else (none)) else (some true)
end
def laws_sameBatch.f (k : Nat) (a0_0 : Bool) (a0_1 : Int) (a0_2 : Int) (a0_3 : Int) (a0_4 : Int) (a0_5 : ByteArray) (l0_6 : List (S70)) (a1_0 : Bool) (a1_1 : Int) (a1_2 : Int) (a1_3 : Int) (a1_4 : Int) (a1_5 : ByteArray) (l1_6 : List (S70)) : Option (Bool) := if (a0_0 != a1_0) = true then (laws_sameBatch.j0 k true a0_0 a0_1 a0_2 a0_3 a0_4 a0_5 l0_6 a1_0 a1_1 a1_2 a1_3 a1_4 a1_5 l1_6) else (if (!(a0_1 == a1_1) || (!(a0_2 == a1_2) || (!(a0_3 == a1_3) || (!(a0_4 == a1_4) || (!(a0_5.toList == a1_5.toList)))))) = true then (laws_sameBatch.j0 k true a0_0 a0_1 a0_2 a0_3 a0_4 a0_5 l0_6 a1_0 a1_1 a1_2 a1_3 a1_4 a1_5 l1_6) else (laws_sameBatch.j0 k ((l0_6.length : Int) != (l1_6.length : Int)) a0_0 a0_1 a0_2 a0_3 a0_4 a0_5 l0_6 a1_0 a1_1 a1_2 a1_3 a1_4 a1_5 l1_6))
theorem laws_sameBatch.mono_l : ∀ k, (∀ y0 y1 y2 y3 y4 y5 y6 y7 y8 y9 y10 y11 y12 y13 y14, LeO (laws_sameBatch.j0 k y0 y1 y2 y3 y4 y5 y6 y7 y8 y9 y10 y11 y12 y13 y14) (laws_sameBatch.j0 (k + 1) y0 y1 y2 y3 y4 y5 y6 y7 y8 y9 y10 y11 y12 y13 y14)) ∧ (∀ y0 y1 y2 y3 y4 y5 y6 y7 y8 y9 y10 y11 y12 y13 y14, LeO (laws_sameBatch.l0 k y0 y1 y2 y3 y4 y5 y6 y7 y8 y9 y10 y11 y12 y13 y14) (laws_sameBatch.l0 (k + 1) y0 y1 y2 y3 y4 y5 y6 y7 y8 y9 y10 y11 y12 y13 y14))
  | 0 => ⟨fun _ _ _ _ _ _ _ _ _ _ _ _ _ _ _ r h => by simp [laws_sameBatch.j0] at h, fun _ _ _ _ _ _ _ _ _ _ _ _ _ _ _ r h => by simp [laws_sameBatch.l0] at h⟩
  | k + 1 => by
    obtain ⟨ih0, ih1⟩ := laws_sameBatch.mono_l k
    refine ⟨?_, ?_⟩
    · intro y0 y1 y2 y3 y4 y5 y6 y7 y8 y9 y10 y11 y12 y13 y14
      unfold laws_sameBatch.j0
      repeat' first
      | (with_reducible exact ih0 _ _ _ _ _ _ _ _ _ _ _ _ _ _ _)
      | (with_reducible exact ih1 _ _ _ _ _ _ _ _ _ _ _ _ _ _ _)
      | (with_reducible exact LeO.refl _)
      | (with_reducible exact LeO.none _)
      | (with_reducible refine LeO.ite ?_ ?_)
      | (with_reducible refine LeO.bind ?_ (fun _ => ?_))
      | exact ih0 _ _ _ _ _ _ _ _ _ _ _ _ _ _ _
      | exact ih1 _ _ _ _ _ _ _ _ _ _ _ _ _ _ _
      | exact LeO.none _
      | refine LeO.ite ?_ ?_
      | refine LeO.bind ?_ (fun _ => ?_)
    · intro y0 y1 y2 y3 y4 y5 y6 y7 y8 y9 y10 y11 y12 y13 y14
      unfold laws_sameBatch.l0
      repeat' first
      | (with_reducible exact ih0 _ _ _ _ _ _ _ _ _ _ _ _ _ _ _)
      | (with_reducible exact ih1 _ _ _ _ _ _ _ _ _ _ _ _ _ _ _)
      | (with_reducible exact LeO.refl _)
      | (with_reducible exact LeO.none _)
      | (with_reducible refine LeO.ite ?_ ?_)
      | (with_reducible refine LeO.bind ?_ (fun _ => ?_))
      | exact ih0 _ _ _ _ _ _ _ _ _ _ _ _ _ _ _
      | exact ih1 _ _ _ _ _ _ _ _ _ _ _ _ _ _ _
      | exact LeO.none _
      | refine LeO.ite ?_ ?_
      | refine LeO.bind ?_ (fun _ => ?_)
theorem laws_sameBatch.mono : ∀ a0 a1 a2 a3 a4 a5 a6 a7 a8 a9 a10 a11 a12 a13 k, LeO (laws_sameBatch.f k a0 a1 a2 a3 a4 a5 a6 a7 a8 a9 a10 a11 a12 a13) (laws_sameBatch.f (k + 1) a0 a1 a2 a3 a4 a5 a6 a7 a8 a9 a10 a11 a12 a13) := by
  intro a0 a1 a2 a3 a4 a5 a6 a7 a8 a9 a10 a11 a12 a13 k
  obtain ⟨ih0, ih1⟩ := laws_sameBatch.mono_l k
  unfold laws_sameBatch.f
  repeat' first
      | (with_reducible exact ih0 _ _ _ _ _ _ _ _ _ _ _ _ _ _ _)
      | (with_reducible exact ih1 _ _ _ _ _ _ _ _ _ _ _ _ _ _ _)
      | (with_reducible exact LeO.refl _)
      | (with_reducible exact LeO.none _)
      | (with_reducible refine LeO.ite ?_ ?_)
      | (with_reducible refine LeO.bind ?_ (fun _ => ?_))
      | exact ih0 _ _ _ _ _ _ _ _ _ _ _ _ _ _ _
      | exact ih1 _ _ _ _ _ _ _ _ _ _ _ _ _ _ _
      | exact LeO.none _
      | refine LeO.ite ?_ ?_
      | refine LeO.bind ?_ (fun _ => ?_)
noncomputable def laws_sameBatch.jv0 (x26 : Bool) (x768000 : Bool) (x768001 : Int) (x768002 : Int) (x768003 : Int) (x768004 : Int) (x768005 : ByteArray) (x768006 : List (S70)) (x769000 : Bool) (x769001 : Int) (x769002 : Int) (x769003 : Int) (x769004 : Int) (x769005 : ByteArray) (x769006 : List (S70)) : Option (Bool) := lim (fun k_ => laws_sameBatch.j0 k_ x26 x768000 x768001 x768002 x768003 x768004 x768005 x768006 x769000 x769001 x769002 x769003 x769004 x769005 x769006)
noncomputable def laws_sameBatch.lv0 (x5 : Int) (x768000 : Bool) (x768001 : Int) (x768002 : Int) (x768003 : Int) (x768004 : Int) (x768005 : ByteArray) (x768006 : List (S70)) (x769000 : Bool) (x769001 : Int) (x769002 : Int) (x769003 : Int) (x769004 : Int) (x769005 : ByteArray) (x769006 : List (S70)) : Option (Bool) := lim (fun k_ => laws_sameBatch.l0 k_ x5 x768000 x768001 x768002 x768003 x768004 x768005 x768006 x769000 x769001 x769002 x769003 x769004 x769005 x769006)
noncomputable def laws_sameBatch.v (a0_0 : Bool) (a0_1 : Int) (a0_2 : Int) (a0_3 : Int) (a0_4 : Int) (a0_5 : ByteArray) (l0_6 : List (S70)) (a1_0 : Bool) (a1_1 : Int) (a1_2 : Int) (a1_3 : Int) (a1_4 : Int) (a1_5 : ByteArray) (l1_6 : List (S70)) : Option (Bool) := lim (fun k_ => laws_sameBatch.f k_ a0_0 a0_1 a0_2 a0_3 a0_4 a0_5 l0_6 a1_0 a1_1 a1_2 a1_3 a1_4 a1_5 l1_6)
theorem laws_sameBatch.jv0_lim (x26 : Bool) (x768000 : Bool) (x768001 : Int) (x768002 : Int) (x768003 : Int) (x768004 : Int) (x768005 : ByteArray) (x768006 : List (S70)) (x769000 : Bool) (x769001 : Int) (x769002 : Int) (x769003 : Int) (x769004 : Int) (x769005 : ByteArray) (x769006 : List (S70)) : LimIs (fun k_ => laws_sameBatch.j0 k_ x26 x768000 x768001 x768002 x768003 x768004 x768005 x768006 x769000 x769001 x769002 x769003 x769004 x769005 x769006) (laws_sameBatch.jv0 x26 x768000 x768001 x768002 x768003 x768004 x768005 x768006 x769000 x769001 x769002 x769003 x769004 x769005 x769006) := lim_is (fun k_ => (laws_sameBatch.mono_l k_).1 x26 x768000 x768001 x768002 x768003 x768004 x768005 x768006 x769000 x769001 x769002 x769003 x769004 x769005 x769006)
theorem laws_sameBatch.lv0_lim (x5 : Int) (x768000 : Bool) (x768001 : Int) (x768002 : Int) (x768003 : Int) (x768004 : Int) (x768005 : ByteArray) (x768006 : List (S70)) (x769000 : Bool) (x769001 : Int) (x769002 : Int) (x769003 : Int) (x769004 : Int) (x769005 : ByteArray) (x769006 : List (S70)) : LimIs (fun k_ => laws_sameBatch.l0 k_ x5 x768000 x768001 x768002 x768003 x768004 x768005 x768006 x769000 x769001 x769002 x769003 x769004 x769005 x769006) (laws_sameBatch.lv0 x5 x768000 x768001 x768002 x768003 x768004 x768005 x768006 x769000 x769001 x769002 x769003 x769004 x769005 x769006) := lim_is (fun k_ => (laws_sameBatch.mono_l k_).2 x5 x768000 x768001 x768002 x768003 x768004 x768005 x768006 x769000 x769001 x769002 x769003 x769004 x769005 x769006)
theorem laws_sameBatch.v_lim (a0_0 : Bool) (a0_1 : Int) (a0_2 : Int) (a0_3 : Int) (a0_4 : Int) (a0_5 : ByteArray) (l0_6 : List (S70)) (a1_0 : Bool) (a1_1 : Int) (a1_2 : Int) (a1_3 : Int) (a1_4 : Int) (a1_5 : ByteArray) (l1_6 : List (S70)) : LimIs (fun k_ => laws_sameBatch.f k_ a0_0 a0_1 a0_2 a0_3 a0_4 a0_5 l0_6 a1_0 a1_1 a1_2 a1_3 a1_4 a1_5 l1_6) (laws_sameBatch.v a0_0 a0_1 a0_2 a0_3 a0_4 a0_5 l0_6 a1_0 a1_1 a1_2 a1_3 a1_4 a1_5 l1_6) := lim_is (fun k_ => laws_sameBatch.mono a0_0 a0_1 a0_2 a0_3 a0_4 a0_5 l0_6 a1_0 a1_1 a1_2 a1_3 a1_4 a1_5 l1_6 k_)
theorem laws_sameBatch.jv0_eq (x26 : Bool) (x768000 : Bool) (x768001 : Int) (x768002 : Int) (x768003 : Int) (x768004 : Int) (x768005 : ByteArray) (x768006 : List (S70)) (x769000 : Bool) (x769001 : Int) (x769002 : Int) (x769003 : Int) (x769004 : Int) (x769005 : ByteArray) (x769006 : List (S70)) : laws_sameBatch.jv0 x26 x768000 x768001 x768002 x768003 x768004 x768005 x768006 x769000 x769001 x769002 x769003 x769004 x769005 x769006 = (if x26 = true then (some false) else (laws_sameBatch.lv0 0 x768000 x768001 x768002 x768003 x768004 x768005 x768006 x769000 x769001 x769002 x769003 x769004 x769005 x769006) : Option (Bool)) := by
  refine LimIs.eq (laws_sameBatch.jv0_lim x26 x768000 x768001 x768002 x768003 x768004 x768005 x768006 x769000 x769001 x769002 x769003 x769004 x769005 x769006) ?_
  refine LimIs.step (fun k_ => (laws_sameBatch.mono_l k_).1 x26 x768000 x768001 x768002 x768003 x768004 x768005 x768006 x769000 x769001 x769002 x769003 x769004 x769005 x769006) ?_
  simp only [laws_sameBatch.j0]
  repeat' (with_reducible first | exact laws_sameBatch.lv0_lim _ _ _ _ _ _ _ _ _ _ _ _ _ _ _ | exact LimIs.const _ | refine LimIs.ite ?_ ?_ | refine LimIs.bind ?_ (fun _ => ?_))
theorem laws_sameBatch.lv0_eq (x5 : Int) (x768000 : Bool) (x768001 : Int) (x768002 : Int) (x768003 : Int) (x768004 : Int) (x768005 : ByteArray) (x768006 : List (S70)) (x769000 : Bool) (x769001 : Int) (x769002 : Int) (x769003 : Int) (x769004 : Int) (x769005 : ByteArray) (x769006 : List (S70)) : laws_sameBatch.lv0 x5 x768000 x768001 x768002 x768003 x768004 x768005 x768006 x769000 x769001 x769002 x769003 x769004 x769005 x769006 = (if x5 < (x768006.length : Int) then (if 0 ≤ x5 then (if x5 < (x769006.length : Int) then (if (!(((rd_T70 x768006 x5).f0) == ((rd_T70 x769006 x5).f0)) || (!(((rd_T70 x768006 x5).f1) == ((rd_T70 x769006 x5).f1)) || (!((((rd_T70 x768006 x5).f2).toList) == (((rd_T70 x769006 x5).f2).toList))))) = true then (some false) else (laws_sameBatch.lv0 (wrap64 (x5 + 1)) x768000 x768001 x768002 x768003 x768004 x768005 x768006 x769000 x769001 x769002 x769003 x769004 x769005 x769006)) else (none)) else (none)) else (some true) : Option (Bool)) := by
  refine LimIs.eq (laws_sameBatch.lv0_lim x5 x768000 x768001 x768002 x768003 x768004 x768005 x768006 x769000 x769001 x769002 x769003 x769004 x769005 x769006) ?_
  refine LimIs.step (fun k_ => (laws_sameBatch.mono_l k_).2 x5 x768000 x768001 x768002 x768003 x768004 x768005 x768006 x769000 x769001 x769002 x769003 x769004 x769005 x769006) ?_
  simp only [laws_sameBatch.l0]
  repeat' (with_reducible first | exact laws_sameBatch.lv0_lim _ _ _ _ _ _ _ _ _ _ _ _ _ _ _ | exact LimIs.const _ | refine LimIs.ite ?_ ?_ | refine LimIs.bind ?_ (fun _ => ?_))
theorem laws_sameBatch.v_eq (a0_0 : Bool) (a0_1 : Int) (a0_2 : Int) (a0_3 : Int) (a0_4 : Int) (a0_5 : ByteArray) (l0_6 : List (S70)) (a1_0 : Bool) (a1_1 : Int) (a1_2 : Int) (a1_3 : Int) (a1_4 : Int) (a1_5 : ByteArray) (l1_6 : List (S70)) : laws_sameBatch.v a0_0 a0_1 a0_2 a0_3 a0_4 a0_5 l0_6 a1_0 a1_1 a1_2 a1_3 a1_4 a1_5 l1_6 = (if (a0_0 != a1_0) = true then (laws_sameBatch.jv0 true a0_0 a0_1 a0_2 a0_3 a0_4 a0_5 l0_6 a1_0 a1_1 a1_2 a1_3 a1_4 a1_5 l1_6) else (if (!(a0_1 == a1_1) || (!(a0_2 == a1_2) || (!(a0_3 == a1_3) || (!(a0_4 == a1_4) || (!(a0_5.toList == a1_5.toList)))))) = true then (laws_sameBatch.jv0 true a0_0 a0_1 a0_2 a0_3 a0_4 a0_5 l0_6 a1_0 a1_1 a1_2 a1_3 a1_4 a1_5 l1_6) else (laws_sameBatch.jv0 ((l0_6.length : Int) != (l1_6.length : Int)) a0_0 a0_1 a0_2 a0_3 a0_4 a0_5 l0_6 a1_0 a1_1 a1_2 a1_3 a1_4 a1_5 l1_6)) : Option (Bool)) := by
  refine LimIs.eq (laws_sameBatch.v_lim a0_0 a0_1 a0_2 a0_3 a0_4 a0_5 l0_6 a1_0 a1_1 a1_2 a1_3 a1_4 a1_5 l1_6) ?_
  simp only [laws_sameBatch.f]
  repeat' (with_reducible first | exact laws_sameBatch.jv0_lim _ _ _ _ _ _ _ _ _ _ _ _ _ _ _ | exact LimIs.const _ | refine LimIs.ite ?_ ?_ | refine LimIs.bind ?_ (fun _ => ?_))
def spec_l02ReadRequest.j0 : Nat → ByteArray → Bool → Option (Int × Int × Int × Int × ByteArray × Bool)
  | 0, _, _ => none
  | k + 1, x0, x16 => if x16 = true then (some (0, 0, 0, 0, (⟨#[]⟩ : ByteArray), false)) else (if 0 < (x0.size : Int) then (if 1 ≤ 3 then (if 3 ≤ (x0.size : Int) then ((spec_l02Of.f k (x0.extract 1 3)).bind fun t772 => (if 3 < (x0.size : Int) then (if 4 ≤ 6 then (if 6 ≤ (x0.size : Int) then ((spec_l02Of.f k (x0.extract 4 6)).bind fun t773 => (if 7 ≤ (x0.size : Int) then ((spec_RequestOK.f k (wrap64 (bt x0 0)) t772 (wrap64 (bt x0 3)) t773 (x0.extract 7 x0.size)).bind fun t775 => (some (wrap64 (bt x0 0), t772, wrap64 (bt x0 3), t773, x0.extract 7 x0.size, t775))) else (none))) else (none)) else (none)) else (none))) else (none)) else (none)) else (none))
def spec_l02ReadRequest.f (k : Nat) (a0 : ByteArray) : Option (Int × Int × Int × Int × ByteArray × Bool) := if (a0.size : Int) < 7 then (spec_l02ReadRequest.j0 k a0 true) else (if 6 < (a0.size : Int) then (spec_l02ReadRequest.j0 k a0 ((a0.size : Int) != (wrap64 (7 + (wrap64 (bt a0 6)))))) else (none))
theorem spec_l02ReadRequest.mono_l : ∀ k, (∀ y0 y1, LeO (spec_l02ReadRequest.j0 k y0 y1) (spec_l02ReadRequest.j0 (k + 1) y0 y1))
  | 0 => fun _ _ r h => by simp [spec_l02ReadRequest.j0] at h
  | k + 1 => by
    have ih0 := spec_l02ReadRequest.mono_l k
    · intro y0 y1
      unfold spec_l02ReadRequest.j0
      repeat' first
      | (with_reducible exact ih0 _ _)
      | (with_reducible exact spec_RequestOK.mono _ _ _ _ _ _)
      | (with_reducible exact spec_l02Of.mono _ _)
      | (with_reducible exact LeO.refl _)
      | (with_reducible exact LeO.none _)
      | (with_reducible refine LeO.ite ?_ ?_)
      | (with_reducible refine LeO.bind ?_ (fun _ => ?_))
      | exact ih0 _ _
      | exact spec_RequestOK.mono _ _ _ _ _ _
      | exact spec_l02Of.mono _ _
      | exact LeO.none _
      | refine LeO.ite ?_ ?_
      | refine LeO.bind ?_ (fun _ => ?_)
theorem spec_l02ReadRequest.mono : ∀ a0 k, LeO (spec_l02ReadRequest.f k a0) (spec_l02ReadRequest.f (k + 1) a0) := by
  intro a0 k
  have ih0 := spec_l02ReadRequest.mono_l k
  unfold spec_l02ReadRequest.f
  repeat' first
      | (with_reducible exact ih0 _ _)
      | (with_reducible exact spec_RequestOK.mono _ _ _ _ _ _)
      | (with_reducible exact spec_l02Of.mono _ _)
      | (with_reducible exact LeO.refl _)
      | (with_reducible exact LeO.none _)
      | (with_reducible refine LeO.ite ?_ ?_)
      | (with_reducible refine LeO.bind ?_ (fun _ => ?_))
      | exact ih0 _ _
      | exact spec_RequestOK.mono _ _ _ _ _ _
      | exact spec_l02Of.mono _ _
      | exact LeO.none _
      | refine LeO.ite ?_ ?_
      | refine LeO.bind ?_ (fun _ => ?_)
noncomputable def spec_l02ReadRequest.jv0 (x0 : ByteArray) (x16 : Bool) : Option (Int × Int × Int × Int × ByteArray × Bool) := lim (fun k_ => spec_l02ReadRequest.j0 k_ x0 x16)
noncomputable def spec_l02ReadRequest.v (a0 : ByteArray) : Option (Int × Int × Int × Int × ByteArray × Bool) := lim (fun k_ => spec_l02ReadRequest.f k_ a0)
theorem spec_l02ReadRequest.jv0_lim (x0 : ByteArray) (x16 : Bool) : LimIs (fun k_ => spec_l02ReadRequest.j0 k_ x0 x16) (spec_l02ReadRequest.jv0 x0 x16) := lim_is (fun k_ => (spec_l02ReadRequest.mono_l k_) x0 x16)
theorem spec_l02ReadRequest.v_lim (a0 : ByteArray) : LimIs (fun k_ => spec_l02ReadRequest.f k_ a0) (spec_l02ReadRequest.v a0) := lim_is (fun k_ => spec_l02ReadRequest.mono a0 k_)
theorem spec_l02ReadRequest.jv0_eq (x0 : ByteArray) (x16 : Bool) : spec_l02ReadRequest.jv0 x0 x16 = (if x16 = true then (some (0, 0, 0, 0, (⟨#[]⟩ : ByteArray), false)) else (if 0 < (x0.size : Int) then (if 1 ≤ 3 then (if 3 ≤ (x0.size : Int) then ((spec_l02Of.v (x0.extract 1 3)).bind fun t772 => (if 3 < (x0.size : Int) then (if 4 ≤ 6 then (if 6 ≤ (x0.size : Int) then ((spec_l02Of.v (x0.extract 4 6)).bind fun t773 => (if 7 ≤ (x0.size : Int) then ((spec_RequestOK.v (wrap64 (bt x0 0)) t772 (wrap64 (bt x0 3)) t773 (x0.extract 7 x0.size)).bind fun t775 => (some (wrap64 (bt x0 0), t772, wrap64 (bt x0 3), t773, x0.extract 7 x0.size, t775))) else (none))) else (none)) else (none)) else (none))) else (none)) else (none)) else (none)) : Option (Int × Int × Int × Int × ByteArray × Bool)) := by
  refine LimIs.eq (spec_l02ReadRequest.jv0_lim x0 x16) ?_
  refine LimIs.step (fun k_ => (spec_l02ReadRequest.mono_l k_) x0 x16) ?_
  simp only [spec_l02ReadRequest.j0]
  repeat' (with_reducible first | exact spec_RequestOK.v_lim _ _ _ _ _ | exact spec_l02Of.v_lim _ | exact LimIs.const _ | refine LimIs.ite ?_ ?_ | refine LimIs.bind ?_ (fun _ => ?_))
theorem spec_l02ReadRequest.v_eq (a0 : ByteArray) : spec_l02ReadRequest.v a0 = (if (a0.size : Int) < 7 then (spec_l02ReadRequest.jv0 a0 true) else (if 6 < (a0.size : Int) then (spec_l02ReadRequest.jv0 a0 ((a0.size : Int) != (wrap64 (7 + (wrap64 (bt a0 6)))))) else (none)) : Option (Int × Int × Int × Int × ByteArray × Bool)) := by
  refine LimIs.eq (spec_l02ReadRequest.v_lim a0) ?_
  simp only [spec_l02ReadRequest.f]
  repeat' (with_reducible first | exact spec_l02ReadRequest.jv0_lim _ _ | exact LimIs.const _ | refine LimIs.ite ?_ ?_ | refine LimIs.bind ?_ (fun _ => ?_))
def spec_l02ReadBatch.l0 : Nat → ByteArray → Int → Int → Bool → Int → Int → Int → Int → ByteArray → List (S70) → Option (Bool × Int × Int × Int × Int × ByteArray × (List (S70)) × Bool)
  | 0, _, _, _, _, _, _, _, _, _, _ => none
  | k + 1, x0, x4, x6, x784000, x784001, x784002, x784003, x784004, x784005, x784006 => if x6 < (wrap64 (x4 - 1)) then (if 0 ≤ (wrap64 (1 + (wrap64 (13 * x6)))) then (if (wrap64 (1 + (wrap64 (13 * x6)))) ≤ (wrap64 (14 + (wrap64 (13 * x6)))) then (if (wrap64 (14 + (wrap64 (13 * x6)))) ≤ (x0.size : Int) then (if 0 < ((x0.extract ((wrap64 (1 + (wrap64 (13 * x6)))) : Int).toNat ((wrap64 (14 + (wrap64 (13 * x6)))) : Int).toNat).size : Int) then (if 1 ≤ 5 then (if 5 ≤ ((x0.extract ((wrap64 (1 + (wrap64 (13 * x6)))) : Int).toNat ((wrap64 (14 + (wrap64 (13 * x6)))) : Int).toNat).size : Int) then ((spec_l02Of.f k ((x0.extract ((wrap64 (1 + (wrap64 (13 * x6)))) : Int).toNat ((wrap64 (14 + (wrap64 (13 * x6)))) : Int).toNat).extract 1 5)).bind fun t784 => (if x784006.length < 4398046511104 then (spec_l02ReadBatch.l0 k x0 x4 (wrap64 (x6 + 1)) x784000 x784001 x784002 x784003 x784004 x784005 (x784006 ++ [(⟨wrap64 (bt (x0.extract ((wrap64 (1 + (wrap64 (13 * x6)))) : Int).toNat ((wrap64 (14 + (wrap64 (13 * x6)))) : Int).toNat) 0), t784, (x0.extract ((wrap64 (1 + (wrap64 (13 * x6)))) : Int).toNat ((wrap64 (14 + (wrap64 (13 * x6)))) : Int).toNat).extract 5 (((wrap64 (14 + (wrap64 (13 * x6)))) : Int).toNat - ((wrap64 (1 + (wrap64 (13 * x6)))) : Int).toNat)⟩ : S70)])) else (none))) else (none)) else (none)) else (none)) else (none)) else (none)) else (none)) else (if 0 ≤ (wrap64 (1 + (wrap64 (13 * (wrap64 (x4 - 1)))))) then (if (wrap64 (1 + (wrap64 (13 * (wrap64 (x4 - 1)))))) ≤ (x0.size : Int) then ((spec_l02ReadRequest.f k (x0.extract ((wrap64 (1 + (wrap64 (13 * (wrap64 (x4 - 1)))))) : Int).toNat x0.size)).bind fun bt788 => (if bt788.2.2.2.2.2 = true then ((spec_l02BatchOK.f k x784000 bt788.1 bt788.2.1 bt788.2.2.1 bt788.2.2.2.1 bt788.2.2.2.2.1 x784006).bind fun t795 => (some (x784000, bt788.1, bt788.2.1, bt788.2.2.1, bt788.2.2.2.1, bt788.2.2.2.2.1, x784006, t795))) else (some (x784000, bt788.1, bt788.2.1, bt788.2.2.1, bt788.2.2.2.1, bt788.2.2.2.2.1, x784006, false)))) else (none)) else (none))
def spec_l02ReadBatch.f (k : Nat) (a0 : ByteArray) : Option (Bool × Int × Int × Int × Int × ByteArray × (List (S70)) × Bool) := if a0.toList = ([] : List UInt8) then (some (false, 0, 0, 0, 0, (⟨#[]⟩ : ByteArray), ([] : List (S70)), false)) else (if 0 < (a0.size : Int) then (if (wrap64 (bt a0 0)) = 0 then (some (true, 0, 0, 0, 0, (⟨#[]⟩ : ByteArray), (([] : List (S70))), ((a0.size : Int) == 1))) else (if (a0.size : Int) < (wrap64 (1 + (wrap64 (13 * (wrap64 ((wrap64 (bt a0 0)) - 1)))))) then (some (false, 0, 0, 0, 0, (⟨#[]⟩ : ByteArray), ([] : List (S70)), false)) else (spec_l02ReadBatch.l0 k a0 (wrap64 (bt a0 0)) 0 false 0 0 0 0 (⟨#[]⟩ : ByteArray) (([] : List (S70)))))) else (none))
theorem spec_l02ReadBatch.mono_l : ∀ k, (∀ y0 y1 y2 y3 y4 y5 y6 y7 y8 y9, LeO (spec_l02ReadBatch.l0 k y0 y1 y2 y3 y4 y5 y6 y7 y8 y9) (spec_l02ReadBatch.l0 (k + 1) y0 y1 y2 y3 y4 y5 y6 y7 y8 y9))
  | 0 => fun _ _ _ _ _ _ _ _ _ _ r h => by simp [spec_l02ReadBatch.l0] at h
  | k + 1 => by
    have ih0 := spec_l02ReadBatch.mono_l k
    · intro y0 y1 y2 y3 y4 y5 y6 y7 y8 y9
      unfold spec_l02ReadBatch.l0
      repeat' first
      | (with_reducible exact ih0 _ _ _ _ _ _ _ _ _ _)
      | (with_reducible exact spec_l02BatchOK.mono _ _ _ _ _ _ _ _)
      | (with_reducible exact spec_l02Of.mono _ _)
      | (with_reducible exact spec_l02ReadRequest.mono _ _)
      | (with_reducible exact LeO.refl _)
      | (with_reducible exact LeO.none _)
      | (with_reducible refine LeO.ite ?_ ?_)
      | (with_reducible refine LeO.bind ?_ (fun _ => ?_))
      | exact ih0 _ _ _ _ _ _ _ _ _ _
      | exact spec_l02BatchOK.mono _ _ _ _ _ _ _ _
      | exact spec_l02Of.mono _ _
      | exact spec_l02ReadRequest.mono _ _
      | exact LeO.none _
      | refine LeO.ite ?_ ?_
      | refine LeO.bind ?_ (fun _ => ?_)
theorem spec_l02ReadBatch.mono : ∀ a0 k, LeO (spec_l02ReadBatch.f k a0) (spec_l02ReadBatch.f (k + 1) a0) := by
  intro a0 k
  have ih0 := spec_l02ReadBatch.mono_l k
  unfold spec_l02ReadBatch.f
  repeat' first
      | (with_reducible exact ih0 _ _ _ _ _ _ _ _ _ _)
      | (with_reducible exact spec_l02BatchOK.mono _ _ _ _ _ _ _ _)
      | (with_reducible exact spec_l02Of.mono _ _)
      | (with_reducible exact spec_l02ReadRequest.mono _ _)
      | (with_reducible exact LeO.refl _)
      | (with_reducible exact LeO.none _)
      | (with_reducible refine LeO.ite ?_ ?_)
      | (with_reducible refine LeO.bind ?_ (fun _ => ?_))
      | exact ih0 _ _ _ _ _ _ _ _ _ _
      | exact spec_l02BatchOK.mono _ _ _ _ _ _ _ _
      | exact spec_l02Of.mono _ _
      | exact spec_l02ReadRequest.mono _ _
      | exact LeO.none _
      | refine LeO.ite ?_ ?_
      | refine LeO.bind ?_ (fun _ => ?_)
noncomputable def spec_l02ReadBatch.lv0 (x0 : ByteArray) (x4 : Int) (x6 : Int) (x784000 : Bool) (x784001 : Int) (x784002 : Int) (x784003 : Int) (x784004 : Int) (x784005 : ByteArray) (x784006 : List (S70)) : Option (Bool × Int × Int × Int × Int × ByteArray × (List (S70)) × Bool) := lim (fun k_ => spec_l02ReadBatch.l0 k_ x0 x4 x6 x784000 x784001 x784002 x784003 x784004 x784005 x784006)
noncomputable def spec_l02ReadBatch.v (a0 : ByteArray) : Option (Bool × Int × Int × Int × Int × ByteArray × (List (S70)) × Bool) := lim (fun k_ => spec_l02ReadBatch.f k_ a0)
theorem spec_l02ReadBatch.lv0_lim (x0 : ByteArray) (x4 : Int) (x6 : Int) (x784000 : Bool) (x784001 : Int) (x784002 : Int) (x784003 : Int) (x784004 : Int) (x784005 : ByteArray) (x784006 : List (S70)) : LimIs (fun k_ => spec_l02ReadBatch.l0 k_ x0 x4 x6 x784000 x784001 x784002 x784003 x784004 x784005 x784006) (spec_l02ReadBatch.lv0 x0 x4 x6 x784000 x784001 x784002 x784003 x784004 x784005 x784006) := lim_is (fun k_ => (spec_l02ReadBatch.mono_l k_) x0 x4 x6 x784000 x784001 x784002 x784003 x784004 x784005 x784006)
theorem spec_l02ReadBatch.v_lim (a0 : ByteArray) : LimIs (fun k_ => spec_l02ReadBatch.f k_ a0) (spec_l02ReadBatch.v a0) := lim_is (fun k_ => spec_l02ReadBatch.mono a0 k_)
theorem spec_l02ReadBatch.lv0_eq (x0 : ByteArray) (x4 : Int) (x6 : Int) (x784000 : Bool) (x784001 : Int) (x784002 : Int) (x784003 : Int) (x784004 : Int) (x784005 : ByteArray) (x784006 : List (S70)) : spec_l02ReadBatch.lv0 x0 x4 x6 x784000 x784001 x784002 x784003 x784004 x784005 x784006 = (if x6 < (wrap64 (x4 - 1)) then (if 0 ≤ (wrap64 (1 + (wrap64 (13 * x6)))) then (if (wrap64 (1 + (wrap64 (13 * x6)))) ≤ (wrap64 (14 + (wrap64 (13 * x6)))) then (if (wrap64 (14 + (wrap64 (13 * x6)))) ≤ (x0.size : Int) then (if 0 < ((x0.extract ((wrap64 (1 + (wrap64 (13 * x6)))) : Int).toNat ((wrap64 (14 + (wrap64 (13 * x6)))) : Int).toNat).size : Int) then (if 1 ≤ 5 then (if 5 ≤ ((x0.extract ((wrap64 (1 + (wrap64 (13 * x6)))) : Int).toNat ((wrap64 (14 + (wrap64 (13 * x6)))) : Int).toNat).size : Int) then ((spec_l02Of.v ((x0.extract ((wrap64 (1 + (wrap64 (13 * x6)))) : Int).toNat ((wrap64 (14 + (wrap64 (13 * x6)))) : Int).toNat).extract 1 5)).bind fun t784 => (if x784006.length < 4398046511104 then (spec_l02ReadBatch.lv0 x0 x4 (wrap64 (x6 + 1)) x784000 x784001 x784002 x784003 x784004 x784005 (x784006 ++ [(⟨wrap64 (bt (x0.extract ((wrap64 (1 + (wrap64 (13 * x6)))) : Int).toNat ((wrap64 (14 + (wrap64 (13 * x6)))) : Int).toNat) 0), t784, (x0.extract ((wrap64 (1 + (wrap64 (13 * x6)))) : Int).toNat ((wrap64 (14 + (wrap64 (13 * x6)))) : Int).toNat).extract 5 (((wrap64 (14 + (wrap64 (13 * x6)))) : Int).toNat - ((wrap64 (1 + (wrap64 (13 * x6)))) : Int).toNat)⟩ : S70)])) else (none))) else (none)) else (none)) else (none)) else (none)) else (none)) else (none)) else (if 0 ≤ (wrap64 (1 + (wrap64 (13 * (wrap64 (x4 - 1)))))) then (if (wrap64 (1 + (wrap64 (13 * (wrap64 (x4 - 1)))))) ≤ (x0.size : Int) then ((spec_l02ReadRequest.v (x0.extract ((wrap64 (1 + (wrap64 (13 * (wrap64 (x4 - 1)))))) : Int).toNat x0.size)).bind fun bt788 => (if bt788.2.2.2.2.2 = true then ((spec_l02BatchOK.v x784000 bt788.1 bt788.2.1 bt788.2.2.1 bt788.2.2.2.1 bt788.2.2.2.2.1 x784006).bind fun t795 => (some (x784000, bt788.1, bt788.2.1, bt788.2.2.1, bt788.2.2.2.1, bt788.2.2.2.2.1, x784006, t795))) else (some (x784000, bt788.1, bt788.2.1, bt788.2.2.1, bt788.2.2.2.1, bt788.2.2.2.2.1, x784006, false)))) else (none)) else (none)) : Option (Bool × Int × Int × Int × Int × ByteArray × (List (S70)) × Bool)) := by
  refine LimIs.eq (spec_l02ReadBatch.lv0_lim x0 x4 x6 x784000 x784001 x784002 x784003 x784004 x784005 x784006) ?_
  refine LimIs.step (fun k_ => (spec_l02ReadBatch.mono_l k_) x0 x4 x6 x784000 x784001 x784002 x784003 x784004 x784005 x784006) ?_
  simp only [spec_l02ReadBatch.l0]
  repeat' (with_reducible first | exact spec_l02BatchOK.v_lim _ _ _ _ _ _ _ | exact spec_l02Of.v_lim _ | exact spec_l02ReadBatch.lv0_lim _ _ _ _ _ _ _ _ _ _ | exact spec_l02ReadRequest.v_lim _ | exact LimIs.const _ | refine LimIs.ite ?_ ?_ | refine LimIs.bind ?_ (fun _ => ?_))
theorem spec_l02ReadBatch.v_eq (a0 : ByteArray) : spec_l02ReadBatch.v a0 = (if a0.toList = ([] : List UInt8) then (some (false, 0, 0, 0, 0, (⟨#[]⟩ : ByteArray), ([] : List (S70)), false)) else (if 0 < (a0.size : Int) then (if (wrap64 (bt a0 0)) = 0 then (some (true, 0, 0, 0, 0, (⟨#[]⟩ : ByteArray), (([] : List (S70))), ((a0.size : Int) == 1))) else (if (a0.size : Int) < (wrap64 (1 + (wrap64 (13 * (wrap64 ((wrap64 (bt a0 0)) - 1)))))) then (some (false, 0, 0, 0, 0, (⟨#[]⟩ : ByteArray), ([] : List (S70)), false)) else (spec_l02ReadBatch.lv0 a0 (wrap64 (bt a0 0)) 0 false 0 0 0 0 (⟨#[]⟩ : ByteArray) (([] : List (S70)))))) else (none)) : Option (Bool × Int × Int × Int × Int × ByteArray × (List (S70)) × Bool)) := by
  refine LimIs.eq (spec_l02ReadBatch.v_lim a0) ?_
  simp only [spec_l02ReadBatch.f]
  repeat' (with_reducible first | exact spec_l02ReadBatch.lv0_lim _ _ _ _ _ _ _ _ _ _ | exact LimIs.const _ | refine LimIs.ite ?_ ?_ | refine LimIs.bind ?_ (fun _ => ?_))
def spec_ReadBatch.f (k : Nat) (l0 : List Int) : Option (Bool × Int × Int × Int × Int × ByteArray × (List (S70)) × Int) := if (l0.length : Int) > 65536 then (some (false, 0, 0, 0, 0, (⟨#[]⟩ : ByteArray), ([] : List (S70)), 2)) else ((spec_l02ReadBatch.f k (strOfNums l0)).bind fun bt797 => (if bt797.2.2.2.2.2.2.2 = true then (some (bt797.1, bt797.2.1, bt797.2.2.1, bt797.2.2.2.1, bt797.2.2.2.2.1, bt797.2.2.2.2.2.1, bt797.2.2.2.2.2.2.1, 0)) else (some (false, 0, 0, 0, 0, (⟨#[]⟩ : ByteArray), ([] : List (S70)), 3))))
theorem spec_ReadBatch.mono : ∀ a0 k, LeO (spec_ReadBatch.f k a0) (spec_ReadBatch.f (k + 1) a0) := by
  intro a0 k
  unfold spec_ReadBatch.f
  repeat' first
      | (with_reducible exact spec_l02ReadBatch.mono _ _)
      | (with_reducible exact LeO.refl _)
      | (with_reducible exact LeO.none _)
      | (with_reducible refine LeO.ite ?_ ?_)
      | (with_reducible refine LeO.bind ?_ (fun _ => ?_))
      | exact spec_l02ReadBatch.mono _ _
      | exact LeO.none _
      | refine LeO.ite ?_ ?_
      | refine LeO.bind ?_ (fun _ => ?_)
noncomputable def spec_ReadBatch.v (l0 : List Int) : Option (Bool × Int × Int × Int × Int × ByteArray × (List (S70)) × Int) := lim (fun k_ => spec_ReadBatch.f k_ l0)
theorem spec_ReadBatch.v_lim (l0 : List Int) : LimIs (fun k_ => spec_ReadBatch.f k_ l0) (spec_ReadBatch.v l0) := lim_is (fun k_ => spec_ReadBatch.mono l0 k_)
theorem spec_ReadBatch.v_eq (l0 : List Int) : spec_ReadBatch.v l0 = (if (l0.length : Int) > 65536 then (some (false, 0, 0, 0, 0, (⟨#[]⟩ : ByteArray), ([] : List (S70)), 2)) else ((spec_l02ReadBatch.v (strOfNums l0)).bind fun bt797 => (if bt797.2.2.2.2.2.2.2 = true then (some (bt797.1, bt797.2.1, bt797.2.2.1, bt797.2.2.2.1, bt797.2.2.2.2.1, bt797.2.2.2.2.2.1, bt797.2.2.2.2.2.2.1, 0)) else (some (false, 0, 0, 0, 0, (⟨#[]⟩ : ByteArray), ([] : List (S70)), 3)))) : Option (Bool × Int × Int × Int × Int × ByteArray × (List (S70)) × Int)) := by
  refine LimIs.eq (spec_ReadBatch.v_lim l0) ?_
  simp only [spec_ReadBatch.f]
  repeat' (with_reducible first | exact spec_l02ReadBatch.v_lim _ | exact LimIs.const _ | refine LimIs.ite ?_ ?_ | refine LimIs.bind ?_ (fun _ => ?_))
mutual
def laws_FnRequests.j0 : Nat → List Int → List Int → Bool → Option (Bool)
  | 0, _, _, _ => none
  | k + 1, x0, x1, x32 => if x32 = true then (some true) else ((spec_RequestOf.f x0).bind fun bt808 => ((impl_RequestBytes.f k bt808.1 bt808.2.1 bt808.2.2.1 bt808.2.2.2.1 bt808.2.2.2.2).bind fun bt814 => ((spec_RequestBytes.f k bt808.1 bt808.2.1 bt808.2.2.1 bt808.2.2.2.1 bt808.2.2.2.2).bind fun bt818 => ((impl_ReadRequest.f k bt814.1).bind fun bt822 => (if bt814.2 = 0 then (if (strOfNums bt814.1).toList = (strOfNums bt818.1).toList then (if bt822.2.2.2.2.2 = 0 then (if (!(bt822.1 == bt808.1) || (!(bt822.2.1 == bt808.2.1) || (!(bt822.2.2.1 == bt808.2.2.1) || (!(bt822.2.2.2.1 == bt808.2.2.2.1) || (!(bt822.2.2.2.2.1.toList == bt808.2.2.2.2.toList)))))) = true then (laws_FnRequests.j1 k x1 true) else ((impl_RequestOK.f k bt808.1 bt808.2.1 bt808.2.2.1 bt808.2.2.2.1 bt808.2.2.2.2).bind fun t829 => (laws_FnRequests.j1 k x1 (!t829)))) else (laws_FnRequests.j1 k x1 true)) else (laws_FnRequests.j1 k x1 true)) else (laws_FnRequests.j1 k x1 true))))))
def laws_FnRequests.j1 : Nat → List Int → Bool → Option (Bool)
  | 0, _, _ => none
  | k + 1, x1, x72 => if x72 = true then (some false) else ((spec_BatchOf.f k x1).bind fun bt830 => ((impl_BatchBytes.f k bt830.1 bt830.2.1 bt830.2.2.1 bt830.2.2.2.1 bt830.2.2.2.2.1 bt830.2.2.2.2.2.1 bt830.2.2.2.2.2.2).bind fun bt840 => ((spec_BatchBytes.f k bt830.1 bt830.2.1 bt830.2.2.1 bt830.2.2.2.1 bt830.2.2.2.2.1 bt830.2.2.2.2.2.1 bt830.2.2.2.2.2.2).bind fun bt844 => ((impl_ReadBatch.f k bt840.1).bind fun bt848 => (if bt840.2 = 0 then (if (strOfNums bt840.1).toList = (strOfNums bt844.1).toList then (if bt848.2.2.2.2.2.2.2 = 0 then ((laws_sameBatch.f k bt848.1 bt848.2.1 bt848.2.2.1 bt848.2.2.2.1 bt848.2.2.2.2.1 bt848.2.2.2.2.2.1 bt848.2.2.2.2.2.2.1 bt830.1 bt830.2.1 bt830.2.2.1 bt830.2.2.2.1 bt830.2.2.2.2.1 bt830.2.2.2.2.2.1 bt830.2.2.2.2.2.2).bind fun t859 => (laws_FnRequests.j2 k x1 (!t859))) else (laws_FnRequests.j2 k x1 true)) else (laws_FnRequests.j2 k x1 true)) else (laws_FnRequests.j2 k x1 true))))))
def laws_FnRequests.j2 : Nat → List Int → Bool → Option (Bool)
  | 0, _, _ => none
  | k + 1, x1, x108 => if x108 = true then (some false) else ((impl_ReadBatch.f k x1).bind fun bt860 => ((spec_ReadBatch.f k x1).bind fun bt871 => (if bt860.2.2.2.2.2.2.2 = bt871.2.2.2.2.2.2.2 then (if bt860.2.2.2.2.2.2.2 = 0 then ((impl_BatchBytes.f k bt860.1 bt860.2.1 bt860.2.2.1 bt860.2.2.2.1 bt860.2.2.2.2.1 bt860.2.2.2.2.2.1 bt860.2.2.2.2.2.2.1).bind fun bt882 => (if bt882.2 = 0 then (some ((strOfNums bt882.1).toList == (strOfNums x1).toList)) else (some false))) else (some true)) else (some false))))
end
def laws_FnRequests.f (k : Nat) (l0 : List Int) (l1 : List Int) : Option (Bool) := if (l0.length : Int) > 1048576 then (laws_FnRequests.j0 k l0 l1 true) else (laws_FnRequests.j0 k l0 l1 (decide ((l1.length : Int) > 1048576)))
theorem laws_FnRequests.mono_l : ∀ k, (∀ y0 y1 y2, LeO (laws_FnRequests.j0 k y0 y1 y2) (laws_FnRequests.j0 (k + 1) y0 y1 y2)) ∧ (∀ y0 y1, LeO (laws_FnRequests.j1 k y0 y1) (laws_FnRequests.j1 (k + 1) y0 y1)) ∧ (∀ y0 y1, LeO (laws_FnRequests.j2 k y0 y1) (laws_FnRequests.j2 (k + 1) y0 y1))
  | 0 => ⟨fun _ _ _ r h => by simp [laws_FnRequests.j0] at h, fun _ _ r h => by simp [laws_FnRequests.j1] at h, fun _ _ r h => by simp [laws_FnRequests.j2] at h⟩
  | k + 1 => by
    obtain ⟨ih0, ih1, ih2⟩ := laws_FnRequests.mono_l k
    refine ⟨?_, ?_, ?_⟩
    · intro y0 y1 y2
      unfold laws_FnRequests.j0
      repeat' first
      | (with_reducible exact ih0 _ _ _)
      | (with_reducible exact ih1 _ _)
      | (with_reducible exact ih2 _ _)
      | (with_reducible exact impl_BatchBytes.mono _ _ _ _ _ _ _ _)
      | (with_reducible exact impl_ReadBatch.mono _ _)
      | (with_reducible exact impl_ReadRequest.mono _ _)
      | (with_reducible exact impl_RequestBytes.mono _ _ _ _ _ _)
      | (with_reducible exact impl_RequestOK.mono _ _ _ _ _ _)
      | (with_reducible exact laws_sameBatch.mono _ _ _ _ _ _ _ _ _ _ _ _ _ _ _)
      | (with_reducible exact spec_BatchBytes.mono _ _ _ _ _ _ _ _)
      | (with_reducible exact spec_BatchOf.mono _ _)
      | (with_reducible exact spec_ReadBatch.mono _ _)
      | (with_reducible exact spec_RequestBytes.mono _ _ _ _ _ _)
      | (with_reducible exact LeO.refl _)
      | (with_reducible exact LeO.none _)
      | (with_reducible refine LeO.ite ?_ ?_)
      | (with_reducible refine LeO.bind ?_ (fun _ => ?_))
      | exact ih0 _ _ _
      | exact ih1 _ _
      | exact ih2 _ _
      | exact impl_BatchBytes.mono _ _ _ _ _ _ _ _
      | exact impl_ReadBatch.mono _ _
      | exact impl_ReadRequest.mono _ _
      | exact impl_RequestBytes.mono _ _ _ _ _ _
      | exact impl_RequestOK.mono _ _ _ _ _ _
      | exact laws_sameBatch.mono _ _ _ _ _ _ _ _ _ _ _ _ _ _ _
      | exact spec_BatchBytes.mono _ _ _ _ _ _ _ _
      | exact spec_BatchOf.mono _ _
      | exact spec_ReadBatch.mono _ _
      | exact spec_RequestBytes.mono _ _ _ _ _ _
      | exact LeO.none _
      | refine LeO.ite ?_ ?_
      | refine LeO.bind ?_ (fun _ => ?_)
    · intro y0 y1
      unfold laws_FnRequests.j1
      repeat' first
      | (with_reducible exact ih0 _ _ _)
      | (with_reducible exact ih1 _ _)
      | (with_reducible exact ih2 _ _)
      | (with_reducible exact impl_BatchBytes.mono _ _ _ _ _ _ _ _)
      | (with_reducible exact impl_ReadBatch.mono _ _)
      | (with_reducible exact impl_ReadRequest.mono _ _)
      | (with_reducible exact impl_RequestBytes.mono _ _ _ _ _ _)
      | (with_reducible exact impl_RequestOK.mono _ _ _ _ _ _)
      | (with_reducible exact laws_sameBatch.mono _ _ _ _ _ _ _ _ _ _ _ _ _ _ _)
      | (with_reducible exact spec_BatchBytes.mono _ _ _ _ _ _ _ _)
      | (with_reducible exact spec_BatchOf.mono _ _)
      | (with_reducible exact spec_ReadBatch.mono _ _)
      | (with_reducible exact spec_RequestBytes.mono _ _ _ _ _ _)
      | (with_reducible exact LeO.refl _)
      | (with_reducible exact LeO.none _)
      | (with_reducible refine LeO.ite ?_ ?_)
      | (with_reducible refine LeO.bind ?_ (fun _ => ?_))
      | exact ih0 _ _ _
      | exact ih1 _ _
      | exact ih2 _ _
      | exact impl_BatchBytes.mono _ _ _ _ _ _ _ _
      | exact impl_ReadBatch.mono _ _
      | exact impl_ReadRequest.mono _ _
      | exact impl_RequestBytes.mono _ _ _ _ _ _
      | exact impl_RequestOK.mono _ _ _ _ _ _
      | exact laws_sameBatch.mono _ _ _ _ _ _ _ _ _ _ _ _ _ _ _
      | exact spec_BatchBytes.mono _ _ _ _ _ _ _ _
      | exact spec_BatchOf.mono _ _
      | exact spec_ReadBatch.mono _ _
      | exact spec_RequestBytes.mono _ _ _ _ _ _
      | exact LeO.none _
      | refine LeO.ite ?_ ?_
      | refine LeO.bind ?_ (fun _ => ?_)
    · intro y0 y1
      unfold laws_FnRequests.j2
      repeat' first
      | (with_reducible exact ih0 _ _ _)
      | (with_reducible exact ih1 _ _)
      | (with_reducible exact ih2 _ _)
      | (with_reducible exact impl_BatchBytes.mono _ _ _ _ _ _ _ _)
      | (with_reducible exact impl_ReadBatch.mono _ _)
      | (with_reducible exact impl_ReadRequest.mono _ _)
      | (with_reducible exact impl_RequestBytes.mono _ _ _ _ _ _)
      | (with_reducible exact impl_RequestOK.mono _ _ _ _ _ _)
      | (with_reducible exact laws_sameBatch.mono _ _ _ _ _ _ _ _ _ _ _ _ _ _ _)
      | (with_reducible exact spec_BatchBytes.mono _ _ _ _ _ _ _ _)
      | (with_reducible exact spec_BatchOf.mono _ _)
      | (with_reducible exact spec_ReadBatch.mono _ _)
      | (with_reducible exact spec_RequestBytes.mono _ _ _ _ _ _)
      | (with_reducible exact LeO.refl _)
      | (with_reducible exact LeO.none _)
      | (with_reducible refine LeO.ite ?_ ?_)
      | (with_reducible refine LeO.bind ?_ (fun _ => ?_))
      | exact ih0 _ _ _
      | exact ih1 _ _
      | exact ih2 _ _
      | exact impl_BatchBytes.mono _ _ _ _ _ _ _ _
      | exact impl_ReadBatch.mono _ _
      | exact impl_ReadRequest.mono _ _
      | exact impl_RequestBytes.mono _ _ _ _ _ _
      | exact impl_RequestOK.mono _ _ _ _ _ _
      | exact laws_sameBatch.mono _ _ _ _ _ _ _ _ _ _ _ _ _ _ _
      | exact spec_BatchBytes.mono _ _ _ _ _ _ _ _
      | exact spec_BatchOf.mono _ _
      | exact spec_ReadBatch.mono _ _
      | exact spec_RequestBytes.mono _ _ _ _ _ _
      | exact LeO.none _
      | refine LeO.ite ?_ ?_
      | refine LeO.bind ?_ (fun _ => ?_)
theorem laws_FnRequests.mono : ∀ a0 a1 k, LeO (laws_FnRequests.f k a0 a1) (laws_FnRequests.f (k + 1) a0 a1) := by
  intro a0 a1 k
  obtain ⟨ih0, ih1, ih2⟩ := laws_FnRequests.mono_l k
  unfold laws_FnRequests.f
  repeat' first
      | (with_reducible exact ih0 _ _ _)
      | (with_reducible exact ih1 _ _)
      | (with_reducible exact ih2 _ _)
      | (with_reducible exact impl_BatchBytes.mono _ _ _ _ _ _ _ _)
      | (with_reducible exact impl_ReadBatch.mono _ _)
      | (with_reducible exact impl_ReadRequest.mono _ _)
      | (with_reducible exact impl_RequestBytes.mono _ _ _ _ _ _)
      | (with_reducible exact impl_RequestOK.mono _ _ _ _ _ _)
      | (with_reducible exact laws_sameBatch.mono _ _ _ _ _ _ _ _ _ _ _ _ _ _ _)
      | (with_reducible exact spec_BatchBytes.mono _ _ _ _ _ _ _ _)
      | (with_reducible exact spec_BatchOf.mono _ _)
      | (with_reducible exact spec_ReadBatch.mono _ _)
      | (with_reducible exact spec_RequestBytes.mono _ _ _ _ _ _)
      | (with_reducible exact LeO.refl _)
      | (with_reducible exact LeO.none _)
      | (with_reducible refine LeO.ite ?_ ?_)
      | (with_reducible refine LeO.bind ?_ (fun _ => ?_))
      | exact ih0 _ _ _
      | exact ih1 _ _
      | exact ih2 _ _
      | exact impl_BatchBytes.mono _ _ _ _ _ _ _ _
      | exact impl_ReadBatch.mono _ _
      | exact impl_ReadRequest.mono _ _
      | exact impl_RequestBytes.mono _ _ _ _ _ _
      | exact impl_RequestOK.mono _ _ _ _ _ _
      | exact laws_sameBatch.mono _ _ _ _ _ _ _ _ _ _ _ _ _ _ _
      | exact spec_BatchBytes.mono _ _ _ _ _ _ _ _
      | exact spec_BatchOf.mono _ _
      | exact spec_ReadBatch.mono _ _
      | exact spec_RequestBytes.mono _ _ _ _ _ _
      | exact LeO.none _
      | refine LeO.ite ?_ ?_
      | refine LeO.bind ?_ (fun _ => ?_)
noncomputable def laws_FnRequests.jv0 (x0 : List Int) (x1 : List Int) (x32 : Bool) : Option (Bool) := lim (fun k_ => laws_FnRequests.j0 k_ x0 x1 x32)
noncomputable def laws_FnRequests.jv1 (x1 : List Int) (x72 : Bool) : Option (Bool) := lim (fun k_ => laws_FnRequests.j1 k_ x1 x72)
noncomputable def laws_FnRequests.jv2 (x1 : List Int) (x108 : Bool) : Option (Bool) := lim (fun k_ => laws_FnRequests.j2 k_ x1 x108)
noncomputable def laws_FnRequests.v (l0 : List Int) (l1 : List Int) : Option (Bool) := lim (fun k_ => laws_FnRequests.f k_ l0 l1)
theorem laws_FnRequests.jv0_lim (x0 : List Int) (x1 : List Int) (x32 : Bool) : LimIs (fun k_ => laws_FnRequests.j0 k_ x0 x1 x32) (laws_FnRequests.jv0 x0 x1 x32) := lim_is (fun k_ => (laws_FnRequests.mono_l k_).1 x0 x1 x32)
theorem laws_FnRequests.jv1_lim (x1 : List Int) (x72 : Bool) : LimIs (fun k_ => laws_FnRequests.j1 k_ x1 x72) (laws_FnRequests.jv1 x1 x72) := lim_is (fun k_ => (laws_FnRequests.mono_l k_).2.1 x1 x72)
theorem laws_FnRequests.jv2_lim (x1 : List Int) (x108 : Bool) : LimIs (fun k_ => laws_FnRequests.j2 k_ x1 x108) (laws_FnRequests.jv2 x1 x108) := lim_is (fun k_ => (laws_FnRequests.mono_l k_).2.2 x1 x108)
theorem laws_FnRequests.v_lim (l0 : List Int) (l1 : List Int) : LimIs (fun k_ => laws_FnRequests.f k_ l0 l1) (laws_FnRequests.v l0 l1) := lim_is (fun k_ => laws_FnRequests.mono l0 l1 k_)
theorem laws_FnRequests.jv0_eq (x0 : List Int) (x1 : List Int) (x32 : Bool) : laws_FnRequests.jv0 x0 x1 x32 = (if x32 = true then (some true) else ((spec_RequestOf.v x0).bind fun bt808 => ((impl_RequestBytes.v bt808.1 bt808.2.1 bt808.2.2.1 bt808.2.2.2.1 bt808.2.2.2.2).bind fun bt814 => ((spec_RequestBytes.v bt808.1 bt808.2.1 bt808.2.2.1 bt808.2.2.2.1 bt808.2.2.2.2).bind fun bt818 => ((impl_ReadRequest.v bt814.1).bind fun bt822 => (if bt814.2 = 0 then (if (strOfNums bt814.1).toList = (strOfNums bt818.1).toList then (if bt822.2.2.2.2.2 = 0 then (if (!(bt822.1 == bt808.1) || (!(bt822.2.1 == bt808.2.1) || (!(bt822.2.2.1 == bt808.2.2.1) || (!(bt822.2.2.2.1 == bt808.2.2.2.1) || (!(bt822.2.2.2.2.1.toList == bt808.2.2.2.2.toList)))))) = true then (laws_FnRequests.jv1 x1 true) else ((impl_RequestOK.v bt808.1 bt808.2.1 bt808.2.2.1 bt808.2.2.2.1 bt808.2.2.2.2).bind fun t829 => (laws_FnRequests.jv1 x1 (!t829)))) else (laws_FnRequests.jv1 x1 true)) else (laws_FnRequests.jv1 x1 true)) else (laws_FnRequests.jv1 x1 true)))))) : Option (Bool)) := by
  refine LimIs.eq (laws_FnRequests.jv0_lim x0 x1 x32) ?_
  refine LimIs.step (fun k_ => (laws_FnRequests.mono_l k_).1 x0 x1 x32) ?_
  simp only [laws_FnRequests.j0]
  repeat' (with_reducible first | exact impl_ReadRequest.v_lim _ | exact impl_RequestBytes.v_lim _ _ _ _ _ | exact impl_RequestOK.v_lim _ _ _ _ _ | exact laws_FnRequests.jv1_lim _ _ | exact spec_RequestBytes.v_lim _ _ _ _ _ | exact spec_RequestOf.v_lim _ | exact LimIs.const _ | refine LimIs.ite ?_ ?_ | refine LimIs.bind ?_ (fun _ => ?_))
theorem laws_FnRequests.jv1_eq (x1 : List Int) (x72 : Bool) : laws_FnRequests.jv1 x1 x72 = (if x72 = true then (some false) else ((spec_BatchOf.v x1).bind fun bt830 => ((impl_BatchBytes.v bt830.1 bt830.2.1 bt830.2.2.1 bt830.2.2.2.1 bt830.2.2.2.2.1 bt830.2.2.2.2.2.1 bt830.2.2.2.2.2.2).bind fun bt840 => ((spec_BatchBytes.v bt830.1 bt830.2.1 bt830.2.2.1 bt830.2.2.2.1 bt830.2.2.2.2.1 bt830.2.2.2.2.2.1 bt830.2.2.2.2.2.2).bind fun bt844 => ((impl_ReadBatch.v bt840.1).bind fun bt848 => (if bt840.2 = 0 then (if (strOfNums bt840.1).toList = (strOfNums bt844.1).toList then (if bt848.2.2.2.2.2.2.2 = 0 then ((laws_sameBatch.v bt848.1 bt848.2.1 bt848.2.2.1 bt848.2.2.2.1 bt848.2.2.2.2.1 bt848.2.2.2.2.2.1 bt848.2.2.2.2.2.2.1 bt830.1 bt830.2.1 bt830.2.2.1 bt830.2.2.2.1 bt830.2.2.2.2.1 bt830.2.2.2.2.2.1 bt830.2.2.2.2.2.2).bind fun t859 => (laws_FnRequests.jv2 x1 (!t859))) else (laws_FnRequests.jv2 x1 true)) else (laws_FnRequests.jv2 x1 true)) else (laws_FnRequests.jv2 x1 true)))))) : Option (Bool)) := by
  refine LimIs.eq (laws_FnRequests.jv1_lim x1 x72) ?_
  refine LimIs.step (fun k_ => (laws_FnRequests.mono_l k_).2.1 x1 x72) ?_
  simp only [laws_FnRequests.j1]
  repeat' (with_reducible first | exact impl_BatchBytes.v_lim _ _ _ _ _ _ _ | exact impl_ReadBatch.v_lim _ | exact laws_FnRequests.jv2_lim _ _ | exact laws_sameBatch.v_lim _ _ _ _ _ _ _ _ _ _ _ _ _ _ | exact spec_BatchBytes.v_lim _ _ _ _ _ _ _ | exact spec_BatchOf.v_lim _ | exact LimIs.const _ | refine LimIs.ite ?_ ?_ | refine LimIs.bind ?_ (fun _ => ?_))
theorem laws_FnRequests.jv2_eq (x1 : List Int) (x108 : Bool) : laws_FnRequests.jv2 x1 x108 = (if x108 = true then (some false) else ((impl_ReadBatch.v x1).bind fun bt860 => ((spec_ReadBatch.v x1).bind fun bt871 => (if bt860.2.2.2.2.2.2.2 = bt871.2.2.2.2.2.2.2 then (if bt860.2.2.2.2.2.2.2 = 0 then ((impl_BatchBytes.v bt860.1 bt860.2.1 bt860.2.2.1 bt860.2.2.2.1 bt860.2.2.2.2.1 bt860.2.2.2.2.2.1 bt860.2.2.2.2.2.2.1).bind fun bt882 => (if bt882.2 = 0 then (some ((strOfNums bt882.1).toList == (strOfNums x1).toList)) else (some false))) else (some true)) else (some false)))) : Option (Bool)) := by
  refine LimIs.eq (laws_FnRequests.jv2_lim x1 x108) ?_
  refine LimIs.step (fun k_ => (laws_FnRequests.mono_l k_).2.2 x1 x108) ?_
  simp only [laws_FnRequests.j2]
  repeat' (with_reducible first | exact impl_BatchBytes.v_lim _ _ _ _ _ _ _ | exact impl_ReadBatch.v_lim _ | exact spec_ReadBatch.v_lim _ | exact LimIs.const _ | refine LimIs.ite ?_ ?_ | refine LimIs.bind ?_ (fun _ => ?_))
theorem laws_FnRequests.v_eq (l0 : List Int) (l1 : List Int) : laws_FnRequests.v l0 l1 = (if (l0.length : Int) > 1048576 then (laws_FnRequests.jv0 l0 l1 true) else (laws_FnRequests.jv0 l0 l1 (decide ((l1.length : Int) > 1048576))) : Option (Bool)) := by
  refine LimIs.eq (laws_FnRequests.v_lim l0 l1) ?_
  simp only [laws_FnRequests.f]
  repeat' (with_reducible first | exact laws_FnRequests.jv0_lim _ _ _ | exact LimIs.const _ | refine LimIs.ite ?_ ?_ | refine LimIs.bind ?_ (fun _ => ?_))
end Go.Proofs.Ytdpdbegglkdgnaa.A
end

section
namespace Go.Proofs.YtdpdbegglkdgnaaW.PrintWords
open Go.RowKit
/-- W is w but for block g. -/
def SameBut (g : Nat) (w W : World) : Prop := ∀ k, k ≠ g → W.heap[k]? = w.heap[k]?
@[go_sem] theorem SameBut.self (g : Nat) (w : World) : SameBut g w w := fun _ _ => rfl
@[go_sem] theorem SameBut.set (g : Nat) (w W : World) (j : Nat) (v : Value) : SameBut g w (W.setCell ⟨g, j, none⟩ v) = SameBut g w W := by
  have e : ∀ k, k ≠ g → (W.setCell ⟨g, j, none⟩ v).heap[k]? = W.heap[k]? := fun k hk => by simp [World.setCell, Array.getElem?_modify, Ne.symm hk]
  exact propext ⟨fun h k hk => (e k hk).symm.trans (h k hk), fun h k hk => (e k hk).trans (h k hk)⟩
@[go_sem] theorem SameBut.drew (g : Nat) (w W : World) : SameBut g w W.drew = SameBut g w W := rfl
@[go_sem] theorem SameBut.drewN (g : Nat) (w W : World) (n : Nat) : SameBut g w (W.drewN n) = SameBut g w W := rfl
namespace Kd
theorem V_string_sb {P : Program} {w : World} {t e s base n c g : Nat} {A : Option Addr} {ok : Nat → Prop} {xs : List Int} (h : Kd.V (Kd.int .u8) e w base ok (.slice A n c) xs) (hg : ∀ k, ok k → k ≠ g) (ht : P.underlying t = some (.slice e)) (he : P.underlying e = some (.int .u8)) (hs : P.underlying s = some .string) :
    ∀ W, SameBut g w W → Sem.run P (convert t s (.slice A xs.length c)) W = .ok (.string (strOfNums xs)) W := by
  intro W hW
  exact Kd.C_string (P := P) ht he hs (Kd.V_reads' (Kd.V_step h (fun k hk _ => hW k (hg k hk)))).2.2
theorem R_string_sb {P : Program} {w : World} {t e s base n c g : Nat} {A : Option Addr} {ok : Nat → Prop} {xs : List Int} (h : Kd.R (Kd.int .u8) e w base ok (.slice A n c) xs) (hg : ∀ k, ok k → k ≠ g) (ht : P.underlying t = some (.slice e)) (he : P.underlying e = some (.int .u8)) (hs : P.underlying s = some .string) :
    ∀ W, SameBut g w W → Sem.run P (convert t s (.slice A xs.length c)) W = .ok (.string (strOfNums xs)) W := by
  intro W hW
  exact Kd.C_string (P := P) ht he hs (Kd.R_reads' (Kd.R_step h (fun k hk _ => hW k (hg k hk)))).2.2
theorem R_string_sbv {P : Program} {w : World} {t e s base g : Nat} {v : Value} {ok : Nat → Prop} {xs : List Int} (h : Kd.R (Kd.int .u8) e w base ok v xs) (hg : ∀ k, ok k → k ≠ g) (ht : P.underlying t = some (.slice e)) (he : P.underlying e = some (.int .u8)) (hs : P.underlying s = some .string) :
    ∀ W, SameBut g w W → Sem.run P (convert t s v) W = .ok (.string (strOfNums xs)) W := by
  obtain ⟨A, c, rfl⟩ := Kd.R_slice h
  exact R_string_sb h hg ht he hs
end Kd
end Go.Proofs.YtdpdbegglkdgnaaW.PrintWords
end

section
namespace Go.Proofs.YtdpdbegglkdgnaaW.PrintWords
open Go.RowKit
/-- Block g holds the bytes l at its head; it has cap cells, none of them marked. -/
structure Bm (W : World) (g cap : Nat) (l : List Int) : Prop where
  cell : ∀ j, j < l.length → W.cell? ⟨g, j, none⟩ = some (.int .u8 (l.getD j 0))
  there : ∀ j, j < cap → (W.cell? ⟨g, j, none⟩).isSome = true
  free : ∀ j, j < cap → W.frozen? ⟨g, j, none⟩ = false
  room : l.length ≤ cap
theorem Bm.at {W W' : World} {g cap : Nat} {l : List Int} (h : Bm W g cap l) (e : W'.heap[g]? = W.heap[g]?) : Bm W' g cap l :=
  ⟨fun j hj => (World.cell?_of_block (a := ⟨g, j, none⟩) e).trans (h.cell j hj), fun j hj => by rw [World.cell?_of_block (a := ⟨g, j, none⟩) e]; exact h.there j hj, fun j hj => (World.frozen?_of_block (a := ⟨g, j, none⟩) e).trans (h.free j hj), h.room⟩
theorem Bm.conv (W : World) (e : Nat) (s : ByteArray) : Bm (Lib.bytesWorld W e s) W.heap.size (grownCap W s.size 0 e) (bytesOf s) := by
  have hc : s.size ≤ grownCap W s.size 0 e := grownCap_ge _ _ _ _
  have hsz : (Lib.bytesCells W e s).size = grownCap W s.size 0 e := by simp [Lib.bytesCells]; omega
  refine ⟨fun j hj => ?_, fun j hj => ?_, fun j hj => ?_, by rw [bytesOf_length]; exact hc⟩
  · rw [bytesOf_length] at hj
    rw [Lib.bytesWorld_cell W e s j hj]
    simp [bytesOf, List.getD, hj]
  · unfold World.cell?
    rw [Lib.bytesWorld_at_new]
    simp [hsz, hj]
  · unfold World.frozen?
    rw [Lib.bytesWorld_at_new]
    simp [hsz]
    omega
section
variable {P : Program} {ops : Array Oper} {rest : List Oper} {o : Oper} {a : Act} {Q : Exit → Act → World → Prop}
theorem Bm.grown {W : World} {g cap : Nat} {l ys : List Int} {e : Nat} {n : Nat} {fill : List Value} (h : Bm W g cap l) (hn : n = l.length + ys.length) :
    ∀ w1, w1.heap[W.heap.size]? = some (.cells (((nums .u8 l) ++ (nums .u8 ys) ++ fill).toArray) e (0, 0)) → Bm w1 W.heap.size (n + fill.length) (l ++ ys) := by
  intro w1 hw
  have hl : (nums .u8 l ++ nums .u8 ys ++ fill).length = n + fill.length := by simp [nums]; omega
  refine ⟨fun j hj => ?_, fun j hj => ?_, fun j hj => ?_, by simp; omega⟩
  · unfold World.cell?
    rw [hw]
    rw [List.length_append] at hj
    simp only [Option.isSome_none, Bool.false_eq_true, if_false, List.getElem?_toArray]
    rw [← nums_append, List.getElem?_append_left (by simp [nums]; omega)]
    have hjl : j < (l ++ ys).length := by rw [List.length_append]; exact hj
    simp only [nums, List.getElem?_map, List.getElem?_eq_getElem hjl, Option.map_some, List.getD, Option.getD_some]
  · unfold World.cell?
    rw [hw]
    simp only [Option.isSome_none, Bool.false_eq_true, if_false, List.getElem?_toArray]
    rw [List.getElem?_eq_getElem (by omega)]
    rfl
  · unfold World.frozen?
    rw [hw]
    simp
theorem Bm.set {W : World} {g cap : Nat} {l ys : List Int} (h : Bm W g cap l) (hr : l.length + ys.length ≤ cap) : Bm (W.setCells g l.length (nums .u8 ys)) g cap (l ++ ys) := by
  have hlen : (nums .u8 ys).length = ys.length := nums_length _ _
  refine ⟨fun j hj => ?_, fun j hj => ?_, fun j hj => ?_, by simp; omega⟩
  · rw [List.length_append] at hj
    by_cases c : j < l.length
    · rw [World.cell?_setCells_out g _ _ _ _ (fun _ _ => by dsimp only; omega), h.cell j c]
      simp [List.getD, List.getElem?_append_left c]
    · have := World.cell?_setCells_in g (nums .u8 ys) l.length W (fun i hi => h.there _ (by omega)) (j - l.length) (by omega)
      rw [show l.length + (j - l.length) = j by omega] at this
      rw [this]
      simp [nums, List.getD, List.getElem?_append_right (show l.length ≤ j by omega), List.getElem?_eq_getElem (show j - l.length < ys.length by omega)]
  · by_cases c : l.length ≤ j ∧ j < l.length + ys.length
    · have := World.cell?_setCells_in g (nums .u8 ys) l.length W (fun i hi => h.there _ (by omega)) (j - l.length) (by omega)
      rw [show l.length + (j - l.length) = j by omega] at this
      rw [this]
      rfl
    · rw [World.cell?_setCells_out g _ _ _ _ (fun _ _ => by dsimp only; omega)]
      exact h.there j hj
  · rw [World.frozen?_setCells]
    exact h.free j hj
end
end Go.Proofs.YtdpdbegglkdgnaaW.PrintWords
end

section
namespace Go.Proofs.Ytdpdbegglkdgnaa.A
open Go.RowKit Go.Proofs.YtdpdbegglkdgnaaW.PrintWords Go.Proofs.YtdpdbegglkdgnaaW.PrintLast Go.Proofs.YtdpdbegglkdgnaaW.PrintMore
attribute [local go_sem] max2_int min2_int max_two min_two max_three min_three max_four min_four
end Go.Proofs.Ytdpdbegglkdgnaa.A
end

section
namespace Go.Proofs.YtdpdbegglkdgnaaW.PrintWords
open Go.RowKit
theorem wrap_id {x : Int} (h0 : -9223372036854775808 ≤ x) (h1 : x ≤ 9223372036854775807) : wrap64 x = x := by unfold wrap64; omega
theorem wf8 {x : Int} (h : (Lit.int .u8 x).wf = true) : 0 ≤ x ∧ x ≤ 255 := by
  simp [Lit.wf, IntKind.min, IntKind.max, IntKind.signed, IntKind.bits] at h
  omega
/-- p at d places from i on. -/
def allB (p : Int → Bool) : Nat → Int → Bool
  | 0, _ => true
  | d + 1, i => p i && allB p d (i + 1)
def allI (p : Int → Bool) (i n : Int) : Bool := allB p (n - i).toNat i
theorem allI_step {p : Int → Bool} {i n : Int} (h : i < n) : allI p i n = (p i && allI p (i + 1) n) := by
  unfold allI
  obtain ⟨d, hd⟩ : ∃ d : Nat, (n - i).toNat = d + 1 := ⟨(n - i).toNat - 1, by omega⟩
  rw [hd, show (n - (i + 1)).toNat = d by omega]
  rfl
theorem allI_end {p : Int → Bool} {i n : Int} (h : n ≤ i) : allI p i n = true := by
  unfold allI
  rw [show (n - i).toNat = 0 by omega]
  rfl
/-- A loop that asks p at each place. -/
theorem loop_all {L : Int → Option Bool} (p : Int → Bool) (n : Int) (hn : n ≤ 9223372036854775807) (hL : ∀ i, 0 ≤ i → i < n → L i = if p i = true then L (wrap64 (i + 1)) else some false) (hE : ∀ i, 0 ≤ i → n ≤ i → L i = some true) :
    ∀ (d : Nat) (i : Int), (n - i).toNat = d → 0 ≤ i → L i = some (allI p i n)
  | 0, i, h, h0 => by rw [hE i h0 (by omega), allI_end (by omega)]
  | d + 1, i, h, h0 => by
    rw [hL i h0 (by omega), allI_step (by omega), wrap_id (by omega) (by omega), loop_all p n hn hL hE d (i + 1) (by omega) (by omega)]
    cases p i <;> simp
def letterB (c : Int) : Bool := decide ((97 ≤ c ∧ c ≤ 122) ∨ (65 ≤ c ∧ c ≤ 90) ∨ c = 95)
def digitB (c : Int) : Bool := decide (48 ≤ c ∧ c ≤ 57)
def inB (n low high : Int) : Bool := decide (low ≤ n ∧ n ≤ high)
def nameB (s : ByteArray) : Bool := decide (1 ≤ s.size ∧ s.size ≤ 40) && (letterB (bt s 0) && allI (fun j => letterB (bt s j) || digitB (bt s j)) 1 s.size)
theorem ba_toList (a : ByteArray) : a.toList = a.data.toList := ByteArray.toList_eq a
theorem ba_inj {a b : ByteArray} : a.toList = b.toList ↔ a = b := by
  rw [ba_toList, ba_toList]
  refine ⟨fun h => ?_, fun h => by rw [h]⟩
  cases a; cases b
  simp only [ByteArray.mk.injEq]
  exact Array.toList_inj.1 h
theorem strOf_size (l : List Int) : (strOfNums l).size = l.length := by
  show (strOfNums l).data.size = _
  simp [strOfNums]
theorem strOf_extract (l : List Int) (i j : Nat) : (strOfNums l).extract i j = strOfNums ((l.take j).drop i) := by
  apply ByteArray.ext
  rw [ByteArray.data_extract]
  simp [strOfNums]
  rw [List.drop_take]
end Go.Proofs.YtdpdbegglkdgnaaW.PrintWords
end

section
namespace Go.Proofs.Ytdpdbegglkdgnaa.A
open Go.RowKit Go.Proofs.YtdpdbegglkdgnaaW.PrintWords
def numL (l : List Int) : Int := l.foldl (fun n c => n * 256 + c) 0
def numM (s : ByteArray) : Int := numL (bytesOf s)
theorem or_byte (n c : Int) (h0 : 0 ≤ n) (h1 : n < 4503599627370496) (h2 : 0 ≤ c) (h3 : c < 256) : Go.bits .or .i64 (wrap64 (n * 256)) (wrap64 c) = n * 256 + c := by
  rw [wrap_id (by omega) (by omega), wrap_id (by omega) (by omega)]
  exact Go.bits_join .i64 62 (by decide) (fun n h0 h1 => by rw [IntKind.wrap_i64]; omega) 8 (n * 256) c (by omega) (by omega) (by omega) (by omega) (by omega) (by omega)
theorem bytesOf_rd (s : ByteArray) (i : Int) (h0 : 0 ≤ i) (h1 : i < s.size) : rd (bytesOf s) i = bt s i := by
  unfold rd bt
  rw [dif_pos (by omega)]
  unfold bytesOf
  rw [List.getD, List.getElem?_map, List.getElem?_eq_getElem (by rw [Array.length_toList]; show _ < s.size; omega)]
  simp
  rfl
theorem bytesOf_range (s : ByteArray) : ∀ c ∈ bytesOf s, 0 ≤ c ∧ c ≤ 255 := by
  intro c hc
  unfold bytesOf at hc
  obtain ⟨b, _, rfl⟩ := List.mem_map.1 hc
  have := b.toNat_lt
  omega
theorem foldl_range (l : List Int) : ∀ (n : Int), (∀ c ∈ l, 0 ≤ c ∧ c ≤ 255) → 0 ≤ n → 0 ≤ l.foldl (fun n c => n * 256 + c) n ∧ l.foldl (fun n c => n * 256 + c) n < (n + 1) * 256 ^ l.length := by
  induction l with
  | nil => intro n _ hn; simp; omega
  | cons c l ih =>
    intro n h hn
    have h1 := h c (by simp)
    obtain ⟨h2, h3⟩ := ih (n * 256 + c) (fun x hx => h x (by simp [hx])) (by omega)
    refine ⟨h2, ?_⟩
    simp only [List.foldl_cons, List.length_cons]
    refine Int.lt_of_lt_of_le h3 ?_
    rw [Int.pow_succ, Int.mul_comm (256 ^ l.length) 256, ← Int.mul_assoc]
    exact Int.mul_le_mul_of_nonneg_right (by omega) (Int.pow_nonneg (by omega))
theorem at_zero (x : ByteArray) : x = x.extract 0 x.size := by
  apply ByteArray.ext
  rw [ByteArray.data_extract]
  show x.data = x.data.extract 0 x.data.size
  rw [Array.extract_size]
theorem numM_one (x : ByteArray) (p : Nat) (h : p < x.size) : numM (x.extract p (p + 1)) = bt x p := by
  unfold numM numL bytesOf
  rw [ByteArray.data_extract, Array.toList_extract]
  have h2 : (x.data.toList.extract p (p + 1)) = [x[p]] := by
    rw [List.extract_eq_take_drop, show p + 1 - p = 1 by omega, List.drop_eq_getElem_cons (by rw [Array.length_toList]; exact h)]
    rfl
  rw [h2, bt, dif_pos (by omega)]
  simp
theorem extract_sub (x : ByteArray) (a b c d : Nat) (h : a + d ≤ b) : (x.extract a b).extract c d = x.extract (a + c) (a + d) := by
  apply ByteArray.ext
  simp only [ByteArray.data_extract, Array.extract_extract]
  congr 1; omega
def byteL (l : List Int) : Prop := ∀ y ∈ l, 0 ≤ y ∧ y ≤ 255
theorem byteL_nil : byteL [] := fun y h => by cases h
theorem byteL_cons {a : Int} {l : List Int} (h0 : 0 ≤ a) (h1 : a ≤ 255) (h : byteL l) : byteL (a :: l) := by
  intro y hy
  rcases List.mem_cons.1 hy with rfl | hy
  · exact ⟨h0, h1⟩
  · exact h y hy
theorem byteL_append {a b : List Int} (ha : byteL a) (hb : byteL b) : byteL (a ++ b) := by
  intro y hy
  rcases List.mem_append.1 hy with hy | hy
  · exact ha y hy
  · exact hb y hy
theorem bytes_str (l : List Int) (h : byteL l) : bytesOf (strOfNums l) = l := by
  unfold bytesOf
  rw [strOfNums_data, List.map_map]
  conv => rhs; rw [← List.map_id l]
  apply List.map_congr_left
  intro y hy
  have := h y hy
  simp only [Function.comp, id]
  rw [UInt8.toNat_ofNat']
  omega
theorem str_bytes (s : ByteArray) : strOfNums (bytesOf s) = s := by
  apply ByteArray.ext
  apply Array.toList_inj.1
  rw [strOfNums_data]
  unfold bytesOf
  rw [List.map_map]
  conv => rhs; rw [← List.map_id s.data.toList]
  apply List.map_congr_left
  intro y _
  simp only [Function.comp, id]
  rw [Int.toNat_natCast]
  exact UInt8.ofNat_toNat
theorem byteL_bytes (s : ByteArray) : byteL (bytesOf s) := bytesOf_range s
theorem str_append (a b : List Int) : strOfNums (a ++ b) = strOfNums a ++ strOfNums b := by
  apply ByteArray.ext
  apply Array.toList_inj.1
  rw [ByteArray.data_append, Array.toList_append, strOfNums_data, strOfNums_data, strOfNums_data, List.map_append]
theorem bytes_extract (x : ByteArray) (a b : Nat) : bytesOf (x.extract a b) = ((bytesOf x).take b).drop a := by
  unfold bytesOf
  rw [ByteArray.data_extract, Array.toList_extract, List.extract_eq_take_drop, List.map_take, List.map_drop, List.drop_take]
/-- n in k bytes, the high one first. -/
def beL (n : Int) : Nat → List Int
  | 0 => []
  | k + 1 => beL (n / 256) k ++ [n % 256]
theorem beL_len (n : Int) (k : Nat) : (beL n k).length = k := by
  induction k generalizing n with
  | zero => rfl
  | succ k ih => simp [beL, ih]
theorem byteL_be (n : Int) (k : Nat) : byteL (beL n k) := by
  induction k generalizing n with
  | zero => exact byteL_nil
  | succ k ih => exact byteL_append (ih _) (byteL_cons (by omega) (by omega) byteL_nil)
theorem numL_append (l : List Int) (a : Int) : numL (l ++ [a]) = numL l * 256 + a := by unfold numL; rw [List.foldl_append]; rfl
theorem numL_be (k : Nat) : ∀ n : Int, 0 ≤ n → n < 256 ^ k → numL (beL n k) = n := by
  induction k with
  | zero => intro n h0 h1; simp at h1; have : n = 0 := by omega
            rw [this]; rfl
  | succ k ih =>
    intro n h0 h1
    have h2 : (256 : Int) ^ (k + 1) = 256 ^ k * 256 := by rw [Int.pow_succ]
    rw [beL, numL_append, ih (n / 256) (by omega) (by omega)]
    omega
theorem ext_mid (a b c : List Int) : (strOfNums (a ++ (b ++ c))).extract a.length (a.length + b.length) = strOfNums b := by
  rw [strOf_extract, ← List.append_assoc, show a.length + b.length = (a ++ b).length by rw [List.length_append], List.take_left, List.drop_left]
theorem numM_str (l : List Int) (h : byteL l) : numM (strOfNums l) = numL l := by unfold numM; rw [bytes_str l h]
theorem be_numL : ∀ (k : Nat) (l : List Int), l.length = k → byteL l → beL (numL l) k = l
  | 0, l, h, hb => by rw [List.length_eq_zero_iff.1 h]; rfl
  | k + 1, l, h, hb => by
    have hne : l ≠ [] := by intro e; rw [e] at h; cases h
    have e := (List.dropLast_concat_getLast hne).symm
    generalize l.dropLast = d at e
    generalize l.getLast hne = a at e
    subst e
    have h2 : d.length = k := by simpa using h
    have ha := hb a (by simp)
    have ih := be_numL k d h2 (fun y hy => hb y (List.mem_append.2 (.inl hy)))
    rw [numL_append, beL, show (numL d * 256 + a) / 256 = numL d by omega, show (numL d * 256 + a) % 256 = a by omega, ih]
theorem impl_number1 (n : Int) : impl_number.v n 1 = some (strOfNums (beL n 1)) := by
  have w0 : wrap64 (1 - 1) = 0 := by rw [wrap_id (by omega) (by omega)]; rfl
  have w1 : wrap64 (0 - 1) = -1 := by rw [wrap_id (by omega) (by omega)]; rfl
  rw [impl_number.v_eq, if_pos (by omega), if_pos (by simp), w0, impl_number.lv0_eq, if_pos (by omega), if_pos (by omega), if_pos (by simp), w1, impl_number.lv0_eq, if_neg (by omega)]
  rfl
theorem impl_number2 (n : Int) : impl_number.v n 2 = some (strOfNums (beL n 2)) := by
  have w2 : wrap64 (2 - 1) = 1 := by rw [wrap_id (by omega) (by omega)]; rfl
  have w0 : wrap64 (1 - 1) = 0 := by rw [wrap_id (by omega) (by omega)]; rfl
  have w1 : wrap64 (0 - 1) = -1 := by rw [wrap_id (by omega) (by omega)]; rfl
  rw [impl_number.v_eq, if_pos (by omega), if_pos (by simp), w2, impl_number.lv0_eq, if_pos (by omega), if_pos (by omega), if_pos (by simp), w0, impl_number.lv0_eq, if_pos (by omega), if_pos (by omega), if_pos (by simp), w1, impl_number.lv0_eq, if_neg (by omega)]
  rfl
theorem impl_number4 (n : Int) : impl_number.v n 4 = some (strOfNums (beL n 4)) := by
  have w4 : wrap64 (4 - 1) = 3 := by rw [wrap_id (by omega) (by omega)]; rfl
  have w3 : wrap64 (3 - 1) = 2 := by rw [wrap_id (by omega) (by omega)]; rfl
  have w2 : wrap64 (2 - 1) = 1 := by rw [wrap_id (by omega) (by omega)]; rfl
  have w0 : wrap64 (1 - 1) = 0 := by rw [wrap_id (by omega) (by omega)]; rfl
  have w1 : wrap64 (0 - 1) = -1 := by rw [wrap_id (by omega) (by omega)]; rfl
  rw [impl_number.v_eq, if_pos (by omega), if_pos (by simp), w4, impl_number.lv0_eq, if_pos (by omega), if_pos (by omega), if_pos (by simp), w3, impl_number.lv0_eq, if_pos (by omega), if_pos (by omega), if_pos (by simp), w2, impl_number.lv0_eq, if_pos (by omega), if_pos (by omega), if_pos (by simp), w0, impl_number.lv0_eq, if_pos (by omega), if_pos (by omega), if_pos (by simp), w1, impl_number.lv0_eq, if_neg (by omega)]
  rfl
theorem be_front (j : Nat) : ∀ n : Int, beL n (j + 1) = (n / 256 ^ j % 256) :: beL n j := by
  induction j with
  | zero => intro n; simp [beL]
  | succ j ih =>
    intro n
    have h : beL n (j + 1 + 1) = beL (n / 256) (j + 1) ++ [n % 256] := rfl
    have h2 : n / 256 / 256 ^ j = n / 256 ^ (j + 1) := by
      rw [Int.ediv_ediv_of_nonneg (by omega), Int.pow_succ, Int.mul_comm]
    rw [h, ih, h2]
    rfl
theorem shr_be (n : Int) (j : Nat) (hj : j ≤ 7) : shr .i64 n (IntKind.u64.wrap (wrap64 (8 * (j : Int)))) = n / 256 ^ j := by
  have w : wrap64 (8 * (j : Int)) = ((8 * j : Nat) : Int) := by rw [wrap_id (by omega) (by omega)]; omega
  have w2 : IntKind.u64.wrap ((8 * j : Nat) : Int) = ((8 * j : Nat) : Int) := by
    have : 8 * j < 18446744073709551616 := by omega
    unfold IntKind.wrap
    simp [IntKind.bits, IntKind.signed]
    omega
  rw [w, w2]
  clear w w2
  unfold shr
  rw [Int.toNat_natCast, Nat.min_eq_left (by show 8 * j ≤ 64; omega), Int.pow_mul]
  rfl
theorem spec_number_l (n : Int) : ∀ (j : Nat) (acc : List Int), j ≤ 8 → acc.length + j ≤ 1000000 → spec_l02Number.lv0 n acc ((j : Int) - 1) = some (acc ++ beL n j)
  | 0, acc, hj, ha => by rw [spec_l02Number.lv0_eq, if_neg (by omega)]; simp [beL]
  | j + 1, acc, hj, ha => by
    have ih := spec_number_l n j (acc ++ [n / 256 ^ j % 256]) (by omega) (by rw [List.length_append]; show acc.length + 1 + j ≤ _; omega)
    have e : (((j + 1 : Nat) : Int) - 1) = (j : Int) := by omega
    have hs := shr_be n j (by omega)
    have h0 : 0 ≤ IntKind.u64.wrap (wrap64 (8 * (j : Int))) := by
      have w : wrap64 (8 * (j : Int)) = ((8 * j : Nat) : Int) := by rw [wrap_id (by omega) (by omega)]; omega
      rw [w]
      clear w hs
      unfold IntKind.wrap
      simp [IntKind.bits, IntKind.signed]
      omega
    have w : wrap64 ((j : Int) - 1) = (j : Int) - 1 := wrap_id (by omega) (by omega)
    have c1 : (j : Int) ≥ 0 := by omega
    have c2 : acc.length < 140737488355328 := by omega
    rw [e, spec_l02Number.lv0_eq, if_pos c1, if_pos h0, if_pos c2, hs, w, ih, be_front, List.append_assoc]
    rfl
theorem spec_number_v (n : Int) (k : Nat) (hk : k ≤ 8) : spec_l02Number.v n k = some (beL n k) := by
  have w : wrap64 ((k : Int) - 1) = (k : Int) - 1 := wrap_id (by omega) (by omega)
  rw [spec_l02Number.v_eq, w, spec_number_l n k [] hk (by simp; omega)]
  rfl
theorem impl_number_l (s : ByteArray) (hs : s.size ≤ 6) (t : ByteArray) (b : Bool) : ∀ (d i : Nat), s.size - i = d → i ≤ s.size → ∀ n : Int, n = numL ((bytesOf s).take i) → impl_reader_number.lv0 n (bytesOf s) ((bytesOf s).length : Int) i t b = some (numM s, t, b)
  | 0, i, h, hi, n, hn => by
    rw [impl_reader_number.lv0_eq, if_neg (by rw [bytesOf_length]; omega), hn, List.take_of_length_le (by rw [bytesOf_length]; omega)]; rfl
  | d + 1, i, h, hi, n, hn => by
    have hlt : i < s.size := by omega
    have hr := foldl_range ((bytesOf s).take i) 0 (fun c hc => bytesOf_range s c (List.mem_of_mem_take hc)) (by omega)
    have hlen : ((bytesOf s).take i).length = i := by rw [List.length_take, bytesOf_length]; omega
    rw [hlen] at hr
    have hp : (256 : Int) ^ i ≤ 256 ^ 5 := by
      have h5 : i = 0 ∨ i = 1 ∨ i = 2 ∨ i = 3 ∨ i = 4 ∨ i = 5 := by omega
      rcases h5 with rfl | rfl | rfl | rfl | rfl | rfl <;> decide
    have hn2 : 0 ≤ n ∧ n < 256 ^ 5 := by rw [hn]; unfold numL; omega
    have hb := bt_range s i
    rw [impl_reader_number.lv0_eq, if_pos (by rw [bytesOf_length]; omega), if_pos (by omega), if_pos (by rw [bytesOf_length]; omega), bytesOf_rd s i (by omega) (by omega), or_byte n _ hn2.1 (by omega) hb.1 (by omega), wrap_id (x := (i : Int) + 1) (by omega) (by omega)]
    refine impl_number_l s hs t b d (i + 1) (by omega) (by omega) _ ?_
    rw [List.take_succ_eq_append_getElem (by rw [bytesOf_length]; omega)]
    unfold numL
    rw [List.foldl_append]
    simp only [List.foldl_cons, List.foldl_nil]
    have h1 : (bytesOf s)[i]'(by rw [bytesOf_length]; omega) = bt s i := by
      rw [← bytesOf_rd s i (by omega) (by omega)]
      unfold rd
      rw [Int.toNat_natCast, List.getD, List.getElem?_eq_getElem (by rw [bytesOf_length]; omega)]
      rfl
    rw [h1, hn]
    rfl
/-- The reader at place p of x. -/
theorem take_ok (x : ByteArray) (p n : Nat) (h : p + n ≤ x.size) : impl_reader_take.v (x.extract p x.size) false n = some (x.extract p (p + n), x.extract (p + n) x.size, false) := by
  have hs : (x.extract p x.size).size = x.size - p := by rw [ByteArray.size_extract]; omega
  rw [impl_reader_take.v_eq, if_neg (by simp), if_neg (by omega), if_pos (by omega), if_pos (by omega), Int.toNat_natCast, hs]
  congr 1
  refine Prod.ext ?_ (Prod.ext ?_ rfl)
  · apply ByteArray.ext
    simp only [ByteArray.data_extract, Array.extract_extract]
    congr 1; omega
  · apply ByteArray.ext
    simp only [ByteArray.data_extract, Array.extract_extract]
    congr 1; omega
theorem take_short (x : ByteArray) (p n : Nat) (hp : p ≤ x.size) (h : x.size < p + n) : impl_reader_take.v (x.extract p x.size) false n = some (⟨#[]⟩, x.extract p x.size, true) := by
  have hs : (x.extract p x.size).size = x.size - p := by rw [ByteArray.size_extract]; omega
  rw [impl_reader_take.v_eq, if_neg (by simp), if_pos (by omega)]
theorem take_bad (t : ByteArray) (n : Int) : impl_reader_take.v t true n = some (⟨#[]⟩, t, true) := by rw [impl_reader_take.v_eq, if_pos rfl]
theorem number_of (t u v : ByteArray) (b c : Bool) (n : Int) (h : impl_reader_take.v t b n = some (u, v, c)) (hu : u.size ≤ 6) : impl_reader_number.v t b n = some (numM u, v, c) := by
  rw [impl_reader_number.v_eq, h]
  simp only [Option.bind_some]
  rw [if_pos (by omega)]
  exact impl_number_l u hu v c u.size 0 rfl (by omega) 0 rfl
theorem number_ok (x : ByteArray) (p n : Nat) (h : p + n ≤ x.size) (hn : n ≤ 6) : impl_reader_number.v (x.extract p x.size) false n = some (numM (x.extract p (p + n)), x.extract (p + n) x.size, false) :=
  number_of _ _ _ _ _ _ (take_ok x p n h) (by rw [ByteArray.size_extract]; omega)
theorem number_short (x : ByteArray) (p n : Nat) (hp : p ≤ x.size) (h : x.size < p + n) : impl_reader_number.v (x.extract p x.size) false n = some (0, x.extract p x.size, true) :=
  number_of _ _ _ _ _ _ (take_short x p n hp h) (by show 0 ≤ 6; omega)
theorem number_bad (t : ByteArray) (n : Int) : impl_reader_number.v t true n = some (0, t, true) := number_of _ _ _ _ _ _ (take_bad t n) (by show 0 ≤ 6; omega)
theorem done_bad (t : ByteArray) : impl_reader_done.v t true = some (false, t, true) := by rw [impl_reader_done.v_eq, if_pos rfl]
theorem ba_nil' (s : ByteArray) : (s.toList == ([] : List UInt8)) = decide (s.size = 0) := by
  rw [Bool.eq_iff_iff]
  simp only [beq_iff_eq, decide_eq_true_eq]
  rw [ba_toList]
  constructor
  · intro h; show s.data.size = 0; rw [← Array.length_toList, h]; rfl
  · intro h; have h2 : s.data.toList.length = 0 := by rw [Array.length_toList]; exact h
    exact List.eq_nil_of_length_eq_zero h2
theorem done_at (x : ByteArray) (p : Nat) (h : p ≤ x.size) : impl_reader_done.v (x.extract p x.size) false = some (decide (p = x.size), x.extract p x.size, false) := by
  rw [impl_reader_done.v_eq, if_neg (by simp), ba_nil', ByteArray.size_extract]
  congr 2
  by_cases h2 : p = x.size
  · simp [h2]
  · simp [h2]; omega
theorem spec_l02Of_l (s : ByteArray) (hs : s.size ≤ 6) : ∀ (d i : Nat), s.size - i = d → i ≤ s.size → ∀ n : Int, n = numL ((bytesOf s).take i) → spec_l02Of.lv0 s n i = some (numM s)
  | 0, i, h, hi, n, hn => by
    rw [spec_l02Of.lv0_eq, if_neg (by omega), hn, List.take_of_length_le (by rw [bytesOf_length]; omega)]; rfl
  | d + 1, i, h, hi, n, hn => by
    have hlt : i < s.size := by omega
    have hr := foldl_range ((bytesOf s).take i) 0 (fun c hc => bytesOf_range s c (List.mem_of_mem_take hc)) (by omega)
    have hlen : ((bytesOf s).take i).length = i := by rw [List.length_take, bytesOf_length]; omega
    rw [hlen] at hr
    have hp : (256 : Int) ^ i ≤ 256 ^ 5 := by
      have h5 : i = 0 ∨ i = 1 ∨ i = 2 ∨ i = 3 ∨ i = 4 ∨ i = 5 := by omega
      rcases h5 with rfl | rfl | rfl | rfl | rfl | rfl <;> decide
    have hn2 : 0 ≤ n ∧ n < 256 ^ 5 := by rw [hn]; unfold numL; omega
    have hb := bt_range s i
    rw [spec_l02Of.lv0_eq, if_pos (by omega), if_pos (by omega), wrap_id (x := n * 256) (by omega) (by omega), wrap_id (x := bt s i) (by omega) (by omega), wrap_id (x := n * 256 + bt s i) (by omega) (by omega), wrap_id (x := (i : Int) + 1) (by omega) (by omega)]
    refine spec_l02Of_l s hs d (i + 1) (by omega) (by omega) _ ?_
    rw [List.take_succ_eq_append_getElem (by rw [bytesOf_length]; omega)]
    unfold numL
    rw [List.foldl_append]
    simp only [List.foldl_cons, List.foldl_nil]
    have h1 : (bytesOf s)[i]'(by rw [bytesOf_length]; omega) = bt s i := by
      rw [← bytesOf_rd s i (by omega) (by omega)]
      unfold rd
      rw [Int.toNat_natCast, List.getD, List.getElem?_eq_getElem (by rw [bytesOf_length]; omega)]
      rfl
    rw [h1, hn]
    rfl
theorem spec_l02Of_v (s : ByteArray) (hs : s.size ≤ 6) : spec_l02Of.v s = some (numM s) := by
  rw [spec_l02Of.v_eq]
  exact spec_l02Of_l s hs s.size 0 rfl (by omega) 0 rfl
theorem wrap_bt (x : ByteArray) (i : Int) : wrap64 (bt x i) = bt x i := by
  have := bt_range x i
  exact wrap_id (by omega) (by omega)
theorem spec_l01In_v (n low high : Int) : spec_l01In.v n low high = some (inB n low high) := by
  rw [spec_l01In.v_eq]; unfold inB; split <;> simp <;> omega
theorem impl_within_v (n low high : Int) : impl_within.v n low high = some (inB n low high) := by
  rw [impl_within.v_eq]; unfold inB; split <;> simp <;> omega
theorem spec_l00Letter_v (c : Int) : spec_l00Letter.v c = some (letterB c) := by
  rw [spec_l00Letter.v_eq]; unfold letterB; repeat' split
  all_goals (congr 1; rw [Bool.eq_iff_iff]; simp <;> omega)
theorem impl_isLetter_v (c : Int) : impl_isLetter.v c = some (letterB c) := by
  rw [impl_isLetter.v_eq]; unfold letterB; repeat' split
  all_goals (congr 1; rw [Bool.eq_iff_iff]; simp <;> omega)
theorem spec_l00Digit_v (c : Int) : spec_l00Digit.v c = some (digitB c) := by
  rw [spec_l00Digit.v_eq]; unfold digitB; split <;> simp <;> omega
theorem spec_l00Word_l (s : ByteArray) (hs : s.size ≤ 9223372036854775807) (i : Int) (h : 0 ≤ i) : spec_l00Word.lv0 s i = some (allI (fun j => letterB (bt s j) || digitB (bt s j)) i s.size) := by
  refine loop_all _ s.size (by omega) (fun i h0 h1 => ?_) (fun i h0 h1 => ?_) _ i rfl h
  · rw [spec_l00Word.lv0_eq, if_pos h1, if_pos h0, spec_l00Letter_v, spec_l00Digit_v]
    simp only [Option.bind_some]
    cases letterB (bt s i) <;> cases digitB (bt s i) <;> simp
  · rw [spec_l00Word.lv0_eq, if_neg (by omega)]
theorem impl_NameOK_l (s : ByteArray) (hs : s.size ≤ 9223372036854775807) (i : Int) (h : 0 ≤ i) : impl_NameOK.lv0 s s.size i = some (allI (fun j => letterB (bt s j) || digitB (bt s j)) i s.size) := by
  refine loop_all (L := fun i => impl_NameOK.lv0 s s.size i) _ s.size (by omega) (fun i h0 h1 => ?_) (fun i h0 h1 => ?_) _ i rfl h
  · rw [impl_NameOK.lv0_eq, if_pos h1, if_pos h0, if_pos h1, impl_isLetter_v]
    simp only [Option.bind_some]
    cases letterB (bt s i) <;> simp [digitB]
    by_cases h2 : bt s i < 48
    · simp [h2, show ¬ 48 ≤ bt s i by omega]
    · by_cases h3 : 57 < bt s i
      · simp [h2, h3, show ¬ bt s i ≤ 57 by omega]
      · simp [h2, h3, show 48 ≤ bt s i by omega, show bt s i ≤ 57 by omega]
  · rw [impl_NameOK.lv0_eq, if_neg (by omega)]
theorem spec_NameOK_v (s : ByteArray) (hs : s.size ≤ 9223372036854775807) : spec_NameOK.v s = some (nameB s) := by
  rw [spec_NameOK.v_eq, spec_l00Word.v_eq]
  simp only [spec_l00Letter_v, spec_l00Word.jv0_eq, spec_l00Word_l s hs 1 (by omega), Option.bind_some, nameB]
  by_cases h1 : (s.size : Int) < 1
  · simp [h1]; omega
  · by_cases h2 : (s.size : Int) > 40
    · simp [h1, h2]; omega
    · simp only [if_neg h1, if_neg h2, if_pos (show 0 < (s.size : Int) by omega), Option.bind_some, show (1 ≤ s.size ∧ s.size ≤ 40) = True by simp; omega]
      cases letterB (bt s 0) <;> simp
theorem impl_NameOK_v (s : ByteArray) (hs : s.size ≤ 9223372036854775807) : impl_NameOK.v s = some (nameB s) := by
  rw [impl_NameOK.v_eq]
  simp only [impl_isLetter_v, impl_NameOK.jv0_eq, impl_NameOK_l s hs 0 (by omega), Option.bind_some, nameB]
  by_cases h1 : (s.size : Int) < 1
  · simp [h1]; omega
  · by_cases h2 : (s.size : Int) > 40
    · simp [h1, h2]; omega
    · simp only [if_neg h1, if_neg h2, if_pos (show 0 < (s.size : Int) by omega), Option.bind_some, show (1 ≤ s.size ∧ s.size ≤ 40) = True by simp; omega]
      rw [allI_step (i := 0) (by omega)]
      cases letterB (bt s 0) <;> simp
theorem spec_l02Text_v (s : ByteArray) (n : Int) (hs : s.size ≤ 9223372036854775807) : spec_l02Text.v s n = some (decide ((s.size : Int) ≤ n) && nameB s) := by
  rw [spec_l02Text.v_eq, spec_l01In_v, spec_NameOK_v s hs]
  simp only [Option.bind_some, inB]
  by_cases h : (1 : Int) ≤ s.size ∧ (s.size : Int) ≤ n
  · simp [h]
  · by_cases h2 : (s.size : Int) ≤ n
    · simp [h, h2, nameB, show ¬ (1 ≤ s.size) by omega]
    · simp [h, h2]
theorem impl_isOpName_v (s : ByteArray) (hs : s.size ≤ 9223372036854775807) : impl_isOpName.v s = some (decide ((s.size : Int) ≤ 12) && nameB s) := by
  rw [impl_isOpName.v_eq, impl_NameOK_v s hs]
  by_cases h : (s.size : Int) ≤ 12 <;> simp [h]
def reqB (c st k ls : Int) (nm : ByteArray) : Bool :=
  inB c 0 255 && inB st 1 65535 && inB k 1 4 && inB ls 0 1000 && (decide ((nm.size : Int) ≤ 12) && nameB nm) && (decide (ls > 0) == decide (k = 1 ∨ k = 3))
theorem spec_RequestOK_v (c st k ls : Int) (nm : ByteArray) (h : nm.size ≤ 9223372036854775807) : spec_RequestOK.v c st k ls nm = some (reqB c st k ls nm) := by
  rw [spec_RequestOK.v_eq]
  simp only [spec_l01In_v, Option.bind_some, spec_l02Text_v nm 12 h, reqB]
  generalize (decide ((nm.size : Int) ≤ 12) && nameB nm) = q
  cases inB c 0 255 <;> cases inB st 1 65535 <;> cases inB k 1 4 <;> cases inB ls 0 1000 <;> cases q <;> simp
  by_cases h1 : k = 1
  · simp [h1]
  · by_cases h2 : k = 3
    · simp [h2]
    · simp [h1, h2, show (k == 3) = false by simpa using h2]
theorem impl_RequestOK_v (c st k ls : Int) (nm : ByteArray) (h : nm.size ≤ 9223372036854775807) : impl_RequestOK.v c st k ls nm = some (reqB c st k ls nm) := by
  have e : impl_RequestOK.v c st k ls nm = impl_RequestOK.jv1 (if k = 1 ∨ k = 3 then 1 else 0) (if k = 1 ∨ k = 3 then 1000 else 0) c st k ls nm := by
    rw [impl_RequestOK.v_eq]
    by_cases h1 : k = 1
    · simp [h1, impl_RequestOK.jv0_eq]
    · by_cases h2 : k = 3
      · simp [h2, impl_RequestOK.jv0_eq]
      · simp [h1, h2, impl_RequestOK.jv0_eq, show (k == 3) = false by simpa using h2]
  rw [e, impl_RequestOK.jv1_eq]
  simp only [impl_within_v, Option.bind_some, impl_isOpName_v nm h, reqB]
  generalize (decide ((nm.size : Int) ≤ 12) && nameB nm) = q
  by_cases hk : k = 1 ∨ k = 3
  · have e2 : inB ls 1 1000 = (inB ls 0 1000 && decide (ls > 0)) := by unfold inB; rw [Bool.eq_iff_iff]; simp; omega
    simp only [if_pos hk, e2, decide_eq_true hk]
    cases inB c 0 255 <;> cases inB st 1 65535 <;> cases inB k 1 4 <;> cases inB ls 0 1000 <;> cases q <;> cases decide (ls > 0) <;> simp
  · have e2 : inB ls 0 0 = (inB ls 0 1000 && !decide (ls > 0)) := by unfold inB; rw [Bool.eq_iff_iff]; simp; omega
    simp only [if_neg hk, e2, decide_eq_false hk]
    cases inB c 0 255 <;> cases inB st 1 65535 <;> cases inB k 1 4 <;> cases inB ls 0 1000 <;> cases q <;> cases decide (ls > 0) <;> simp
/-- A request at place p of x: how long its name is; its parts. -/
def rN (x : ByteArray) (p : Nat) : Nat := (bt x (p + 6 : Nat)).toNat
def rB (x : ByteArray) (p : Nat) : Bool := reqB (bt x p) (numM (x.extract (p + 1) (p + 3))) (bt x (p + 3 : Nat)) (numM (x.extract (p + 4) (p + 6))) (x.extract (p + 7) (p + 7 + rN x p))
abbrev Req7 := Int × Int × Int × Int × ByteArray × ByteArray × Bool
theorem impl_request_ok (x : ByteArray) (p : Nat) (h : p + 7 + rN x p ≤ x.size) : impl_reader_request.v (x.extract p x.size) false =
    some (bt x p, numM (x.extract (p + 1) (p + 3)), bt x (p + 3 : Nat), numM (x.extract (p + 4) (p + 6)), x.extract (p + 7) (p + 7 + rN x p), x.extract (p + 7 + rN x p) x.size, false) := by
  rw [impl_reader_request.v_eq]
  rw [show (1 : Int) = ((1 : Nat) : Int) from rfl, show (2 : Int) = ((2 : Nat) : Int) from rfl]
  rw [number_ok x p 1 (by omega) (by omega), Option.bind_some]
  simp only
  rw [number_ok x (p + 1) 2 (by omega) (by omega), Option.bind_some]
  simp only
  rw [number_ok x (p + 1 + 2) 1 (by omega) (by omega), Option.bind_some]
  simp only
  rw [number_ok x (p + 1 + 2 + 1) 2 (by omega) (by omega), Option.bind_some]
  simp only
  rw [impl_reader_sized.v_eq, number_ok x (p + 1 + 2 + 1 + 2) 1 (by omega) (by omega), Option.bind_some]
  simp only
  have hb := bt_range x (p + 6 : Nat)
  have e6 : numM (x.extract (p + 1 + 2 + 1 + 2) (p + 1 + 2 + 1 + 2 + 1)) = ((rN x p : Nat) : Int) := by
    rw [numM_one x _ (by omega)]
    unfold rN
    rw [Int.toNat_of_nonneg hb.1]
  rw [e6, take_ok x (p + 1 + 2 + 1 + 2 + 1) (rN x p) (by omega), Option.bind_some, Option.bind_some]
  rw [numM_one x p (by omega), numM_one x (p + 1 + 2) (by omega)]
theorem impl_request_bad (t : ByteArray) : impl_reader_request.v t true = some (0, 0, 0, 0, ⟨#[]⟩, t, true) := by
  rw [impl_reader_request.v_eq]
  simp [number_bad, impl_reader_sized.v_eq, take_bad]
theorem impl_request_short (x : ByteArray) (p : Nat) (hp : p ≤ x.size) (h : x.size < p + 7 ∨ x.size < p + 7 + rN x p) : ∃ r : Req7, impl_reader_request.v (x.extract p x.size) false = some r ∧ r.2.2.2.2.2.2 = true := by
  rw [impl_reader_request.v_eq]
  have sized : ∀ (t : ByteArray) (b : Bool) (n : Int), impl_reader_sized.v t b n = (impl_reader_number.v t b n).bind fun r => (impl_reader_take.v r.2.1 r.2.2 r.1).bind fun q => some (q.1, q.2.1, q.2.2) := fun t b n => impl_reader_sized.v_eq t b n
  rw [show (1 : Int) = ((1 : Nat) : Int) from rfl, show (2 : Int) = ((2 : Nat) : Int) from rfl]
  rcases Nat.lt_or_ge x.size (p + 1) with h0 | h0
  · rw [number_short x p 1 hp h0]
    exact ⟨_, by simp [number_bad, sized, take_bad]; rfl, rfl⟩
  rw [number_ok x p 1 (by omega) (by omega), Option.bind_some]
  simp only
  rcases Nat.lt_or_ge x.size (p + 1 + 2) with h1 | h1
  · rw [number_short x (p + 1) 2 h0 h1]
    exact ⟨_, by simp [number_bad, sized, take_bad]; rfl, rfl⟩
  rw [number_ok x (p + 1) 2 (by omega) (by omega), Option.bind_some]
  simp only
  rcases Nat.lt_or_ge x.size (p + 1 + 2 + 1) with h2 | h2
  · rw [number_short x (p + 1 + 2) 1 h1 h2]
    exact ⟨_, by simp [number_bad, sized, take_bad]; rfl, rfl⟩
  rw [number_ok x (p + 1 + 2) 1 (by omega) (by omega), Option.bind_some]
  simp only
  rcases Nat.lt_or_ge x.size (p + 1 + 2 + 1 + 2) with h3 | h3
  · rw [number_short x (p + 1 + 2 + 1) 2 h2 h3]
    exact ⟨_, by simp [number_bad, sized, take_bad]; rfl, rfl⟩
  rw [number_ok x (p + 1 + 2 + 1) 2 (by omega) (by omega), Option.bind_some]
  simp only
  rcases Nat.lt_or_ge x.size (p + 1 + 2 + 1 + 2 + 1) with h4 | h4
  · rw [sized, number_short x (p + 1 + 2 + 1 + 2) 1 h3 h4]
    exact ⟨_, by simp [take_bad]; rfl, rfl⟩
  rw [sized, number_ok x (p + 1 + 2 + 1 + 2) 1 (by omega) (by omega), Option.bind_some]
  simp only
  have hb := bt_range x (p + 6 : Nat)
  have e6 : numM (x.extract (p + 1 + 2 + 1 + 2) (p + 1 + 2 + 1 + 2 + 1)) = ((rN x p : Nat) : Int) := by
    rw [numM_one x _ (by omega)]
    unfold rN
    rw [Int.toNat_of_nonneg hb.1]
  rw [e6, take_short x (p + 1 + 2 + 1 + 2 + 1) (rN x p) h4 (by omega)]
  exact ⟨_, rfl, rfl⟩
/-- The reference's way, from place p on to the end. -/
def rFits (x : ByteArray) (p : Nat) : Bool := decide (p + 7 + rN x p = x.size)
abbrev Req6 := Int × Int × Int × Int × ByteArray × Bool
def rYes (x : ByteArray) (p : Nat) : Req6 := (bt x p, numM (x.extract (p + 1) (p + 3)), bt x (p + 3 : Nat), numM (x.extract (p + 4) (p + 6)), x.extract (p + 7) (p + 7 + rN x p), true)
theorem spec_l02ReadRequest_v (x : ByteArray) (hx : x.size ≤ 9223372036854775000) : ∃ r : Req6, spec_l02ReadRequest.v x = some r ∧ (((rFits x 0 && rB x 0) = true ∧ r = rYes x 0) ∨ ((rFits x 0 && rB x 0) = false ∧ r.2.2.2.2.2 = false)) := by
  rw [spec_l02ReadRequest.v_eq]
  by_cases h7 : (x.size : Int) < 7
  · rw [if_pos h7, spec_l02ReadRequest.jv0_eq, if_pos rfl]
    refine ⟨_, rfl, .inr ⟨?_, rfl⟩⟩
    have : rFits x 0 = false := by unfold rFits; simp; omega
    rw [this]; rfl
  have hN : bt x 6 = ((rN x 0 : Nat) : Int) := by unfold rN; rw [Int.toNat_of_nonneg (bt_range x _).1]; rfl
  have hNr : rN x 0 ≤ 255 := by have := bt_range x 6; omega
  have w1 : wrap64 (7 + ((rN x 0 : Nat) : Int)) = ((7 + rN x 0 : Nat) : Int) := by rw [wrap_id (by omega) (by omega)]; omega
  rw [if_neg h7, if_pos (by omega), spec_l02ReadRequest.jv0_eq, wrap_bt, hN, w1]
  clear w1
  by_cases h8 : (x.size : Int) = ((7 + rN x 0 : Nat) : Int)
  · have c1 : (0 : Int) < x.size := by omega
    have c2 : (3 : Int) ≤ x.size := by omega
    have c3 : (3 : Int) < x.size := by omega
    have c4 : (6 : Int) ≤ x.size := by omega
    have c5 : (7 : Int) ≤ x.size := by omega
    have d5 := spec_l02Of_v (x.extract 1 3) (by rw [ByteArray.size_extract]; omega)
    have d6 := spec_l02Of_v (x.extract 4 6) (by rw [ByteArray.size_extract]; omega)
    have hne : ((x.size : Int) != ((7 + rN x 0 : Nat) : Int)) = false := by simp [h8]
    simp only [hne, Bool.false_eq_true, if_false, if_pos c1, if_pos c2, if_pos c3, if_pos c4, if_pos c5, if_pos (show (1 : Int) ≤ 3 by omega), if_pos (show (4 : Int) ≤ 6 by omega), d5, d6, wrap_bt, Option.bind_some]
    rw [spec_RequestOK_v _ _ _ _ _ (by rw [ByteArray.size_extract]; omega), Option.bind_some]
    have e7 : x.extract 7 x.size = x.extract (0 + 7) (0 + 7 + rN x 0) := by rw [show x.size = 0 + 7 + rN x 0 by omega]
    refine ⟨_, rfl, ?_⟩
    have hf : rFits x 0 = true := by unfold rFits; simp; omega
    cases hq : rB x 0
    · exact .inr ⟨by simp, by rw [e7]; exact hq⟩
    · refine .inl ⟨by rw [hf]; rfl, ?_⟩
      have hq2 : reqB (bt x 0) (numM (x.extract 1 3)) (bt x 3) (numM (x.extract 4 6)) (x.extract 7 x.size) = true := by rw [e7]; exact hq
      rw [hq2, e7]
      rfl
  · rw [if_pos (by simpa using h8)]
    refine ⟨_, rfl, .inr ⟨?_, rfl⟩⟩
    have : rFits x 0 = false := by unfold rFits; simp; omega
    rw [this]; rfl
def readingB (f v : Int) (m : ByteArray) : Bool := inB f 0 6 && (inB v 0 1000000000 && decide (m.size = 8))
theorem size_beq (m : ByteArray) (n : Nat) : ((m.size : Int) == (n : Int)) = decide (m.size = n) := by
  rw [Bool.eq_iff_iff, beq_iff_eq, decide_eq_true_eq]; omega
theorem impl_isReading_v (f v : Int) (m : ByteArray) : impl_isReading.v f v m = some (readingB f v m) := by
  rw [impl_isReading.v_eq, impl_within_v, impl_within_v]; unfold readingB
  have := size_beq m 8
  cases inB f 0 6 <;> cases inB v 0 1000000000 <;> simp_all
theorem spec_l02Reading_v (f v : Int) (m : ByteArray) : spec_l02Reading.v f v m = some (readingB f v m) := by
  rw [spec_l02Reading.v_eq, spec_l01In_v, spec_l01In_v]; unfold readingB
  have := size_beq m 8
  cases inB f 0 6 <;> cases inB v 0 1000000000 <;> simp_all
theorem batch_loop (n : Bool) (a b c d : Int) (e : ByteArray) (rs : List S70) (hl : rs.length ≤ 1000000) : ∀ k i : Nat, rs.length - i = k → i ≤ rs.length →
    ∃ r, impl_isBatch.lv0 rs rs.length i n a b c d e rs = some r ∧ spec_l02BatchOK.lv0 i n a b c d e rs = some r
  | 0, i, h, hi => by
    refine ⟨true, ?_, ?_⟩
    · rw [impl_isBatch.lv0_eq, if_neg (by omega)]
    · rw [spec_l02BatchOK.lv0_eq, if_neg (by omega)]
  | k + 1, i, h, hi => by
    obtain ⟨r, e1, e2⟩ := batch_loop n a b c d e rs hl k (i + 1) (by omega) (by omega)
    have hw : wrap64 ((i : Int) + 1) = ((i + 1 : Nat) : Int) := by rw [wrap_id (by omega) (by omega)]; omega
    have c1 : (i : Int) < (rs.length : Int) := by omega
    have c2 : (0 : Int) ≤ (i : Int) := by omega
    rw [impl_isBatch.lv0_eq, spec_l02BatchOK.lv0_eq]
    simp only [if_pos c1, if_pos c2, impl_isReading_v, spec_l02Reading_v, Option.bind_some, hw, e1, e2]
    clear hw
    cases readingB ((rd_T70 rs i).f0) ((rd_T70 rs i).f1) ((rd_T70 rs i).f2)
    · exact ⟨false, rfl, rfl⟩
    · simp only [if_true]
      by_cases h0 : (i : Int) > 0
      · have hw : wrap64 ((i : Int) - 1) = (i : Int) - 1 := wrap_id (by omega) (by omega)
        have c3 : (0 : Int) ≤ (i : Int) - 1 := by omega
        have c4 : (i : Int) - 1 < (rs.length : Int) := by omega
        simp only [if_pos h0, hw, if_pos c3, if_pos c4]
        split
        · exact ⟨false, rfl, rfl⟩
        · exact ⟨r, rfl, rfl⟩
      · simp only [if_neg h0]
        exact ⟨r, rfl, rfl⟩
theorem batch_both (n : Bool) (a b c d : Int) (e : ByteArray) (rs : List S70) (he : e.size ≤ 9223372036854775807) :
    ∃ r, impl_isBatch.v n a b c d e rs = some r ∧ spec_l02BatchOK.v n a b c d e rs = some r ∧ (n = false → reqB a b c d e = false → r = false) ∧ (n = false → rs.length > 7 → r = false) := by
  rw [impl_isBatch.v_eq, spec_l02BatchOK.v_eq]
  cases n
  · rw [if_neg (by simp), if_neg (by simp), impl_RequestOK_v _ _ _ _ _ he, spec_RequestOK_v _ _ _ _ _ he, Option.bind_some, Option.bind_some]
    cases reqB a b c d e
    · refine ⟨false, ?_, ?_, fun _ _ => rfl, fun _ _ => rfl⟩
      · rw [if_neg (by simp), impl_isBatch.jv0_eq, if_pos rfl]
      · rw [if_neg (by simp), spec_l02BatchOK.jv0_eq, if_pos rfl]
    · rw [if_pos rfl, if_pos rfl, impl_isBatch.jv0_eq, spec_l02BatchOK.jv0_eq]
      by_cases h7 : (rs.length : Int) > 7
      · rw [if_pos (decide_eq_true h7), if_pos (decide_eq_true h7)]
        exact ⟨false, rfl, rfl, fun _ _ => rfl, fun _ _ => rfl⟩
      · rw [if_neg (by simpa using h7), if_neg (by simpa using h7)]
        obtain ⟨r, e1, e2⟩ := batch_loop false a b c d e rs (by omega) rs.length 0 (by omega) (by omega)
        exact ⟨r, e1, e2, (fun _ h => by cases h), fun _ h => by omega⟩
  · rw [if_pos rfl, if_pos rfl]
    split
    · exact ⟨_, rfl, rfl, (fun h => by cases h), fun h => by cases h⟩
    · exact ⟨_, rfl, rfl, (fun h => by cases h), fun h => by cases h⟩
abbrev Batch8 := Bool × Int × Int × Int × Int × ByteArray × List S70 × Bool
def bNo : Batch8 := (false, 0, 0, 0, 0, ⟨#[]⟩, [], false)
def bAgree (r s : Batch8) : Prop := (r = s ∧ r.2.2.2.2.2.2.2 = true) ∨ (r = bNo ∧ s.2.2.2.2.2.2.2 = false)
theorem batch_end (y : ByteArray) (hy : y.size ≤ 1048576) (m n : Int) (hm : 0 ≤ m) (acc : List S70) :
    ∃ r s : Batch8, impl_readBatch.lv0 m n n y false false 0 0 0 0 ⟨#[]⟩ acc = some r ∧
      ((spec_l02ReadRequest.v y).bind fun q => if q.2.2.2.2.2 = true then ((spec_l02BatchOK.v false q.1 q.2.1 q.2.2.1 q.2.2.2.1 q.2.2.2.2.1 acc).bind fun t => (some (false, q.1, q.2.1, q.2.2.1, q.2.2.2.1, q.2.2.2.2.1, acc, t) : Option Batch8)) else some (false, q.1, q.2.1, q.2.2.1, q.2.2.2.1, q.2.2.2.2.1, acc, false)) = some s ∧ bAgree r s ∧ (r.2.2.2.2.2.2.1 = acc ∨ r = bNo) := by
  obtain ⟨q, e, h2⟩ := spec_l02ReadRequest_v y (by omega)
  rw [impl_readBatch.lv0_eq, if_neg (by omega), e, Option.bind_some]
  clear e
  rcases Decidable.em (0 + 7 + rN y 0 ≤ y.size) with h3 | h3
  · have hi := impl_request_ok y 0 h3
    rw [← at_zero y] at hi
    rw [hi, Option.bind_some]
    clear hi
    simp only
    rw [if_neg (by omega), done_at y _ h3, Option.bind_some]
    simp only
    by_cases h4 : 0 + 7 + rN y 0 = y.size
    · rw [if_pos (decide_eq_true h4)]
      obtain ⟨b, b1, b2, b3, _⟩ := batch_both false (bt y ((0 : Nat) : Int)) (numM (y.extract (0 + 1) (0 + 3))) (bt y ((0 + 3 : Nat) : Int)) (numM (y.extract (0 + 4) (0 + 6))) (y.extract (0 + 7) (0 + 7 + rN y 0)) acc (by rw [ByteArray.size_extract]; omega)
      rw [b1, Option.bind_some]
      have hf : rFits y 0 = true := by unfold rFits; exact decide_eq_true h4
      rcases h2 with ⟨h2, rfl⟩ | ⟨h2, h5⟩
      · have e3 : (rYes y 0).2.2.2.2.2 = true := rfl
        have e4 : spec_l02BatchOK.v false (rYes y 0).1 (rYes y 0).2.1 (rYes y 0).2.2.1 (rYes y 0).2.2.2.1 (rYes y 0).2.2.2.2.1 acc = some b := b2
        rw [if_pos e3, e4, Option.bind_some]
        cases b
        · exact ⟨_, _, rfl, rfl, .inr ⟨rfl, rfl⟩, .inr rfl⟩
        · exact ⟨_, _, rfl, rfl, .inl ⟨rfl, rfl⟩, .inl rfl⟩
      · have hb : rB y 0 = false := by rw [hf] at h2; exact h2
        have hb2 : b = false := b3 rfl hb
        subst hb2
        rw [h5]
        exact ⟨_, _, rfl, rfl, .inr ⟨rfl, rfl⟩, .inr rfl⟩
    · rw [if_neg (show ¬ decide (0 + 7 + rN y 0 = y.size) = true by rw [decide_eq_false h4]; simp)]
      have hf : rFits y 0 = false := by unfold rFits; exact decide_eq_false h4
      rcases h2 with ⟨h2, _⟩ | ⟨h2, h5⟩
      · rw [hf] at h2; cases h2
      · rw [h5]; exact ⟨_, _, rfl, rfl, .inr ⟨rfl, rfl⟩, .inr rfl⟩
  · obtain ⟨w, e2, e3⟩ := impl_request_short y 0 (by omega) (.inr (by omega))
    rw [← at_zero y] at e2
    rw [e2, Option.bind_some, if_neg (by omega), e3, done_bad, Option.bind_some]
    have hf : rFits y 0 = false := by unfold rFits; exact decide_eq_false (by omega)
    rcases h2 with ⟨h2, _⟩ | ⟨h2, h5⟩
    · rw [hf] at h2; cases h2
    · rw [h5]; exact ⟨_, _, rfl, rfl, .inr ⟨rfl, rfl⟩, .inr rfl⟩
theorem batch_many (y : ByteArray) (hy : y.size ≤ 1048576) (acc : List S70) (ha : acc.length > 7) :
    ∃ s : Batch8, ((spec_l02ReadRequest.v y).bind fun q => if q.2.2.2.2.2 = true then ((spec_l02BatchOK.v false q.1 q.2.1 q.2.2.1 q.2.2.2.1 q.2.2.2.2.1 acc).bind fun t => (some (false, q.1, q.2.1, q.2.2.1, q.2.2.2.1, q.2.2.2.2.1, acc, t) : Option Batch8)) else some (false, q.1, q.2.1, q.2.2.1, q.2.2.2.1, q.2.2.2.2.1, acc, false)) = some s ∧ s.2.2.2.2.2.2.2 = false := by
  obtain ⟨q, e, h2⟩ := spec_l02ReadRequest_v y (by omega)
  rw [e, Option.bind_some]
  rcases h2 with ⟨h2, rfl⟩ | ⟨h2, h5⟩
  · obtain ⟨b, b1, b2, b3, b4⟩ := batch_both false (rYes y 0).1 (rYes y 0).2.1 (rYes y 0).2.2.1 (rYes y 0).2.2.2.1 (rYes y 0).2.2.2.2.1 acc (by show (y.extract (0 + 7) (0 + 7 + rN y 0)).size ≤ _; rw [ByteArray.size_extract]; omega)
    have e3 : (rYes y 0).2.2.2.2.2 = true := rfl
    rw [if_pos e3, b2, b4 rfl ha, Option.bind_some]
    exact ⟨_, rfl, rfl⟩
  · rw [h5]; exact ⟨_, rfl, rfl⟩
/-- c readings from place p on. -/
def rdL (x : ByteArray) : Nat → Nat → List S70
  | _, 0 => []
  | p, c + 1 => ⟨bt x p, numM (x.extract (p + 1) (p + 5)), x.extract (p + 5) (p + 13)⟩ :: rdL x (p + 13) c
theorem rdL_len (x : ByteArray) : ∀ (c p : Nat), (rdL x p c).length = c
  | 0, p => rfl
  | c + 1, p => by simp [rdL, rdL_len x c]
theorem batch_impl (x : ByteArray) (m n : Int) (hn : n ≤ 1000) : ∀ (c p i : Nat) (acc : List S70), n - i = c → i ≤ 1000 → acc.length = i → p + 13 * c ≤ x.size →
    impl_readBatch.lv0 m n i (x.extract p x.size) false false 0 0 0 0 ⟨#[]⟩ acc = impl_readBatch.lv0 m n n (x.extract (p + 13 * c) x.size) false false 0 0 0 0 ⟨#[]⟩ (acc ++ rdL x p c)
  | 0, p, i, acc, h, hi, ha, hp => by
    have : n = i := by omega
    subst this
    simp [rdL]
  | c + 1, p, i, acc, h, hi, ha, hp => by
    have ih := batch_impl x m n hn c (p + 13) (i + 1) (acc ++ [⟨bt x p, numM (x.extract (p + 1) (p + 5)), x.extract (p + 5) (p + 13)⟩]) (by omega) (by omega) (by simp [ha]) (by omega)
    have hw : wrap64 ((i : Int) + 1) = ((i + 1 : Nat) : Int) := by rw [wrap_id (by omega) (by omega)]; omega
    rw [impl_readBatch.lv0_eq, if_pos (by omega), hw]
    clear hw
    rw [show (1 : Int) = ((1 : Nat) : Int) from rfl, show (4 : Int) = ((4 : Nat) : Int) from rfl, show (8 : Int) = ((8 : Nat) : Int) from rfl]
    rw [number_ok x p 1 (by omega) (by omega), Option.bind_some]
    simp only
    rw [number_ok x (p + 1) 4 (by omega) (by omega), Option.bind_some]
    simp only
    rw [take_ok x (p + 1 + 4) 8 (by omega), Option.bind_some]
    simp only
    rw [if_pos (by omega), numM_one x p (by omega)]
    rw [show p + 13 * (c + 1) = p + 13 + 13 * c by omega]
    show _ = impl_readBatch.lv0 m n n (x.extract (p + 13 + 13 * c) x.size) false false 0 0 0 0 ⟨#[]⟩ (acc ++ (⟨bt x p, numM (x.extract (p + 1) (p + 5)), x.extract (p + 5) (p + 13)⟩ :: rdL x (p + 13) c))
    rw [List.append_assoc] at ih
    exact ih
theorem batch_bad (m n : Int) (hn : n ≤ 1000) : ∀ (c i : Nat) (t : ByteArray) (acc : List S70), n - i = c → i ≤ 1000 → acc.length ≤ i →
    impl_readBatch.lv0 m n i t true false 0 0 0 0 ⟨#[]⟩ acc = some bNo
  | 0, i, t, acc, h, hi, ha => by
    rw [impl_readBatch.lv0_eq, if_neg (by omega), impl_request_bad, Option.bind_some]
    simp only [done_bad, Option.bind_some]
    split <;> rfl
  | c + 1, i, t, acc, h, hi, ha => by
    have ih := batch_bad m n hn c (i + 1)
    have hw : wrap64 ((i : Int) + 1) = ((i + 1 : Nat) : Int) := by rw [wrap_id (by omega) (by omega)]; omega
    rw [impl_readBatch.lv0_eq, if_pos (by omega), hw]
    clear hw
    rw [number_bad, Option.bind_some]
    simp only
    rw [number_bad, Option.bind_some]
    simp only
    rw [take_bad, Option.bind_some]
    simp only
    rw [if_pos (by omega)]
    exact ih _ _ (by omega) (by omega) (by simp; omega)
theorem batch_short (x : ByteArray) (m n : Int) (hn : n ≤ 1000) : ∀ (c p i : Nat) (acc : List S70), n - i = c → i ≤ 1000 → acc.length ≤ i → p ≤ x.size → x.size < p + 13 * c →
    impl_readBatch.lv0 m n i (x.extract p x.size) false false 0 0 0 0 ⟨#[]⟩ acc = some bNo
  | 0, p, i, acc, h, hi, ha, hp, hs => by omega
  | c + 1, p, i, acc, h, hi, ha, hp, hs => by
    have ih := batch_short x m n hn c (p + 1 + 4 + 8) (i + 1)
    have hb := batch_bad m n hn c (i + 1)
    have hw : wrap64 ((i : Int) + 1) = ((i + 1 : Nat) : Int) := by rw [wrap_id (by omega) (by omega)]; omega
    rw [impl_readBatch.lv0_eq, if_pos (by omega), hw]
    clear hw
    rw [show (1 : Int) = ((1 : Nat) : Int) from rfl, show (4 : Int) = ((4 : Nat) : Int) from rfl, show (8 : Int) = ((8 : Nat) : Int) from rfl]
    rcases Nat.lt_or_ge x.size (p + 1) with h0 | h0
    · rw [number_short x p 1 hp h0, Option.bind_some]
      simp only
      rw [number_bad, Option.bind_some]
      simp only
      rw [take_bad, Option.bind_some]
      simp only
      rw [if_pos (by omega)]
      exact hb _ _ (by omega) (by omega) (by simp; omega)
    rw [number_ok x p 1 (by omega) (by omega), Option.bind_some]
    simp only
    rcases Nat.lt_or_ge x.size (p + 1 + 4) with h1 | h1
    · rw [number_short x (p + 1) 4 h0 h1, Option.bind_some]
      simp only
      rw [take_bad, Option.bind_some]
      simp only
      rw [if_pos (by omega)]
      exact hb _ _ (by omega) (by omega) (by simp; omega)
    rw [number_ok x (p + 1) 4 (by omega) (by omega), Option.bind_some]
    simp only
    rcases Nat.lt_or_ge x.size (p + 1 + 4 + 8) with h2 | h2
    · rw [take_short x (p + 1 + 4) 8 h1 h2, Option.bind_some]
      simp only
      rw [if_pos (by omega)]
      exact hb _ _ (by omega) (by omega) (by simp; omega)
    rw [take_ok x (p + 1 + 4) 8 (by omega), Option.bind_some]
    simp only
    rw [if_pos (by omega)]
    exact ih _ (by omega) (by omega) (by simp; omega) (by omega) (by omega)
theorem bt_extract (x : ByteArray) (a b i : Nat) (h : i < b - a) (h2 : b ≤ x.size) : bt (x.extract a b) i = bt x (a + i : Nat) := by
  have h3 : i < (x.extract a b).size := by rw [ByteArray.size_extract]; omega
  unfold bt
  rw [dif_pos (by rw [Int.toNat_natCast]; exact h3), dif_pos (by rw [Int.toNat_natCast]; omega)]
  simp only [Int.toNat_natCast, ByteArray.getElem_extract]
theorem batch_spec (x : ByteArray) (hx : x.size ≤ 1048576) (n : Nat) (h1 : 1 ≤ n) (hn : n ≤ 255) (hs : 1 + 13 * (n - 1) ≤ x.size) : ∀ (c i : Nat) (acc : List S70), n - 1 - i = c → i ≤ n - 1 → acc.length = i →
    spec_l02ReadBatch.lv0 x n i false 0 0 0 0 ⟨#[]⟩ acc = spec_l02ReadBatch.lv0 x n (n - 1 : Nat) false 0 0 0 0 ⟨#[]⟩ (acc ++ rdL x (1 + 13 * i) c)
  | 0, i, acc, h, hi, ha => by
    have : i = n - 1 := by omega
    subst this
    simp [rdL]
  | c + 1, i, acc, h, hi, ha => by
    have ih := batch_spec x hx n h1 hn hs c (i + 1) (acc ++ [⟨bt x (1 + 13 * i : Nat), numM (x.extract (1 + 13 * i + 1) (1 + 13 * i + 5)), x.extract (1 + 13 * i + 5) (1 + 13 * i + 13)⟩]) (by omega) (by omega) (by simp [ha])
    have w1 : wrap64 ((i : Int) + 1) = ((i + 1 : Nat) : Int) := by rw [wrap_id (by omega) (by omega)]; omega
    have w2 : wrap64 ((n : Int) - 1) = ((n - 1 : Nat) : Int) := by rw [wrap_id (by omega) (by omega)]; omega
    have w3 : wrap64 (13 * (i : Int)) = ((13 * i : Nat) : Int) := by rw [wrap_id (by omega) (by omega)]; omega
    have w4 : wrap64 (1 + ((13 * i : Nat) : Int)) = ((1 + 13 * i : Nat) : Int) := by rw [wrap_id (by omega) (by omega)]; omega
    have w5 : wrap64 (14 + ((13 * i : Nat) : Int)) = ((14 + 13 * i : Nat) : Int) := by rw [wrap_id (by omega) (by omega)]; omega
    rw [spec_l02ReadBatch.lv0_eq]
    simp only [w1, w2, w3, w4, w5, Int.toNat_natCast]
    clear w1 w2 w3 w4 w5
    have c1 : ((i : Int) < ((n - 1 : Nat) : Int)) := by omega
    have c2 : (0 : Int) ≤ ((1 + 13 * i : Nat) : Int) := by omega
    have c3 : ((1 + 13 * i : Nat) : Int) ≤ ((14 + 13 * i : Nat) : Int) := by omega
    have c4 : ((14 + 13 * i : Nat) : Int) ≤ (x.size : Int) := by omega
    have sz : (x.extract (1 + 13 * i) (14 + 13 * i)).size = 13 := by rw [ByteArray.size_extract]; omega
    have d13 : 14 + 13 * i - (1 + 13 * i) = 13 := by omega
    simp only [if_pos c1, if_pos c2, if_pos c3, if_pos c4, sz, d13]
    rw [if_pos (by omega), if_pos (by omega), if_pos (by omega)]
    rw [extract_sub x _ _ 1 5 (by omega), extract_sub x _ _ 5 13 (by omega), spec_l02Of_v _ (by rw [ByteArray.size_extract]; omega), Option.bind_some, if_pos (by omega), wrap_bt, show bt (x.extract (1 + 13 * i) (14 + 13 * i)) 0 = bt x (1 + 13 * i : Nat) from bt_extract x (1 + 13 * i) (14 + 13 * i) 0 (by omega) (by omega)]
    rw [show 1 + 13 * (i + 1) = 1 + 13 * i + 13 by omega] at ih
    show _ = spec_l02ReadBatch.lv0 x n (n - 1 : Nat) false 0 0 0 0 ⟨#[]⟩ (acc ++ (⟨bt x (1 + 13 * i : Nat), numM (x.extract (1 + 13 * i + 1) (1 + 13 * i + 5)), x.extract (1 + 13 * i + 5) (1 + 13 * i + 13)⟩ :: rdL x (1 + 13 * i + 13) c))
    rw [List.append_assoc] at ih
    exact ih
theorem readBatch_nil (x : ByteArray) (h0 : x.size = 0) : impl_readBatch.v x = some bNo := by
  have e1 : x.toList = [] := by rw [ba_toList]; exact List.length_eq_zero_iff.1 (by rw [Array.length_toList]; exact h0)
  have hn : impl_reader_number.v x false 1 = some (0, x, true) := by
    have hn := number_short x 0 1 (by omega) (by omega)
    rwa [← at_zero x] at hn
  have w : wrap64 (0 - 1) = -1 := by rw [wrap_id (by omega) (by omega)]; rfl
  rw [impl_readBatch.v_eq, if_neg (by rw [e1]; simp), hn, Option.bind_some]
  simp only [w]
  rw [if_neg (by omega)]
  exact batch_bad (-1) 0 (by omega) 0 0 x [] (by omega) (by omega) (by simp)
theorem toList_nil (x : ByteArray) (h : x.toList = []) : x.size = 0 := by
  rw [ba_toList] at h
  have := congrArg List.length h
  rw [Array.length_toList] at this
  exact this
theorem toList_zero (x : ByteArray) : x.toList = [0] ↔ x.size = 1 ∧ bt x 0 = 0 := by
  rw [ba_toList]
  constructor
  · intro h
    have h1 : x.size = 1 := by have := congrArg List.length h; rwa [Array.length_toList] at this
    refine ⟨h1, ?_⟩
    have h2 : x.data.toList[0]? = some 0 := by rw [h]; rfl
    unfold bt
    rw [dif_pos (by rw [h1]; decide)]
    rw [Array.getElem?_toList, Array.getElem?_eq_getElem (by show 0 < x.size; omega)] at h2
    injection h2 with h2
    show (((x.data[0]'(by show 0 < x.size; omega)).toNat : Nat) : Int) = 0
    rw [h2]; rfl
  · rintro ⟨h1, h2⟩
    apply List.ext_getElem?
    intro i
    rcases Nat.lt_or_ge i 1 with h | h
    · have : i = 0 := by omega
      subst this
      unfold bt at h2
      rw [dif_pos (by rw [h1]; decide)] at h2
      rw [Array.getElem?_toList, Array.getElem?_eq_getElem (by show 0 < x.size; omega)]
      have h3 : (x.data[0]'(by show 0 < x.size; omega)).toNat = 0 := by
        have h4 : (((x.data[0]'(by show 0 < x.size; omega)).toNat : Nat) : Int) = 0 := h2
        omega
      have h5 : x.data[0]'(by show 0 < x.size; omega) = 0 := UInt8.toNat_inj.1 h3
      rw [h5]; rfl
    · rw [List.getElem?_eq_none (by rw [Array.length_toList]; show x.size ≤ i; omega), List.getElem?_eq_none (by simp; omega)]
theorem readBatch_both (x : ByteArray) (hx : x.size ≤ 1048576) : ∃ r s : Batch8, impl_readBatch.v x = some r ∧ spec_l02ReadBatch.v x = some s ∧ bAgree r s ∧ r.2.2.2.2.2.2.1.length ≤ 1000 := by
  by_cases h0 : x.size = 0
  · have e1 : x.toList = [] := by rw [ba_toList]; exact List.length_eq_zero_iff.1 (by rw [Array.length_toList]; exact h0)
    rw [readBatch_nil x h0, spec_l02ReadBatch.v_eq, if_pos e1]
    exact ⟨_, _, rfl, rfl, .inr ⟨rfl, rfl⟩, by simp [bNo]⟩
  · have e1 : ¬ x.toList = [] := fun h => h0 (toList_nil x h)
    have hn : impl_reader_number.v x false 1 = some (bt x 0, x.extract (0 + 1) x.size, false) := by
      have hn := number_ok x 0 1 (by omega) (by omega)
      rw [← at_zero x, numM_one x 0 (by omega)] at hn
      exact hn
    have hr := bt_range x 0
    have hz := toList_zero x
    rw [spec_l02ReadBatch.v_eq, if_neg e1, if_pos (by omega)]
    simp only [wrap_bt]
    rw [impl_readBatch.v_eq, hn, Option.bind_some]
    clear hn
    obtain ⟨n, hb⟩ : ∃ n : Nat, bt x 0 = n := ⟨(bt x 0).toNat, by omega⟩
    rw [hb] at hr hz
    simp only [hb]
    by_cases h1 : n = 0
    · subst h1
      rw [if_pos (show ((0 : Nat) : Int) = 0 from rfl)]
      by_cases h2 : x.size = 1
      · rw [if_pos (hz.2 ⟨h2, rfl⟩)]
        refine ⟨_, _, rfl, rfl, .inl ⟨?_, rfl⟩, by simp⟩
        rw [h2]; rfl
      · rw [if_neg (fun h => h2 (hz.1 h).1)]
        have w : wrap64 (((0 : Nat) : Int) - 1) = -1 := by rw [wrap_id (by omega) (by omega)]; rfl
        rw [w, if_neg (by omega)]
        have hm : mx (-1) 0 = 0 := rfl
        have h3 : ((x.size : Int) == 1) = false := by rw [beq_eq_false_iff_ne]; omega
        rw [hm, h3, impl_readBatch.lv0_eq, if_neg (by omega)]
        have hsz : ∃ q : Req7, impl_reader_request.v (x.extract (0 + 1) x.size) false = some q := by
          rcases Decidable.em (1 + 7 + rN x 1 ≤ x.size) with h4 | h4
          · exact ⟨_, impl_request_ok x 1 h4⟩
          · obtain ⟨w, e2, _⟩ := impl_request_short x 1 (by omega) (.inr (by omega))
            exact ⟨w, e2⟩
        obtain ⟨q, e2⟩ := hsz
        rw [e2, Option.bind_some, if_pos (by omega)]
        exact ⟨_, _, rfl, rfl, .inr ⟨rfl, rfl⟩, by simp [bNo]⟩
    · have h2 : ¬ x.toList = [0] := fun h => h1 (by have := (hz.1 h).2; omega)
      have w1 : wrap64 ((n : Int) - 1) = ((n - 1 : Nat) : Int) := by rw [wrap_id (by omega) (by omega)]; omega
      have w2 : wrap64 (13 * ((n - 1 : Nat) : Int)) = ((13 * (n - 1) : Nat) : Int) := by rw [wrap_id (by omega) (by omega)]; omega
      have w3 : wrap64 (1 + ((13 * (n - 1) : Nat) : Int)) = ((1 + 13 * (n - 1) : Nat) : Int) := by rw [wrap_id (by omega) (by omega)]; omega
      rw [if_neg h2, if_neg (show ¬ ((n : Int) = 0) by omega)]
      simp only [w1, w2, w3]
      have hm : mx ((n - 1 : Nat) : Int) 0 = ((n - 1 : Nat) : Int) := by unfold mx; split <;> omega
      rw [hm]
      by_cases h3 : (x.size : Int) < ((1 + 13 * (n - 1) : Nat) : Int)
      · rw [if_pos h3]
        split
        · exact ⟨_, _, rfl, rfl, .inr ⟨rfl, rfl⟩, by simp [bNo]⟩
        · clear w1 w2 w3
          have h5 := batch_short x ((n - 1 : Nat) : Int) ((n - 1 : Nat) : Int) (by omega) (n - 1) 1 0 [] (by omega) (by omega) (by simp) (by omega) (by omega)
          exact ⟨_, _, h5, rfl, .inr ⟨rfl, rfl⟩, by simp [bNo]⟩
      · rw [if_neg h3]
        have h6 := batch_spec x hx n (by omega) (by omega) (by clear w1 w2 w3; omega) (n - 1) 0 [] (by omega) (by omega) rfl
        have h6' : spec_l02ReadBatch.lv0 x (n : Int) 0 false 0 0 0 0 ⟨#[]⟩ [] = spec_l02ReadBatch.lv0 x n (n - 1 : Nat) false 0 0 0 0 ⟨#[]⟩ (rdL x 1 (n - 1)) := h6
        rw [h6', spec_l02ReadBatch.lv0_eq]
        simp only [w1, w2, w3, Int.toNat_natCast]
        clear w1 w2 w3
        have c1 : ¬ (((n - 1 : Nat) : Int) < ((n - 1 : Nat) : Int)) := by omega
        have c2 : (0 : Int) ≤ ((1 + 13 * (n - 1) : Nat) : Int) := by omega
        have c3 : ((1 + 13 * (n - 1) : Nat) : Int) ≤ (x.size : Int) := by omega
        simp only [if_neg c1, if_pos c2, if_pos c3]
        have hy : (x.extract (1 + 13 * (n - 1)) x.size).size ≤ 1048576 := by rw [ByteArray.size_extract]; omega
        by_cases h7 : ((n - 1 : Nat) : Int) > 7
        · obtain ⟨s, e6, e7⟩ := batch_many _ hy (rdL x 1 (n - 1)) (by rw [rdL_len]; omega)
          rw [e6, if_pos h7]
          exact ⟨_, _, rfl, rfl, .inr ⟨rfl, e7⟩, by simp [bNo]⟩
        obtain ⟨r, s, e5, e6, e7, e8⟩ := batch_end (x.extract (1 + 13 * (n - 1)) x.size) hy ((n - 1 : Nat) : Int) ((n - 1 : Nat) : Int) (by omega) (rdL x 1 (n - 1))
        rw [e6]
        · rw [if_neg h7]
          have h8 := batch_impl x ((n - 1 : Nat) : Int) ((n - 1 : Nat) : Int) (by omega) (n - 1) 1 0 [] (by omega) (by omega) rfl (by omega)
          have h8' : impl_readBatch.lv0 ((n - 1 : Nat) : Int) ((n - 1 : Nat) : Int) 0 (x.extract (0 + 1) x.size) false false 0 0 0 0 ⟨#[]⟩ [] = impl_readBatch.lv0 ((n - 1 : Nat) : Int) ((n - 1 : Nat) : Int) ((n - 1 : Nat) : Int) (x.extract (1 + 13 * (n - 1)) x.size) false false 0 0 0 0 ⟨#[]⟩ (rdL x 1 (n - 1)) := h8
          rw [h8']
          refine ⟨r, s, e5, rfl, e7, ?_⟩
          rcases e8 with e8 | rfl
          · rw [e8, rdL_len]; omega
          · simp [bNo]
def reqL (c st k ls : Int) (nm : ByteArray) : List Int := beL c 1 ++ (beL st 2 ++ (beL k 1 ++ (beL ls 2 ++ (beL nm.size 1 ++ bytesOf nm))))
theorem reqL_len (c st k ls : Int) (nm : ByteArray) : (reqL c st k ls nm).length = 7 + nm.size := by
  unfold reqL
  simp only [List.length_append, beL_len, bytesOf_length]
  omega
theorem byteL_req (c st k ls : Int) (nm : ByteArray) : byteL (reqL c st k ls nm) :=
  byteL_append (byteL_be _ _) (byteL_append (byteL_be _ _) (byteL_append (byteL_be _ _) (byteL_append (byteL_be _ _) (byteL_append (byteL_be _ _) (byteL_bytes _)))))
theorem impl_requestText_v (c st k ls : Int) (nm : ByteArray) (hn : nm.size ≤ 1000000) : impl_requestText.v c st k ls nm = some (strOfNums (reqL c st k ls nm)) := by
  have e : reqL c st k ls nm = beL c 1 ++ beL st 2 ++ beL k 1 ++ beL ls 2 ++ beL (nm.size : Int) 1 ++ bytesOf nm := by simp [reqL, List.append_assoc]
  rw [impl_requestText.v_eq]
  simp only [impl_number1, impl_number2, Option.bind_some, ByteArray.size_append, strOf_size, beL_len]
  rw [if_pos (by omega), if_pos (by omega), if_pos (by omega), if_pos (by omega), if_pos (by omega), e, str_append, str_append, str_append, str_append, str_append, str_bytes]
theorem spec_l02Request_v (c st k ls : Int) (nm : ByteArray) (hn : nm.size ≤ 1000000) : spec_l02Request.v c st k ls nm = some (reqL c st k ls nm) := by
  have n1 : ∀ x, spec_l02Number.v x 2 = some (beL x 2) := fun x => spec_number_v x 2 (by omega)
  rw [spec_l02Request.v_eq]
  simp only [Option.bind_some, n1, List.length_append, List.length_cons, List.length_nil, beL_len]
  rw [if_pos (by omega), if_pos (by omega), if_pos (by omega), if_pos (by omega), if_pos (by omega)]
  simp [reqL, beL, List.append_assoc]
theorem reqB_facts {c st k ls : Int} {nm : ByteArray} (h : reqB c st k ls nm = true) : 0 ≤ c ∧ c ≤ 255 ∧ 1 ≤ st ∧ st ≤ 65535 ∧ 1 ≤ k ∧ k ≤ 4 ∧ 0 ≤ ls ∧ ls ≤ 1000 ∧ nm.size ≤ 12 := by
  unfold reqB inB at h
  simp only [Bool.and_eq_true, decide_eq_true_eq] at h
  obtain ⟨⟨⟨⟨⟨h1, h2⟩, h3⟩, h4⟩, h5, _⟩, _⟩ := h
  omega
/-- A piece of what was written, read as a number. -/
theorem num_piece (a : List Int) (n : Int) (k : Nat) (c : List Int) (h0 : 0 ≤ n) (h1 : n < 256 ^ k) : numM ((strOfNums (a ++ (beL n k ++ c))).extract a.length (a.length + k)) = n := by
  have := ext_mid a (beL n k) c
  rw [beL_len] at this
  rw [this, numM_str _ (byteL_be _ _), numL_be k n h0 h1]
theorem text_piece (a : List Int) (t : ByteArray) (c : List Int) : (strOfNums (a ++ (bytesOf t ++ c))).extract a.length (a.length + t.size) = t := by
  have := ext_mid a (bytesOf t) c
  rw [bytesOf_length, str_bytes] at this
  exact this
theorem num_at (x : ByteArray) (a : List Int) (n : Int) (k : Nat) (c : List Int) (p : Nat) (hx : x = strOfNums (a ++ (beL n k ++ c))) (hp : p = a.length) (h0 : 0 ≤ n) (h1 : n < 256 ^ k) : numM (x.extract p (p + k)) = n := by
  subst hx; subst hp; exact num_piece a n k c h0 h1
theorem text_at (x : ByteArray) (a : List Int) (t : ByteArray) (c : List Int) (p : Nat) (hx : x = strOfNums (a ++ (bytesOf t ++ c))) (hp : p = a.length) : x.extract p (p + t.size) = t := by
  subst hx; subst hp; exact text_piece a t c
/-- The parts of a request that was written from place p on. -/
theorem req_parts (x : ByteArray) (pre post : List Int) (p : Nat) (c st k ls : Int) (nm : ByteArray) (hx : x = strOfNums (pre ++ (reqL c st k ls nm ++ post))) (hp : p = pre.length) (h : reqB c st k ls nm = true) :
    bt x p = c ∧ numM (x.extract (p + 1) (p + 3)) = st ∧ bt x (p + 3 : Nat) = k ∧ numM (x.extract (p + 4) (p + 6)) = ls ∧ rN x p = nm.size ∧ x.extract (p + 7) (p + 7 + nm.size) = nm := by
  obtain ⟨c0, c1, s0, s1, k0, k1, l0, l1, n1⟩ := reqB_facts h
  have hsz : x.size = pre.length + (7 + nm.size) + post.length := by rw [hx, strOf_size, List.length_append, List.length_append, reqL_len]; omega
  have e1 : pre ++ (reqL c st k ls nm ++ post) = pre ++ (beL c 1 ++ (beL st 2 ++ (beL k 1 ++ (beL ls 2 ++ (beL nm.size 1 ++ (bytesOf nm ++ post)))))) := by simp [reqL, List.append_assoc]
  rw [e1] at hx
  have a1 := num_at x pre c 1 _ p hx hp c0 (by omega)
  have hx2 : x = strOfNums ((pre ++ beL c 1) ++ (beL st 2 ++ (beL k 1 ++ (beL ls 2 ++ (beL nm.size 1 ++ (bytesOf nm ++ post)))))) := by rw [hx]; simp only [List.append_assoc]
  have a2 := num_at x _ st 2 _ (p + 1) hx2 (by rw [List.length_append, beL_len]; omega) (by omega) (by omega)
  have hx3 : x = strOfNums ((pre ++ beL c 1 ++ beL st 2) ++ (beL k 1 ++ (beL ls 2 ++ (beL nm.size 1 ++ (bytesOf nm ++ post))))) := by rw [hx]; simp only [List.append_assoc]
  have a3 := num_at x _ k 1 _ (p + 3) hx3 (by simp only [List.length_append, beL_len]; omega) (by omega) (by omega)
  have hx4 : x = strOfNums ((pre ++ beL c 1 ++ beL st 2 ++ beL k 1) ++ (beL ls 2 ++ (beL nm.size 1 ++ (bytesOf nm ++ post)))) := by rw [hx]; simp only [List.append_assoc]
  have a4 := num_at x _ ls 2 _ (p + 4) hx4 (by simp only [List.length_append, beL_len]; omega) (by omega) (by omega)
  have hx5 : x = strOfNums ((pre ++ beL c 1 ++ beL st 2 ++ beL k 1 ++ beL ls 2) ++ (beL nm.size 1 ++ (bytesOf nm ++ post))) := by rw [hx]; simp only [List.append_assoc]
  have a5 := num_at x _ (nm.size : Int) 1 _ (p + 6) hx5 (by simp only [List.length_append, beL_len]; omega) (by omega) (by omega)
  have hx6 : x = strOfNums ((pre ++ beL c 1 ++ beL st 2 ++ beL k 1 ++ beL ls 2 ++ beL nm.size 1) ++ (bytesOf nm ++ post)) := by rw [hx]; simp only [List.append_assoc]
  have a6 := text_at x _ nm _ (p + 7) hx6 (by simp only [List.length_append, beL_len]; omega)
  rw [numM_one x p (by omega)] at a1
  rw [numM_one x (p + 3) (by omega)] at a3
  rw [numM_one x (p + 6) (by omega)] at a5
  refine ⟨a1, a2, a3, a4, ?_, a6⟩
  unfold rN
  rw [a5]
  omega
theorem drop_piece (x : ByteArray) (p k : Nat) (h : p + k ≤ x.size) : (bytesOf x).drop p = bytesOf (x.extract p (p + k)) ++ (bytesOf x).drop (p + k) := by
  rw [bytes_extract, ← List.drop_drop, List.drop_take, show p + k - p = k by omega, List.take_append_drop]
theorem num_back (x : ByteArray) (p k : Nat) (h : p + k ≤ x.size) : beL (numM (x.extract p (p + k))) k = bytesOf (x.extract p (p + k)) := by
  unfold numM
  exact be_numL k _ (by rw [bytesOf_length, ByteArray.size_extract]; omega) (byteL_bytes _)
/-- What was read, written, is what was there. -/
theorem req_back (x : ByteArray) (p : Nat) (h : p + 7 + rN x p ≤ x.size) :
    (bytesOf x).drop p = reqL (bt x p) (numM (x.extract (p + 1) (p + 3))) (bt x (p + 3 : Nat)) (numM (x.extract (p + 4) (p + 6))) (x.extract (p + 7) (p + 7 + rN x p)) ++ (bytesOf x).drop (p + 7 + rN x p) := by
  have b1 := num_back x p 1 (by omega)
  have b2 := num_back x (p + 1) 2 (by omega)
  have b3 := num_back x (p + 3) 1 (by omega)
  have b4 := num_back x (p + 4) 2 (by omega)
  have b5 := num_back x (p + 6) 1 (by omega)
  rw [numM_one x p (by omega)] at b1
  rw [numM_one x (p + 3) (by omega)] at b3
  rw [numM_one x (p + 6) (by omega)] at b5
  have hr := bt_range x (p + 6 : Nat)
  have hN : ((x.extract (p + 7) (p + 7 + rN x p)).size : Int) = bt x (p + 6 : Nat) := by
    rw [ByteArray.size_extract]
    have : ((rN x p : Nat) : Int) = bt x (p + 6 : Nat) := by unfold rN; omega
    omega
  unfold reqL
  rw [hN, b1, b2, b3, b4, b5]
  rw [drop_piece x p 1 (by omega), drop_piece x (p + 1) 2 (by omega), drop_piece x (p + 1 + 2) 1 (by omega), drop_piece x (p + 1 + 2 + 1) 2 (by omega), drop_piece x (p + 1 + 2 + 1 + 2) 1 (by omega), drop_piece x (p + 1 + 2 + 1 + 2 + 1) (rN x p) (by omega)]
  simp only [List.append_assoc]
def rdT (r : S70) : List Int := beL r.f0 1 ++ (beL r.f1 4 ++ bytesOf r.f2)
def rdsL : List S70 → List Int
  | [] => []
  | r :: t => rdT r ++ rdsL t
theorem rdT_len (r : S70) : (rdT r).length = 5 + r.f2.size := by
  unfold rdT
  simp only [List.length_append, beL_len, bytesOf_length]
  omega
theorem byteL_rdT (r : S70) : byteL (rdT r) := byteL_append (byteL_be _ _) (byteL_append (byteL_be _ _) (byteL_bytes _))
theorem byteL_rds : ∀ rs, byteL (rdsL rs)
  | [] => byteL_nil
  | r :: t => byteL_append (byteL_rdT r) (byteL_rds t)
theorem rdsL_len : ∀ (rs : List S70), (∀ r ∈ rs, r.f2.size = 8) → (rdsL rs).length = 13 * rs.length
  | [], _ => rfl
  | r :: t, h => by
    show (rdT r ++ rdsL t).length = 13 * (t.length + 1)
    rw [List.length_append, rdT_len, rdsL_len t (fun q hq => h q (List.mem_cons_of_mem _ hq)), h r List.mem_cons_self]
    omega
/-- The bytes of a batch. -/
def batL (n : Bool) (c st k ls : Int) (nm : ByteArray) (rs : List S70) : List Int :=
  if n = true then [0] else beL (1 + rs.length) 1 ++ (rdsL rs ++ reqL c st k ls nm)
theorem byteL_bat (n : Bool) (c st k ls : Int) (nm : ByteArray) (rs : List S70) : byteL (batL n c st k ls nm rs) := by
  unfold batL
  split
  · exact byteL_cons (by omega) (by omega) byteL_nil
  · exact byteL_append (byteL_be _ _) (byteL_append (byteL_rds rs) (byteL_req _ _ _ _ _))
theorem batL_len (c st k ls : Int) (nm : ByteArray) (rs : List S70) (h8 : ∀ r ∈ rs, r.f2.size = 8) : (batL false c st k ls nm rs).length = 8 + 13 * rs.length + nm.size := by
  unfold batL
  rw [if_neg (by simp)]
  simp only [List.length_append, beL_len, reqL_len, rdsL_len rs h8]
  omega
theorem batL_le (n : Bool) (c st k ls : Int) (nm : ByteArray) (rs : List S70) (h8 : ∀ r ∈ rs, r.f2.size = 8) : (batL n c st k ls nm rs).length ≤ 8 + 13 * rs.length + nm.size := by
  cases n
  · rw [batL_len _ _ _ _ _ _ h8]; omega
  · show 1 ≤ _; omega
theorem rdT_get (rs : List S70) (i : Nat) (h : i < rs.length) : rd_T70 rs i = rs[i] := by
  unfold rd_T70
  rw [Int.toNat_natCast, List.getD_eq_getElem?_getD, List.getElem?_eq_getElem h]
  rfl
theorem impl_batch_l (c st k ls : Int) (nm : ByteArray) (rs : List S70) (hn : nm.size ≤ 1000) (hl : rs.length ≤ 100) (h8 : ∀ r ∈ rs, r.f2.size = 8) : ∀ (j i : Nat) (x : ByteArray), rs.length - i = j → i ≤ rs.length → x.size = 1 + 13 * i →
    impl_batchText.lv0 x rs rs.length i false c st k ls nm rs = some (x ++ strOfNums (rdsL (rs.drop i) ++ reqL c st k ls nm))
  | 0, i, x, hj, hi, hx => by
    rw [impl_batchText.lv0_eq, if_neg (by omega), impl_requestText_v _ _ _ _ _ (by omega), Option.bind_some, if_pos (by rw [strOf_size, reqL_len]; omega), List.drop_eq_nil_of_le (by omega)]
    rfl
  | j + 1, i, x, hj, hi, hx => by
    have hi2 : i < rs.length := by omega
    have hm : rs[i].f2.size = 8 := h8 _ (List.getElem_mem hi2)
    have w : wrap64 ((i : Int) + 1) = ((i + 1 : Nat) : Int) := by rw [wrap_id (by omega) (by omega)]; omega
    rw [impl_batchText.lv0_eq, w]
    clear w
    rw [if_pos (by omega), if_pos (by omega), if_pos (by omega), rdT_get rs i hi2, impl_number1, Option.bind_some, impl_number4, Option.bind_some]
    have s1 : (strOfNums (beL rs[i].f0 1) ++ strOfNums (beL rs[i].f1 4)).size = 5 := by rw [ByteArray.size_append, strOf_size, strOf_size, beL_len, beL_len]
    have s2 : ((strOfNums (beL rs[i].f0 1) ++ strOfNums (beL rs[i].f1 4)) ++ rs[i].f2).size = 13 := by rw [ByteArray.size_append, s1, hm]
    rw [if_pos (by rw [strOf_size, strOf_size, beL_len, beL_len]; omega), if_pos (by rw [s1, hm]; omega), if_pos (by rw [s2]; omega)]
    rw [impl_batch_l c st k ls nm rs hn hl h8 j (i + 1) _ (by omega) (by omega) (by rw [ByteArray.size_append, s2, hx]; omega)]
    have e : strOfNums (beL rs[i].f0 1) ++ strOfNums (beL rs[i].f1 4) ++ rs[i].f2 = strOfNums (rdT rs[i]) := by
      unfold rdT
      rw [str_append, str_append, str_bytes, ByteArray.append_assoc]
    rw [e, List.drop_eq_getElem_cons hi2, show rdsL (rs[i] :: rs.drop (i + 1)) = rdT rs[i] ++ rdsL (rs.drop (i + 1)) from rfl, List.append_assoc, str_append (rdT rs[i]), ByteArray.append_assoc]
theorem impl_batchText_v (n : Bool) (c st k ls : Int) (nm : ByteArray) (rs : List S70) (hn : nm.size ≤ 1000) (hl : rs.length ≤ 100) (h8 : ∀ r ∈ rs, r.f2.size = 8) : impl_batchText.v n c st k ls nm rs = some (strOfNums (batL n c st k ls nm rs)) := by
  rw [impl_batchText.v_eq]
  cases n
  · have w : wrap64 ((rs.length : Int) + 1) = 1 + (rs.length : Int) := by rw [wrap_id (by omega) (by omega)]; omega
    rw [if_neg (by simp), w, impl_number1, Option.bind_some]
    have := impl_batch_l c st k ls nm rs hn hl h8 rs.length 0 (strOfNums (beL (1 + rs.length) 1)) rfl (by omega) (by rw [strOf_size, beL_len])
    rw [show ((0 : Nat) : Int) = 0 from rfl] at this
    rw [this, List.drop_zero]
    unfold batL
    rw [if_neg (by simp), str_append (beL (1 + (rs.length : Int)) 1)]
  · rfl
theorem spec_batch_l (n : Bool) (c st k ls : Int) (nm : ByteArray) (rs : List S70) (hn : nm.size ≤ 1000) (hl : rs.length ≤ 100) (h8 : ∀ r ∈ rs, r.f2.size = 8) : ∀ (j i : Nat) (x : List Int), rs.length - i = j → i ≤ rs.length → x.length = 1 + 13 * i →
    spec_l02Batch.lv0 x i n c st k ls nm rs = some (x ++ (rdsL (rs.drop i) ++ reqL c st k ls nm))
  | 0, i, x, hj, hi, hx => by
    rw [spec_l02Batch.lv0_eq, if_neg (by omega), spec_l02Request_v _ _ _ _ _ (by omega), Option.bind_some, if_pos (by rw [reqL_len]; omega), List.drop_eq_nil_of_le (by omega)]
    rfl
  | j + 1, i, x, hj, hi, hx => by
    have hi2 : i < rs.length := by omega
    have hm : rs[i].f2.size = 8 := h8 _ (List.getElem_mem hi2)
    have w : wrap64 ((i : Int) + 1) = ((i + 1 : Nat) : Int) := by rw [wrap_id (by omega) (by omega)]; omega
    have n4 : ∀ x, spec_l02Number.v x 4 = some (beL x 4) := fun x => spec_number_v x 4 (by omega)
    rw [spec_l02Batch.lv0_eq, w]
    clear w
    rw [if_pos (by omega), if_pos (by omega), if_pos (by omega), Option.bind_some, rdT_get rs i hi2, n4, Option.bind_some, if_pos (by simp [beL_len]; omega), Option.bind_some, if_pos (by simp [beL_len]; omega)]
    rw [spec_batch_l n c st k ls nm rs hn hl h8 j (i + 1) _ (by omega) (by omega) (by simp [beL_len, bytesOf_length]; omega)]
    rw [List.drop_eq_getElem_cons hi2, show rdsL (rs[i] :: rs.drop (i + 1)) = rdT rs[i] ++ rdsL (rs.drop (i + 1)) from rfl]
    simp [rdT, beL, List.append_assoc]
theorem spec_l02Batch_v (n : Bool) (c st k ls : Int) (nm : ByteArray) (rs : List S70) (hn : nm.size ≤ 1000) (hl : rs.length ≤ 100) (h8 : ∀ r ∈ rs, r.f2.size = 8) : spec_l02Batch.v n c st k ls nm rs = some (batL n c st k ls nm rs) := by
  rw [spec_l02Batch.v_eq]
  cases n
  · have w : wrap64 (1 + (rs.length : Int)) = 1 + (rs.length : Int) := by rw [wrap_id (by omega) (by omega)]
    rw [if_neg (by simp), w]
    have := spec_batch_l false c st k ls nm rs hn hl h8 rs.length 0 [(1 + (rs.length : Int)) % 256] rfl (by omega) rfl
    rw [show ((0 : Nat) : Int) = 0 from rfl] at this
    rw [this, List.drop_zero]
    unfold batL
    rw [if_neg (by simp)]
    rfl
  · rfl
/-- Readings that were written, read back. -/
def rdOK (r : S70) : Prop := 0 ≤ r.f0 ∧ r.f0 ≤ 255 ∧ 0 ≤ r.f1 ∧ r.f1 ≤ 4294967295 ∧ r.f2.size = 8
theorem rds_read (x : ByteArray) : ∀ (rs : List S70) (pre post : List Int) (p : Nat), x = strOfNums (pre ++ (rdsL rs ++ post)) → p = pre.length → (∀ r ∈ rs, rdOK r) → rdL x p rs.length = rs
  | [], pre, post, p, hx, hp, h => rfl
  | r :: t, pre, post, p, hx, hp, h => by
    obtain ⟨a0, a1, b0, b1, m8⟩ := h r List.mem_cons_self
    have e1 : x = strOfNums (pre ++ (beL r.f0 1 ++ (beL r.f1 4 ++ (bytesOf r.f2 ++ (rdsL t ++ post))))) := by rw [hx]; simp [rdsL, rdT, List.append_assoc]
    have hsz : x.size = pre.length + 13 + ((rdsL t).length + post.length) := by rw [e1, strOf_size]; simp only [List.length_append, beL_len, bytesOf_length]; omega
    have c1 := num_at x pre r.f0 1 _ p e1 hp a0 (by omega)
    have e2 : x = strOfNums ((pre ++ beL r.f0 1) ++ (beL r.f1 4 ++ (bytesOf r.f2 ++ (rdsL t ++ post)))) := by rw [e1]; simp only [List.append_assoc]
    have c2 := num_at x _ r.f1 4 _ (p + 1) e2 (by simp only [List.length_append, beL_len]; omega) b0 (by omega)
    have e3 : x = strOfNums ((pre ++ beL r.f0 1 ++ beL r.f1 4) ++ (bytesOf r.f2 ++ (rdsL t ++ post))) := by rw [e1]; simp only [List.append_assoc]
    have c3 := text_at x _ r.f2 _ (p + 5) e3 (by simp only [List.length_append, beL_len]; omega)
    have e4 : x = strOfNums ((pre ++ beL r.f0 1 ++ beL r.f1 4 ++ bytesOf r.f2) ++ (rdsL t ++ post)) := by rw [e1]; simp only [List.append_assoc]
    have ih := rds_read x t _ post (p + 13) e4 (by simp only [List.length_append, beL_len, bytesOf_length]; omega) (fun q hq => h q (List.mem_cons_of_mem _ hq))
    rw [numM_one x p (by omega)] at c1
    rw [m8] at c3
    show (⟨bt x p, numM (x.extract (p + 1) (p + 5)), x.extract (p + 5) (p + 13)⟩ : S70) :: rdL x (p + 13) t.length = r :: t
    rw [ih, c1, show p + 5 = p + 1 + 4 by omega, c2, show p + 1 + 4 = p + 5 by omega, show p + 13 = p + 5 + 8 by omega, c3]
theorem rds_back (x : ByteArray) : ∀ (c p : Nat), p + 13 * c ≤ x.size → (bytesOf x).drop p = rdsL (rdL x p c) ++ (bytesOf x).drop (p + 13 * c)
  | 0, p, h => rfl
  | c + 1, p, h => by
    have ih := rds_back x c (p + 13) (by omega)
    have b1 := num_back x p 1 (by omega)
    have b2 := num_back x (p + 1) 4 (by omega)
    rw [numM_one x p (by omega)] at b1
    have e : rdsL (rdL x p (c + 1)) = (beL (bt x p) 1 ++ (beL (numM (x.extract (p + 1) (p + 5))) 4 ++ bytesOf (x.extract (p + 5) (p + 13)))) ++ rdsL (rdL x (p + 13) c) := rfl
    rw [e, b1, show p + 5 = p + 1 + 4 by omega, b2]
    rw [drop_piece x p 1 (by omega), drop_piece x (p + 1) 4 (by omega), drop_piece x (p + 1 + 4) 8 (by omega), show p + 1 + 4 + 8 = p + 13 by omega, ih, show p + 13 + 13 * c = p + 13 * (c + 1) by omega]
    simp only [List.append_assoc]
theorem req_read (c st k ls : Int) (nm : ByteArray) (h : reqB c st k ls nm = true) : impl_ReadRequest.v (reqL c st k ls nm) = some (c, st, k, ls, nm, 0) := by
  obtain ⟨c0, c1, s0, s1, k0, k1, l0, l1, n1⟩ := reqB_facts h
  obtain ⟨x, hx⟩ : ∃ x, x = strOfNums (reqL c st k ls nm) := ⟨_, rfl⟩
  have hsz : x.size = 7 + nm.size := by rw [hx, strOf_size, reqL_len]
  obtain ⟨p1, p2, p3, p4, p5, p6⟩ := req_parts x [] [] 0 c st k ls nm (by rw [hx, List.append_nil, List.nil_append]) rfl h
  rw [impl_ReadRequest.v_eq, if_neg (by rw [reqL_len]; omega), ← hx]
  have h3 : 0 + 7 + rN x 0 = x.size := by omega
  have hi := impl_request_ok x 0 (by omega)
  rw [← at_zero x] at hi
  rw [hi, Option.bind_some]
  simp only
  rw [done_at x _ (by omega), Option.bind_some]
  simp only
  rw [if_pos (decide_eq_true h3), p5, p1, p2, p3, p4, p6, impl_RequestOK_v _ _ _ _ _ (by omega), Option.bind_some, h]
  rfl
/-- A batch that is right, by its parts. -/
def batOK (n : Bool) (c st k ls : Int) (nm : ByteArray) (rs : List S70) : Prop := impl_isBatch.v n c st k ls nm rs = some true
theorem isBatch_l (n : Bool) (c st k ls : Int) (nm : ByteArray) (rs : List S70) (hl : rs.length ≤ 1000) : ∀ (j i : Nat), rs.length - i = j → i ≤ rs.length → impl_isBatch.lv0 rs rs.length i n c st k ls nm rs = some true →
    ∀ r ∈ rs.drop i, readingB r.f0 r.f1 r.f2 = true
  | 0, i, hj, hi, h, r, hr => by rw [List.drop_eq_nil_of_le (by omega)] at hr; cases hr
  | j + 1, i, hj, hi, h, r, hr => by
    have hi2 : i < rs.length := by omega
    have w : wrap64 ((i : Int) + 1) = ((i + 1 : Nat) : Int) := by rw [wrap_id (by omega) (by omega)]; omega
    rw [impl_isBatch.lv0_eq, w] at h
    clear w
    rw [if_pos (by omega), if_pos (by omega), if_pos (by omega), rdT_get rs i hi2, impl_isReading_v, Option.bind_some] at h
    cases hb : readingB rs[i].f0 rs[i].f1 rs[i].f2 with
    | false => rw [hb] at h; cases h
    | true =>
      rw [hb, if_pos rfl] at h
      have hn : impl_isBatch.lv0 rs rs.length (i + 1 : Nat) n c st k ls nm rs = some true := by
        by_cases h0 : (i : Int) > 0
        · rw [if_pos h0] at h
          split at h
          · split at h
            · split at h
              · cases h
              · exact h
            · cases h
          · cases h
        · rw [if_neg h0] at h; exact h
      rw [List.drop_eq_getElem_cons hi2] at hr
      rcases List.mem_cons.1 hr with rfl | hr
      · exact hb
      · exact isBatch_l n c st k ls nm rs hl j (i + 1) (by omega) (by omega) hn r hr
theorem batOK_facts {c st k ls : Int} {nm : ByteArray} {rs : List S70} (he : nm.size ≤ 9223372036854775807) (h : batOK false c st k ls nm rs) : reqB c st k ls nm = true ∧ rs.length ≤ 7 ∧ ∀ r ∈ rs, rdOK r := by
  unfold batOK at h
  rw [impl_isBatch.v_eq, if_neg (by simp), impl_RequestOK_v _ _ _ _ _ he, Option.bind_some] at h
  cases hq : reqB c st k ls nm with
  | false => rw [hq, if_neg (by simp), impl_isBatch.jv0_eq, if_pos rfl] at h; cases h
  | true =>
    rw [hq, if_pos rfl, impl_isBatch.jv0_eq] at h
    by_cases h7 : (rs.length : Int) > 7
    · rw [if_pos (decide_eq_true h7)] at h; cases h
    · rw [if_neg (by simpa using h7)] at h
      refine ⟨rfl, by omega, fun r hr => ?_⟩
      have := isBatch_l false c st k ls nm rs (by omega) rs.length 0 rfl (by omega) h r hr
      unfold readingB inB at this
      simp only [Bool.and_eq_true, decide_eq_true_eq] at this
      exact ⟨by omega, by omega, by omega, by omega, this.2.2⟩
theorem null_facts {c st k ls : Int} {nm : ByteArray} {rs : List S70} (h : batOK true c st k ls nm rs) : c = 0 ∧ st = 0 ∧ k = 0 ∧ ls = 0 ∧ nm = ⟨#[]⟩ ∧ rs = [] := by
  unfold batOK at h
  rw [impl_isBatch.v_eq, if_pos rfl] at h
  split at h
  · rename_i hc
    simp only [Bool.and_eq_true, beq_iff_eq] at hc
    obtain ⟨h1, h2, h3, h4, h5⟩ := hc
    have h6 := Option.some.inj h
    rw [beq_iff_eq] at h6
    refine ⟨h1, h2, h3, h4, ?_, List.length_eq_zero_iff.1 (by omega)⟩
    exact ba_inj.1 (h5.trans (ba_toList ⟨#[]⟩).symm)
  · cases h
theorem null_ok : batOK true 0 0 0 0 ⟨#[]⟩ [] := by unfold batOK; rw [impl_isBatch.v_eq, ba_toList]; rfl
theorem isBatch_true {c st k ls : Int} {nm : ByteArray} {rs : List S70} (he : nm.size ≤ 9223372036854775807) (hq : reqB c st k ls nm = true) (hl : rs.length ≤ 7)
    (hr : ∀ r ∈ rs, readingB r.f0 r.f1 r.f2 = true) (hs : rs.Pairwise (fun a b => a.f0 < b.f0)) : batOK false c st k ls nm rs := by
  unfold batOK
  rw [impl_isBatch.v_eq, if_neg (by simp), impl_RequestOK_v _ _ _ _ _ he, Option.bind_some, hq, if_pos rfl, impl_isBatch.jv0_eq, if_neg (by simp; omega)]
  have go : ∀ (j i : Nat), rs.length - i = j → i ≤ rs.length → impl_isBatch.lv0 rs rs.length i false c st k ls nm rs = some true := by
    intro j
    induction j with
    | zero => intro i hj hi; rw [impl_isBatch.lv0_eq, if_neg (by omega)]
    | succ j ih =>
      intro i hj hi
      have hi2 : i < rs.length := by omega
      have w : wrap64 ((i : Int) + 1) = ((i + 1 : Nat) : Int) := by rw [wrap_id (by omega) (by omega)]; omega
      rw [impl_isBatch.lv0_eq, w]
      clear w
      rw [if_pos (by omega), if_pos (by omega), if_pos (by omega), rdT_get rs i hi2, impl_isReading_v, Option.bind_some, hr _ (List.getElem_mem hi2), if_pos rfl, ih (i + 1) (by omega) (by omega)]
      by_cases h0 : (i : Int) > 0
      · have w : wrap64 ((i : Int) - 1) = ((i - 1 : Nat) : Int) := by rw [wrap_id (by omega) (by omega)]; omega
        rw [if_pos h0, w]
        clear w
        rw [if_pos (by omega), if_pos (by omega), rdT_get rs (i - 1) (by omega)]
        have := List.pairwise_iff_getElem.1 hs (i - 1) i (by omega) hi2 (by omega)
        rw [if_neg (by omega)]
      · rw [if_neg h0]
  exact go rs.length 0 rfl (by omega)
/-- What is read is right, and its bytes are those that stood there. -/
theorem readBatch_inv (x : ByteArray) (hx : x.size ≤ 1048576) : ∃ r : Batch8, impl_readBatch.v x = some r ∧ (r.2.2.2.2.2.2.2 = true → batOK r.1 r.2.1 r.2.2.1 r.2.2.2.1 r.2.2.2.2.1 r.2.2.2.2.2.1 r.2.2.2.2.2.2.1 ∧ r.2.2.2.2.2.1.size ≤ 1048576 ∧ bytesOf x = batL r.1 r.2.1 r.2.2.1 r.2.2.2.1 r.2.2.2.2.1 r.2.2.2.2.2.1 r.2.2.2.2.2.2.1) := by
  by_cases h0 : x.size = 0
  · exact ⟨_, readBatch_nil x h0, fun h => by cases h⟩
  · have hn : impl_reader_number.v x false 1 = some (bt x 0, x.extract (0 + 1) x.size, false) := by
      have hn := number_ok x 0 1 (by omega) (by omega)
      rw [← at_zero x, numM_one x 0 (by omega)] at hn
      exact hn
    have hr := bt_range x 0
    have hz := toList_zero x
    rw [impl_readBatch.v_eq, hn, Option.bind_some]
    clear hn
    obtain ⟨n, hb⟩ : ∃ n : Nat, bt x 0 = n := ⟨(bt x 0).toNat, by omega⟩
    rw [hb] at hr hz
    simp only [hb]
    by_cases h1 : n = 0
    · subst h1
      by_cases h2 : x.size = 1
      · rw [if_pos (hz.2 ⟨h2, rfl⟩)]
        refine ⟨_, rfl, fun _ => ⟨null_ok, by show 0 ≤ _; omega, ?_⟩⟩
        have h3 := hz.2 ⟨h2, rfl⟩
        rw [ba_toList] at h3
        show bytesOf x = [0]
        unfold bytesOf
        rw [h3]
        rfl
      · rw [if_neg (fun h => h2 (hz.1 h).1)]
        have w : wrap64 (((0 : Nat) : Int) - 1) = -1 := by rw [wrap_id (by omega) (by omega)]; rfl
        rw [w, if_neg (by omega)]
        clear w
        have hm : mx (-1) 0 = 0 := rfl
        rw [hm, impl_readBatch.lv0_eq, if_neg (by omega)]
        have hsz : ∃ q : Req7, impl_reader_request.v (x.extract (0 + 1) x.size) false = some q := by
          rcases Decidable.em (1 + 7 + rN x 1 ≤ x.size) with h4 | h4
          · exact ⟨_, impl_request_ok x 1 h4⟩
          · obtain ⟨w, e2, _⟩ := impl_request_short x 1 (by omega) (.inr (by omega))
            exact ⟨w, e2⟩
        obtain ⟨q, e2⟩ := hsz
        rw [e2, Option.bind_some, if_pos (by omega)]
        exact ⟨_, rfl, fun h => by cases h⟩
    · have h2 : ¬ x.toList = [0] := fun h => h1 (by have := (hz.1 h).2; omega)
      have w1 : wrap64 ((n : Int) - 1) = ((n - 1 : Nat) : Int) := by rw [wrap_id (by omega) (by omega)]; omega
      rw [if_neg h2]
      simp only [w1]
      clear w1
      have hm : mx ((n - 1 : Nat) : Int) 0 = ((n - 1 : Nat) : Int) := by unfold mx; split <;> omega
      rw [hm]
      by_cases h7 : ((n - 1 : Nat) : Int) > 7
      · rw [if_pos h7]
        exact ⟨_, rfl, fun h => by cases h⟩
      rw [if_neg h7]
      by_cases h3 : x.size < 1 + 13 * (n - 1)
      · have h5 := batch_short x ((n - 1 : Nat) : Int) ((n - 1 : Nat) : Int) (by omega) (n - 1) 1 0 [] (by omega) (by omega) (by simp) (by omega) (by omega)
        exact ⟨_, h5, fun h => by cases h⟩
      · have h8 := batch_impl x ((n - 1 : Nat) : Int) ((n - 1 : Nat) : Int) (by omega) (n - 1) 1 0 [] (by omega) (by omega) rfl (by omega)
        have h8' : impl_readBatch.lv0 ((n - 1 : Nat) : Int) ((n - 1 : Nat) : Int) 0 (x.extract (0 + 1) x.size) false false 0 0 0 0 ⟨#[]⟩ [] = impl_readBatch.lv0 ((n - 1 : Nat) : Int) ((n - 1 : Nat) : Int) ((n - 1 : Nat) : Int) (x.extract (1 + 13 * (n - 1)) x.size) false false 0 0 0 0 ⟨#[]⟩ (rdL x 1 (n - 1)) := h8
        rw [h8', impl_readBatch.lv0_eq, if_neg (by omega)]
        clear h8 h8'
        obtain ⟨p, hp⟩ : ∃ p, p = 1 + 13 * (n - 1) := ⟨_, rfl⟩
        rw [← hp] at h3 ⊢
        rcases Decidable.em (p + 7 + rN x p ≤ x.size) with h4 | h4
        · rw [impl_request_ok x p h4, Option.bind_some]
          simp only
          rw [if_neg (by omega), done_at x _ h4, Option.bind_some]
          simp only
          by_cases h5 : p + 7 + rN x p = x.size
          · rw [if_pos (decide_eq_true h5)]
            obtain ⟨b, b1, b2, b3, b4⟩ := batch_both false (bt x p) (numM (x.extract (p + 1) (p + 3))) (bt x (p + 3 : Nat)) (numM (x.extract (p + 4) (p + 6))) (x.extract (p + 7) (p + 7 + rN x p)) (rdL x 1 (n - 1)) (by rw [ByteArray.size_extract]; omega)
            rw [b1, Option.bind_some]
            cases b
            · exact ⟨_, rfl, fun h => by cases h⟩
            · refine ⟨_, rfl, fun _ => ⟨b1, by show (x.extract (p + 7) (p + 7 + rN x p)).size ≤ _; rw [ByteArray.size_extract]; omega, ?_⟩⟩
              show bytesOf x = beL (1 + (rdL x 1 (n - 1)).length) 1 ++ (rdsL (rdL x 1 (n - 1)) ++ reqL _ _ _ _ _)
              have d1 := drop_piece x 0 1 (by omega)
              have d2 := rds_back x (n - 1) 1 (by omega)
              have d3 := req_back x p h4
              have d4 := num_back x 0 1 (by omega)
              rw [numM_one x 0 (by omega)] at d4
              have hlen : (1 + ((rdL x 1 (n - 1)).length : Int)) = bt x 0 := by rw [rdL_len, hb]; omega
              have d5 : (bytesOf x).drop (p + 7 + rN x p) = [] := List.drop_eq_nil_of_le (by rw [bytesOf_length]; omega)
              rw [← hp, d3, d5, List.append_nil] at d2
              have d1' : bytesOf x = bytesOf (x.extract 0 (0 + 1)) ++ (bytesOf x).drop 1 := d1
              rw [hlen, show (bt x 0) = bt x ((0 : Nat) : Int) from rfl, d4, ← d2]
              exact d1'
          · rw [if_neg (show ¬ decide (p + 7 + rN x p = x.size) = true by rw [decide_eq_false h5]; simp)]
            exact ⟨_, rfl, fun h => by cases h⟩
        · obtain ⟨w, e2, e3⟩ := impl_request_short x p (by omega) (.inr (by omega))
          rw [e2, Option.bind_some, if_neg (by omega), e3, done_bad, Option.bind_some]
          exact ⟨_, rfl, fun h => by cases h⟩
/-- A right batch's bytes, read back. -/
theorem batch_read (n : Bool) (c st k ls : Int) (nm : ByteArray) (rs : List S70) (he : nm.size ≤ 1000000) (h : batOK n c st k ls nm rs) : impl_readBatch.v (strOfNums (batL n c st k ls nm rs)) = some (n, c, st, k, ls, nm, rs, true) := by
  cases n
  · obtain ⟨hq, hl, hr⟩ := batOK_facts (by omega) h
    obtain ⟨c0, c1, s0, s1, k0, k1, l0, l1, n1⟩ := reqB_facts hq
    have h8 : ∀ r ∈ rs, r.f2.size = 8 := fun r hr2 => (hr r hr2).2.2.2.2
    obtain ⟨x, hx⟩ : ∃ x, x = strOfNums (batL false c st k ls nm rs) := ⟨_, rfl⟩
    rw [← hx]
    have hsz : x.size = 8 + 13 * rs.length + nm.size := by rw [hx, strOf_size, batL_len _ _ _ _ _ _ h8]
    have e0 : x = strOfNums ([] ++ (beL (1 + rs.length) 1 ++ (rdsL rs ++ reqL c st k ls nm))) := by rw [hx]; rfl
    have a1 := num_at x [] (1 + rs.length) 1 _ 0 e0 rfl (by omega) (by omega)
    rw [numM_one x 0 (by omega)] at a1
    have a2 := rds_read x rs (beL (1 + rs.length) 1) (reqL c st k ls nm) 1 e0 (by rw [beL_len]) hr
    obtain ⟨p, hp⟩ : ∃ p, p = 1 + 13 * rs.length := ⟨_, rfl⟩
    obtain ⟨p1, p2, p3, p4, p5, p6⟩ := req_parts x (beL (1 + rs.length) 1 ++ rdsL rs) [] p c st k ls nm (by rw [e0, List.append_nil, List.nil_append, List.append_assoc]) (by rw [List.length_append, beL_len, rdsL_len rs h8]; omega) hq
    have hn : impl_reader_number.v x false 1 = some (bt x 0, x.extract (0 + 1) x.size, false) := by
      have hn := number_ok x 0 1 (by omega) (by omega)
      rw [← at_zero x, numM_one x 0 (by omega)] at hn
      exact hn
    have hz := toList_zero x
    have h2 : ¬ x.toList = [0] := fun h => by have := (hz.1 h).1; omega
    have a1' : bt x 0 = 1 + (rs.length : Int) := a1
    have w1 : wrap64 (1 + (rs.length : Int) - 1) = (rs.length : Int) := by rw [wrap_id (by omega) (by omega)]; omega
    rw [impl_readBatch.v_eq, if_neg h2, hn, Option.bind_some, a1']
    simp only [w1]
    clear w1
    have hm : mx (rs.length : Int) 0 = (rs.length : Int) := by unfold mx; split <;> omega
    rw [hm, if_neg (by omega)]
    have h8' := batch_impl x (rs.length : Int) (rs.length : Int) (by omega) rs.length 1 0 [] (by omega) (by omega) rfl (by omega)
    rw [a2, ← hp] at h8'
    have h8'' : impl_readBatch.lv0 (rs.length : Int) (rs.length : Int) 0 (x.extract (0 + 1) x.size) false false 0 0 0 0 ⟨#[]⟩ [] = impl_readBatch.lv0 (rs.length : Int) (rs.length : Int) (rs.length : Int) (x.extract p x.size) false false 0 0 0 0 ⟨#[]⟩ rs := h8'
    rw [h8'', impl_readBatch.lv0_eq, if_neg (by omega), impl_request_ok x p (by omega), Option.bind_some]
    simp only
    rw [if_neg (by omega), done_at x _ (by omega), Option.bind_some]
    simp only
    rw [if_pos (decide_eq_true (by omega)), p5, p1, p2, p3, p4, p6]
    unfold batOK at h
    rw [h, Option.bind_some]
    rfl
  · obtain ⟨rfl, rfl, rfl, rfl, rfl, rfl⟩ := null_facts h
    rw [impl_readBatch.v_eq, if_pos (by rw [ba_toList]; rfl)]
theorem bat_sizes {n : Bool} {c st k ls : Int} {nm : ByteArray} {rs : List S70} (he : nm.size ≤ 1048576) (h : batOK n c st k ls nm rs) : nm.size ≤ 12 ∧ rs.length ≤ 7 ∧ ∀ r ∈ rs, r.f2.size = 8 := by
  cases n
  · obtain ⟨hq, hl, hr⟩ := batOK_facts (by omega) h
    obtain ⟨c0, c1, s0, s1, k0, k1, l0, l1, n1⟩ := reqB_facts hq
    exact ⟨n1, hl, fun r hr2 => (hr r hr2).2.2.2.2⟩
  · obtain ⟨rfl, rfl, rfl, rfl, rfl, rfl⟩ := null_facts h
    exact ⟨by decide, by simp, fun r hr => by cases hr⟩
theorem impl_BatchBytes_v (n : Bool) (c st k ls : Int) (nm : ByteArray) (rs : List S70) (he : nm.size ≤ 1048576) (h : batOK n c st k ls nm rs) : impl_BatchBytes.v n c st k ls nm rs = some (batL n c st k ls nm rs, 0) := by
  obtain ⟨z1, z2, z3⟩ := bat_sizes he h
  have hle := batL_le n c st k ls nm rs z3
  have h' := h
  unfold batOK at h'
  rw [impl_BatchBytes.v_eq, h', Option.bind_some, if_pos rfl, impl_batchText_v n c st k ls nm rs (by omega) (by omega) z3, Option.bind_some, if_pos (by rw [strOf_size]; omega), bytes_str _ (byteL_bat n c st k ls nm rs)]
theorem spec_BatchBytes_v (n : Bool) (c st k ls : Int) (nm : ByteArray) (rs : List S70) (he : nm.size ≤ 1048576) (h : batOK n c st k ls nm rs) : spec_BatchBytes.v n c st k ls nm rs = some (batL n c st k ls nm rs, 0) := by
  obtain ⟨z1, z2, z3⟩ := bat_sizes he h
  obtain ⟨r, b1, b2, _, _⟩ := batch_both n c st k ls nm rs (by omega)
  unfold batOK at h
  rw [h] at b1
  obtain rfl := Option.some.inj b1
  rw [spec_BatchBytes.v_eq, b2, Option.bind_some, if_pos rfl, spec_l02Batch_v n c st k ls nm rs (by omega) (by omega) z3, Option.bind_some]
/-- A place of at most m, a seed within its bounds. -/
def Src (m a s : Int) : Prop := 0 ≤ a ∧ a ≤ m ∧ 0 ≤ s ∧ s < 2147483648
theorem Src.mono {m m' a s : Int} (h : Src m a s) (hm : m ≤ m') : Src m' a s := ⟨h.1, Int.le_trans h.2.1 hm, h.2.2⟩
theorem rd_byte (l : List Int) (h : ∀ y ∈ l, (Lit.int .u8 y).wf = true) (i : Int) : 0 ≤ rd l i ∧ rd l i ≤ 255 := by
  unfold rd
  rw [List.getD]
  cases hq : l[i.toNat]? with
  | none => simp
  | some y => exact wf8 (h y (List.mem_of_getElem? hq))
theorem tmod_nn (x n : Int) (hx : 0 ≤ x) (hn : 0 < n) : 0 ≤ Int.tmod x n ∧ Int.tmod x n < n := by
  rw [Int.tmod_eq_emod_of_nonneg hx]
  exact ⟨Int.emod_nonneg _ (by omega), Int.emod_lt_of_pos _ hn⟩
theorem src_byte (code : List Int) (hc : ∀ y ∈ code, (Lit.int .u8 y).wf = true) (m a s : Int) (h : Src m a s) (hm : m ≤ 1000000000000) :
    ∃ r a' s', spec_l00Src_byte.v code a s = some (r, a', s') ∧ 0 ≤ r ∧ r ≤ 255 ∧ Src (m + 1) a' s' := by
  obtain ⟨h1, h2, h3, h4⟩ := h
  have w1 : wrap64 (a + 1) = a + 1 := wrap_id (by omega) (by omega)
  have w2 : wrap64 (a + 1 - 1) = a := by rw [wrap_id (by omega) (by omega)]; omega
  rw [spec_l00Src_byte.v_eq]
  simp only [w1, w2]
  clear w1 w2
  have hb := rd_byte code hc a
  by_cases hl : a + 1 ≤ (code.length : Int)
  · have c1 : a < (code.length : Int) := by omega
    rw [if_pos hl, if_pos h1, if_pos c1]
    have w3 : wrap64 (rd code a) = rd code a := wrap_id (by omega) (by omega)
    have w4 : wrap64 (s * 31) = s * 31 := wrap_id (by omega) (by omega)
    have w5 : wrap64 (s * 31 + rd code a) = s * 31 + rd code a := wrap_id (by omega) (by omega)
    have w6 : wrap64 (s * 31 + rd code a + 7) = s * 31 + rd code a + 7 := wrap_id (by omega) (by omega)
    simp only [w3, w4, w5, w6]
    clear w3 w4 w5 w6
    have ht := tmod_nn (s * 31 + rd code a + 7) 2147483648 (by omega) (by omega)
    exact ⟨_, _, _, rfl, hb.1, hb.2, by omega, by omega, ht.1, ht.2⟩
  · rw [if_neg hl]
    by_cases h5 : a + 1 > 3000
    · rw [if_pos h5]
      exact ⟨_, _, _, rfl, by omega, by omega, by omega, by omega, h3, h4⟩
    · rw [if_neg h5]
      have w3 : wrap64 (s * 1103515245) = s * 1103515245 := wrap_id (by omega) (by omega)
      have w4 : wrap64 (s * 1103515245 + 12345) = s * 1103515245 + 12345 := wrap_id (by omega) (by omega)
      simp only [w3, w4]
      clear w3 w4
      have ht := tmod_nn (s * 1103515245 + 12345) 2147483648 (by omega) (by omega)
      generalize Int.tmod (s * 1103515245 + 12345) 2147483648 = u at ht
      have hd : Int.tdiv u 65536 = u / 65536 := Int.tdiv_eq_ediv_of_nonneg ht.1
      have w5 : wrap64 (u / 65536) = u / 65536 := wrap_id (by omega) (by omega)
      rw [hd, w5]
      clear w5
      have h6 := tmod_nn (u / 65536) 256 (by omega) (by omega)
      exact ⟨_, _, _, rfl, h6.1, by omega, by omega, by omega, ht.1, ht.2⟩
theorem src_next (code : List Int) (hc : ∀ y ∈ code, (Lit.int .u8 y).wf = true) (m a s n : Int) (h : Src m a s) (hm : m ≤ 900000000000) (hn : 1 ≤ n) :
    ∃ r a' s', spec_l00Src_next.v code a s n = some (r, a', s') ∧ 0 ≤ r ∧ r < n ∧ Src (m + 3) a' s' := by
  rw [spec_l00Src_next.v_eq]
  by_cases h1 : n ≤ 1
  · rw [if_pos h1]
    obtain ⟨h2, h3, h4, h5⟩ := h
    exact ⟨_, _, _, rfl, by omega, by omega, h2, by omega, h4, h5⟩
  · rw [if_neg h1]
    obtain ⟨r, a1, s1, e1, r0, r1, i1⟩ := src_byte code hc m a s h (by omega)
    have n0 : ¬ n = 0 := by omega
    by_cases h2 : n ≤ 256
    · rw [if_pos h2, e1, Option.bind_some, if_neg n0]
      have := tmod_nn r n r0 (by omega)
      exact ⟨_, _, _, rfl, this.1, this.2, i1.mono (by omega)⟩
    · obtain ⟨q, a2, s2, e2, q0, q1, i2⟩ := src_byte code hc (m + 1) a1 s1 i1 (by omega)
      obtain ⟨p, a3, s3, e3, p0, p1, i3⟩ := src_byte code hc (m + 1 + 1) a2 s2 i2 (by omega)
      rw [if_neg h2, e1, Option.bind_some]
      simp only
      rw [e2, Option.bind_some]
      simp only
      rw [e3, Option.bind_some, if_neg n0]
      have w1 : wrap64 (r * 65536) = r * 65536 := wrap_id (by omega) (by omega)
      have w2 : wrap64 (q * 256) = q * 256 := wrap_id (by omega) (by omega)
      have w3 : wrap64 (r * 65536 + q * 256) = r * 65536 + q * 256 := wrap_id (by omega) (by omega)
      have w4 : wrap64 (r * 65536 + q * 256 + p) = r * 65536 + q * 256 + p := wrap_id (by omega) (by omega)
      simp only [w1, w2, w3, w4]
      clear w1 w2 w3 w4
      have := tmod_nn (r * 65536 + q * 256 + p) n (by omega) (by omega)
      exact ⟨_, _, _, rfl, this.1, this.2, i3.mono (by omega)⟩
theorem src_pick (code : List Int) (hc : ∀ y ∈ code, (Lit.int .u8 y).wf = true) (m a s : Int) (l : List ByteArray) (h : Src m a s) (hm : m ≤ 900000000000) (hl : 1 ≤ l.length) :
    ∃ x a' s', spec_l00Src_pick.v code a s l = some (x, a', s') ∧ x ∈ l ∧ Src (m + 3) a' s' := by
  obtain ⟨r, a1, s1, e1, r0, r1, i1⟩ := src_next code hc m a s l.length h hm (by omega)
  rw [spec_l00Src_pick.v_eq, if_neg (by omega), e1, Option.bind_some, if_pos r0, if_pos r1]
  refine ⟨_, _, _, rfl, ?_, i1⟩
  unfold rdOf
  rw [List.getD_eq_getElem?_getD, List.getElem?_eq_getElem (by omega)]
  exact List.getElem_mem _
theorem src_start (code : List Int) : ∃ s, spec_l00Source.v code = some (code, 0, s) ∧ Src 0 0 s := by
  rw [spec_l00Source.v_eq]
  refine ⟨_, rfl, by omega, by omega, ?_, ?_⟩ <;> omega
theorem src_chance (code : List Int) (hc : ∀ y ∈ code, (Lit.int .u8 y).wf = true) (m a s n : Int) (h : Src m a s) (hm : m ≤ 900000000000) (hn : 1 ≤ n) :
    ∃ b a' s', spec_l00Src_chance.v code a s n = some (b, a', s') ∧ Src (m + 3) a' s' := by
  obtain ⟨r, a1, s1, e1, r0, r1, i1⟩ := src_next code hc m a s n h hm hn
  rw [spec_l00Src_chance.v_eq, e1, Option.bind_some]
  exact ⟨_, _, _, rfl, i1⟩
def turnF (x n : Int) : Int := Go.bits .or .u32 (shr .u32 x n) (shl .u32 x (32 - n))
theorem u64_small (n : Int) (h0 : 0 ≤ n) (h1 : n < 18446744073709551616) : IntKind.u64.wrap n = n := by
  unfold IntKind.wrap
  simp [IntKind.bits, IntKind.signed]
  omega
theorem turn_v (x n : Int) (h0 : 0 ≤ n) (h1 : n ≤ 32) : spec_l01Turn.v x n = some (turnF x n) := by
  rw [spec_l01Turn.v_eq, if_pos h0, u64_small (32 - n) (by omega) (by omega), if_pos (by omega)]
  rfl
theorem block_l3 (v : List Int) (hv : v.length = 8) : ∀ (k i : Nat) (h : List Int), 8 - i = k → i ≤ 8 → h.length = 8 → ∃ r, spec_l01Block.lv3 h v i = some r ∧ r.length = 8
  | 0, i, h, hk, hi, hh => by
    rw [spec_l01Block.lv3_eq, if_neg (by omega)]
    exact ⟨h, rfl, hh⟩
  | k + 1, i, h, hk, hi, hh => by
    obtain ⟨r, e, hr⟩ := block_l3 v hv k (i + 1) (h.set (i : Int).toNat (((rd h i) + (rd v i)) % 4294967296)) (by omega) (by omega) (by rw [List.length_set]; exact hh)
    have w : wrap64 ((i : Int) + 1) = ((i + 1 : Nat) : Int) := by rw [wrap_id (by omega) (by omega)]; omega
    rw [spec_l01Block.lv3_eq, w, e]
    clear w
    rw [if_pos (by omega), if_pos (by omega), if_pos (by omega), if_pos (by omega)]
    exact ⟨r, rfl, hr⟩
theorem block_l2 (h ks ws : List Int) (hh : h.length = 8) (hk : ks.length = 64) (hw : ws.length = 64) : ∀ (k i : Nat) (v : List Int), 64 - i = k → i ≤ 64 → v.length = 8 → ∃ r, spec_l01Block.lv2 h ks ws v i = some r ∧ r.length = 8
  | 0, i, v, hi0, hi, hv => by
    rw [spec_l01Block.lv2_eq, if_neg (by omega)]
    exact block_l3 v hv 8 0 h rfl (by omega) hh
  | k + 1, i, v, hi0, hi, hv => by
    have ih := fun v' => block_l2 h ks ws hh hk hw k (i + 1) v' (by omega) (by omega)
    have w : wrap64 ((i : Int) + 1) = ((i + 1 : Nat) : Int) := by rw [wrap_id (by omega) (by omega)]; omega
    rw [spec_l01Block.lv2_eq, w]
    clear w
    have c1 : (i : Int) < 64 := by omega
    have c2 : (4 : Int) < (v.length : Int) := by omega
    have c3 : (0 : Int) < (v.length : Int) := by omega
    have c4 : (7 : Int) < (v.length : Int) := by omega
    have c5 : (5 : Int) < (v.length : Int) := by omega
    have c6 : (6 : Int) < (v.length : Int) := by omega
    have c7 : (0 : Int) ≤ (i : Int) := by omega
    have c8 : (i : Int) < (ks.length : Int) := by omega
    have c9 : (i : Int) < (ws.length : Int) := by omega
    have d1 : (1 : Int) < (v.length : Int) := by omega
    have d2 : (2 : Int) < (v.length : Int) := by omega
    have d3 : (3 : Int) < (v.length : Int) := by omega
    have t1 : ∀ x, spec_l01Turn.v x 6 = some (turnF x 6) := fun x => turn_v x 6 (by omega) (by omega)
    have t2 : ∀ x, spec_l01Turn.v x 11 = some (turnF x 11) := fun x => turn_v x 11 (by omega) (by omega)
    have t3 : ∀ x, spec_l01Turn.v x 25 = some (turnF x 25) := fun x => turn_v x 25 (by omega) (by omega)
    have t4 : ∀ x, spec_l01Turn.v x 2 = some (turnF x 2) := fun x => turn_v x 2 (by omega) (by omega)
    have t5 : ∀ x, spec_l01Turn.v x 13 = some (turnF x 13) := fun x => turn_v x 13 (by omega) (by omega)
    have t6 : ∀ x, spec_l01Turn.v x 22 = some (turnF x 22) := fun x => turn_v x 22 (by omega) (by omega)
    simp only [if_pos c1, if_pos c2, if_pos c3, if_pos c4, if_pos c5, if_pos c6, if_pos c7, if_pos c8, if_pos c9, if_pos d1, if_pos d2, if_pos d3, t1, t2, t3, t4, t5, t6, Option.bind_some]
    exact ih _ rfl
theorem block_l1 (h ks : List Int) (hh : h.length = 8) (hk : ks.length = 64) : ∀ (k i : Nat) (ws : List Int), 64 - i = k → 16 ≤ i → i ≤ 64 → ws.length = 64 → ∃ r, spec_l01Block.lv1 h ks ws i = some r ∧ r.length = 8
  | 0, i, ws, hi0, h16, hi, hw => by
    rw [spec_l01Block.lv1_eq, if_neg (by omega), Option.bind_some, if_pos (by simp; omega)]
    exact block_l2 h ks ws hh hk hw 64 0 _ rfl (by omega) (by simpa using hh)
  | k + 1, i, ws, hi0, h16, hi, hw => by
    have ih := fun ws' => block_l1 h ks hh hk k (i + 1) ws' (by omega) (by omega) (by omega)
    have c1 : (i : Int) < 64 := by omega
    have c2 : (0 : Int) ≤ (i : Int) - 15 := by omega
    have c3 : (i : Int) - 15 < (ws.length : Int) := by omega
    have c4 : (0 : Int) ≤ (i : Int) - 2 := by omega
    have c5 : (i : Int) - 2 < (ws.length : Int) := by omega
    have c6 : (0 : Int) ≤ (i : Int) - 16 := by omega
    have c7 : (i : Int) - 16 < (ws.length : Int) := by omega
    have c8 : (0 : Int) ≤ (i : Int) - 7 := by omega
    have c9 : (i : Int) - 7 < (ws.length : Int) := by omega
    have d1 : (0 : Int) ≤ (i : Int) := by omega
    have d2 : (i : Int) < (ws.length : Int) := by omega
    have t1 : ∀ x, spec_l01Turn.v x 7 = some (turnF x 7) := fun x => turn_v x 7 (by omega) (by omega)
    have t2 : ∀ x, spec_l01Turn.v x 18 = some (turnF x 18) := fun x => turn_v x 18 (by omega) (by omega)
    have t3 : ∀ x, spec_l01Turn.v x 17 = some (turnF x 17) := fun x => turn_v x 17 (by omega) (by omega)
    have t4 : ∀ x, spec_l01Turn.v x 19 = some (turnF x 19) := fun x => turn_v x 19 (by omega) (by omega)
    have w : wrap64 ((i : Int) + 1) = ((i + 1 : Nat) : Int) := by rw [wrap_id (by omega) (by omega)]; omega
    have w1 : wrap64 ((i : Int) - 15) = (i : Int) - 15 := wrap_id (by omega) (by omega)
    have w2 : wrap64 ((i : Int) - 2) = (i : Int) - 2 := wrap_id (by omega) (by omega)
    have w3 : wrap64 ((i : Int) - 16) = (i : Int) - 16 := wrap_id (by omega) (by omega)
    have w4 : wrap64 ((i : Int) - 7) = (i : Int) - 7 := wrap_id (by omega) (by omega)
    rw [spec_l01Block.lv1_eq]
    simp only [w, w1, w2, w3, w4, if_pos c1, if_pos c2, if_pos c3, if_pos c4, if_pos c5, if_pos c6, if_pos c7, if_pos c8, if_pos c9, if_pos d1, if_pos d2, t1, t2, t3, t4, Option.bind_some]
    clear w w1 w2 w3 w4
    exact ih _ (by rw [List.length_set]; exact hw)
theorem block_l0 (h b ks : List Int) (hh : h.length = 8) (hb : b.length = 64) (hk : ks.length = 64) : ∀ (k i : Nat) (ws : List Int), 16 - i = k → i ≤ 16 → ws.length = 64 → ∃ r, spec_l01Block.lv0 h b ks ws i = some r ∧ r.length = 8
  | 0, i, ws, hi0, hi, hw => by
    rw [spec_l01Block.lv0_eq, if_neg (by omega)]
    exact block_l1 h ks hh hk 48 16 ws rfl (by omega) (by omega) hw
  | k + 1, i, ws, hi0, hi, hw => by
    have ih := fun ws' => block_l0 h b ks hh hb hk k (i + 1) ws' (by omega) (by omega)
    have c1 : (i : Int) < 16 := by omega
    have c2 : (0 : Int) ≤ 4 * (i : Int) := by omega
    have c3 : 4 * (i : Int) < (b.length : Int) := by omega
    have c4 : (0 : Int) ≤ 4 * (i : Int) + 1 := by omega
    have c5 : 4 * (i : Int) + 1 < (b.length : Int) := by omega
    have c6 : (0 : Int) ≤ 4 * (i : Int) + 2 := by omega
    have c7 : 4 * (i : Int) + 2 < (b.length : Int) := by omega
    have c8 : (0 : Int) ≤ 4 * (i : Int) + 3 := by omega
    have c9 : 4 * (i : Int) + 3 < (b.length : Int) := by omega
    have d1 : (0 : Int) ≤ (i : Int) := by omega
    have d2 : (i : Int) < (ws.length : Int) := by omega
    have w : wrap64 ((i : Int) + 1) = ((i + 1 : Nat) : Int) := by rw [wrap_id (by omega) (by omega)]; omega
    have w0 : wrap64 (4 * (i : Int)) = 4 * (i : Int) := wrap_id (by omega) (by omega)
    have w1 : wrap64 (4 * (i : Int) + 1) = 4 * (i : Int) + 1 := wrap_id (by omega) (by omega)
    have w2 : wrap64 (4 * (i : Int) + 2) = 4 * (i : Int) + 2 := wrap_id (by omega) (by omega)
    have w3 : wrap64 (4 * (i : Int) + 3) = 4 * (i : Int) + 3 := wrap_id (by omega) (by omega)
    rw [spec_l01Block.lv0_eq]
    simp only [w, w0, w1, w2, w3, if_pos c1, if_pos c2, if_pos c3, if_pos c4, if_pos c5, if_pos c6, if_pos c7, if_pos c8, if_pos c9, if_pos d1, if_pos d2]
    clear w w0 w1 w2 w3
    exact ih _ (by rw [List.length_set]; exact hw)
theorem block_v (h b ks : List Int) (hh : h.length = 8) (hb : b.length = 64) (hk : ks.length = 64) : ∃ r, spec_l01Block.v h b ks = some r ∧ r.length = 8 := by
  rw [spec_l01Block.v_eq, if_pos ⟨hh, hb, hk⟩, if_pos (by omega)]
  exact block_l0 h b ks hh hb hk 16 0 _ rfl (by omega) (by simp)
theorem hash_l3 (h : List Int) (hh : h.length = 8) : ∀ (k i : Nat) (out : List Int), 8 - i = k → i ≤ 8 → out.length = 4 * i → ∃ t, spec_l01Hash.lv3 h out i = some t ∧ t.size = 32
  | 0, i, out, hi0, hi, ho => by
    rw [spec_l01Hash.lv3_eq, if_neg (by omega)]
    exact ⟨_, rfl, by rw [strOf_size]; omega⟩
  | k + 1, i, out, hi0, hi, ho => by
    have ih := fun out' => hash_l3 h hh k (i + 1) out' (by omega) (by omega)
    have w : wrap64 ((i : Int) + 1) = ((i + 1 : Nat) : Int) := by rw [wrap_id (by omega) (by omega)]; omega
    rw [spec_l01Hash.lv3_eq, w]
    clear w
    rw [if_pos (by omega), if_pos (by omega), if_pos (by omega), Option.bind_some, if_pos (by simp; omega)]
    exact ih _ (by simp; omega)
theorem hash_l2 (all ks : List Int) (hk : ks.length = 64) (n : Nat) (ha : all.length = 64 * n) (hn : n ≤ 1000000) : ∀ (k i : Nat) (h : List Int), n - i = k → i ≤ n → h.length = 8 → ∃ t, spec_l01Hash.lv2 h all ks ((64 * i : Nat) : Int) = some t ∧ t.size = 32
  | 0, i, h, hi0, hi, hh => by
    rw [spec_l01Hash.lv2_eq, if_neg (by omega)]
    exact hash_l3 h hh 8 0 [] rfl (by omega) rfl
  | k + 1, i, h, hi0, hi, hh => by
    have ih := fun h' => hash_l2 all ks hk n ha hn k (i + 1) h' (by omega) (by omega)
    obtain ⟨r, e, hr⟩ := block_v h ((all.take (64 * (i + 1))).drop (64 * i)) ks hh (by rw [List.length_drop, List.length_take]; omega) hk
    have w : wrap64 (((64 * i : Nat) : Int) + 64) = ((64 * (i + 1) : Nat) : Int) := by rw [wrap_id (by omega) (by omega)]; omega
    rw [spec_l01Hash.lv2_eq, w]
    clear w
    simp only [Int.toNat_natCast]
    rw [if_pos (by omega), if_pos (by omega), if_pos (by omega), if_pos (by omega), e, Option.bind_some]
    exact ih _ hr
theorem hash_l1 (x h : List Int) (hh : h.length = 8) : ∀ (k : Nat) (all : List Int), k ≤ 8 → all.length + k ≤ 60000000 → (all.length + k) % 64 = 0 → ∃ t, spec_l01Hash.lv1 x h all ((k : Int) - 1) = some t ∧ t.size = 32
  | 0, all, hk, ha, hm => by
    rw [spec_l01Hash.lv1_eq, if_neg (by omega), spec_l01Consts.v_eq, Option.bind_some]
    exact hash_l2 all _ rfl (all.length / 64) (by omega) (by omega) (all.length / 64) 0 h rfl (by omega) hh
  | k + 1, all, hk, ha, hm => by
    have ih := fun a => hash_l1 x h hh k (all ++ [a]) (by omega) (by simp; omega) (by simp; omega)
    have e : (((k + 1 : Nat) : Int) - 1) = (k : Int) := by omega
    have c1 : (k : Int) ≥ 0 := by omega
    have c2 : all.length < 140737488355328 := by omega
    have w : wrap64 ((k : Int) - 1) = (k : Int) - 1 := wrap_id (by omega) (by omega)
    have w1 : IntKind.u64.wrap (wrap64 (8 * (k : Int))) = 8 * (k : Int) := by
      rw [show wrap64 (8 * (k : Int)) = 8 * (k : Int) from wrap_id (by omega) (by omega), u64_small _ (by omega) (by omega)]
    have c3 : (0 : Int) ≤ 8 * (k : Int) := by clear w w1; omega
    rw [e, spec_l01Hash.lv1_eq, w, w1]
    clear w w1
    rw [if_pos c1, if_pos c3, if_pos c2]
    exact ih _
theorem hash_l0 (x h : List Int) (hh : h.length = 8) : ∀ (k : Nat) (all : List Int), (all.length + k) % 64 = 56 → k ≤ 64 → all.length + k ≤ 50000000 → ∃ t, spec_l01Hash.lv0 x h all = some t ∧ t.size = 32
  | 0, all, hm, hk, ha => by
    rw [spec_l01Hash.lv0_eq, if_pos (by omega)]
    exact hash_l1 x h hh 8 all (by omega) (by omega) (by omega)
  | k + 1, all, hm, hk, ha => by
    rw [spec_l01Hash.lv0_eq]
    by_cases c : ((all.length : Int) % 64) = 56
    · rw [if_pos c]
      exact hash_l1 x h hh 8 all (by omega) (by omega) (by omega)
    · rw [if_neg c, if_pos (by omega)]
      exact hash_l0 x h hh k (all ++ [0]) (by simp; omega) (by omega) (by simp; omega)
theorem hash_v (x : List Int) (hx : x.length ≤ 40000000) : ∃ t, spec_l01Hash.v x = some t ∧ t.size = 32 := by
  rw [spec_l01Hash.v_eq, Option.bind_some, if_pos (by simp; omega), Option.bind_some, if_pos (by simp; omega)]
  refine hash_l0 x _ rfl ((56 + 64 - (x.length + 1) % 64) % 64) _ ?_ (by omega) ?_
  · simp; omega
  · simp; omega
def names3 : List ByteArray := [⟨#[97]⟩, ⟨#[98]⟩, ⟨#[108, 111, 99, 107]⟩]
theorem src_request (code : List Int) (hc : ∀ y ∈ code, (Lit.int .u8 y).wf = true) (m a s : Int) (h : Src m a s) (hm : m ≤ 700000000000) :
    ∃ c st k ls nm a' s', spec_l00Src_request.v code a s = some (c, st, k, ls, nm, a', s') ∧ (0 ≤ c ∧ c ≤ 2) ∧ (1 ≤ st ∧ st ≤ 5) ∧ (1 ≤ k ∧ k ≤ 4) ∧ ((k = 1 ∨ k = 3) ∧ 1 ≤ ls ∧ ls ≤ 30 ∨ ¬ (k = 1 ∨ k = 3) ∧ ls = 0) ∧ nm ∈ names3 ∧ Src (m + 15) a' s' := by
  obtain ⟨c, a1, s1, e1, c0, c1, i1⟩ := src_next code hc m a s 3 h (by omega) (by omega)
  obtain ⟨st, a2, s2, e2, st0, st1, i2⟩ := src_next code hc _ a1 s1 5 i1 (by omega) (by omega)
  obtain ⟨k, a3, s3, e3, k0, k1, i3⟩ := src_next code hc _ a2 s2 4 i2 (by omega) (by omega)
  obtain ⟨nm, a4, s4, e4, hn, i4⟩ := src_pick code hc _ a3 s3 names3 i3 (by omega) (by decide)
  obtain ⟨ls, a5, s5, e5, l0, l1, i5⟩ := src_next code hc _ a4 s4 30 i4 (by omega) (by omega)
  have e4' : spec_l00Src_pick.v code a3 s3 (([(⟨#[97]⟩ : ByteArray), (⟨#[98]⟩ : ByteArray), (⟨#[108, 111, 99, 107]⟩ : ByteArray)] : List ByteArray)) = some (nm, a4, s4) := e4
  have w1 : wrap64 (1 + st) = 1 + st := wrap_id (by omega) (by omega)
  have w2 : wrap64 (1 + k) = 1 + k := wrap_id (by omega) (by omega)
  have w3 : wrap64 (1 + ls) = 1 + ls := wrap_id (by omega) (by omega)
  rw [spec_l00Src_request.v_eq]
  simp only [e1, e2, e3, e4', e5, Option.bind_some, w1, w2, w3]
  clear w1 w2 w3
  by_cases q1 : 1 + k = 1
  · rw [if_pos q1]
    exact ⟨_, _, _, _, _, _, _, rfl, by omega, by omega, by omega, .inl ⟨.inl q1, by omega, by omega⟩, hn, i5.mono (by omega)⟩
  · rw [if_neg q1]
    by_cases q3 : 1 + k = 3
    · rw [if_pos q3]
      exact ⟨_, _, _, _, _, _, _, rfl, by omega, by omega, by omega, .inl ⟨.inr q3, by omega, by omega⟩, hn, i5.mono (by omega)⟩
    · rw [if_neg q3]
      exact ⟨_, _, _, _, _, _, _, rfl, by omega, by omega, by omega, .inr ⟨by omega, rfl⟩, hn, i4.mono (by omega)⟩
theorem names3_ok : ∀ t ∈ names3, nameB t = true ∧ t.size ≤ 4 := by
  intro t h
  unfold names3 at h
  simp only [List.mem_cons, List.not_mem_nil, or_false] at h
  rcases h with rfl | rfl | rfl <;> exact ⟨by decide, by decide⟩
theorem req_drawn {c st k ls : Int} {nm : ByteArray} (h1 : 0 ≤ c ∧ c ≤ 2) (h2 : 1 ≤ st ∧ st ≤ 5) (h3 : 1 ≤ k ∧ k ≤ 4) (h4 : (k = 1 ∨ k = 3) ∧ 1 ≤ ls ∧ ls ≤ 30 ∨ ¬ (k = 1 ∨ k = 3) ∧ ls = 0) (h5 : nm ∈ names3) : reqB c st k ls nm = true := by
  obtain ⟨n1, n2⟩ := names3_ok nm h5
  unfold reqB inB
  rw [n1]
  simp only [Bool.and_eq_true, decide_eq_true_eq, beq_iff_eq]
  refine ⟨⟨⟨⟨⟨by omega, by omega⟩, by omega⟩, by omega⟩, by omega, trivial⟩, ?_⟩
  rcases h4 with ⟨q, r⟩ | ⟨q, r⟩
  · rw [decide_eq_true q, decide_eq_true (by omega)]
  · rw [decide_eq_false q, decide_eq_false (by omega)]
def sorted (i : Int) (rs : List S70) : Prop := rs.Pairwise (fun a b => a.f0 < b.f0) ∧ ∀ r ∈ rs, 0 ≤ r.f0 ∧ r.f0 < i ∧ 0 ≤ r.f1 ∧ r.f1 < 100 ∧ r.f2.size = 8
theorem drawn_l (code : List Int) (hc : ∀ y ∈ code, (Lit.int .u8 y).wf = true) (n : Bool) (c st k ls : Int) (nm : ByteArray) : ∀ (j i : Nat) (m a s : Int) (rs : List S70), 4 - i = j → i ≤ 4 → Src m a s → m + 6 * j ≤ 800000000000 → rs.length ≤ i → sorted i rs →
    ∃ rs' a' s', spec_l00Src_batch.lv0 i code a s n c st k ls nm rs = some (n, c, st, k, ls, nm, rs', a', s') ∧ rs'.length ≤ 4 ∧ sorted 4 rs'
  | 0, i, m, a, s, rs, hj, hi, h, hm, hr, hs => by
    rw [spec_l00Src_batch.lv0_eq, if_neg (by omega)]
    exact ⟨_, _, _, rfl, by omega, hs.1, fun r hr => by have := hs.2 r hr; omega⟩
  | j + 1, i, m, a, s, rs, hj, hi, h, hm, hr, hs => by
    obtain ⟨b, a1, s1, e1, i1⟩ := src_chance code hc m a s 4 h (by omega) (by omega)
    obtain ⟨v, a2, s2, e2, v0, v1, i2⟩ := src_next code hc _ a1 s1 100 i1 (by omega) (by omega)
    obtain ⟨t, e3, t32⟩ := hash_v [(i : Int) % 256] (by simp)
    have w : wrap64 ((i : Int) + 1) = ((i + 1 : Nat) : Int) := by rw [wrap_id (by omega) (by omega)]; omega
    have t8 : (t.extract 0 8).size = 8 := by rw [ByteArray.size_extract]; omega
    rw [spec_l00Src_batch.lv0_eq, w]
    clear w
    rw [if_pos (by omega), e1, Option.bind_some]
    cases b
    · have ih := drawn_l code hc n c st k ls nm j (i + 1) (m + 3 + 3) a2 s2 (rs ++ [⟨i, v, t.extract 0 8⟩]) (by omega) (by omega) i2 (by omega) (by simp; omega) (by
        refine ⟨List.pairwise_append.2 ⟨hs.1, List.pairwise_singleton _ _, fun x hx y hy => ?_⟩, fun r hr2 => ?_⟩
        · rw [List.mem_singleton.1 hy]
          have := hs.2 x hx
          show x.f0 < (i : Int)
          omega
        · rcases List.mem_append.1 hr2 with hr2 | hr2
          · have := hs.2 r hr2; omega
          · rw [List.mem_singleton.1 hr2]
            exact ⟨by show (0 : Int) ≤ (i : Int); omega, by show (i : Int) < _; omega, by show 0 ≤ v; omega, by show v < 100; omega, t8⟩)
      obtain ⟨rs', a', s', e, p1, p2⟩ := ih
      rw [if_neg (by simp)]
      simp only
      rw [e2, Option.bind_some, e3, Option.bind_some, if_pos (by omega), if_pos (by omega), if_pos (by omega)]
      exact ⟨rs', a', s', e, p1, p2⟩
    · obtain ⟨rs', a', s', e, p1, p2⟩ := drawn_l code hc n c st k ls nm j (i + 1) (m + 3) a1 s1 rs (by omega) (by omega) i1 (by omega) (by omega) ⟨hs.1, fun r hr2 => by have := hs.2 r hr2; omega⟩
      rw [if_pos rfl]
      exact ⟨rs', a', s', e, p1, p2⟩
theorem drawn_ok {c st k ls : Int} {nm : ByteArray} {rs : List S70} (hq : reqB c st k ls nm = true) (hl : rs.length ≤ 4) (hs : sorted 4 rs) : batOK false c st k ls nm rs := by
  have hf := reqB_facts hq
  refine isBatch_true (by omega) hq (by omega) (fun r hr => ?_) hs.1
  have := hs.2 r hr
  unfold readingB inB
  simp only [Bool.and_eq_true, decide_eq_true_eq]
  omega
theorem spec_BatchOf_v (code : List Int) (hc : ∀ y ∈ code, (Lit.int .u8 y).wf = true) : ∃ n c st k ls nm rs, spec_BatchOf.v code = some (n, c, st, k, ls, nm, rs) ∧ batOK n c st k ls nm rs ∧ nm.size ≤ 12 := by
  obtain ⟨s, e0, h⟩ := src_start code
  obtain ⟨b, a1, s1, e1, i1⟩ := src_chance code hc 0 0 s 6 h (by omega) (by omega)
  rw [spec_BatchOf.v_eq, e0, Option.bind_some]
  simp only
  rw [spec_l00Src_batch.v_eq, e1, Option.bind_some]
  cases b
  · obtain ⟨c, st, k, ls, nm, a2, s2, e2, q1, q2, q3, q4, hn, i2⟩ := src_request code hc _ a1 s1 i1 (by omega)
    obtain ⟨rs, a3, s3, e3, p1, p2⟩ := drawn_l code hc false c st k ls nm 4 0 _ a2 s2 [] rfl (by omega) i2 (by omega) (by simp) ⟨List.Pairwise.nil, fun r hr => by cases hr⟩
    rw [if_neg (by simp)]
    simp only
    have e3' : spec_l00Src_batch.lv0 0 code a2 s2 false c st k ls nm [] = some (false, c, st, k, ls, nm, rs, a3, s3) := e3
    rw [e2, Option.bind_some, e3', Option.bind_some]
    have hq := req_drawn q1 q2 q3 q4 hn
    exact ⟨_, _, _, _, _, _, _, rfl, drawn_ok hq p1 p2, (reqB_facts hq).2.2.2.2.2.2.2.2⟩
  · rw [if_pos rfl]
    exact ⟨_, _, _, _, _, _, _, rfl, null_ok, (show 0 ≤ 12 by omega)⟩
theorem same_l (n : Bool) (a b c d : Int) (e : ByteArray) (rs : List S70) (hl : rs.length ≤ 1000) : ∀ (j i : Nat), rs.length - i = j → i ≤ rs.length → laws_sameBatch.lv0 i n a b c d e rs n a b c d e rs = some true
  | 0, i, hj, hi => by rw [laws_sameBatch.lv0_eq, if_neg (by omega)]
  | j + 1, i, hj, hi => by
    have w : wrap64 ((i : Int) + 1) = ((i + 1 : Nat) : Int) := by rw [wrap_id (by omega) (by omega)]; omega
    rw [laws_sameBatch.lv0_eq, w]
    clear w
    rw [if_pos (by omega), if_pos (by omega), if_pos (by omega), if_neg (by simp)]
    exact same_l n a b c d e rs hl j (i + 1) (by omega) (by omega)
theorem sameBatch_v (n : Bool) (a b c d : Int) (e : ByteArray) (rs : List S70) (hl : rs.length ≤ 1000) : laws_sameBatch.v n a b c d e rs n a b c d e rs = some true := by
  rw [laws_sameBatch.v_eq, if_neg (by simp), if_neg (by simp), laws_sameBatch.jv0_eq, if_neg (by simp)]
  exact same_l n a b c d e rs hl rs.length 0 rfl (by omega)
theorem impl_ReadBatch_bat (n : Bool) (c st k ls : Int) (nm : ByteArray) (rs : List S70) (he : nm.size ≤ 1048576) (h : batOK n c st k ls nm rs) : impl_ReadBatch.v (batL n c st k ls nm rs) = some (n, c, st, k, ls, nm, rs, 0) := by
  obtain ⟨z1, z2, z3⟩ := bat_sizes he h
  have hle := batL_le n c st k ls nm rs z3
  rw [impl_ReadBatch.v_eq, if_neg (by omega), batch_read n c st k ls nm rs (by omega) h, Option.bind_some]
  rfl
theorem FnRequests_jv2 (y1 : List Int) (g1 : ∀ y ∈ y1, (Lit.int .u8 y).wf = true) (h : y1.length ≤ 1048576) : laws_FnRequests.jv2 y1 false = some true := by
  rw [laws_FnRequests.jv2_eq, if_neg (by simp), impl_ReadBatch.v_eq, spec_ReadBatch.v_eq]
  by_cases h1 : (y1.length : Int) > 65536
  · rw [if_pos h1, if_pos h1]; rfl
  · have hsz : (strOfNums y1).size = y1.length := strOf_size y1
    have hb : byteL y1 := fun y hy => wf8 (g1 y hy)
    obtain ⟨r, s, e1, e2, e3, e5⟩ := readBatch_both (strOfNums y1) (by omega)
    obtain ⟨r', e1', e6⟩ := readBatch_inv (strOfNums y1) (by omega)
    rw [e1] at e1'
    obtain rfl := Option.some.inj e1'
    rw [if_neg h1, if_neg h1, e1, e2, Option.bind_some, Option.bind_some]
    rcases e3 with ⟨rfl, e4⟩ | ⟨rfl, e4⟩
    · obtain ⟨k1, k2, k3⟩ := e6 e4
      rw [if_pos e4]
      rw [Option.bind_some, Option.bind_some]
      simp only
      rw [if_pos trivial, if_pos trivial, impl_BatchBytes_v _ _ _ _ _ _ _ k2 k1, Option.bind_some]
      simp only
      rw [if_pos trivial, ← k3, str_bytes]
      simp
    · rw [if_neg (show ¬ s.2.2.2.2.2.2.2 = true by rw [e4]; simp), if_neg (by simp [bNo])]
      rfl
theorem FnRequests_jv1 (y1 : List Int) (g1 : ∀ y ∈ y1, (Lit.int .u8 y).wf = true) (h : y1.length ≤ 1048576) : laws_FnRequests.jv1 y1 false = some true := by
  obtain ⟨n, c, st, k, ls, nm, rs, e, hok, hn⟩ := spec_BatchOf_v y1 g1
  obtain ⟨z1, z2, z3⟩ := bat_sizes (by omega) hok
  rw [laws_FnRequests.jv1_eq, if_neg (by simp), e, Option.bind_some]
  simp only [impl_BatchBytes_v n c st k ls nm rs (by omega) hok, spec_BatchBytes_v n c st k ls nm rs (by omega) hok, impl_ReadBatch_bat n c st k ls nm rs (by omega) hok, sameBatch_v n c st k ls nm rs (by omega), Option.bind_some, if_true, Bool.not_true]
  exact FnRequests_jv2 y1 g1 h
theorem FnRequests_pure (y0 : List Int) (y1 : List Int) : (y0.length ≤ 9223372036854775807 ∧ ∀ y ∈ y0, (Lit.int .u8 y).wf = true) → (y1.length ≤ 9223372036854775807 ∧ ∀ y ∈ y1, (Lit.int .u8 y).wf = true) → laws_FnRequests.v y0 y1 = some true := by
  intro g0 g1
  rw [laws_FnRequests.v_eq]
  by_cases h0 : (y0.length : Int) > 1048576
  · rw [if_pos h0, laws_FnRequests.jv0_eq, if_pos rfl]
  · rw [if_neg h0]
    by_cases h1 : (y1.length : Int) > 1048576
    · rw [laws_FnRequests.jv0_eq, if_pos (decide_eq_true h1)]
    · obtain ⟨s, e0, hs⟩ := src_start y0
      obtain ⟨c, st, k, ls, nm, a2, s2, e2, q1, q2, q3, q4, hn, i2⟩ := src_request y0 g0.2 0 0 s hs (by omega)
      have hq := req_drawn q1 q2 q3 q4 hn
      have hf := reqB_facts hq
      have e : spec_RequestOf.v y0 = some (c, st, k, ls, nm) := by rw [spec_RequestOf.v_eq, e0, Option.bind_some]; simp only; rw [e2, Option.bind_some]
      have b1 : impl_RequestBytes.v c st k ls nm = some (reqL c st k ls nm, 0) := by
        rw [impl_RequestBytes.v_eq, impl_RequestOK_v _ _ _ _ _ (by omega), Option.bind_some, if_pos hq, impl_requestText_v _ _ _ _ _ (by omega), Option.bind_some, if_pos (by rw [strOf_size, reqL_len]; omega), bytes_str _ (byteL_req _ _ _ _ _)]
      have b2 : spec_RequestBytes.v c st k ls nm = some (reqL c st k ls nm, 0) := by
        rw [spec_RequestBytes.v_eq, spec_RequestOK_v _ _ _ _ _ (by omega), Option.bind_some, if_pos hq, spec_l02Request_v _ _ _ _ _ (by omega), Option.bind_some]
      rw [laws_FnRequests.jv0_eq, if_neg (by simpa using h1), e, Option.bind_some]
      simp only [b1, b2, req_read c st k ls nm hq, impl_RequestOK_v _ _ _ _ _ (show nm.size ≤ 9223372036854775807 by omega), hq, Option.bind_some, if_true]
      rw [if_neg (by simp)]
      exact FnRequests_jv1 y1 g1.2 (by omega)
end Go.Proofs.Ytdpdbegglkdgnaa.A
end
