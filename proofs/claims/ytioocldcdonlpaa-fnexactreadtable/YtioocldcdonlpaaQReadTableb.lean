/- A part of the proof that FnExactReadTable returns true at every input: plain functions, contracts and lemmas. No conditions. -/
import Derived.Test.YtioocldcdonlpaaQReadTablea
set_option linter.unusedVariables false
set_option linter.unusedSimpArgs false
set_option linter.unusedSectionVars false
section
namespace Go.Proofs.Ytioocldcdonlpaa.B
open Go.RowKit Go.Proofs.YtioocldcdonlpaaW.PrintWords Go.Proofs.YtioocldcdonlpaaW.PrintLast Go.Proofs.YtioocldcdonlpaaW.PrintMore
attribute [local go_sem] max2_int min2_int max_two min_two max_three min_three max_four min_four
def spec_l05Reader_text.f (s0_0 : ByteArray) (s0_1 : Bool) (a1 : Int) : Option (ByteArray × ByteArray × Bool) := if s0_1 = true then (some ((⟨#[]⟩ : ByteArray), s0_0, true)) else (if a1 > (s0_0.size : Int) then (some ((⟨#[]⟩ : ByteArray), s0_0, true)) else (if 0 ≤ a1 then (if a1 ≤ (s0_0.size : Int) then (some (s0_0.extract 0 (a1 : Int).toNat, s0_0.extract (a1 : Int).toNat s0_0.size, s0_1)) else (none)) else (none)))
def spec_l05Reader_text.v (s0_0 : ByteArray) (s0_1 : Bool) (a1 : Int) : Option (ByteArray × ByteArray × Bool) := spec_l05Reader_text.f s0_0 s0_1 a1
theorem spec_l05Reader_text.v_lim (s0_0 : ByteArray) (s0_1 : Bool) (a1 : Int) : LimIs (fun _ => spec_l05Reader_text.f s0_0 s0_1 a1) (spec_l05Reader_text.v s0_0 s0_1 a1) := LimIs.const _
theorem spec_l05Reader_text.v_eq (s0_0 : ByteArray) (s0_1 : Bool) (a1 : Int) : spec_l05Reader_text.v s0_0 s0_1 a1 = (if s0_1 = true then (some ((⟨#[]⟩ : ByteArray), s0_0, true)) else (if a1 > (s0_0.size : Int) then (some ((⟨#[]⟩ : ByteArray), s0_0, true)) else (if 0 ≤ a1 then (if a1 ≤ (s0_0.size : Int) then (some (s0_0.extract 0 (a1 : Int).toNat, s0_0.extract (a1 : Int).toNat s0_0.size, s0_1)) else (none)) else (none))) : Option (ByteArray × ByteArray × Bool)) := rfl
def spec_l02Of.l0 : Nat → ByteArray → Int → Int → Option (Int)
  | 0, _, _, _ => none
  | k + 1, x0, x3, x4 => if x4 < (x0.size : Int) then (if 0 ≤ x4 then (spec_l02Of.l0 k x0 (wrap64 ((wrap64 (x3 * 256)) + (wrap64 (bt x0 x4)))) (wrap64 (x4 + 1))) else (none)) else (some x3)
def spec_l02Of.f (k : Nat) (a0 : ByteArray) : Option (Int) := spec_l02Of.l0 k a0 0 0
theorem spec_l02Of.mono_l : ∀ k, (∀ y0 y1 y2, LeO (spec_l02Of.l0 k y0 y1 y2) (spec_l02Of.l0 (k + 1) y0 y1 y2))
  | 0 => fun _ _ _ r h => by simp [spec_l02Of.l0] at h
  | k + 1 => by
    have ih0 := spec_l02Of.mono_l k
    · intro y0 y1 y2
      unfold spec_l02Of.l0
      repeat' first
      | (with_reducible exact ih0 _ _ _)
      | (with_reducible exact LeO.refl _)
      | (with_reducible exact LeO.none _)
      | (with_reducible refine LeO.ite ?_ ?_)
      | (with_reducible refine LeO.bind ?_ (fun _ => ?_))
      | exact ih0 _ _ _
      | exact LeO.none _
      | refine LeO.ite ?_ ?_
      | refine LeO.bind ?_ (fun _ => ?_)
theorem spec_l02Of.mono : ∀ a0 k, LeO (spec_l02Of.f k a0) (spec_l02Of.f (k + 1) a0) := by
  intro a0 k
  have ih0 := spec_l02Of.mono_l k
  unfold spec_l02Of.f
  repeat' first
      | (with_reducible exact ih0 _ _ _)
      | (with_reducible exact LeO.refl _)
      | (with_reducible exact LeO.none _)
      | (with_reducible refine LeO.ite ?_ ?_)
      | (with_reducible refine LeO.bind ?_ (fun _ => ?_))
      | exact ih0 _ _ _
      | exact LeO.none _
      | refine LeO.ite ?_ ?_
      | refine LeO.bind ?_ (fun _ => ?_)
noncomputable def spec_l02Of.lv0 (x0 : ByteArray) (x3 : Int) (x4 : Int) : Option (Int) := lim (fun k_ => spec_l02Of.l0 k_ x0 x3 x4)
noncomputable def spec_l02Of.v (a0 : ByteArray) : Option (Int) := lim (fun k_ => spec_l02Of.f k_ a0)
theorem spec_l02Of.lv0_lim (x0 : ByteArray) (x3 : Int) (x4 : Int) : LimIs (fun k_ => spec_l02Of.l0 k_ x0 x3 x4) (spec_l02Of.lv0 x0 x3 x4) := lim_is (fun k_ => (spec_l02Of.mono_l k_) x0 x3 x4)
theorem spec_l02Of.v_lim (a0 : ByteArray) : LimIs (fun k_ => spec_l02Of.f k_ a0) (spec_l02Of.v a0) := lim_is (fun k_ => spec_l02Of.mono a0 k_)
theorem spec_l02Of.lv0_eq (x0 : ByteArray) (x3 : Int) (x4 : Int) : spec_l02Of.lv0 x0 x3 x4 = (if x4 < (x0.size : Int) then (if 0 ≤ x4 then (spec_l02Of.lv0 x0 (wrap64 ((wrap64 (x3 * 256)) + (wrap64 (bt x0 x4)))) (wrap64 (x4 + 1))) else (none)) else (some x3) : Option (Int)) := by
  refine LimIs.eq (spec_l02Of.lv0_lim x0 x3 x4) ?_
  refine LimIs.step (fun k_ => (spec_l02Of.mono_l k_) x0 x3 x4) ?_
  simp only [spec_l02Of.l0]
  repeat' (with_reducible first | exact spec_l02Of.lv0_lim _ _ _ | exact LimIs.const _ | refine LimIs.ite ?_ ?_ | refine LimIs.bind ?_ (fun _ => ?_))
theorem spec_l02Of.v_eq (a0 : ByteArray) : spec_l02Of.v a0 = (spec_l02Of.lv0 a0 0 0 : Option (Int)) := by
  refine LimIs.eq (spec_l02Of.v_lim a0) ?_
  simp only [spec_l02Of.f]
  repeat' (with_reducible first | exact spec_l02Of.lv0_lim _ _ _ | exact LimIs.const _ | refine LimIs.ite ?_ ?_ | refine LimIs.bind ?_ (fun _ => ?_))
def spec_l05Reader_number.f (k : Nat) (s0_0 : ByteArray) (s0_1 : Bool) (a1 : Int) : Option (Int × ByteArray × Bool) := (spec_l05Reader_text.f s0_0 s0_1 a1).bind fun bt101 => ((spec_l02Of.f k bt101.1).bind fun t104 => (some (t104, bt101.2.1, bt101.2.2)))
theorem spec_l05Reader_number.mono : ∀ a0 a1 a2 k, LeO (spec_l05Reader_number.f k a0 a1 a2) (spec_l05Reader_number.f (k + 1) a0 a1 a2) := by
  intro a0 a1 a2 k
  unfold spec_l05Reader_number.f
  repeat' first
      | (with_reducible exact spec_l02Of.mono _ _)
      | (with_reducible exact LeO.refl _)
      | (with_reducible exact LeO.none _)
      | (with_reducible refine LeO.ite ?_ ?_)
      | (with_reducible refine LeO.bind ?_ (fun _ => ?_))
      | exact spec_l02Of.mono _ _
      | exact LeO.none _
      | refine LeO.ite ?_ ?_
      | refine LeO.bind ?_ (fun _ => ?_)
noncomputable def spec_l05Reader_number.v (s0_0 : ByteArray) (s0_1 : Bool) (a1 : Int) : Option (Int × ByteArray × Bool) := lim (fun k_ => spec_l05Reader_number.f k_ s0_0 s0_1 a1)
theorem spec_l05Reader_number.v_lim (s0_0 : ByteArray) (s0_1 : Bool) (a1 : Int) : LimIs (fun k_ => spec_l05Reader_number.f k_ s0_0 s0_1 a1) (spec_l05Reader_number.v s0_0 s0_1 a1) := lim_is (fun k_ => spec_l05Reader_number.mono s0_0 s0_1 a1 k_)
theorem spec_l05Reader_number.v_eq (s0_0 : ByteArray) (s0_1 : Bool) (a1 : Int) : spec_l05Reader_number.v s0_0 s0_1 a1 = ((spec_l05Reader_text.v s0_0 s0_1 a1).bind fun bt101 => ((spec_l02Of.v bt101.1).bind fun t104 => (some (t104, bt101.2.1, bt101.2.2))) : Option (Int × ByteArray × Bool)) := by
  refine LimIs.eq (spec_l05Reader_number.v_lim s0_0 s0_1 a1) ?_
  simp only [spec_l05Reader_number.f]
  repeat' (with_reducible first | exact spec_l02Of.v_lim _ | exact spec_l05Reader_text.v_lim _ _ _ | exact LimIs.const _ | refine LimIs.ite ?_ ?_ | refine LimIs.bind ?_ (fun _ => ?_))
def spec_l01In.f (a0 : Int) (a1 : Int) (a2 : Int) : Option (Bool) := if a0 ≥ a1 then (some (decide (a0 ≤ a2))) else (some false)
def spec_l01In.v (a0 : Int) (a1 : Int) (a2 : Int) : Option (Bool) := spec_l01In.f a0 a1 a2
theorem spec_l01In.v_lim (a0 : Int) (a1 : Int) (a2 : Int) : LimIs (fun _ => spec_l01In.f a0 a1 a2) (spec_l01In.v a0 a1 a2) := LimIs.const _
theorem spec_l01In.v_eq (a0 : Int) (a1 : Int) (a2 : Int) : spec_l01In.v a0 a1 a2 = (if a0 ≥ a1 then (some (decide (a0 ≤ a2))) else (some false) : Option (Bool)) := rfl
def spec_l00Letter.f (a0 : Int) : Option (Bool) := if a0 ≥ 97 then (if a0 ≤ 122 then (some true) else (if a0 ≥ 65 then (if a0 ≤ 90 then (some true) else (some (a0 == 95))) else (some (a0 == 95)))) else (if a0 ≥ 65 then (if a0 ≤ 90 then (some true) else (some (a0 == 95))) else (some (a0 == 95)))
def spec_l00Letter.v (a0 : Int) : Option (Bool) := spec_l00Letter.f a0
theorem spec_l00Letter.v_lim (a0 : Int) : LimIs (fun _ => spec_l00Letter.f a0) (spec_l00Letter.v a0) := LimIs.const _
theorem spec_l00Letter.v_eq (a0 : Int) : spec_l00Letter.v a0 = (if a0 ≥ 97 then (if a0 ≤ 122 then (some true) else (if a0 ≥ 65 then (if a0 ≤ 90 then (some true) else (some (a0 == 95))) else (some (a0 == 95)))) else (if a0 ≥ 65 then (if a0 ≤ 90 then (some true) else (some (a0 == 95))) else (some (a0 == 95))) : Option (Bool)) := rfl
def spec_l00Digit.f (a0 : Int) : Option (Bool) := if a0 ≥ 48 then (some (decide (a0 ≤ 57))) else (some false)
def spec_l00Digit.v (a0 : Int) : Option (Bool) := spec_l00Digit.f a0
theorem spec_l00Digit.v_lim (a0 : Int) : LimIs (fun _ => spec_l00Digit.f a0) (spec_l00Digit.v a0) := LimIs.const _
theorem spec_l00Digit.v_eq (a0 : Int) : spec_l00Digit.v a0 = (if a0 ≥ 48 then (some (decide (a0 ≤ 57))) else (some false) : Option (Bool)) := rfl
mutual
def spec_l00Word.j0 : Nat → ByteArray → Bool → Option (Bool)
  | 0, _, _ => none
  | k + 1, x0, x17 => if x17 = true then (some false) else (spec_l00Word.l0 k x0 1)
def spec_l00Word.l0 : Nat → ByteArray → Int → Option (Bool)
  | 0, _, _ => none
  | k + 1, x0, x3 => if x3 < (x0.size : Int) then (if 0 ≤ x3 then ((spec_l00Letter.f (bt x0 x3)).bind fun t106 => (if t106 = true then (spec_l00Word.l0 k x0 (wrap64 (x3 + 1))) else ((spec_l00Digit.f (bt x0 x3)).bind fun t107 => (if t107 = true then (spec_l00Word.l0 k x0 (wrap64 (x3 + 1))) else (some false))))) else (none)) else (some true)
end
def spec_l00Word.f (k : Nat) (a0 : ByteArray) : Option (Bool) := if (a0.size : Int) < 1 then (spec_l00Word.j0 k a0 true) else (if (a0.size : Int) > 40 then (spec_l00Word.j0 k a0 true) else (if 0 < (a0.size : Int) then ((spec_l00Letter.f (bt a0 0)).bind fun t105 => (spec_l00Word.j0 k a0 (!t105))) else (none)))
theorem spec_l00Word.mono_l : ∀ k, (∀ y0 y1, LeO (spec_l00Word.j0 k y0 y1) (spec_l00Word.j0 (k + 1) y0 y1)) ∧ (∀ y0 y1, LeO (spec_l00Word.l0 k y0 y1) (spec_l00Word.l0 (k + 1) y0 y1))
  | 0 => ⟨fun _ _ r h => by simp [spec_l00Word.j0] at h, fun _ _ r h => by simp [spec_l00Word.l0] at h⟩
  | k + 1 => by
    obtain ⟨ih0, ih1⟩ := spec_l00Word.mono_l k
    refine ⟨?_, ?_⟩
    · intro y0 y1
      unfold spec_l00Word.j0
      repeat' first
      | (with_reducible exact ih0 _ _)
      | (with_reducible exact ih1 _ _)
      | (with_reducible exact LeO.refl _)
      | (with_reducible exact LeO.none _)
      | (with_reducible refine LeO.ite ?_ ?_)
      | (with_reducible refine LeO.bind ?_ (fun _ => ?_))
      | exact ih0 _ _
      | exact ih1 _ _
      | exact LeO.none _
      | refine LeO.ite ?_ ?_
      | refine LeO.bind ?_ (fun _ => ?_)
    · intro y0 y1
      unfold spec_l00Word.l0
      repeat' first
      | (with_reducible exact ih0 _ _)
      | (with_reducible exact ih1 _ _)
      | (with_reducible exact LeO.refl _)
      | (with_reducible exact LeO.none _)
      | (with_reducible refine LeO.ite ?_ ?_)
      | (with_reducible refine LeO.bind ?_ (fun _ => ?_))
      | exact ih0 _ _
      | exact ih1 _ _
      | exact LeO.none _
      | refine LeO.ite ?_ ?_
      | refine LeO.bind ?_ (fun _ => ?_)
theorem spec_l00Word.mono : ∀ a0 k, LeO (spec_l00Word.f k a0) (spec_l00Word.f (k + 1) a0) := by
  intro a0 k
  obtain ⟨ih0, ih1⟩ := spec_l00Word.mono_l k
  unfold spec_l00Word.f
  repeat' first
      | (with_reducible exact ih0 _ _)
      | (with_reducible exact ih1 _ _)
      | (with_reducible exact LeO.refl _)
      | (with_reducible exact LeO.none _)
      | (with_reducible refine LeO.ite ?_ ?_)
      | (with_reducible refine LeO.bind ?_ (fun _ => ?_))
      | exact ih0 _ _
      | exact ih1 _ _
      | exact LeO.none _
      | refine LeO.ite ?_ ?_
      | refine LeO.bind ?_ (fun _ => ?_)
noncomputable def spec_l00Word.jv0 (x0 : ByteArray) (x17 : Bool) : Option (Bool) := lim (fun k_ => spec_l00Word.j0 k_ x0 x17)
noncomputable def spec_l00Word.lv0 (x0 : ByteArray) (x3 : Int) : Option (Bool) := lim (fun k_ => spec_l00Word.l0 k_ x0 x3)
noncomputable def spec_l00Word.v (a0 : ByteArray) : Option (Bool) := lim (fun k_ => spec_l00Word.f k_ a0)
theorem spec_l00Word.jv0_lim (x0 : ByteArray) (x17 : Bool) : LimIs (fun k_ => spec_l00Word.j0 k_ x0 x17) (spec_l00Word.jv0 x0 x17) := lim_is (fun k_ => (spec_l00Word.mono_l k_).1 x0 x17)
theorem spec_l00Word.lv0_lim (x0 : ByteArray) (x3 : Int) : LimIs (fun k_ => spec_l00Word.l0 k_ x0 x3) (spec_l00Word.lv0 x0 x3) := lim_is (fun k_ => (spec_l00Word.mono_l k_).2 x0 x3)
theorem spec_l00Word.v_lim (a0 : ByteArray) : LimIs (fun k_ => spec_l00Word.f k_ a0) (spec_l00Word.v a0) := lim_is (fun k_ => spec_l00Word.mono a0 k_)
theorem spec_l00Word.jv0_eq (x0 : ByteArray) (x17 : Bool) : spec_l00Word.jv0 x0 x17 = (if x17 = true then (some false) else (spec_l00Word.lv0 x0 1) : Option (Bool)) := by
  refine LimIs.eq (spec_l00Word.jv0_lim x0 x17) ?_
  refine LimIs.step (fun k_ => (spec_l00Word.mono_l k_).1 x0 x17) ?_
  simp only [spec_l00Word.j0]
  repeat' (with_reducible first | exact spec_l00Word.lv0_lim _ _ | exact LimIs.const _ | refine LimIs.ite ?_ ?_ | refine LimIs.bind ?_ (fun _ => ?_))
theorem spec_l00Word.lv0_eq (x0 : ByteArray) (x3 : Int) : spec_l00Word.lv0 x0 x3 = (if x3 < (x0.size : Int) then (if 0 ≤ x3 then ((spec_l00Letter.v (bt x0 x3)).bind fun t106 => (if t106 = true then (spec_l00Word.lv0 x0 (wrap64 (x3 + 1))) else ((spec_l00Digit.v (bt x0 x3)).bind fun t107 => (if t107 = true then (spec_l00Word.lv0 x0 (wrap64 (x3 + 1))) else (some false))))) else (none)) else (some true) : Option (Bool)) := by
  refine LimIs.eq (spec_l00Word.lv0_lim x0 x3) ?_
  refine LimIs.step (fun k_ => (spec_l00Word.mono_l k_).2 x0 x3) ?_
  simp only [spec_l00Word.l0]
  repeat' (with_reducible first | exact spec_l00Digit.v_lim _ | exact spec_l00Letter.v_lim _ | exact spec_l00Word.lv0_lim _ _ | exact LimIs.const _ | refine LimIs.ite ?_ ?_ | refine LimIs.bind ?_ (fun _ => ?_))
theorem spec_l00Word.v_eq (a0 : ByteArray) : spec_l00Word.v a0 = (if (a0.size : Int) < 1 then (spec_l00Word.jv0 a0 true) else (if (a0.size : Int) > 40 then (spec_l00Word.jv0 a0 true) else (if 0 < (a0.size : Int) then ((spec_l00Letter.v (bt a0 0)).bind fun t105 => (spec_l00Word.jv0 a0 (!t105))) else (none))) : Option (Bool)) := by
  refine LimIs.eq (spec_l00Word.v_lim a0) ?_
  simp only [spec_l00Word.f]
  repeat' (with_reducible first | exact spec_l00Letter.v_lim _ | exact spec_l00Word.jv0_lim _ _ | exact LimIs.const _ | refine LimIs.ite ?_ ?_ | refine LimIs.bind ?_ (fun _ => ?_))
def spec_NameOK.f (k : Nat) (a0 : ByteArray) : Option (Bool) := (spec_l00Word.f k a0).bind fun t108 => (some t108)
theorem spec_NameOK.mono : ∀ a0 k, LeO (spec_NameOK.f k a0) (spec_NameOK.f (k + 1) a0) := by
  intro a0 k
  unfold spec_NameOK.f
  repeat' first
      | (with_reducible exact spec_l00Word.mono _ _)
      | (with_reducible exact LeO.refl _)
      | (with_reducible exact LeO.none _)
      | (with_reducible refine LeO.ite ?_ ?_)
      | (with_reducible refine LeO.bind ?_ (fun _ => ?_))
      | exact spec_l00Word.mono _ _
      | exact LeO.none _
      | refine LeO.ite ?_ ?_
      | refine LeO.bind ?_ (fun _ => ?_)
noncomputable def spec_NameOK.v (a0 : ByteArray) : Option (Bool) := lim (fun k_ => spec_NameOK.f k_ a0)
theorem spec_NameOK.v_lim (a0 : ByteArray) : LimIs (fun k_ => spec_NameOK.f k_ a0) (spec_NameOK.v a0) := lim_is (fun k_ => spec_NameOK.mono a0 k_)
theorem spec_NameOK.v_eq (a0 : ByteArray) : spec_NameOK.v a0 = ((spec_l00Word.v a0).bind fun t108 => (some t108) : Option (Bool)) := by
  refine LimIs.eq (spec_NameOK.v_lim a0) ?_
  simp only [spec_NameOK.f]
  repeat' (with_reducible first | exact spec_l00Word.v_lim _ | exact LimIs.const _ | refine LimIs.ite ?_ ?_ | refine LimIs.bind ?_ (fun _ => ?_))
def spec_l02Text.f (k : Nat) (a0 : ByteArray) (a1 : Int) : Option (Bool) := (spec_l01In.f (a0.size : Int) 1 a1).bind fun t109 => (if t109 = true then ((spec_NameOK.f k a0).bind fun t110 => (some t110)) else (some false))
theorem spec_l02Text.mono : ∀ a0 a1 k, LeO (spec_l02Text.f k a0 a1) (spec_l02Text.f (k + 1) a0 a1) := by
  intro a0 a1 k
  unfold spec_l02Text.f
  repeat' first
      | (with_reducible exact spec_NameOK.mono _ _)
      | (with_reducible exact LeO.refl _)
      | (with_reducible exact LeO.none _)
      | (with_reducible refine LeO.ite ?_ ?_)
      | (with_reducible refine LeO.bind ?_ (fun _ => ?_))
      | exact spec_NameOK.mono _ _
      | exact LeO.none _
      | refine LeO.ite ?_ ?_
      | refine LeO.bind ?_ (fun _ => ?_)
noncomputable def spec_l02Text.v (a0 : ByteArray) (a1 : Int) : Option (Bool) := lim (fun k_ => spec_l02Text.f k_ a0 a1)
theorem spec_l02Text.v_lim (a0 : ByteArray) (a1 : Int) : LimIs (fun k_ => spec_l02Text.f k_ a0 a1) (spec_l02Text.v a0 a1) := lim_is (fun k_ => spec_l02Text.mono a0 a1 k_)
theorem spec_l02Text.v_eq (a0 : ByteArray) (a1 : Int) : spec_l02Text.v a0 a1 = ((spec_l01In.v (a0.size : Int) 1 a1).bind fun t109 => (if t109 = true then ((spec_NameOK.v a0).bind fun t110 => (some t110)) else (some false)) : Option (Bool)) := by
  refine LimIs.eq (spec_l02Text.v_lim a0 a1) ?_
  simp only [spec_l02Text.f]
  repeat' (with_reducible first | exact spec_NameOK.v_lim _ | exact spec_l01In.v_lim _ _ _ | exact LimIs.const _ | refine LimIs.ite ?_ ?_ | refine LimIs.bind ?_ (fun _ => ?_))
def spec_l05Answer.f (a0_0 : Int) (a0_1 : Int) (a0_2 : Int) (a0_3 : Int) : Option (Bool) := (spec_l01In.f a0_0 1 8).bind fun t112 => (if t112 = true then ((spec_l01In.f a0_1 0 1000000).bind fun t113 => (if t113 = true then ((spec_l01In.f a0_2 (-1) 255).bind fun t114 => (if t114 = true then ((spec_l01In.f a0_3 0 2000000000).bind fun t115 => (some t115)) else (some false))) else (some false))) else (some false))
def spec_l05Answer.v (a0_0 : Int) (a0_1 : Int) (a0_2 : Int) (a0_3 : Int) : Option (Bool) := spec_l05Answer.f a0_0 a0_1 a0_2 a0_3
theorem spec_l05Answer.v_lim (a0_0 : Int) (a0_1 : Int) (a0_2 : Int) (a0_3 : Int) : LimIs (fun _ => spec_l05Answer.f a0_0 a0_1 a0_2 a0_3) (spec_l05Answer.v a0_0 a0_1 a0_2 a0_3) := LimIs.const _
theorem spec_l05Answer.v_eq (a0_0 : Int) (a0_1 : Int) (a0_2 : Int) (a0_3 : Int) : spec_l05Answer.v a0_0 a0_1 a0_2 a0_3 = ((spec_l01In.v a0_0 1 8).bind fun t112 => (if t112 = true then ((spec_l01In.v a0_1 0 1000000).bind fun t113 => (if t113 = true then ((spec_l01In.v a0_2 (-1) 255).bind fun t114 => (if t114 = true then ((spec_l01In.v a0_3 0 2000000000).bind fun t115 => (some t115)) else (some false))) else (some false))) else (some false)) : Option (Bool)) := rfl
mutual
def spec_TableOK.j0 : Nat → Bool → Int → Int → List (S78) → List (S84) → Option (Bool)
  | 0, _, _, _, _, _ => none
  | k + 1, x31, x117000, x117001, x117002, x117003 => if x31 = true then (some false) else (spec_TableOK.l0 k 0 x117000 x117001 x117002 x117003)
def spec_TableOK.l0 : Nat → Int → Int → Int → List (S78) → List (S84) → Option (Bool)
  | 0, _, _, _, _, _ => none
  | k + 1, x3, x117000, x117001, x117002, x117003 => if x3 < (x117002.length : Int) then (if 0 ≤ x3 then ((spec_l02Text.f k ((rd_T78 x117002 x3).f0) 12).bind fun t121 => (if t121 = true then (if x3 > 0 then (if 0 ≤ (wrap64 (x3 - 1)) then (if (wrap64 (x3 - 1)) < (x117002.length : Int) then (if ((Op.bytesLess (((rd_T78 x117002 (wrap64 (x3 - 1))).f0).toList) (((rd_T78 x117002 x3).f0).toList)) = true) then ((spec_l01In.f ((rd_T78 x117002 x3).f1) 0 (wrap64 (x117001 - 1))).bind fun t123 => (if t123 = true then ((spec_l01In.f ((rd_T78 x117002 x3).f2) (-1) 255).bind fun t124 => (if t124 = true then ((spec_l01In.f ((rd_T78 x117002 x3).f3) 0 2000000000).bind fun t125 => (if t125 = true then (spec_TableOK.j2 k x3 (decide ((((rd_T78 x117002 x3).f4).length : Int) > 4)) x117000 x117001 x117002 x117003 ((rd_T78 x117002 x3).f0) ((rd_T78 x117002 x3).f1) ((rd_T78 x117002 x3).f2) ((rd_T78 x117002 x3).f3) ((rd_T78 x117002 x3).f4)) else (spec_TableOK.j2 k x3 true x117000 x117001 x117002 x117003 ((rd_T78 x117002 x3).f0) ((rd_T78 x117002 x3).f1) ((rd_T78 x117002 x3).f2) ((rd_T78 x117002 x3).f3) ((rd_T78 x117002 x3).f4)))) else (spec_TableOK.j2 k x3 true x117000 x117001 x117002 x117003 ((rd_T78 x117002 x3).f0) ((rd_T78 x117002 x3).f1) ((rd_T78 x117002 x3).f2) ((rd_T78 x117002 x3).f3) ((rd_T78 x117002 x3).f4)))) else (spec_TableOK.j2 k x3 true x117000 x117001 x117002 x117003 ((rd_T78 x117002 x3).f0) ((rd_T78 x117002 x3).f1) ((rd_T78 x117002 x3).f2) ((rd_T78 x117002 x3).f3) ((rd_T78 x117002 x3).f4)))) else (spec_TableOK.j2 k x3 true x117000 x117001 x117002 x117003 ((rd_T78 x117002 x3).f0) ((rd_T78 x117002 x3).f1) ((rd_T78 x117002 x3).f2) ((rd_T78 x117002 x3).f3) ((rd_T78 x117002 x3).f4))) else (none)) else (none)) else ((spec_l01In.f ((rd_T78 x117002 x3).f1) 0 (wrap64 (x117001 - 1))).bind fun t126 => (if t126 = true then ((spec_l01In.f ((rd_T78 x117002 x3).f2) (-1) 255).bind fun t127 => (if t127 = true then ((spec_l01In.f ((rd_T78 x117002 x3).f3) 0 2000000000).bind fun t128 => (if t128 = true then (spec_TableOK.j2 k x3 (decide ((((rd_T78 x117002 x3).f4).length : Int) > 4)) x117000 x117001 x117002 x117003 ((rd_T78 x117002 x3).f0) ((rd_T78 x117002 x3).f1) ((rd_T78 x117002 x3).f2) ((rd_T78 x117002 x3).f3) ((rd_T78 x117002 x3).f4)) else (spec_TableOK.j2 k x3 true x117000 x117001 x117002 x117003 ((rd_T78 x117002 x3).f0) ((rd_T78 x117002 x3).f1) ((rd_T78 x117002 x3).f2) ((rd_T78 x117002 x3).f3) ((rd_T78 x117002 x3).f4)))) else (spec_TableOK.j2 k x3 true x117000 x117001 x117002 x117003 ((rd_T78 x117002 x3).f0) ((rd_T78 x117002 x3).f1) ((rd_T78 x117002 x3).f2) ((rd_T78 x117002 x3).f3) ((rd_T78 x117002 x3).f4)))) else (spec_TableOK.j2 k x3 true x117000 x117001 x117002 x117003 ((rd_T78 x117002 x3).f0) ((rd_T78 x117002 x3).f1) ((rd_T78 x117002 x3).f2) ((rd_T78 x117002 x3).f3) ((rd_T78 x117002 x3).f4))))) else (spec_TableOK.j2 k x3 true x117000 x117001 x117002 x117003 ((rd_T78 x117002 x3).f0) ((rd_T78 x117002 x3).f1) ((rd_T78 x117002 x3).f2) ((rd_T78 x117002 x3).f3) ((rd_T78 x117002 x3).f4)))) else (none)) else (spec_TableOK.l3 k 0 x117000 x117001 x117002 x117003)
def spec_TableOK.j2 : Nat → Int → Bool → Int → Int → List (S78) → List (S84) → ByteArray → Int → Int → Int → List (S80) → Option (Bool)
  | 0, _, _, _, _, _, _, _, _, _, _, _ => none
  | k + 1, x3, x90, x117000, x117001, x117002, x117003, x121000, x121001, x121002, x121003, x121004 => if x90 = true then (some false) else (if x121002 < 0 then (if x121003 = 0 then (spec_TableOK.j3 k x3 ((x121004.length : Int) != 0) x117000 x117001 x117002 x117003 x121000 x121001 x121002 x121003 x121004) else (spec_TableOK.j3 k x3 true x117000 x117001 x117002 x117003 x121000 x121001 x121002 x121003 x121004)) else (spec_TableOK.j3 k x3 false x117000 x117001 x117002 x117003 x121000 x121001 x121002 x121003 x121004))
def spec_TableOK.j3 : Nat → Int → Bool → Int → Int → List (S78) → List (S84) → ByteArray → Int → Int → Int → List (S80) → Option (Bool)
  | 0, _, _, _, _, _, _, _, _, _, _, _ => none
  | k + 1, x3, x104, x117000, x117001, x117002, x117003, x121000, x121001, x121002, x121003, x121004 => if x104 = true then (some false) else (spec_TableOK.l1 k x3 0 x117000 x117001 x117002 x117003 x121000 x121001 x121002 x121003 x121004)
def spec_TableOK.l1 : Nat → Int → Int → Int → Int → List (S78) → List (S84) → ByteArray → Int → Int → Int → List (S80) → Option (Bool)
  | 0, _, _, _, _, _, _, _, _, _, _, _ => none
  | k + 1, x3, x5, x117000, x117001, x117002, x117003, x121000, x121001, x121002, x121003, x121004 => if x5 < (x121004.length : Int) then (if 0 ≤ x5 then ((spec_l01In.f ((rd_T80 x121004 x5).f0) 0 255).bind fun t131 => (if t131 = true then ((spec_l01In.f ((rd_T80 x121004 x5).f1) 1 1000).bind fun t132 => (if t132 = true then (spec_TableOK.j5 k x3 x5 (((rd_T80 x121004 x5).f0) == x121002) x117000 x117001 x117002 x117003 x121000 x121001 x121002 x121003 x121004 ((rd_T80 x121004 x5).f0) ((rd_T80 x121004 x5).f1)) else (spec_TableOK.j5 k x3 x5 true x117000 x117001 x117002 x117003 x121000 x121001 x121002 x121003 x121004 ((rd_T80 x121004 x5).f0) ((rd_T80 x121004 x5).f1)))) else (spec_TableOK.j5 k x3 x5 true x117000 x117001 x117002 x117003 x121000 x121001 x121002 x121003 x121004 ((rd_T80 x121004 x5).f0) ((rd_T80 x121004 x5).f1)))) else (none)) else (spec_TableOK.l0 k (wrap64 (x3 + 1)) x117000 x117001 x117002 x117003)
def spec_TableOK.j5 : Nat → Int → Int → Bool → Int → Int → List (S78) → List (S84) → ByteArray → Int → Int → Int → List (S80) → Int → Int → Option (Bool)
  | 0, _, _, _, _, _, _, _, _, _, _, _, _, _, _ => none
  | k + 1, x3, x5, x133, x117000, x117001, x117002, x117003, x121000, x121001, x121002, x121003, x121004, x131000, x131001 => if x133 = true then (some false) else (spec_TableOK.l2 k x3 x5 0 x117000 x117001 x117002 x117003 x121000 x121001 x121002 x121003 x121004 x131000 x131001)
def spec_TableOK.l2 : Nat → Int → Int → Int → Int → Int → List (S78) → List (S84) → ByteArray → Int → Int → Int → List (S80) → Int → Int → Option (Bool)
  | 0, _, _, _, _, _, _, _, _, _, _, _, _, _, _ => none
  | k + 1, x3, x5, x7, x117000, x117001, x117002, x117003, x121000, x121001, x121002, x121003, x121004, x131000, x131001 => if x7 < x5 then (if 0 ≤ x7 then (if x7 < (x121004.length : Int) then (if ((rd_T80 x121004 x7).f0) = x131000 then (some false) else (spec_TableOK.l2 k x3 x5 (wrap64 (x7 + 1)) x117000 x117001 x117002 x117003 x121000 x121001 x121002 x121003 x121004 x131000 x131001)) else (none)) else (none)) else (spec_TableOK.l1 k x3 (wrap64 (x5 + 1)) x117000 x117001 x117002 x117003 x121000 x121001 x121002 x121003 x121004)
def spec_TableOK.l3 : Nat → Int → Int → Int → List (S78) → List (S84) → Option (Bool)
  | 0, _, _, _, _, _ => none
  | k + 1, x8, x117000, x117001, x117002, x117003 => if x8 < (x117003.length : Int) then (if 0 ≤ x8 then ((spec_l01In.f ((rd_T84 x117003 x8).f0) 0 255).bind fun t136 => (if t136 = true then ((spec_l01In.f ((rd_T84 x117003 x8).f1) 1 65535).bind fun t137 => (if t137 = true then ((spec_l05Answer.f ((rd_T84 x117003 x8).f2.f0) ((rd_T84 x117003 x8).f2.f1) ((rd_T84 x117003 x8).f2.f2) ((rd_T84 x117003 x8).f2.f3)).bind fun t138 => (if t138 = true then (if x8 > 0 then (if 0 ≤ (wrap64 (x8 - 1)) then (if (wrap64 (x8 - 1)) < (x117003.length : Int) then (if ((rd_T84 x117003 (wrap64 (x8 - 1))).f0) ≥ ((rd_T84 x117003 x8).f0) then (some false) else (spec_TableOK.l3 k (wrap64 (x8 + 1)) x117000 x117001 x117002 x117003)) else (none)) else (none)) else (spec_TableOK.l3 k (wrap64 (x8 + 1)) x117000 x117001 x117002 x117003)) else (some false))) else (some false))) else (some false))) else (none)) else (some true)
end
def spec_TableOK.f (k : Nat) (a0_0 : Int) (a0_1 : Int) (l0_2 : List (S78)) (l0_3 : List (S84)) : Option (Bool) := (spec_l01In.f a0_0 0 1000000000).bind fun t117 => (if t117 = true then ((spec_l01In.f a0_1 1 1000000).bind fun t118 => (if t118 = true then (if (l0_2.length : Int) > 4 then (spec_TableOK.j0 k true a0_0 a0_1 l0_2 l0_3) else (spec_TableOK.j0 k (decide ((l0_3.length : Int) > 6)) a0_0 a0_1 l0_2 l0_3)) else (spec_TableOK.j0 k true a0_0 a0_1 l0_2 l0_3))) else (spec_TableOK.j0 k true a0_0 a0_1 l0_2 l0_3))
theorem spec_TableOK.mono_l : ∀ k, (∀ y0 y1 y2 y3 y4, LeO (spec_TableOK.j0 k y0 y1 y2 y3 y4) (spec_TableOK.j0 (k + 1) y0 y1 y2 y3 y4)) ∧ (∀ y0 y1 y2 y3 y4, LeO (spec_TableOK.l0 k y0 y1 y2 y3 y4) (spec_TableOK.l0 (k + 1) y0 y1 y2 y3 y4)) ∧ (∀ y0 y1 y2 y3 y4 y5 y6 y7 y8 y9 y10, LeO (spec_TableOK.j2 k y0 y1 y2 y3 y4 y5 y6 y7 y8 y9 y10) (spec_TableOK.j2 (k + 1) y0 y1 y2 y3 y4 y5 y6 y7 y8 y9 y10)) ∧ (∀ y0 y1 y2 y3 y4 y5 y6 y7 y8 y9 y10, LeO (spec_TableOK.j3 k y0 y1 y2 y3 y4 y5 y6 y7 y8 y9 y10) (spec_TableOK.j3 (k + 1) y0 y1 y2 y3 y4 y5 y6 y7 y8 y9 y10)) ∧ (∀ y0 y1 y2 y3 y4 y5 y6 y7 y8 y9 y10, LeO (spec_TableOK.l1 k y0 y1 y2 y3 y4 y5 y6 y7 y8 y9 y10) (spec_TableOK.l1 (k + 1) y0 y1 y2 y3 y4 y5 y6 y7 y8 y9 y10)) ∧ (∀ y0 y1 y2 y3 y4 y5 y6 y7 y8 y9 y10 y11 y12 y13, LeO (spec_TableOK.j5 k y0 y1 y2 y3 y4 y5 y6 y7 y8 y9 y10 y11 y12 y13) (spec_TableOK.j5 (k + 1) y0 y1 y2 y3 y4 y5 y6 y7 y8 y9 y10 y11 y12 y13)) ∧ (∀ y0 y1 y2 y3 y4 y5 y6 y7 y8 y9 y10 y11 y12 y13, LeO (spec_TableOK.l2 k y0 y1 y2 y3 y4 y5 y6 y7 y8 y9 y10 y11 y12 y13) (spec_TableOK.l2 (k + 1) y0 y1 y2 y3 y4 y5 y6 y7 y8 y9 y10 y11 y12 y13)) ∧ (∀ y0 y1 y2 y3 y4, LeO (spec_TableOK.l3 k y0 y1 y2 y3 y4) (spec_TableOK.l3 (k + 1) y0 y1 y2 y3 y4))
  | 0 => ⟨fun _ _ _ _ _ r h => by simp [spec_TableOK.j0] at h, fun _ _ _ _ _ r h => by simp [spec_TableOK.l0] at h, fun _ _ _ _ _ _ _ _ _ _ _ r h => by simp [spec_TableOK.j2] at h, fun _ _ _ _ _ _ _ _ _ _ _ r h => by simp [spec_TableOK.j3] at h, fun _ _ _ _ _ _ _ _ _ _ _ r h => by simp [spec_TableOK.l1] at h, fun _ _ _ _ _ _ _ _ _ _ _ _ _ _ r h => by simp [spec_TableOK.j5] at h, fun _ _ _ _ _ _ _ _ _ _ _ _ _ _ r h => by simp [spec_TableOK.l2] at h, fun _ _ _ _ _ r h => by simp [spec_TableOK.l3] at h⟩
  | k + 1 => by
    obtain ⟨ih0, ih1, ih2, ih3, ih4, ih5, ih6, ih7⟩ := spec_TableOK.mono_l k
    refine ⟨?_, ?_, ?_, ?_, ?_, ?_, ?_, ?_⟩
    · intro y0 y1 y2 y3 y4
      unfold spec_TableOK.j0
      repeat' first
      | (with_reducible exact ih0 _ _ _ _ _)
      | (with_reducible exact ih1 _ _ _ _ _)
      | (with_reducible exact ih2 _ _ _ _ _ _ _ _ _ _ _)
      | (with_reducible exact ih3 _ _ _ _ _ _ _ _ _ _ _)
      | (with_reducible exact ih4 _ _ _ _ _ _ _ _ _ _ _)
      | (with_reducible exact ih5 _ _ _ _ _ _ _ _ _ _ _ _ _ _)
      | (with_reducible exact ih6 _ _ _ _ _ _ _ _ _ _ _ _ _ _)
      | (with_reducible exact ih7 _ _ _ _ _)
      | (with_reducible exact spec_l02Text.mono _ _ _)
      | (with_reducible exact LeO.refl _)
      | (with_reducible exact LeO.none _)
      | (with_reducible refine LeO.ite ?_ ?_)
      | (with_reducible refine LeO.bind ?_ (fun _ => ?_))
      | exact ih0 _ _ _ _ _
      | exact ih1 _ _ _ _ _
      | exact ih2 _ _ _ _ _ _ _ _ _ _ _
      | exact ih3 _ _ _ _ _ _ _ _ _ _ _
      | exact ih4 _ _ _ _ _ _ _ _ _ _ _
      | exact ih5 _ _ _ _ _ _ _ _ _ _ _ _ _ _
      | exact ih6 _ _ _ _ _ _ _ _ _ _ _ _ _ _
      | exact ih7 _ _ _ _ _
      | exact spec_l02Text.mono _ _ _
      | exact LeO.none _
      | refine LeO.ite ?_ ?_
      | refine LeO.bind ?_ (fun _ => ?_)
    · intro y0 y1 y2 y3 y4
      unfold spec_TableOK.l0
      repeat' first
      | (with_reducible exact ih0 _ _ _ _ _)
      | (with_reducible exact ih1 _ _ _ _ _)
      | (with_reducible exact ih2 _ _ _ _ _ _ _ _ _ _ _)
      | (with_reducible exact ih3 _ _ _ _ _ _ _ _ _ _ _)
      | (with_reducible exact ih4 _ _ _ _ _ _ _ _ _ _ _)
      | (with_reducible exact ih5 _ _ _ _ _ _ _ _ _ _ _ _ _ _)
      | (with_reducible exact ih6 _ _ _ _ _ _ _ _ _ _ _ _ _ _)
      | (with_reducible exact ih7 _ _ _ _ _)
      | (with_reducible exact spec_l02Text.mono _ _ _)
      | (with_reducible exact LeO.refl _)
      | (with_reducible exact LeO.none _)
      | (with_reducible refine LeO.ite ?_ ?_)
      | (with_reducible refine LeO.bind ?_ (fun _ => ?_))
      | exact ih0 _ _ _ _ _
      | exact ih1 _ _ _ _ _
      | exact ih2 _ _ _ _ _ _ _ _ _ _ _
      | exact ih3 _ _ _ _ _ _ _ _ _ _ _
      | exact ih4 _ _ _ _ _ _ _ _ _ _ _
      | exact ih5 _ _ _ _ _ _ _ _ _ _ _ _ _ _
      | exact ih6 _ _ _ _ _ _ _ _ _ _ _ _ _ _
      | exact ih7 _ _ _ _ _
      | exact spec_l02Text.mono _ _ _
      | exact LeO.none _
      | refine LeO.ite ?_ ?_
      | refine LeO.bind ?_ (fun _ => ?_)
    · intro y0 y1 y2 y3 y4 y5 y6 y7 y8 y9 y10
      unfold spec_TableOK.j2
      repeat' first
      | (with_reducible exact ih0 _ _ _ _ _)
      | (with_reducible exact ih1 _ _ _ _ _)
      | (with_reducible exact ih2 _ _ _ _ _ _ _ _ _ _ _)
      | (with_reducible exact ih3 _ _ _ _ _ _ _ _ _ _ _)
      | (with_reducible exact ih4 _ _ _ _ _ _ _ _ _ _ _)
      | (with_reducible exact ih5 _ _ _ _ _ _ _ _ _ _ _ _ _ _)
      | (with_reducible exact ih6 _ _ _ _ _ _ _ _ _ _ _ _ _ _)
      | (with_reducible exact ih7 _ _ _ _ _)
      | (with_reducible exact spec_l02Text.mono _ _ _)
      | (with_reducible exact LeO.refl _)
      | (with_reducible exact LeO.none _)
      | (with_reducible refine LeO.ite ?_ ?_)
      | (with_reducible refine LeO.bind ?_ (fun _ => ?_))
      | exact ih0 _ _ _ _ _
      | exact ih1 _ _ _ _ _
      | exact ih2 _ _ _ _ _ _ _ _ _ _ _
      | exact ih3 _ _ _ _ _ _ _ _ _ _ _
      | exact ih4 _ _ _ _ _ _ _ _ _ _ _
      | exact ih5 _ _ _ _ _ _ _ _ _ _ _ _ _ _
      | exact ih6 _ _ _ _ _ _ _ _ _ _ _ _ _ _
      | exact ih7 _ _ _ _ _
      | exact spec_l02Text.mono _ _ _
      | exact LeO.none _
      | refine LeO.ite ?_ ?_
      | refine LeO.bind ?_ (fun _ => ?_)
    · intro y0 y1 y2 y3 y4 y5 y6 y7 y8 y9 y10
      unfold spec_TableOK.j3
      repeat' first
      | (with_reducible exact ih0 _ _ _ _ _)
      | (with_reducible exact ih1 _ _ _ _ _)
      | (with_reducible exact ih2 _ _ _ _ _ _ _ _ _ _ _)
      | (with_reducible exact ih3 _ _ _ _ _ _ _ _ _ _ _)
      | (with_reducible exact ih4 _ _ _ _ _ _ _ _ _ _ _)
      | (with_reducible exact ih5 _ _ _ _ _ _ _ _ _ _ _ _ _ _)
      | (with_reducible exact ih6 _ _ _ _ _ _ _ _ _ _ _ _ _ _)
      | (with_reducible exact ih7 _ _ _ _ _)
      | (with_reducible exact spec_l02Text.mono _ _ _)
      | (with_reducible exact LeO.refl _)
      | (with_reducible exact LeO.none _)
      | (with_reducible refine LeO.ite ?_ ?_)
      | (with_reducible refine LeO.bind ?_ (fun _ => ?_))
      | exact ih0 _ _ _ _ _
      | exact ih1 _ _ _ _ _
      | exact ih2 _ _ _ _ _ _ _ _ _ _ _
      | exact ih3 _ _ _ _ _ _ _ _ _ _ _
      | exact ih4 _ _ _ _ _ _ _ _ _ _ _
      | exact ih5 _ _ _ _ _ _ _ _ _ _ _ _ _ _
      | exact ih6 _ _ _ _ _ _ _ _ _ _ _ _ _ _
      | exact ih7 _ _ _ _ _
      | exact spec_l02Text.mono _ _ _
      | exact LeO.none _
      | refine LeO.ite ?_ ?_
      | refine LeO.bind ?_ (fun _ => ?_)
    · intro y0 y1 y2 y3 y4 y5 y6 y7 y8 y9 y10
      unfold spec_TableOK.l1
      repeat' first
      | (with_reducible exact ih0 _ _ _ _ _)
      | (with_reducible exact ih1 _ _ _ _ _)
      | (with_reducible exact ih2 _ _ _ _ _ _ _ _ _ _ _)
      | (with_reducible exact ih3 _ _ _ _ _ _ _ _ _ _ _)
      | (with_reducible exact ih4 _ _ _ _ _ _ _ _ _ _ _)
      | (with_reducible exact ih5 _ _ _ _ _ _ _ _ _ _ _ _ _ _)
      | (with_reducible exact ih6 _ _ _ _ _ _ _ _ _ _ _ _ _ _)
      | (with_reducible exact ih7 _ _ _ _ _)
      | (with_reducible exact spec_l02Text.mono _ _ _)
      | (with_reducible exact LeO.refl _)
      | (with_reducible exact LeO.none _)
      | (with_reducible refine LeO.ite ?_ ?_)
      | (with_reducible refine LeO.bind ?_ (fun _ => ?_))
      | exact ih0 _ _ _ _ _
      | exact ih1 _ _ _ _ _
      | exact ih2 _ _ _ _ _ _ _ _ _ _ _
      | exact ih3 _ _ _ _ _ _ _ _ _ _ _
      | exact ih4 _ _ _ _ _ _ _ _ _ _ _
      | exact ih5 _ _ _ _ _ _ _ _ _ _ _ _ _ _
      | exact ih6 _ _ _ _ _ _ _ _ _ _ _ _ _ _
      | exact ih7 _ _ _ _ _
      | exact spec_l02Text.mono _ _ _
      | exact LeO.none _
      | refine LeO.ite ?_ ?_
      | refine LeO.bind ?_ (fun _ => ?_)
    · intro y0 y1 y2 y3 y4 y5 y6 y7 y8 y9 y10 y11 y12 y13
      unfold spec_TableOK.j5
      repeat' first
      | (with_reducible exact ih0 _ _ _ _ _)
      | (with_reducible exact ih1 _ _ _ _ _)
      | (with_reducible exact ih2 _ _ _ _ _ _ _ _ _ _ _)
      | (with_reducible exact ih3 _ _ _ _ _ _ _ _ _ _ _)
      | (with_reducible exact ih4 _ _ _ _ _ _ _ _ _ _ _)
      | (with_reducible exact ih5 _ _ _ _ _ _ _ _ _ _ _ _ _ _)
      | (with_reducible exact ih6 _ _ _ _ _ _ _ _ _ _ _ _ _ _)
      | (with_reducible exact ih7 _ _ _ _ _)
      | (with_reducible exact spec_l02Text.mono _ _ _)
      | (with_reducible exact LeO.refl _)
      | (with_reducible exact LeO.none _)
      | (with_reducible refine LeO.ite ?_ ?_)
      | (with_reducible refine LeO.bind ?_ (fun _ => ?_))
      | exact ih0 _ _ _ _ _
      | exact ih1 _ _ _ _ _
      | exact ih2 _ _ _ _ _ _ _ _ _ _ _
      | exact ih3 _ _ _ _ _ _ _ _ _ _ _
      | exact ih4 _ _ _ _ _ _ _ _ _ _ _
      | exact ih5 _ _ _ _ _ _ _ _ _ _ _ _ _ _
      | exact ih6 _ _ _ _ _ _ _ _ _ _ _ _ _ _
      | exact ih7 _ _ _ _ _
      | exact spec_l02Text.mono _ _ _
      | exact LeO.none _
      | refine LeO.ite ?_ ?_
      | refine LeO.bind ?_ (fun _ => ?_)
    · intro y0 y1 y2 y3 y4 y5 y6 y7 y8 y9 y10 y11 y12 y13
      unfold spec_TableOK.l2
      repeat' first
      | (with_reducible exact ih0 _ _ _ _ _)
      | (with_reducible exact ih1 _ _ _ _ _)
      | (with_reducible exact ih2 _ _ _ _ _ _ _ _ _ _ _)
      | (with_reducible exact ih3 _ _ _ _ _ _ _ _ _ _ _)
      | (with_reducible exact ih4 _ _ _ _ _ _ _ _ _ _ _)
      | (with_reducible exact ih5 _ _ _ _ _ _ _ _ _ _ _ _ _ _)
      | (with_reducible exact ih6 _ _ _ _ _ _ _ _ _ _ _ _ _ _)
      | (with_reducible exact ih7 _ _ _ _ _)
      | (with_reducible exact spec_l02Text.mono _ _ _)
      | (with_reducible exact LeO.refl _)
      | (with_reducible exact LeO.none _)
      | (with_reducible refine LeO.ite ?_ ?_)
      | (with_reducible refine LeO.bind ?_ (fun _ => ?_))
      | exact ih0 _ _ _ _ _
      | exact ih1 _ _ _ _ _
      | exact ih2 _ _ _ _ _ _ _ _ _ _ _
      | exact ih3 _ _ _ _ _ _ _ _ _ _ _
      | exact ih4 _ _ _ _ _ _ _ _ _ _ _
      | exact ih5 _ _ _ _ _ _ _ _ _ _ _ _ _ _
      | exact ih6 _ _ _ _ _ _ _ _ _ _ _ _ _ _
      | exact ih7 _ _ _ _ _
      | exact spec_l02Text.mono _ _ _
      | exact LeO.none _
      | refine LeO.ite ?_ ?_
      | refine LeO.bind ?_ (fun _ => ?_)
    · intro y0 y1 y2 y3 y4
      unfold spec_TableOK.l3
      repeat' first
      | (with_reducible exact ih0 _ _ _ _ _)
      | (with_reducible exact ih1 _ _ _ _ _)
      | (with_reducible exact ih2 _ _ _ _ _ _ _ _ _ _ _)
      | (with_reducible exact ih3 _ _ _ _ _ _ _ _ _ _ _)
      | (with_reducible exact ih4 _ _ _ _ _ _ _ _ _ _ _)
      | (with_reducible exact ih5 _ _ _ _ _ _ _ _ _ _ _ _ _ _)
      | (with_reducible exact ih6 _ _ _ _ _ _ _ _ _ _ _ _ _ _)
      | (with_reducible exact ih7 _ _ _ _ _)
      | (with_reducible exact spec_l02Text.mono _ _ _)
      | (with_reducible exact LeO.refl _)
      | (with_reducible exact LeO.none _)
      | (with_reducible refine LeO.ite ?_ ?_)
      | (with_reducible refine LeO.bind ?_ (fun _ => ?_))
      | exact ih0 _ _ _ _ _
      | exact ih1 _ _ _ _ _
      | exact ih2 _ _ _ _ _ _ _ _ _ _ _
      | exact ih3 _ _ _ _ _ _ _ _ _ _ _
      | exact ih4 _ _ _ _ _ _ _ _ _ _ _
      | exact ih5 _ _ _ _ _ _ _ _ _ _ _ _ _ _
      | exact ih6 _ _ _ _ _ _ _ _ _ _ _ _ _ _
      | exact ih7 _ _ _ _ _
      | exact spec_l02Text.mono _ _ _
      | exact LeO.none _
      | refine LeO.ite ?_ ?_
      | refine LeO.bind ?_ (fun _ => ?_)
theorem spec_TableOK.mono : ∀ a0 a1 a2 a3 k, LeO (spec_TableOK.f k a0 a1 a2 a3) (spec_TableOK.f (k + 1) a0 a1 a2 a3) := by
  intro a0 a1 a2 a3 k
  obtain ⟨ih0, ih1, ih2, ih3, ih4, ih5, ih6, ih7⟩ := spec_TableOK.mono_l k
  unfold spec_TableOK.f
  repeat' first
      | (with_reducible exact ih0 _ _ _ _ _)
      | (with_reducible exact ih1 _ _ _ _ _)
      | (with_reducible exact ih2 _ _ _ _ _ _ _ _ _ _ _)
      | (with_reducible exact ih3 _ _ _ _ _ _ _ _ _ _ _)
      | (with_reducible exact ih4 _ _ _ _ _ _ _ _ _ _ _)
      | (with_reducible exact ih5 _ _ _ _ _ _ _ _ _ _ _ _ _ _)
      | (with_reducible exact ih6 _ _ _ _ _ _ _ _ _ _ _ _ _ _)
      | (with_reducible exact ih7 _ _ _ _ _)
      | (with_reducible exact spec_l02Text.mono _ _ _)
      | (with_reducible exact LeO.refl _)
      | (with_reducible exact LeO.none _)
      | (with_reducible refine LeO.ite ?_ ?_)
      | (with_reducible refine LeO.bind ?_ (fun _ => ?_))
      | exact ih0 _ _ _ _ _
      | exact ih1 _ _ _ _ _
      | exact ih2 _ _ _ _ _ _ _ _ _ _ _
      | exact ih3 _ _ _ _ _ _ _ _ _ _ _
      | exact ih4 _ _ _ _ _ _ _ _ _ _ _
      | exact ih5 _ _ _ _ _ _ _ _ _ _ _ _ _ _
      | exact ih6 _ _ _ _ _ _ _ _ _ _ _ _ _ _
      | exact ih7 _ _ _ _ _
      | exact spec_l02Text.mono _ _ _
      | exact LeO.none _
      | refine LeO.ite ?_ ?_
      | refine LeO.bind ?_ (fun _ => ?_)
noncomputable def spec_TableOK.jv0 (x31 : Bool) (x117000 : Int) (x117001 : Int) (x117002 : List (S78)) (x117003 : List (S84)) : Option (Bool) := lim (fun k_ => spec_TableOK.j0 k_ x31 x117000 x117001 x117002 x117003)
noncomputable def spec_TableOK.lv0 (x3 : Int) (x117000 : Int) (x117001 : Int) (x117002 : List (S78)) (x117003 : List (S84)) : Option (Bool) := lim (fun k_ => spec_TableOK.l0 k_ x3 x117000 x117001 x117002 x117003)
noncomputable def spec_TableOK.jv2 (x3 : Int) (x90 : Bool) (x117000 : Int) (x117001 : Int) (x117002 : List (S78)) (x117003 : List (S84)) (x121000 : ByteArray) (x121001 : Int) (x121002 : Int) (x121003 : Int) (x121004 : List (S80)) : Option (Bool) := lim (fun k_ => spec_TableOK.j2 k_ x3 x90 x117000 x117001 x117002 x117003 x121000 x121001 x121002 x121003 x121004)
noncomputable def spec_TableOK.jv3 (x3 : Int) (x104 : Bool) (x117000 : Int) (x117001 : Int) (x117002 : List (S78)) (x117003 : List (S84)) (x121000 : ByteArray) (x121001 : Int) (x121002 : Int) (x121003 : Int) (x121004 : List (S80)) : Option (Bool) := lim (fun k_ => spec_TableOK.j3 k_ x3 x104 x117000 x117001 x117002 x117003 x121000 x121001 x121002 x121003 x121004)
noncomputable def spec_TableOK.lv1 (x3 : Int) (x5 : Int) (x117000 : Int) (x117001 : Int) (x117002 : List (S78)) (x117003 : List (S84)) (x121000 : ByteArray) (x121001 : Int) (x121002 : Int) (x121003 : Int) (x121004 : List (S80)) : Option (Bool) := lim (fun k_ => spec_TableOK.l1 k_ x3 x5 x117000 x117001 x117002 x117003 x121000 x121001 x121002 x121003 x121004)
noncomputable def spec_TableOK.jv5 (x3 : Int) (x5 : Int) (x133 : Bool) (x117000 : Int) (x117001 : Int) (x117002 : List (S78)) (x117003 : List (S84)) (x121000 : ByteArray) (x121001 : Int) (x121002 : Int) (x121003 : Int) (x121004 : List (S80)) (x131000 : Int) (x131001 : Int) : Option (Bool) := lim (fun k_ => spec_TableOK.j5 k_ x3 x5 x133 x117000 x117001 x117002 x117003 x121000 x121001 x121002 x121003 x121004 x131000 x131001)
noncomputable def spec_TableOK.lv2 (x3 : Int) (x5 : Int) (x7 : Int) (x117000 : Int) (x117001 : Int) (x117002 : List (S78)) (x117003 : List (S84)) (x121000 : ByteArray) (x121001 : Int) (x121002 : Int) (x121003 : Int) (x121004 : List (S80)) (x131000 : Int) (x131001 : Int) : Option (Bool) := lim (fun k_ => spec_TableOK.l2 k_ x3 x5 x7 x117000 x117001 x117002 x117003 x121000 x121001 x121002 x121003 x121004 x131000 x131001)
noncomputable def spec_TableOK.lv3 (x8 : Int) (x117000 : Int) (x117001 : Int) (x117002 : List (S78)) (x117003 : List (S84)) : Option (Bool) := lim (fun k_ => spec_TableOK.l3 k_ x8 x117000 x117001 x117002 x117003)
noncomputable def spec_TableOK.v (a0_0 : Int) (a0_1 : Int) (l0_2 : List (S78)) (l0_3 : List (S84)) : Option (Bool) := lim (fun k_ => spec_TableOK.f k_ a0_0 a0_1 l0_2 l0_3)
theorem spec_TableOK.jv0_lim (x31 : Bool) (x117000 : Int) (x117001 : Int) (x117002 : List (S78)) (x117003 : List (S84)) : LimIs (fun k_ => spec_TableOK.j0 k_ x31 x117000 x117001 x117002 x117003) (spec_TableOK.jv0 x31 x117000 x117001 x117002 x117003) := lim_is (fun k_ => (spec_TableOK.mono_l k_).1 x31 x117000 x117001 x117002 x117003)
theorem spec_TableOK.lv0_lim (x3 : Int) (x117000 : Int) (x117001 : Int) (x117002 : List (S78)) (x117003 : List (S84)) : LimIs (fun k_ => spec_TableOK.l0 k_ x3 x117000 x117001 x117002 x117003) (spec_TableOK.lv0 x3 x117000 x117001 x117002 x117003) := lim_is (fun k_ => (spec_TableOK.mono_l k_).2.1 x3 x117000 x117001 x117002 x117003)
theorem spec_TableOK.jv2_lim (x3 : Int) (x90 : Bool) (x117000 : Int) (x117001 : Int) (x117002 : List (S78)) (x117003 : List (S84)) (x121000 : ByteArray) (x121001 : Int) (x121002 : Int) (x121003 : Int) (x121004 : List (S80)) : LimIs (fun k_ => spec_TableOK.j2 k_ x3 x90 x117000 x117001 x117002 x117003 x121000 x121001 x121002 x121003 x121004) (spec_TableOK.jv2 x3 x90 x117000 x117001 x117002 x117003 x121000 x121001 x121002 x121003 x121004) := lim_is (fun k_ => (spec_TableOK.mono_l k_).2.2.1 x3 x90 x117000 x117001 x117002 x117003 x121000 x121001 x121002 x121003 x121004)
theorem spec_TableOK.jv3_lim (x3 : Int) (x104 : Bool) (x117000 : Int) (x117001 : Int) (x117002 : List (S78)) (x117003 : List (S84)) (x121000 : ByteArray) (x121001 : Int) (x121002 : Int) (x121003 : Int) (x121004 : List (S80)) : LimIs (fun k_ => spec_TableOK.j3 k_ x3 x104 x117000 x117001 x117002 x117003 x121000 x121001 x121002 x121003 x121004) (spec_TableOK.jv3 x3 x104 x117000 x117001 x117002 x117003 x121000 x121001 x121002 x121003 x121004) := lim_is (fun k_ => (spec_TableOK.mono_l k_).2.2.2.1 x3 x104 x117000 x117001 x117002 x117003 x121000 x121001 x121002 x121003 x121004)
theorem spec_TableOK.lv1_lim (x3 : Int) (x5 : Int) (x117000 : Int) (x117001 : Int) (x117002 : List (S78)) (x117003 : List (S84)) (x121000 : ByteArray) (x121001 : Int) (x121002 : Int) (x121003 : Int) (x121004 : List (S80)) : LimIs (fun k_ => spec_TableOK.l1 k_ x3 x5 x117000 x117001 x117002 x117003 x121000 x121001 x121002 x121003 x121004) (spec_TableOK.lv1 x3 x5 x117000 x117001 x117002 x117003 x121000 x121001 x121002 x121003 x121004) := lim_is (fun k_ => (spec_TableOK.mono_l k_).2.2.2.2.1 x3 x5 x117000 x117001 x117002 x117003 x121000 x121001 x121002 x121003 x121004)
theorem spec_TableOK.jv5_lim (x3 : Int) (x5 : Int) (x133 : Bool) (x117000 : Int) (x117001 : Int) (x117002 : List (S78)) (x117003 : List (S84)) (x121000 : ByteArray) (x121001 : Int) (x121002 : Int) (x121003 : Int) (x121004 : List (S80)) (x131000 : Int) (x131001 : Int) : LimIs (fun k_ => spec_TableOK.j5 k_ x3 x5 x133 x117000 x117001 x117002 x117003 x121000 x121001 x121002 x121003 x121004 x131000 x131001) (spec_TableOK.jv5 x3 x5 x133 x117000 x117001 x117002 x117003 x121000 x121001 x121002 x121003 x121004 x131000 x131001) := lim_is (fun k_ => (spec_TableOK.mono_l k_).2.2.2.2.2.1 x3 x5 x133 x117000 x117001 x117002 x117003 x121000 x121001 x121002 x121003 x121004 x131000 x131001)
theorem spec_TableOK.lv2_lim (x3 : Int) (x5 : Int) (x7 : Int) (x117000 : Int) (x117001 : Int) (x117002 : List (S78)) (x117003 : List (S84)) (x121000 : ByteArray) (x121001 : Int) (x121002 : Int) (x121003 : Int) (x121004 : List (S80)) (x131000 : Int) (x131001 : Int) : LimIs (fun k_ => spec_TableOK.l2 k_ x3 x5 x7 x117000 x117001 x117002 x117003 x121000 x121001 x121002 x121003 x121004 x131000 x131001) (spec_TableOK.lv2 x3 x5 x7 x117000 x117001 x117002 x117003 x121000 x121001 x121002 x121003 x121004 x131000 x131001) := lim_is (fun k_ => (spec_TableOK.mono_l k_).2.2.2.2.2.2.1 x3 x5 x7 x117000 x117001 x117002 x117003 x121000 x121001 x121002 x121003 x121004 x131000 x131001)
theorem spec_TableOK.lv3_lim (x8 : Int) (x117000 : Int) (x117001 : Int) (x117002 : List (S78)) (x117003 : List (S84)) : LimIs (fun k_ => spec_TableOK.l3 k_ x8 x117000 x117001 x117002 x117003) (spec_TableOK.lv3 x8 x117000 x117001 x117002 x117003) := lim_is (fun k_ => (spec_TableOK.mono_l k_).2.2.2.2.2.2.2 x8 x117000 x117001 x117002 x117003)
theorem spec_TableOK.v_lim (a0_0 : Int) (a0_1 : Int) (l0_2 : List (S78)) (l0_3 : List (S84)) : LimIs (fun k_ => spec_TableOK.f k_ a0_0 a0_1 l0_2 l0_3) (spec_TableOK.v a0_0 a0_1 l0_2 l0_3) := lim_is (fun k_ => spec_TableOK.mono a0_0 a0_1 l0_2 l0_3 k_)
theorem spec_TableOK.jv0_eq (x31 : Bool) (x117000 : Int) (x117001 : Int) (x117002 : List (S78)) (x117003 : List (S84)) : spec_TableOK.jv0 x31 x117000 x117001 x117002 x117003 = (if x31 = true then (some false) else (spec_TableOK.lv0 0 x117000 x117001 x117002 x117003) : Option (Bool)) := by
  refine LimIs.eq (spec_TableOK.jv0_lim x31 x117000 x117001 x117002 x117003) ?_
  refine LimIs.step (fun k_ => (spec_TableOK.mono_l k_).1 x31 x117000 x117001 x117002 x117003) ?_
  simp only [spec_TableOK.j0]
  repeat' (with_reducible first | exact spec_TableOK.lv0_lim _ _ _ _ _ | exact LimIs.const _ | refine LimIs.ite ?_ ?_ | refine LimIs.bind ?_ (fun _ => ?_))
theorem spec_TableOK.lv0_eq (x3 : Int) (x117000 : Int) (x117001 : Int) (x117002 : List (S78)) (x117003 : List (S84)) : spec_TableOK.lv0 x3 x117000 x117001 x117002 x117003 = (if x3 < (x117002.length : Int) then (if 0 ≤ x3 then ((spec_l02Text.v ((rd_T78 x117002 x3).f0) 12).bind fun t121 => (if t121 = true then (if x3 > 0 then (if 0 ≤ (wrap64 (x3 - 1)) then (if (wrap64 (x3 - 1)) < (x117002.length : Int) then (if ((Op.bytesLess (((rd_T78 x117002 (wrap64 (x3 - 1))).f0).toList) (((rd_T78 x117002 x3).f0).toList)) = true) then ((spec_l01In.v ((rd_T78 x117002 x3).f1) 0 (wrap64 (x117001 - 1))).bind fun t123 => (if t123 = true then ((spec_l01In.v ((rd_T78 x117002 x3).f2) (-1) 255).bind fun t124 => (if t124 = true then ((spec_l01In.v ((rd_T78 x117002 x3).f3) 0 2000000000).bind fun t125 => (if t125 = true then (spec_TableOK.jv2 x3 (decide ((((rd_T78 x117002 x3).f4).length : Int) > 4)) x117000 x117001 x117002 x117003 ((rd_T78 x117002 x3).f0) ((rd_T78 x117002 x3).f1) ((rd_T78 x117002 x3).f2) ((rd_T78 x117002 x3).f3) ((rd_T78 x117002 x3).f4)) else (spec_TableOK.jv2 x3 true x117000 x117001 x117002 x117003 ((rd_T78 x117002 x3).f0) ((rd_T78 x117002 x3).f1) ((rd_T78 x117002 x3).f2) ((rd_T78 x117002 x3).f3) ((rd_T78 x117002 x3).f4)))) else (spec_TableOK.jv2 x3 true x117000 x117001 x117002 x117003 ((rd_T78 x117002 x3).f0) ((rd_T78 x117002 x3).f1) ((rd_T78 x117002 x3).f2) ((rd_T78 x117002 x3).f3) ((rd_T78 x117002 x3).f4)))) else (spec_TableOK.jv2 x3 true x117000 x117001 x117002 x117003 ((rd_T78 x117002 x3).f0) ((rd_T78 x117002 x3).f1) ((rd_T78 x117002 x3).f2) ((rd_T78 x117002 x3).f3) ((rd_T78 x117002 x3).f4)))) else (spec_TableOK.jv2 x3 true x117000 x117001 x117002 x117003 ((rd_T78 x117002 x3).f0) ((rd_T78 x117002 x3).f1) ((rd_T78 x117002 x3).f2) ((rd_T78 x117002 x3).f3) ((rd_T78 x117002 x3).f4))) else (none)) else (none)) else ((spec_l01In.v ((rd_T78 x117002 x3).f1) 0 (wrap64 (x117001 - 1))).bind fun t126 => (if t126 = true then ((spec_l01In.v ((rd_T78 x117002 x3).f2) (-1) 255).bind fun t127 => (if t127 = true then ((spec_l01In.v ((rd_T78 x117002 x3).f3) 0 2000000000).bind fun t128 => (if t128 = true then (spec_TableOK.jv2 x3 (decide ((((rd_T78 x117002 x3).f4).length : Int) > 4)) x117000 x117001 x117002 x117003 ((rd_T78 x117002 x3).f0) ((rd_T78 x117002 x3).f1) ((rd_T78 x117002 x3).f2) ((rd_T78 x117002 x3).f3) ((rd_T78 x117002 x3).f4)) else (spec_TableOK.jv2 x3 true x117000 x117001 x117002 x117003 ((rd_T78 x117002 x3).f0) ((rd_T78 x117002 x3).f1) ((rd_T78 x117002 x3).f2) ((rd_T78 x117002 x3).f3) ((rd_T78 x117002 x3).f4)))) else (spec_TableOK.jv2 x3 true x117000 x117001 x117002 x117003 ((rd_T78 x117002 x3).f0) ((rd_T78 x117002 x3).f1) ((rd_T78 x117002 x3).f2) ((rd_T78 x117002 x3).f3) ((rd_T78 x117002 x3).f4)))) else (spec_TableOK.jv2 x3 true x117000 x117001 x117002 x117003 ((rd_T78 x117002 x3).f0) ((rd_T78 x117002 x3).f1) ((rd_T78 x117002 x3).f2) ((rd_T78 x117002 x3).f3) ((rd_T78 x117002 x3).f4))))) else (spec_TableOK.jv2 x3 true x117000 x117001 x117002 x117003 ((rd_T78 x117002 x3).f0) ((rd_T78 x117002 x3).f1) ((rd_T78 x117002 x3).f2) ((rd_T78 x117002 x3).f3) ((rd_T78 x117002 x3).f4)))) else (none)) else (spec_TableOK.lv3 0 x117000 x117001 x117002 x117003) : Option (Bool)) := by
  refine LimIs.eq (spec_TableOK.lv0_lim x3 x117000 x117001 x117002 x117003) ?_
  refine LimIs.step (fun k_ => (spec_TableOK.mono_l k_).2.1 x3 x117000 x117001 x117002 x117003) ?_
  simp only [spec_TableOK.l0]
  repeat' (with_reducible first | exact spec_TableOK.jv2_lim _ _ _ _ _ _ _ _ _ _ _ | exact spec_TableOK.lv3_lim _ _ _ _ _ | exact spec_l01In.v_lim _ _ _ | exact spec_l02Text.v_lim _ _ | exact LimIs.const _ | refine LimIs.ite ?_ ?_ | refine LimIs.bind ?_ (fun _ => ?_))
theorem spec_TableOK.jv2_eq (x3 : Int) (x90 : Bool) (x117000 : Int) (x117001 : Int) (x117002 : List (S78)) (x117003 : List (S84)) (x121000 : ByteArray) (x121001 : Int) (x121002 : Int) (x121003 : Int) (x121004 : List (S80)) : spec_TableOK.jv2 x3 x90 x117000 x117001 x117002 x117003 x121000 x121001 x121002 x121003 x121004 = (if x90 = true then (some false) else (if x121002 < 0 then (if x121003 = 0 then (spec_TableOK.jv3 x3 ((x121004.length : Int) != 0) x117000 x117001 x117002 x117003 x121000 x121001 x121002 x121003 x121004) else (spec_TableOK.jv3 x3 true x117000 x117001 x117002 x117003 x121000 x121001 x121002 x121003 x121004)) else (spec_TableOK.jv3 x3 false x117000 x117001 x117002 x117003 x121000 x121001 x121002 x121003 x121004)) : Option (Bool)) := by
  refine LimIs.eq (spec_TableOK.jv2_lim x3 x90 x117000 x117001 x117002 x117003 x121000 x121001 x121002 x121003 x121004) ?_
  refine LimIs.step (fun k_ => (spec_TableOK.mono_l k_).2.2.1 x3 x90 x117000 x117001 x117002 x117003 x121000 x121001 x121002 x121003 x121004) ?_
  simp only [spec_TableOK.j2]
  repeat' (with_reducible first | exact spec_TableOK.jv3_lim _ _ _ _ _ _ _ _ _ _ _ | exact LimIs.const _ | refine LimIs.ite ?_ ?_ | refine LimIs.bind ?_ (fun _ => ?_))
theorem spec_TableOK.jv3_eq (x3 : Int) (x104 : Bool) (x117000 : Int) (x117001 : Int) (x117002 : List (S78)) (x117003 : List (S84)) (x121000 : ByteArray) (x121001 : Int) (x121002 : Int) (x121003 : Int) (x121004 : List (S80)) : spec_TableOK.jv3 x3 x104 x117000 x117001 x117002 x117003 x121000 x121001 x121002 x121003 x121004 = (if x104 = true then (some false) else (spec_TableOK.lv1 x3 0 x117000 x117001 x117002 x117003 x121000 x121001 x121002 x121003 x121004) : Option (Bool)) := by
  refine LimIs.eq (spec_TableOK.jv3_lim x3 x104 x117000 x117001 x117002 x117003 x121000 x121001 x121002 x121003 x121004) ?_
  refine LimIs.step (fun k_ => (spec_TableOK.mono_l k_).2.2.2.1 x3 x104 x117000 x117001 x117002 x117003 x121000 x121001 x121002 x121003 x121004) ?_
  simp only [spec_TableOK.j3]
  repeat' (with_reducible first | exact spec_TableOK.lv1_lim _ _ _ _ _ _ _ _ _ _ _ | exact LimIs.const _ | refine LimIs.ite ?_ ?_ | refine LimIs.bind ?_ (fun _ => ?_))
theorem spec_TableOK.lv1_eq (x3 : Int) (x5 : Int) (x117000 : Int) (x117001 : Int) (x117002 : List (S78)) (x117003 : List (S84)) (x121000 : ByteArray) (x121001 : Int) (x121002 : Int) (x121003 : Int) (x121004 : List (S80)) : spec_TableOK.lv1 x3 x5 x117000 x117001 x117002 x117003 x121000 x121001 x121002 x121003 x121004 = (if x5 < (x121004.length : Int) then (if 0 ≤ x5 then ((spec_l01In.v ((rd_T80 x121004 x5).f0) 0 255).bind fun t131 => (if t131 = true then ((spec_l01In.v ((rd_T80 x121004 x5).f1) 1 1000).bind fun t132 => (if t132 = true then (spec_TableOK.jv5 x3 x5 (((rd_T80 x121004 x5).f0) == x121002) x117000 x117001 x117002 x117003 x121000 x121001 x121002 x121003 x121004 ((rd_T80 x121004 x5).f0) ((rd_T80 x121004 x5).f1)) else (spec_TableOK.jv5 x3 x5 true x117000 x117001 x117002 x117003 x121000 x121001 x121002 x121003 x121004 ((rd_T80 x121004 x5).f0) ((rd_T80 x121004 x5).f1)))) else (spec_TableOK.jv5 x3 x5 true x117000 x117001 x117002 x117003 x121000 x121001 x121002 x121003 x121004 ((rd_T80 x121004 x5).f0) ((rd_T80 x121004 x5).f1)))) else (none)) else (spec_TableOK.lv0 (wrap64 (x3 + 1)) x117000 x117001 x117002 x117003) : Option (Bool)) := by
  refine LimIs.eq (spec_TableOK.lv1_lim x3 x5 x117000 x117001 x117002 x117003 x121000 x121001 x121002 x121003 x121004) ?_
  refine LimIs.step (fun k_ => (spec_TableOK.mono_l k_).2.2.2.2.1 x3 x5 x117000 x117001 x117002 x117003 x121000 x121001 x121002 x121003 x121004) ?_
  simp only [spec_TableOK.l1]
  repeat' (with_reducible first | exact spec_TableOK.jv5_lim _ _ _ _ _ _ _ _ _ _ _ _ _ _ | exact spec_TableOK.lv0_lim _ _ _ _ _ | exact spec_l01In.v_lim _ _ _ | exact LimIs.const _ | refine LimIs.ite ?_ ?_ | refine LimIs.bind ?_ (fun _ => ?_))
theorem spec_TableOK.jv5_eq (x3 : Int) (x5 : Int) (x133 : Bool) (x117000 : Int) (x117001 : Int) (x117002 : List (S78)) (x117003 : List (S84)) (x121000 : ByteArray) (x121001 : Int) (x121002 : Int) (x121003 : Int) (x121004 : List (S80)) (x131000 : Int) (x131001 : Int) : spec_TableOK.jv5 x3 x5 x133 x117000 x117001 x117002 x117003 x121000 x121001 x121002 x121003 x121004 x131000 x131001 = (if x133 = true then (some false) else (spec_TableOK.lv2 x3 x5 0 x117000 x117001 x117002 x117003 x121000 x121001 x121002 x121003 x121004 x131000 x131001) : Option (Bool)) := by
  refine LimIs.eq (spec_TableOK.jv5_lim x3 x5 x133 x117000 x117001 x117002 x117003 x121000 x121001 x121002 x121003 x121004 x131000 x131001) ?_
  refine LimIs.step (fun k_ => (spec_TableOK.mono_l k_).2.2.2.2.2.1 x3 x5 x133 x117000 x117001 x117002 x117003 x121000 x121001 x121002 x121003 x121004 x131000 x131001) ?_
  simp only [spec_TableOK.j5]
  repeat' (with_reducible first | exact spec_TableOK.lv2_lim _ _ _ _ _ _ _ _ _ _ _ _ _ _ | exact LimIs.const _ | refine LimIs.ite ?_ ?_ | refine LimIs.bind ?_ (fun _ => ?_))
theorem spec_TableOK.lv2_eq (x3 : Int) (x5 : Int) (x7 : Int) (x117000 : Int) (x117001 : Int) (x117002 : List (S78)) (x117003 : List (S84)) (x121000 : ByteArray) (x121001 : Int) (x121002 : Int) (x121003 : Int) (x121004 : List (S80)) (x131000 : Int) (x131001 : Int) : spec_TableOK.lv2 x3 x5 x7 x117000 x117001 x117002 x117003 x121000 x121001 x121002 x121003 x121004 x131000 x131001 = (if x7 < x5 then (if 0 ≤ x7 then (if x7 < (x121004.length : Int) then (if ((rd_T80 x121004 x7).f0) = x131000 then (some false) else (spec_TableOK.lv2 x3 x5 (wrap64 (x7 + 1)) x117000 x117001 x117002 x117003 x121000 x121001 x121002 x121003 x121004 x131000 x131001)) else (none)) else (none)) else (spec_TableOK.lv1 x3 (wrap64 (x5 + 1)) x117000 x117001 x117002 x117003 x121000 x121001 x121002 x121003 x121004) : Option (Bool)) := by
  refine LimIs.eq (spec_TableOK.lv2_lim x3 x5 x7 x117000 x117001 x117002 x117003 x121000 x121001 x121002 x121003 x121004 x131000 x131001) ?_
  refine LimIs.step (fun k_ => (spec_TableOK.mono_l k_).2.2.2.2.2.2.1 x3 x5 x7 x117000 x117001 x117002 x117003 x121000 x121001 x121002 x121003 x121004 x131000 x131001) ?_
  simp only [spec_TableOK.l2]
  repeat' (with_reducible first | exact spec_TableOK.lv1_lim _ _ _ _ _ _ _ _ _ _ _ | exact spec_TableOK.lv2_lim _ _ _ _ _ _ _ _ _ _ _ _ _ _ | exact LimIs.const _ | refine LimIs.ite ?_ ?_ | refine LimIs.bind ?_ (fun _ => ?_))
theorem spec_TableOK.lv3_eq (x8 : Int) (x117000 : Int) (x117001 : Int) (x117002 : List (S78)) (x117003 : List (S84)) : spec_TableOK.lv3 x8 x117000 x117001 x117002 x117003 = (if x8 < (x117003.length : Int) then (if 0 ≤ x8 then ((spec_l01In.v ((rd_T84 x117003 x8).f0) 0 255).bind fun t136 => (if t136 = true then ((spec_l01In.v ((rd_T84 x117003 x8).f1) 1 65535).bind fun t137 => (if t137 = true then ((spec_l05Answer.v ((rd_T84 x117003 x8).f2.f0) ((rd_T84 x117003 x8).f2.f1) ((rd_T84 x117003 x8).f2.f2) ((rd_T84 x117003 x8).f2.f3)).bind fun t138 => (if t138 = true then (if x8 > 0 then (if 0 ≤ (wrap64 (x8 - 1)) then (if (wrap64 (x8 - 1)) < (x117003.length : Int) then (if ((rd_T84 x117003 (wrap64 (x8 - 1))).f0) ≥ ((rd_T84 x117003 x8).f0) then (some false) else (spec_TableOK.lv3 (wrap64 (x8 + 1)) x117000 x117001 x117002 x117003)) else (none)) else (none)) else (spec_TableOK.lv3 (wrap64 (x8 + 1)) x117000 x117001 x117002 x117003)) else (some false))) else (some false))) else (some false))) else (none)) else (some true) : Option (Bool)) := by
  refine LimIs.eq (spec_TableOK.lv3_lim x8 x117000 x117001 x117002 x117003) ?_
  refine LimIs.step (fun k_ => (spec_TableOK.mono_l k_).2.2.2.2.2.2.2 x8 x117000 x117001 x117002 x117003) ?_
  simp only [spec_TableOK.l3]
  repeat' (with_reducible first | exact spec_TableOK.lv3_lim _ _ _ _ _ | exact spec_l01In.v_lim _ _ _ | exact spec_l05Answer.v_lim _ _ _ _ | exact LimIs.const _ | refine LimIs.ite ?_ ?_ | refine LimIs.bind ?_ (fun _ => ?_))
theorem spec_TableOK.v_eq (a0_0 : Int) (a0_1 : Int) (l0_2 : List (S78)) (l0_3 : List (S84)) : spec_TableOK.v a0_0 a0_1 l0_2 l0_3 = ((spec_l01In.v a0_0 0 1000000000).bind fun t117 => (if t117 = true then ((spec_l01In.v a0_1 1 1000000).bind fun t118 => (if t118 = true then (if (l0_2.length : Int) > 4 then (spec_TableOK.jv0 true a0_0 a0_1 l0_2 l0_3) else (spec_TableOK.jv0 (decide ((l0_3.length : Int) > 6)) a0_0 a0_1 l0_2 l0_3)) else (spec_TableOK.jv0 true a0_0 a0_1 l0_2 l0_3))) else (spec_TableOK.jv0 true a0_0 a0_1 l0_2 l0_3)) : Option (Bool)) := by
  refine LimIs.eq (spec_TableOK.v_lim a0_0 a0_1 l0_2 l0_3) ?_
  simp only [spec_TableOK.f]
  repeat' (with_reducible first | exact spec_TableOK.jv0_lim _ _ _ _ _ | exact spec_l01In.v_lim _ _ _ | exact LimIs.const _ | refine LimIs.ite ?_ ?_ | refine LimIs.bind ?_ (fun _ => ?_))
mutual
def spec_l05Read.l0 : Nat → Int → ByteArray → Bool → Int → Int → List (S78) → List (S84) → Option (Int × Int × (List (S78)) × (List (S84)) × Bool)
  | 0, _, _, _, _, _, _, _ => none
  | k + 1, x6, x142000, x142001, x152000, x152001, x152002, x152003 => if x6 > 0 then (spec_l05Read.j1 k x6 (!x142001) x142000 x142001 x152000 x152001 x152002 x152003) else (spec_l05Read.j1 k x6 false x142000 x142001 x152000 x152001 x152002 x152003)
def spec_l05Read.j1 : Nat → Int → Bool → ByteArray → Bool → Int → Int → List (S78) → List (S84) → Option (Int × Int × (List (S78)) × (List (S84)) × Bool)
  | 0, _, _, _, _, _, _, _, _ => none
  | k + 1, x6, x34, x142000, x142001, x152000, x152001, x152002, x152003 => if x34 = true then ((spec_l05Reader_number.f k x142000 x142001 1).bind fun bt158 => ((spec_l05Reader_text.f bt158.2.1 bt158.2.2 bt158.1).bind fun bt161 => ((spec_l05Reader_number.f k bt161.2.1 bt161.2.2 3).bind fun bt168 => ((spec_l05Reader_number.f k bt168.2.1 bt168.2.2 2).bind fun bt171 => ((spec_l05Reader_number.f k bt171.2.1 bt171.2.2 4).bind fun bt174 => ((spec_l05Reader_number.f k bt174.2.1 bt174.2.2 1).bind fun bt177 => (spec_l05Read.l1 k x6 bt177.1 bt177.2.1 bt177.2.2 x152000 x152001 x152002 x152003 bt161.1 bt168.1 (wrap64 (bt171.1 - 1)) bt174.1 (([] : List (S80)))))))))) else ((spec_l05Reader_number.f k x142000 x142001 1).bind fun bt192 => (spec_l05Read.l2 k bt192.1 bt192.2.1 bt192.2.2 x152000 x152001 x152002 x152003))
def spec_l05Read.l1 : Nat → Int → Int → ByteArray → Bool → Int → Int → List (S78) → List (S84) → ByteArray → Int → Int → Int → List (S80) → Option (Int × Int × (List (S78)) × (List (S84)) × Bool)
  | 0, _, _, _, _, _, _, _, _, _, _, _, _, _ => none
  | k + 1, x6, x9, x142000, x142001, x152000, x152001, x152002, x152003, x168000, x168001, x168002, x168003, x168004 => if x9 > 0 then (spec_l05Read.j3 k x6 x9 (!x142001) x142000 x142001 x152000 x152001 x152002 x152003 x168000 x168001 x168002 x168003 x168004) else (spec_l05Read.j3 k x6 x9 false x142000 x142001 x152000 x152001 x152002 x152003 x168000 x168001 x168002 x168003 x168004)
def spec_l05Read.j3 : Nat → Int → Int → Bool → ByteArray → Bool → Int → Int → List (S78) → List (S84) → ByteArray → Int → Int → Int → List (S80) → Option (Int × Int × (List (S78)) × (List (S84)) × Bool)
  | 0, _, _, _, _, _, _, _, _, _, _, _, _, _, _ => none
  | k + 1, x6, x9, x64, x142000, x142001, x152000, x152001, x152002, x152003, x168000, x168001, x168002, x168003, x168004 => if x64 = true then ((spec_l05Reader_number.f k x142000 x142001 1).bind fun bt180 => ((spec_l05Reader_number.f k bt180.2.1 bt180.2.2 2).bind fun bt183 => (if x168004.length < 8796093022208 then (spec_l05Read.l1 k x6 (wrap64 (x9 - 1)) bt183.2.1 bt183.2.2 x152000 x152001 x152002 x152003 x168000 x168001 x168002 x168003 (x168004 ++ [(⟨bt180.1, bt183.1⟩ : S80)])) else (none)))) else (if x152002.length < 2199023255552 then (spec_l05Read.l0 k (wrap64 (x6 - 1)) x142000 x142001 x152000 x152001 (x152002 ++ [(⟨x168000, x168001, x168002, x168003, x168004⟩ : S78)]) x152003) else (none))
def spec_l05Read.l2 : Nat → Int → ByteArray → Bool → Int → Int → List (S78) → List (S84) → Option (Int × Int × (List (S78)) × (List (S84)) × Bool)
  | 0, _, _, _, _, _, _, _ => none
  | k + 1, x11, x142000, x142001, x152000, x152001, x152002, x152003 => if x11 > 0 then (spec_l05Read.j5 k x11 (!x142001) x142000 x142001 x152000 x152001 x152002 x152003) else (spec_l05Read.j5 k x11 false x142000 x142001 x152000 x152001 x152002 x152003)
def spec_l05Read.j5 : Nat → Int → Bool → ByteArray → Bool → Int → Int → List (S78) → List (S84) → Option (Int × Int × (List (S78)) × (List (S84)) × Bool)
  | 0, _, _, _, _, _, _, _, _ => none
  | k + 1, x11, x94, x142000, x142001, x152000, x152001, x152002, x152003 => if x94 = true then ((spec_l05Reader_number.f k x142000 x142001 1).bind fun bt196 => ((spec_l05Reader_number.f k bt196.2.1 bt196.2.2 2).bind fun bt200 => ((spec_l05Reader_number.f k bt200.2.1 bt200.2.2 1).bind fun bt203 => ((spec_l05Reader_number.f k bt203.2.1 bt203.2.2 3).bind fun bt206 => ((spec_l05Reader_number.f k bt206.2.1 bt206.2.2 2).bind fun bt209 => ((spec_l05Reader_number.f k bt209.2.1 bt209.2.2 4).bind fun bt212 => (if x152003.length < 2932031007402 then (spec_l05Read.l2 k (wrap64 (x11 - 1)) bt212.2.1 bt212.2.2 x152000 x152001 x152002 (x152003 ++ [(⟨bt196.1, bt200.1, (⟨bt203.1, bt206.1, wrap64 (bt209.1 - 1), bt212.1⟩ : S82)⟩ : S84)])) else (none)))))))) else (if x142001 = true then (some (x152000, x152001, x152002, x152003, false)) else (if x142000.toList = ([] : List UInt8) then ((spec_TableOK.f k x152000 x152001 x152002 x152003).bind fun t195 => (some (x152000, x152001, x152002, x152003, t195))) else (some (x152000, x152001, x152002, x152003, false))))
end
def spec_l05Read.f (k : Nat) (a0 : ByteArray) : Option (Int × Int × (List (S78)) × (List (S84)) × Bool) := (spec_l05Reader_number.f k a0 false 4).bind fun bt142 => ((spec_l05Reader_number.f k bt142.2.1 bt142.2.2 3).bind fun bt152 => ((spec_l05Reader_number.f k bt152.2.1 bt152.2.2 1).bind fun bt155 => (spec_l05Read.l0 k bt155.1 bt155.2.1 bt155.2.2 bt142.1 bt152.1 (([] : List (S78))) (([] : List (S84))))))
theorem spec_l05Read.mono_l : ∀ k, (∀ y0 y1 y2 y3 y4 y5 y6, LeO (spec_l05Read.l0 k y0 y1 y2 y3 y4 y5 y6) (spec_l05Read.l0 (k + 1) y0 y1 y2 y3 y4 y5 y6)) ∧ (∀ y0 y1 y2 y3 y4 y5 y6 y7, LeO (spec_l05Read.j1 k y0 y1 y2 y3 y4 y5 y6 y7) (spec_l05Read.j1 (k + 1) y0 y1 y2 y3 y4 y5 y6 y7)) ∧ (∀ y0 y1 y2 y3 y4 y5 y6 y7 y8 y9 y10 y11 y12, LeO (spec_l05Read.l1 k y0 y1 y2 y3 y4 y5 y6 y7 y8 y9 y10 y11 y12) (spec_l05Read.l1 (k + 1) y0 y1 y2 y3 y4 y5 y6 y7 y8 y9 y10 y11 y12)) ∧ (∀ y0 y1 y2 y3 y4 y5 y6 y7 y8 y9 y10 y11 y12 y13, LeO (spec_l05Read.j3 k y0 y1 y2 y3 y4 y5 y6 y7 y8 y9 y10 y11 y12 y13) (spec_l05Read.j3 (k + 1) y0 y1 y2 y3 y4 y5 y6 y7 y8 y9 y10 y11 y12 y13)) ∧ (∀ y0 y1 y2 y3 y4 y5 y6, LeO (spec_l05Read.l2 k y0 y1 y2 y3 y4 y5 y6) (spec_l05Read.l2 (k + 1) y0 y1 y2 y3 y4 y5 y6)) ∧ (∀ y0 y1 y2 y3 y4 y5 y6 y7, LeO (spec_l05Read.j5 k y0 y1 y2 y3 y4 y5 y6 y7) (spec_l05Read.j5 (k + 1) y0 y1 y2 y3 y4 y5 y6 y7))
  | 0 => ⟨fun _ _ _ _ _ _ _ r h => by simp [spec_l05Read.l0] at h, fun _ _ _ _ _ _ _ _ r h => by simp [spec_l05Read.j1] at h, fun _ _ _ _ _ _ _ _ _ _ _ _ _ r h => by simp [spec_l05Read.l1] at h, fun _ _ _ _ _ _ _ _ _ _ _ _ _ _ r h => by simp [spec_l05Read.j3] at h, fun _ _ _ _ _ _ _ r h => by simp [spec_l05Read.l2] at h, fun _ _ _ _ _ _ _ _ r h => by simp [spec_l05Read.j5] at h⟩
  | k + 1 => by
    obtain ⟨ih0, ih1, ih2, ih3, ih4, ih5⟩ := spec_l05Read.mono_l k
    refine ⟨?_, ?_, ?_, ?_, ?_, ?_⟩
    · intro y0 y1 y2 y3 y4 y5 y6
      unfold spec_l05Read.l0
      repeat' first
      | (with_reducible exact ih0 _ _ _ _ _ _ _)
      | (with_reducible exact ih1 _ _ _ _ _ _ _ _)
      | (with_reducible exact ih2 _ _ _ _ _ _ _ _ _ _ _ _ _)
      | (with_reducible exact ih3 _ _ _ _ _ _ _ _ _ _ _ _ _ _)
      | (with_reducible exact ih4 _ _ _ _ _ _ _)
      | (with_reducible exact ih5 _ _ _ _ _ _ _ _)
      | (with_reducible exact spec_TableOK.mono _ _ _ _ _)
      | (with_reducible exact spec_l05Reader_number.mono _ _ _ _)
      | (with_reducible exact LeO.refl _)
      | (with_reducible exact LeO.none _)
      | (with_reducible refine LeO.ite ?_ ?_)
      | (with_reducible refine LeO.bind ?_ (fun _ => ?_))
      | exact ih0 _ _ _ _ _ _ _
      | exact ih1 _ _ _ _ _ _ _ _
      | exact ih2 _ _ _ _ _ _ _ _ _ _ _ _ _
      | exact ih3 _ _ _ _ _ _ _ _ _ _ _ _ _ _
      | exact ih4 _ _ _ _ _ _ _
      | exact ih5 _ _ _ _ _ _ _ _
      | exact spec_TableOK.mono _ _ _ _ _
      | exact spec_l05Reader_number.mono _ _ _ _
      | exact LeO.none _
      | refine LeO.ite ?_ ?_
      | refine LeO.bind ?_ (fun _ => ?_)
    · intro y0 y1 y2 y3 y4 y5 y6 y7
      unfold spec_l05Read.j1
      repeat' first
      | (with_reducible exact ih0 _ _ _ _ _ _ _)
      | (with_reducible exact ih1 _ _ _ _ _ _ _ _)
      | (with_reducible exact ih2 _ _ _ _ _ _ _ _ _ _ _ _ _)
      | (with_reducible exact ih3 _ _ _ _ _ _ _ _ _ _ _ _ _ _)
      | (with_reducible exact ih4 _ _ _ _ _ _ _)
      | (with_reducible exact ih5 _ _ _ _ _ _ _ _)
      | (with_reducible exact spec_TableOK.mono _ _ _ _ _)
      | (with_reducible exact spec_l05Reader_number.mono _ _ _ _)
      | (with_reducible exact LeO.refl _)
      | (with_reducible exact LeO.none _)
      | (with_reducible refine LeO.ite ?_ ?_)
      | (with_reducible refine LeO.bind ?_ (fun _ => ?_))
      | exact ih0 _ _ _ _ _ _ _
      | exact ih1 _ _ _ _ _ _ _ _
      | exact ih2 _ _ _ _ _ _ _ _ _ _ _ _ _
      | exact ih3 _ _ _ _ _ _ _ _ _ _ _ _ _ _
      | exact ih4 _ _ _ _ _ _ _
      | exact ih5 _ _ _ _ _ _ _ _
      | exact spec_TableOK.mono _ _ _ _ _
      | exact spec_l05Reader_number.mono _ _ _ _
      | exact LeO.none _
      | refine LeO.ite ?_ ?_
      | refine LeO.bind ?_ (fun _ => ?_)
    · intro y0 y1 y2 y3 y4 y5 y6 y7 y8 y9 y10 y11 y12
      unfold spec_l05Read.l1
      repeat' first
      | (with_reducible exact ih0 _ _ _ _ _ _ _)
      | (with_reducible exact ih1 _ _ _ _ _ _ _ _)
      | (with_reducible exact ih2 _ _ _ _ _ _ _ _ _ _ _ _ _)
      | (with_reducible exact ih3 _ _ _ _ _ _ _ _ _ _ _ _ _ _)
      | (with_reducible exact ih4 _ _ _ _ _ _ _)
      | (with_reducible exact ih5 _ _ _ _ _ _ _ _)
      | (with_reducible exact spec_TableOK.mono _ _ _ _ _)
      | (with_reducible exact spec_l05Reader_number.mono _ _ _ _)
      | (with_reducible exact LeO.refl _)
      | (with_reducible exact LeO.none _)
      | (with_reducible refine LeO.ite ?_ ?_)
      | (with_reducible refine LeO.bind ?_ (fun _ => ?_))
      | exact ih0 _ _ _ _ _ _ _
      | exact ih1 _ _ _ _ _ _ _ _
      | exact ih2 _ _ _ _ _ _ _ _ _ _ _ _ _
      | exact ih3 _ _ _ _ _ _ _ _ _ _ _ _ _ _
      | exact ih4 _ _ _ _ _ _ _
      | exact ih5 _ _ _ _ _ _ _ _
      | exact spec_TableOK.mono _ _ _ _ _
      | exact spec_l05Reader_number.mono _ _ _ _
      | exact LeO.none _
      | refine LeO.ite ?_ ?_
      | refine LeO.bind ?_ (fun _ => ?_)
    · intro y0 y1 y2 y3 y4 y5 y6 y7 y8 y9 y10 y11 y12 y13
      unfold spec_l05Read.j3
      repeat' first
      | (with_reducible exact ih0 _ _ _ _ _ _ _)
      | (with_reducible exact ih1 _ _ _ _ _ _ _ _)
      | (with_reducible exact ih2 _ _ _ _ _ _ _ _ _ _ _ _ _)
      | (with_reducible exact ih3 _ _ _ _ _ _ _ _ _ _ _ _ _ _)
      | (with_reducible exact ih4 _ _ _ _ _ _ _)
      | (with_reducible exact ih5 _ _ _ _ _ _ _ _)
      | (with_reducible exact spec_TableOK.mono _ _ _ _ _)
      | (with_reducible exact spec_l05Reader_number.mono _ _ _ _)
      | (with_reducible exact LeO.refl _)
      | (with_reducible exact LeO.none _)
      | (with_reducible refine LeO.ite ?_ ?_)
      | (with_reducible refine LeO.bind ?_ (fun _ => ?_))
      | exact ih0 _ _ _ _ _ _ _
      | exact ih1 _ _ _ _ _ _ _ _
      | exact ih2 _ _ _ _ _ _ _ _ _ _ _ _ _
      | exact ih3 _ _ _ _ _ _ _ _ _ _ _ _ _ _
      | exact ih4 _ _ _ _ _ _ _
      | exact ih5 _ _ _ _ _ _ _ _
      | exact spec_TableOK.mono _ _ _ _ _
      | exact spec_l05Reader_number.mono _ _ _ _
      | exact LeO.none _
      | refine LeO.ite ?_ ?_
      | refine LeO.bind ?_ (fun _ => ?_)
    · intro y0 y1 y2 y3 y4 y5 y6
      unfold spec_l05Read.l2
      repeat' first
      | (with_reducible exact ih0 _ _ _ _ _ _ _)
      | (with_reducible exact ih1 _ _ _ _ _ _ _ _)
      | (with_reducible exact ih2 _ _ _ _ _ _ _ _ _ _ _ _ _)
      | (with_reducible exact ih3 _ _ _ _ _ _ _ _ _ _ _ _ _ _)
      | (with_reducible exact ih4 _ _ _ _ _ _ _)
      | (with_reducible exact ih5 _ _ _ _ _ _ _ _)
      | (with_reducible exact spec_TableOK.mono _ _ _ _ _)
      | (with_reducible exact spec_l05Reader_number.mono _ _ _ _)
      | (with_reducible exact LeO.refl _)
      | (with_reducible exact LeO.none _)
      | (with_reducible refine LeO.ite ?_ ?_)
      | (with_reducible refine LeO.bind ?_ (fun _ => ?_))
      | exact ih0 _ _ _ _ _ _ _
      | exact ih1 _ _ _ _ _ _ _ _
      | exact ih2 _ _ _ _ _ _ _ _ _ _ _ _ _
      | exact ih3 _ _ _ _ _ _ _ _ _ _ _ _ _ _
      | exact ih4 _ _ _ _ _ _ _
      | exact ih5 _ _ _ _ _ _ _ _
      | exact spec_TableOK.mono _ _ _ _ _
      | exact spec_l05Reader_number.mono _ _ _ _
      | exact LeO.none _
      | refine LeO.ite ?_ ?_
      | refine LeO.bind ?_ (fun _ => ?_)
    · intro y0 y1 y2 y3 y4 y5 y6 y7
      unfold spec_l05Read.j5
      repeat' first
      | (with_reducible exact ih0 _ _ _ _ _ _ _)
      | (with_reducible exact ih1 _ _ _ _ _ _ _ _)
      | (with_reducible exact ih2 _ _ _ _ _ _ _ _ _ _ _ _ _)
      | (with_reducible exact ih3 _ _ _ _ _ _ _ _ _ _ _ _ _ _)
      | (with_reducible exact ih4 _ _ _ _ _ _ _)
      | (with_reducible exact ih5 _ _ _ _ _ _ _ _)
      | (with_reducible exact spec_TableOK.mono _ _ _ _ _)
      | (with_reducible exact spec_l05Reader_number.mono _ _ _ _)
      | (with_reducible exact LeO.refl _)
      | (with_reducible exact LeO.none _)
      | (with_reducible refine LeO.ite ?_ ?_)
      | (with_reducible refine LeO.bind ?_ (fun _ => ?_))
      | exact ih0 _ _ _ _ _ _ _
      | exact ih1 _ _ _ _ _ _ _ _
      | exact ih2 _ _ _ _ _ _ _ _ _ _ _ _ _
      | exact ih3 _ _ _ _ _ _ _ _ _ _ _ _ _ _
      | exact ih4 _ _ _ _ _ _ _
      | exact ih5 _ _ _ _ _ _ _ _
      | exact spec_TableOK.mono _ _ _ _ _
      | exact spec_l05Reader_number.mono _ _ _ _
      | exact LeO.none _
      | refine LeO.ite ?_ ?_
      | refine LeO.bind ?_ (fun _ => ?_)
theorem spec_l05Read.mono : ∀ a0 k, LeO (spec_l05Read.f k a0) (spec_l05Read.f (k + 1) a0) := by
  intro a0 k
  obtain ⟨ih0, ih1, ih2, ih3, ih4, ih5⟩ := spec_l05Read.mono_l k
  unfold spec_l05Read.f
  repeat' first
      | (with_reducible exact ih0 _ _ _ _ _ _ _)
      | (with_reducible exact ih1 _ _ _ _ _ _ _ _)
      | (with_reducible exact ih2 _ _ _ _ _ _ _ _ _ _ _ _ _)
      | (with_reducible exact ih3 _ _ _ _ _ _ _ _ _ _ _ _ _ _)
      | (with_reducible exact ih4 _ _ _ _ _ _ _)
      | (with_reducible exact ih5 _ _ _ _ _ _ _ _)
      | (with_reducible exact spec_TableOK.mono _ _ _ _ _)
      | (with_reducible exact spec_l05Reader_number.mono _ _ _ _)
      | (with_reducible exact LeO.refl _)
      | (with_reducible exact LeO.none _)
      | (with_reducible refine LeO.ite ?_ ?_)
      | (with_reducible refine LeO.bind ?_ (fun _ => ?_))
      | exact ih0 _ _ _ _ _ _ _
      | exact ih1 _ _ _ _ _ _ _ _
      | exact ih2 _ _ _ _ _ _ _ _ _ _ _ _ _
      | exact ih3 _ _ _ _ _ _ _ _ _ _ _ _ _ _
      | exact ih4 _ _ _ _ _ _ _
      | exact ih5 _ _ _ _ _ _ _ _
      | exact spec_TableOK.mono _ _ _ _ _
      | exact spec_l05Reader_number.mono _ _ _ _
      | exact LeO.none _
      | refine LeO.ite ?_ ?_
      | refine LeO.bind ?_ (fun _ => ?_)
noncomputable def spec_l05Read.lv0 (x6 : Int) (x142000 : ByteArray) (x142001 : Bool) (x152000 : Int) (x152001 : Int) (x152002 : List (S78)) (x152003 : List (S84)) : Option (Int × Int × (List (S78)) × (List (S84)) × Bool) := lim (fun k_ => spec_l05Read.l0 k_ x6 x142000 x142001 x152000 x152001 x152002 x152003)
noncomputable def spec_l05Read.jv1 (x6 : Int) (x34 : Bool) (x142000 : ByteArray) (x142001 : Bool) (x152000 : Int) (x152001 : Int) (x152002 : List (S78)) (x152003 : List (S84)) : Option (Int × Int × (List (S78)) × (List (S84)) × Bool) := lim (fun k_ => spec_l05Read.j1 k_ x6 x34 x142000 x142001 x152000 x152001 x152002 x152003)
noncomputable def spec_l05Read.lv1 (x6 : Int) (x9 : Int) (x142000 : ByteArray) (x142001 : Bool) (x152000 : Int) (x152001 : Int) (x152002 : List (S78)) (x152003 : List (S84)) (x168000 : ByteArray) (x168001 : Int) (x168002 : Int) (x168003 : Int) (x168004 : List (S80)) : Option (Int × Int × (List (S78)) × (List (S84)) × Bool) := lim (fun k_ => spec_l05Read.l1 k_ x6 x9 x142000 x142001 x152000 x152001 x152002 x152003 x168000 x168001 x168002 x168003 x168004)
noncomputable def spec_l05Read.jv3 (x6 : Int) (x9 : Int) (x64 : Bool) (x142000 : ByteArray) (x142001 : Bool) (x152000 : Int) (x152001 : Int) (x152002 : List (S78)) (x152003 : List (S84)) (x168000 : ByteArray) (x168001 : Int) (x168002 : Int) (x168003 : Int) (x168004 : List (S80)) : Option (Int × Int × (List (S78)) × (List (S84)) × Bool) := lim (fun k_ => spec_l05Read.j3 k_ x6 x9 x64 x142000 x142001 x152000 x152001 x152002 x152003 x168000 x168001 x168002 x168003 x168004)
noncomputable def spec_l05Read.lv2 (x11 : Int) (x142000 : ByteArray) (x142001 : Bool) (x152000 : Int) (x152001 : Int) (x152002 : List (S78)) (x152003 : List (S84)) : Option (Int × Int × (List (S78)) × (List (S84)) × Bool) := lim (fun k_ => spec_l05Read.l2 k_ x11 x142000 x142001 x152000 x152001 x152002 x152003)
noncomputable def spec_l05Read.jv5 (x11 : Int) (x94 : Bool) (x142000 : ByteArray) (x142001 : Bool) (x152000 : Int) (x152001 : Int) (x152002 : List (S78)) (x152003 : List (S84)) : Option (Int × Int × (List (S78)) × (List (S84)) × Bool) := lim (fun k_ => spec_l05Read.j5 k_ x11 x94 x142000 x142001 x152000 x152001 x152002 x152003)
noncomputable def spec_l05Read.v (a0 : ByteArray) : Option (Int × Int × (List (S78)) × (List (S84)) × Bool) := lim (fun k_ => spec_l05Read.f k_ a0)
theorem spec_l05Read.lv0_lim (x6 : Int) (x142000 : ByteArray) (x142001 : Bool) (x152000 : Int) (x152001 : Int) (x152002 : List (S78)) (x152003 : List (S84)) : LimIs (fun k_ => spec_l05Read.l0 k_ x6 x142000 x142001 x152000 x152001 x152002 x152003) (spec_l05Read.lv0 x6 x142000 x142001 x152000 x152001 x152002 x152003) := lim_is (fun k_ => (spec_l05Read.mono_l k_).1 x6 x142000 x142001 x152000 x152001 x152002 x152003)
theorem spec_l05Read.jv1_lim (x6 : Int) (x34 : Bool) (x142000 : ByteArray) (x142001 : Bool) (x152000 : Int) (x152001 : Int) (x152002 : List (S78)) (x152003 : List (S84)) : LimIs (fun k_ => spec_l05Read.j1 k_ x6 x34 x142000 x142001 x152000 x152001 x152002 x152003) (spec_l05Read.jv1 x6 x34 x142000 x142001 x152000 x152001 x152002 x152003) := lim_is (fun k_ => (spec_l05Read.mono_l k_).2.1 x6 x34 x142000 x142001 x152000 x152001 x152002 x152003)
theorem spec_l05Read.lv1_lim (x6 : Int) (x9 : Int) (x142000 : ByteArray) (x142001 : Bool) (x152000 : Int) (x152001 : Int) (x152002 : List (S78)) (x152003 : List (S84)) (x168000 : ByteArray) (x168001 : Int) (x168002 : Int) (x168003 : Int) (x168004 : List (S80)) : LimIs (fun k_ => spec_l05Read.l1 k_ x6 x9 x142000 x142001 x152000 x152001 x152002 x152003 x168000 x168001 x168002 x168003 x168004) (spec_l05Read.lv1 x6 x9 x142000 x142001 x152000 x152001 x152002 x152003 x168000 x168001 x168002 x168003 x168004) := lim_is (fun k_ => (spec_l05Read.mono_l k_).2.2.1 x6 x9 x142000 x142001 x152000 x152001 x152002 x152003 x168000 x168001 x168002 x168003 x168004)
theorem spec_l05Read.jv3_lim (x6 : Int) (x9 : Int) (x64 : Bool) (x142000 : ByteArray) (x142001 : Bool) (x152000 : Int) (x152001 : Int) (x152002 : List (S78)) (x152003 : List (S84)) (x168000 : ByteArray) (x168001 : Int) (x168002 : Int) (x168003 : Int) (x168004 : List (S80)) : LimIs (fun k_ => spec_l05Read.j3 k_ x6 x9 x64 x142000 x142001 x152000 x152001 x152002 x152003 x168000 x168001 x168002 x168003 x168004) (spec_l05Read.jv3 x6 x9 x64 x142000 x142001 x152000 x152001 x152002 x152003 x168000 x168001 x168002 x168003 x168004) := lim_is (fun k_ => (spec_l05Read.mono_l k_).2.2.2.1 x6 x9 x64 x142000 x142001 x152000 x152001 x152002 x152003 x168000 x168001 x168002 x168003 x168004)
theorem spec_l05Read.lv2_lim (x11 : Int) (x142000 : ByteArray) (x142001 : Bool) (x152000 : Int) (x152001 : Int) (x152002 : List (S78)) (x152003 : List (S84)) : LimIs (fun k_ => spec_l05Read.l2 k_ x11 x142000 x142001 x152000 x152001 x152002 x152003) (spec_l05Read.lv2 x11 x142000 x142001 x152000 x152001 x152002 x152003) := lim_is (fun k_ => (spec_l05Read.mono_l k_).2.2.2.2.1 x11 x142000 x142001 x152000 x152001 x152002 x152003)
theorem spec_l05Read.jv5_lim (x11 : Int) (x94 : Bool) (x142000 : ByteArray) (x142001 : Bool) (x152000 : Int) (x152001 : Int) (x152002 : List (S78)) (x152003 : List (S84)) : LimIs (fun k_ => spec_l05Read.j5 k_ x11 x94 x142000 x142001 x152000 x152001 x152002 x152003) (spec_l05Read.jv5 x11 x94 x142000 x142001 x152000 x152001 x152002 x152003) := lim_is (fun k_ => (spec_l05Read.mono_l k_).2.2.2.2.2 x11 x94 x142000 x142001 x152000 x152001 x152002 x152003)
theorem spec_l05Read.v_lim (a0 : ByteArray) : LimIs (fun k_ => spec_l05Read.f k_ a0) (spec_l05Read.v a0) := lim_is (fun k_ => spec_l05Read.mono a0 k_)
theorem spec_l05Read.lv0_eq (x6 : Int) (x142000 : ByteArray) (x142001 : Bool) (x152000 : Int) (x152001 : Int) (x152002 : List (S78)) (x152003 : List (S84)) : spec_l05Read.lv0 x6 x142000 x142001 x152000 x152001 x152002 x152003 = (if x6 > 0 then (spec_l05Read.jv1 x6 (!x142001) x142000 x142001 x152000 x152001 x152002 x152003) else (spec_l05Read.jv1 x6 false x142000 x142001 x152000 x152001 x152002 x152003) : Option (Int × Int × (List (S78)) × (List (S84)) × Bool)) := by
  refine LimIs.eq (spec_l05Read.lv0_lim x6 x142000 x142001 x152000 x152001 x152002 x152003) ?_
  refine LimIs.step (fun k_ => (spec_l05Read.mono_l k_).1 x6 x142000 x142001 x152000 x152001 x152002 x152003) ?_
  simp only [spec_l05Read.l0]
  repeat' (with_reducible first | exact spec_l05Read.jv1_lim _ _ _ _ _ _ _ _ | exact LimIs.const _ | refine LimIs.ite ?_ ?_ | refine LimIs.bind ?_ (fun _ => ?_))
theorem spec_l05Read.jv1_eq (x6 : Int) (x34 : Bool) (x142000 : ByteArray) (x142001 : Bool) (x152000 : Int) (x152001 : Int) (x152002 : List (S78)) (x152003 : List (S84)) : spec_l05Read.jv1 x6 x34 x142000 x142001 x152000 x152001 x152002 x152003 = (if x34 = true then ((spec_l05Reader_number.v x142000 x142001 1).bind fun bt158 => ((spec_l05Reader_text.v bt158.2.1 bt158.2.2 bt158.1).bind fun bt161 => ((spec_l05Reader_number.v bt161.2.1 bt161.2.2 3).bind fun bt168 => ((spec_l05Reader_number.v bt168.2.1 bt168.2.2 2).bind fun bt171 => ((spec_l05Reader_number.v bt171.2.1 bt171.2.2 4).bind fun bt174 => ((spec_l05Reader_number.v bt174.2.1 bt174.2.2 1).bind fun bt177 => (spec_l05Read.lv1 x6 bt177.1 bt177.2.1 bt177.2.2 x152000 x152001 x152002 x152003 bt161.1 bt168.1 (wrap64 (bt171.1 - 1)) bt174.1 (([] : List (S80)))))))))) else ((spec_l05Reader_number.v x142000 x142001 1).bind fun bt192 => (spec_l05Read.lv2 bt192.1 bt192.2.1 bt192.2.2 x152000 x152001 x152002 x152003)) : Option (Int × Int × (List (S78)) × (List (S84)) × Bool)) := by
  refine LimIs.eq (spec_l05Read.jv1_lim x6 x34 x142000 x142001 x152000 x152001 x152002 x152003) ?_
  refine LimIs.step (fun k_ => (spec_l05Read.mono_l k_).2.1 x6 x34 x142000 x142001 x152000 x152001 x152002 x152003) ?_
  simp only [spec_l05Read.j1]
  repeat' (with_reducible first | exact spec_l05Read.lv1_lim _ _ _ _ _ _ _ _ _ _ _ _ _ | exact spec_l05Read.lv2_lim _ _ _ _ _ _ _ | exact spec_l05Reader_number.v_lim _ _ _ | exact spec_l05Reader_text.v_lim _ _ _ | exact LimIs.const _ | refine LimIs.ite ?_ ?_ | refine LimIs.bind ?_ (fun _ => ?_))
theorem spec_l05Read.lv1_eq (x6 : Int) (x9 : Int) (x142000 : ByteArray) (x142001 : Bool) (x152000 : Int) (x152001 : Int) (x152002 : List (S78)) (x152003 : List (S84)) (x168000 : ByteArray) (x168001 : Int) (x168002 : Int) (x168003 : Int) (x168004 : List (S80)) : spec_l05Read.lv1 x6 x9 x142000 x142001 x152000 x152001 x152002 x152003 x168000 x168001 x168002 x168003 x168004 = (if x9 > 0 then (spec_l05Read.jv3 x6 x9 (!x142001) x142000 x142001 x152000 x152001 x152002 x152003 x168000 x168001 x168002 x168003 x168004) else (spec_l05Read.jv3 x6 x9 false x142000 x142001 x152000 x152001 x152002 x152003 x168000 x168001 x168002 x168003 x168004) : Option (Int × Int × (List (S78)) × (List (S84)) × Bool)) := by
  refine LimIs.eq (spec_l05Read.lv1_lim x6 x9 x142000 x142001 x152000 x152001 x152002 x152003 x168000 x168001 x168002 x168003 x168004) ?_
  refine LimIs.step (fun k_ => (spec_l05Read.mono_l k_).2.2.1 x6 x9 x142000 x142001 x152000 x152001 x152002 x152003 x168000 x168001 x168002 x168003 x168004) ?_
  simp only [spec_l05Read.l1]
  repeat' (with_reducible first | exact spec_l05Read.jv3_lim _ _ _ _ _ _ _ _ _ _ _ _ _ _ | exact LimIs.const _ | refine LimIs.ite ?_ ?_ | refine LimIs.bind ?_ (fun _ => ?_))
theorem spec_l05Read.jv3_eq (x6 : Int) (x9 : Int) (x64 : Bool) (x142000 : ByteArray) (x142001 : Bool) (x152000 : Int) (x152001 : Int) (x152002 : List (S78)) (x152003 : List (S84)) (x168000 : ByteArray) (x168001 : Int) (x168002 : Int) (x168003 : Int) (x168004 : List (S80)) : spec_l05Read.jv3 x6 x9 x64 x142000 x142001 x152000 x152001 x152002 x152003 x168000 x168001 x168002 x168003 x168004 = (if x64 = true then ((spec_l05Reader_number.v x142000 x142001 1).bind fun bt180 => ((spec_l05Reader_number.v bt180.2.1 bt180.2.2 2).bind fun bt183 => (if x168004.length < 8796093022208 then (spec_l05Read.lv1 x6 (wrap64 (x9 - 1)) bt183.2.1 bt183.2.2 x152000 x152001 x152002 x152003 x168000 x168001 x168002 x168003 (x168004 ++ [(⟨bt180.1, bt183.1⟩ : S80)])) else (none)))) else (if x152002.length < 2199023255552 then (spec_l05Read.lv0 (wrap64 (x6 - 1)) x142000 x142001 x152000 x152001 (x152002 ++ [(⟨x168000, x168001, x168002, x168003, x168004⟩ : S78)]) x152003) else (none)) : Option (Int × Int × (List (S78)) × (List (S84)) × Bool)) := by
  refine LimIs.eq (spec_l05Read.jv3_lim x6 x9 x64 x142000 x142001 x152000 x152001 x152002 x152003 x168000 x168001 x168002 x168003 x168004) ?_
  refine LimIs.step (fun k_ => (spec_l05Read.mono_l k_).2.2.2.1 x6 x9 x64 x142000 x142001 x152000 x152001 x152002 x152003 x168000 x168001 x168002 x168003 x168004) ?_
  simp only [spec_l05Read.j3]
  repeat' (with_reducible first | exact spec_l05Read.lv0_lim _ _ _ _ _ _ _ | exact spec_l05Read.lv1_lim _ _ _ _ _ _ _ _ _ _ _ _ _ | exact spec_l05Reader_number.v_lim _ _ _ | exact LimIs.const _ | refine LimIs.ite ?_ ?_ | refine LimIs.bind ?_ (fun _ => ?_))
theorem spec_l05Read.lv2_eq (x11 : Int) (x142000 : ByteArray) (x142001 : Bool) (x152000 : Int) (x152001 : Int) (x152002 : List (S78)) (x152003 : List (S84)) : spec_l05Read.lv2 x11 x142000 x142001 x152000 x152001 x152002 x152003 = (if x11 > 0 then (spec_l05Read.jv5 x11 (!x142001) x142000 x142001 x152000 x152001 x152002 x152003) else (spec_l05Read.jv5 x11 false x142000 x142001 x152000 x152001 x152002 x152003) : Option (Int × Int × (List (S78)) × (List (S84)) × Bool)) := by
  refine LimIs.eq (spec_l05Read.lv2_lim x11 x142000 x142001 x152000 x152001 x152002 x152003) ?_
  refine LimIs.step (fun k_ => (spec_l05Read.mono_l k_).2.2.2.2.1 x11 x142000 x142001 x152000 x152001 x152002 x152003) ?_
  simp only [spec_l05Read.l2]
  repeat' (with_reducible first | exact spec_l05Read.jv5_lim _ _ _ _ _ _ _ _ | exact LimIs.const _ | refine LimIs.ite ?_ ?_ | refine LimIs.bind ?_ (fun _ => ?_))
theorem spec_l05Read.jv5_eq (x11 : Int) (x94 : Bool) (x142000 : ByteArray) (x142001 : Bool) (x152000 : Int) (x152001 : Int) (x152002 : List (S78)) (x152003 : List (S84)) : spec_l05Read.jv5 x11 x94 x142000 x142001 x152000 x152001 x152002 x152003 = (if x94 = true then ((spec_l05Reader_number.v x142000 x142001 1).bind fun bt196 => ((spec_l05Reader_number.v bt196.2.1 bt196.2.2 2).bind fun bt200 => ((spec_l05Reader_number.v bt200.2.1 bt200.2.2 1).bind fun bt203 => ((spec_l05Reader_number.v bt203.2.1 bt203.2.2 3).bind fun bt206 => ((spec_l05Reader_number.v bt206.2.1 bt206.2.2 2).bind fun bt209 => ((spec_l05Reader_number.v bt209.2.1 bt209.2.2 4).bind fun bt212 => (if x152003.length < 2932031007402 then (spec_l05Read.lv2 (wrap64 (x11 - 1)) bt212.2.1 bt212.2.2 x152000 x152001 x152002 (x152003 ++ [(⟨bt196.1, bt200.1, (⟨bt203.1, bt206.1, wrap64 (bt209.1 - 1), bt212.1⟩ : S82)⟩ : S84)])) else (none)))))))) else (if x142001 = true then (some (x152000, x152001, x152002, x152003, false)) else (if x142000.toList = ([] : List UInt8) then ((spec_TableOK.v x152000 x152001 x152002 x152003).bind fun t195 => (some (x152000, x152001, x152002, x152003, t195))) else (some (x152000, x152001, x152002, x152003, false)))) : Option (Int × Int × (List (S78)) × (List (S84)) × Bool)) := by
  refine LimIs.eq (spec_l05Read.jv5_lim x11 x94 x142000 x142001 x152000 x152001 x152002 x152003) ?_
  refine LimIs.step (fun k_ => (spec_l05Read.mono_l k_).2.2.2.2.2 x11 x94 x142000 x142001 x152000 x152001 x152002 x152003) ?_
  simp only [spec_l05Read.j5]
  repeat' (with_reducible first | exact spec_TableOK.v_lim _ _ _ _ | exact spec_l05Read.lv2_lim _ _ _ _ _ _ _ | exact spec_l05Reader_number.v_lim _ _ _ | exact LimIs.const _ | refine LimIs.ite ?_ ?_ | refine LimIs.bind ?_ (fun _ => ?_))
theorem spec_l05Read.v_eq (a0 : ByteArray) : spec_l05Read.v a0 = ((spec_l05Reader_number.v a0 false 4).bind fun bt142 => ((spec_l05Reader_number.v bt142.2.1 bt142.2.2 3).bind fun bt152 => ((spec_l05Reader_number.v bt152.2.1 bt152.2.2 1).bind fun bt155 => (spec_l05Read.lv0 bt155.1 bt155.2.1 bt155.2.2 bt142.1 bt152.1 (([] : List (S78))) (([] : List (S84)))))) : Option (Int × Int × (List (S78)) × (List (S84)) × Bool)) := by
  refine LimIs.eq (spec_l05Read.v_lim a0) ?_
  simp only [spec_l05Read.f]
  repeat' (with_reducible first | exact spec_l05Read.lv0_lim _ _ _ _ _ _ _ | exact spec_l05Reader_number.v_lim _ _ _ | exact LimIs.const _ | refine LimIs.ite ?_ ?_ | refine LimIs.bind ?_ (fun _ => ?_))
def spec_ReadTable.f (k : Nat) (l0 : List Int) : Option (Int × Int × (List (S78)) × (List (S84)) × Int) := if (l0.length : Int) > 65536 then (some (0, 0, ([] : List (S78)), ([] : List (S84)), 2)) else ((spec_l05Read.f k (strOfNums l0)).bind fun bt219 => (if bt219.2.2.2.2 = true then (some (bt219.1, bt219.2.1, bt219.2.2.1, bt219.2.2.2.1, 0)) else (some (0, 0, ([] : List (S78)), ([] : List (S84)), 3))))
theorem spec_ReadTable.mono : ∀ a0 k, LeO (spec_ReadTable.f k a0) (spec_ReadTable.f (k + 1) a0) := by
  intro a0 k
  unfold spec_ReadTable.f
  repeat' first
      | (with_reducible exact spec_l05Read.mono _ _)
      | (with_reducible exact LeO.refl _)
      | (with_reducible exact LeO.none _)
      | (with_reducible refine LeO.ite ?_ ?_)
      | (with_reducible refine LeO.bind ?_ (fun _ => ?_))
      | exact spec_l05Read.mono _ _
      | exact LeO.none _
      | refine LeO.ite ?_ ?_
      | refine LeO.bind ?_ (fun _ => ?_)
noncomputable def spec_ReadTable.v (l0 : List Int) : Option (Int × Int × (List (S78)) × (List (S84)) × Int) := lim (fun k_ => spec_ReadTable.f k_ l0)
theorem spec_ReadTable.v_lim (l0 : List Int) : LimIs (fun k_ => spec_ReadTable.f k_ l0) (spec_ReadTable.v l0) := lim_is (fun k_ => spec_ReadTable.mono l0 k_)
theorem spec_ReadTable.v_eq (l0 : List Int) : spec_ReadTable.v l0 = (if (l0.length : Int) > 65536 then (some (0, 0, ([] : List (S78)), ([] : List (S84)), 2)) else ((spec_l05Read.v (strOfNums l0)).bind fun bt219 => (if bt219.2.2.2.2 = true then (some (bt219.1, bt219.2.1, bt219.2.2.1, bt219.2.2.2.1, 0)) else (some (0, 0, ([] : List (S78)), ([] : List (S84)), 3)))) : Option (Int × Int × (List (S78)) × (List (S84)) × Int)) := by
  refine LimIs.eq (spec_ReadTable.v_lim l0) ?_
  simp only [spec_ReadTable.f]
  repeat' (with_reducible first | exact spec_l05Read.v_lim _ | exact LimIs.const _ | refine LimIs.ite ?_ ?_ | refine LimIs.bind ?_ (fun _ => ?_))
def laws_toByteS.l0 : Nat → List Int → List Int → Int → Option (List Int)
  | 0, _, _, _ => none
  | k + 1, x0, x3, x4 => if x4 < (x0.length : Int) then (if 0 ≤ x4 then (if x4 < (x3.length : Int) then (laws_toByteS.l0 k x0 (x3.set (x4 : Int).toNat (rd x0 x4)) (wrap64 (x4 + 1))) else (none)) else (none)) else (some x3)
def laws_toByteS.f (k : Nat) (l0 : List Int) : Option (List Int) := if 0 ≤ (l0.length : Int) then (if ((l0.length : Int) : Int).toNat ≤ 281474976710656 then (laws_toByteS.l0 k l0 (List.replicate ((l0.length : Int) : Int).toNat 0) 0) else (none)) else (none)
theorem laws_toByteS.mono_l : ∀ k, (∀ y0 y1 y2, LeO (laws_toByteS.l0 k y0 y1 y2) (laws_toByteS.l0 (k + 1) y0 y1 y2))
  | 0 => fun _ _ _ r h => by simp [laws_toByteS.l0] at h
  | k + 1 => by
    have ih0 := laws_toByteS.mono_l k
    · intro y0 y1 y2
      unfold laws_toByteS.l0
      repeat' first
      | (with_reducible exact ih0 _ _ _)
      | (with_reducible exact LeO.refl _)
      | (with_reducible exact LeO.none _)
      | (with_reducible refine LeO.ite ?_ ?_)
      | (with_reducible refine LeO.bind ?_ (fun _ => ?_))
      | exact ih0 _ _ _
      | exact LeO.none _
      | refine LeO.ite ?_ ?_
      | refine LeO.bind ?_ (fun _ => ?_)
theorem laws_toByteS.mono : ∀ a0 k, LeO (laws_toByteS.f k a0) (laws_toByteS.f (k + 1) a0) := by
  intro a0 k
  have ih0 := laws_toByteS.mono_l k
  unfold laws_toByteS.f
  repeat' first
      | (with_reducible exact ih0 _ _ _)
      | (with_reducible exact LeO.refl _)
      | (with_reducible exact LeO.none _)
      | (with_reducible refine LeO.ite ?_ ?_)
      | (with_reducible refine LeO.bind ?_ (fun _ => ?_))
      | exact ih0 _ _ _
      | exact LeO.none _
      | refine LeO.ite ?_ ?_
      | refine LeO.bind ?_ (fun _ => ?_)
noncomputable def laws_toByteS.lv0 (x0 : List Int) (x3 : List Int) (x4 : Int) : Option (List Int) := lim (fun k_ => laws_toByteS.l0 k_ x0 x3 x4)
noncomputable def laws_toByteS.v (l0 : List Int) : Option (List Int) := lim (fun k_ => laws_toByteS.f k_ l0)
theorem laws_toByteS.lv0_lim (x0 : List Int) (x3 : List Int) (x4 : Int) : LimIs (fun k_ => laws_toByteS.l0 k_ x0 x3 x4) (laws_toByteS.lv0 x0 x3 x4) := lim_is (fun k_ => (laws_toByteS.mono_l k_) x0 x3 x4)
theorem laws_toByteS.v_lim (l0 : List Int) : LimIs (fun k_ => laws_toByteS.f k_ l0) (laws_toByteS.v l0) := lim_is (fun k_ => laws_toByteS.mono l0 k_)
theorem laws_toByteS.lv0_eq (x0 : List Int) (x3 : List Int) (x4 : Int) : laws_toByteS.lv0 x0 x3 x4 = (if x4 < (x0.length : Int) then (if 0 ≤ x4 then (if x4 < (x3.length : Int) then (laws_toByteS.lv0 x0 (x3.set (x4 : Int).toNat (rd x0 x4)) (wrap64 (x4 + 1))) else (none)) else (none)) else (some x3) : Option (List Int)) := by
  refine LimIs.eq (laws_toByteS.lv0_lim x0 x3 x4) ?_
  refine LimIs.step (fun k_ => (laws_toByteS.mono_l k_) x0 x3 x4) ?_
  simp only [laws_toByteS.l0]
  repeat' (with_reducible first | exact laws_toByteS.lv0_lim _ _ _ | exact LimIs.const _ | refine LimIs.ite ?_ ?_ | refine LimIs.bind ?_ (fun _ => ?_))
theorem laws_toByteS.v_eq (l0 : List Int) : laws_toByteS.v l0 = (if 0 ≤ (l0.length : Int) then (if ((l0.length : Int) : Int).toNat ≤ 281474976710656 then (laws_toByteS.lv0 l0 (List.replicate ((l0.length : Int) : Int).toNat 0) 0) else (none)) else (none) : Option (List Int)) := by
  refine LimIs.eq (laws_toByteS.v_lim l0) ?_
  simp only [laws_toByteS.f]
  repeat' (with_reducible first | exact laws_toByteS.lv0_lim _ _ _ | exact LimIs.const _ | refine LimIs.ite ?_ ?_ | refine LimIs.bind ?_ (fun _ => ?_))
def impl_reader_take.f (s0_0 : ByteArray) (s0_1 : Bool) (a1 : Int) : Option (ByteArray × ByteArray × Bool) := if s0_1 = true then (some ((⟨#[]⟩ : ByteArray), s0_0, true)) else (if a1 > (s0_0.size : Int) then (some ((⟨#[]⟩ : ByteArray), s0_0, true)) else (if 0 ≤ a1 then (if a1 ≤ (s0_0.size : Int) then (some (s0_0.extract 0 (a1 : Int).toNat, s0_0.extract (a1 : Int).toNat s0_0.size, s0_1)) else (none)) else (none)))
def impl_reader_take.v (s0_0 : ByteArray) (s0_1 : Bool) (a1 : Int) : Option (ByteArray × ByteArray × Bool) := impl_reader_take.f s0_0 s0_1 a1
theorem impl_reader_take.v_lim (s0_0 : ByteArray) (s0_1 : Bool) (a1 : Int) : LimIs (fun _ => impl_reader_take.f s0_0 s0_1 a1) (impl_reader_take.v s0_0 s0_1 a1) := LimIs.const _
theorem impl_reader_take.v_eq (s0_0 : ByteArray) (s0_1 : Bool) (a1 : Int) : impl_reader_take.v s0_0 s0_1 a1 = (if s0_1 = true then (some ((⟨#[]⟩ : ByteArray), s0_0, true)) else (if a1 > (s0_0.size : Int) then (some ((⟨#[]⟩ : ByteArray), s0_0, true)) else (if 0 ≤ a1 then (if a1 ≤ (s0_0.size : Int) then (some (s0_0.extract 0 (a1 : Int).toNat, s0_0.extract (a1 : Int).toNat s0_0.size, s0_1)) else (none)) else (none))) : Option (ByteArray × ByteArray × Bool)) := rfl
def impl_reader_number.l0 : Nat → Int → List Int → Int → Int → ByteArray → Bool → Option (Int × ByteArray × Bool)
  | 0, _, _, _, _, _, _ => none
  | k + 1, x5, x11, x12, x13, x1000, x1001 => if x13 < x12 then (if 0 ≤ x13 then (if x13 < (x11.length : Int) then (impl_reader_number.l0 k (Go.bits .or .i64 (wrap64 (x5 * 256)) (wrap64 (rd x11 x13))) x11 x12 (wrap64 (x13 + 1)) x1000 x1001) else (none)) else (none)) else (some (x5, x1000, x1001))
def impl_reader_number.f (k : Nat) (s0_0 : ByteArray) (s0_1 : Bool) (a1 : Int) : Option (Int × ByteArray × Bool) := (impl_reader_take.f s0_0 s0_1 a1).bind fun bt234 => (if bt234.1.size ≤ 140737488355328 then ((some (bytesOf bt234.1 : List Int)).bind fun y237 => (impl_reader_number.l0 k 0 y237 (y237.length : Int) 0 bt234.2.1 bt234.2.2)) else (none))
theorem impl_reader_number.mono_l : ∀ k, (∀ y0 y1 y2 y3 y4 y5, LeO (impl_reader_number.l0 k y0 y1 y2 y3 y4 y5) (impl_reader_number.l0 (k + 1) y0 y1 y2 y3 y4 y5))
  | 0 => fun _ _ _ _ _ _ r h => by simp [impl_reader_number.l0] at h
  | k + 1 => by
    have ih0 := impl_reader_number.mono_l k
    · intro y0 y1 y2 y3 y4 y5
      unfold impl_reader_number.l0
      repeat' first
      | (with_reducible exact ih0 _ _ _ _ _ _)
      | (with_reducible exact LeO.refl _)
      | (with_reducible exact LeO.none _)
      | (with_reducible refine LeO.ite ?_ ?_)
      | (with_reducible refine LeO.bind ?_ (fun _ => ?_))
      | exact ih0 _ _ _ _ _ _
      | exact LeO.none _
      | refine LeO.ite ?_ ?_
      | refine LeO.bind ?_ (fun _ => ?_)
theorem impl_reader_number.mono : ∀ a0 a1 a2 k, LeO (impl_reader_number.f k a0 a1 a2) (impl_reader_number.f (k + 1) a0 a1 a2) := by
  intro a0 a1 a2 k
  have ih0 := impl_reader_number.mono_l k
  unfold impl_reader_number.f
  repeat' first
      | (with_reducible exact ih0 _ _ _ _ _ _)
      | (with_reducible exact LeO.refl _)
      | (with_reducible exact LeO.none _)
      | (with_reducible refine LeO.ite ?_ ?_)
      | (with_reducible refine LeO.bind ?_ (fun _ => ?_))
      | exact ih0 _ _ _ _ _ _
      | exact LeO.none _
      | refine LeO.ite ?_ ?_
      | refine LeO.bind ?_ (fun _ => ?_)
noncomputable def impl_reader_number.lv0 (x5 : Int) (x11 : List Int) (x12 : Int) (x13 : Int) (x1000 : ByteArray) (x1001 : Bool) : Option (Int × ByteArray × Bool) := lim (fun k_ => impl_reader_number.l0 k_ x5 x11 x12 x13 x1000 x1001)
noncomputable def impl_reader_number.v (s0_0 : ByteArray) (s0_1 : Bool) (a1 : Int) : Option (Int × ByteArray × Bool) := lim (fun k_ => impl_reader_number.f k_ s0_0 s0_1 a1)
theorem impl_reader_number.lv0_lim (x5 : Int) (x11 : List Int) (x12 : Int) (x13 : Int) (x1000 : ByteArray) (x1001 : Bool) : LimIs (fun k_ => impl_reader_number.l0 k_ x5 x11 x12 x13 x1000 x1001) (impl_reader_number.lv0 x5 x11 x12 x13 x1000 x1001) := lim_is (fun k_ => (impl_reader_number.mono_l k_) x5 x11 x12 x13 x1000 x1001)
theorem impl_reader_number.v_lim (s0_0 : ByteArray) (s0_1 : Bool) (a1 : Int) : LimIs (fun k_ => impl_reader_number.f k_ s0_0 s0_1 a1) (impl_reader_number.v s0_0 s0_1 a1) := lim_is (fun k_ => impl_reader_number.mono s0_0 s0_1 a1 k_)
theorem impl_reader_number.lv0_eq (x5 : Int) (x11 : List Int) (x12 : Int) (x13 : Int) (x1000 : ByteArray) (x1001 : Bool) : impl_reader_number.lv0 x5 x11 x12 x13 x1000 x1001 = (if x13 < x12 then (if 0 ≤ x13 then (if x13 < (x11.length : Int) then (impl_reader_number.lv0 (Go.bits .or .i64 (wrap64 (x5 * 256)) (wrap64 (rd x11 x13))) x11 x12 (wrap64 (x13 + 1)) x1000 x1001) else (none)) else (none)) else (some (x5, x1000, x1001)) : Option (Int × ByteArray × Bool)) := by
  refine LimIs.eq (impl_reader_number.lv0_lim x5 x11 x12 x13 x1000 x1001) ?_
  refine LimIs.step (fun k_ => (impl_reader_number.mono_l k_) x5 x11 x12 x13 x1000 x1001) ?_
  simp only [impl_reader_number.l0]
  repeat' (with_reducible first | exact impl_reader_number.lv0_lim _ _ _ _ _ _ | exact LimIs.const _ | refine LimIs.ite ?_ ?_ | refine LimIs.bind ?_ (fun _ => ?_))
theorem impl_reader_number.v_eq (s0_0 : ByteArray) (s0_1 : Bool) (a1 : Int) : impl_reader_number.v s0_0 s0_1 a1 = ((impl_reader_take.v s0_0 s0_1 a1).bind fun bt234 => (if bt234.1.size ≤ 140737488355328 then ((some (bytesOf bt234.1 : List Int)).bind fun y237 => (impl_reader_number.lv0 0 y237 (y237.length : Int) 0 bt234.2.1 bt234.2.2)) else (none)) : Option (Int × ByteArray × Bool)) := by
  refine LimIs.eq (impl_reader_number.v_lim s0_0 s0_1 a1) ?_
  simp only [impl_reader_number.f]
  repeat' (with_reducible first | exact impl_reader_number.lv0_lim _ _ _ _ _ _ | exact impl_reader_take.v_lim _ _ _ | exact LimIs.const _ | refine LimIs.ite ?_ ?_ | refine LimIs.bind ?_ (fun _ => ?_))
def impl_reader_sized.f (k : Nat) (s0_0 : ByteArray) (s0_1 : Bool) (a1 : Int) : Option (ByteArray × ByteArray × Bool) := (impl_reader_number.f k s0_0 s0_1 a1).bind fun bt241 => ((impl_reader_take.f bt241.2.1 bt241.2.2 bt241.1).bind fun bt244 => (some (bt244.1, bt244.2.1, bt244.2.2)))
theorem impl_reader_sized.mono : ∀ a0 a1 a2 k, LeO (impl_reader_sized.f k a0 a1 a2) (impl_reader_sized.f (k + 1) a0 a1 a2) := by
  intro a0 a1 a2 k
  unfold impl_reader_sized.f
  repeat' first
      | (with_reducible exact impl_reader_number.mono _ _ _ _)
      | (with_reducible exact LeO.refl _)
      | (with_reducible exact LeO.none _)
      | (with_reducible refine LeO.ite ?_ ?_)
      | (with_reducible refine LeO.bind ?_ (fun _ => ?_))
      | exact impl_reader_number.mono _ _ _ _
      | exact LeO.none _
      | refine LeO.ite ?_ ?_
      | refine LeO.bind ?_ (fun _ => ?_)
noncomputable def impl_reader_sized.v (s0_0 : ByteArray) (s0_1 : Bool) (a1 : Int) : Option (ByteArray × ByteArray × Bool) := lim (fun k_ => impl_reader_sized.f k_ s0_0 s0_1 a1)
theorem impl_reader_sized.v_lim (s0_0 : ByteArray) (s0_1 : Bool) (a1 : Int) : LimIs (fun k_ => impl_reader_sized.f k_ s0_0 s0_1 a1) (impl_reader_sized.v s0_0 s0_1 a1) := lim_is (fun k_ => impl_reader_sized.mono s0_0 s0_1 a1 k_)
theorem impl_reader_sized.v_eq (s0_0 : ByteArray) (s0_1 : Bool) (a1 : Int) : impl_reader_sized.v s0_0 s0_1 a1 = ((impl_reader_number.v s0_0 s0_1 a1).bind fun bt241 => ((impl_reader_take.v bt241.2.1 bt241.2.2 bt241.1).bind fun bt244 => (some (bt244.1, bt244.2.1, bt244.2.2))) : Option (ByteArray × ByteArray × Bool)) := by
  refine LimIs.eq (impl_reader_sized.v_lim s0_0 s0_1 a1) ?_
  simp only [impl_reader_sized.f]
  repeat' (with_reducible first | exact impl_reader_number.v_lim _ _ _ | exact impl_reader_take.v_lim _ _ _ | exact LimIs.const _ | refine LimIs.ite ?_ ?_ | refine LimIs.bind ?_ (fun _ => ?_))
def impl_reader_done.f (s0_0 : ByteArray) (s0_1 : Bool) : Option (Bool × ByteArray × Bool) := if s0_1 = true then (some (false, s0_0, s0_1)) else (some ((s0_0.toList == ([] : List UInt8)), s0_0, s0_1))
def impl_reader_done.v (s0_0 : ByteArray) (s0_1 : Bool) : Option (Bool × ByteArray × Bool) := impl_reader_done.f s0_0 s0_1
theorem impl_reader_done.v_lim (s0_0 : ByteArray) (s0_1 : Bool) : LimIs (fun _ => impl_reader_done.f s0_0 s0_1) (impl_reader_done.v s0_0 s0_1) := LimIs.const _
theorem impl_reader_done.v_eq (s0_0 : ByteArray) (s0_1 : Bool) : impl_reader_done.v s0_0 s0_1 = (if s0_1 = true then (some (false, s0_0, s0_1)) else (some ((s0_0.toList == ([] : List UInt8)), s0_0, s0_1)) : Option (Bool × ByteArray × Bool)) := rfl
def impl_within.f (a0 : Int) (a1 : Int) (a2 : Int) : Option (Bool) := if a0 ≥ a1 then (some (decide (a0 ≤ a2))) else (some false)
def impl_within.v (a0 : Int) (a1 : Int) (a2 : Int) : Option (Bool) := impl_within.f a0 a1 a2
theorem impl_within.v_lim (a0 : Int) (a1 : Int) (a2 : Int) : LimIs (fun _ => impl_within.f a0 a1 a2) (impl_within.v a0 a1 a2) := LimIs.const _
theorem impl_within.v_eq (a0 : Int) (a1 : Int) (a2 : Int) : impl_within.v a0 a1 a2 = (if a0 ≥ a1 then (some (decide (a0 ≤ a2))) else (some false) : Option (Bool)) := rfl
def impl_isLetter.f (a0 : Int) : Option (Bool) := if a0 ≥ 97 then (if a0 ≤ 122 then (some true) else (if a0 ≥ 65 then (if a0 ≤ 90 then (some true) else (some (a0 == 95))) else (some (a0 == 95)))) else (if a0 ≥ 65 then (if a0 ≤ 90 then (some true) else (some (a0 == 95))) else (some (a0 == 95)))
def impl_isLetter.v (a0 : Int) : Option (Bool) := impl_isLetter.f a0
theorem impl_isLetter.v_lim (a0 : Int) : LimIs (fun _ => impl_isLetter.f a0) (impl_isLetter.v a0) := LimIs.const _
theorem impl_isLetter.v_eq (a0 : Int) : impl_isLetter.v a0 = (if a0 ≥ 97 then (if a0 ≤ 122 then (some true) else (if a0 ≥ 65 then (if a0 ≤ 90 then (some true) else (some (a0 == 95))) else (some (a0 == 95)))) else (if a0 ≥ 65 then (if a0 ≤ 90 then (some true) else (some (a0 == 95))) else (some (a0 == 95))) : Option (Bool)) := rfl
mutual
def impl_NameOK.j0 : Nat → ByteArray → Bool → Option (Bool)
  | 0, _, _ => none
  | k + 1, x0, x17 => if x17 = true then (some false) else (impl_NameOK.l0 k x0 (x0.size : Int) 0)
def impl_NameOK.l0 : Nat → ByteArray → Int → Int → Option (Bool)
  | 0, _, _, _ => none
  | k + 1, x0, x19, x20 => if x20 < x19 then (if 0 ≤ x20 then (if x20 < (x0.size : Int) then ((impl_isLetter.f (bt x0 x20)).bind fun t248 => (if t248 = true then (impl_NameOK.l0 k x0 x19 (wrap64 (x20 + 1))) else (if (bt x0 x20) < 48 then (some false) else (if (bt x0 x20) > 57 then (some false) else (impl_NameOK.l0 k x0 x19 (wrap64 (x20 + 1))))))) else (none)) else (none)) else (some true)
end
def impl_NameOK.f (k : Nat) (a0 : ByteArray) : Option (Bool) := if (a0.size : Int) < 1 then (impl_NameOK.j0 k a0 true) else (if (a0.size : Int) > 40 then (impl_NameOK.j0 k a0 true) else (if 0 < (a0.size : Int) then ((impl_isLetter.f (bt a0 0)).bind fun t247 => (impl_NameOK.j0 k a0 (!t247))) else (none)))
theorem impl_NameOK.mono_l : ∀ k, (∀ y0 y1, LeO (impl_NameOK.j0 k y0 y1) (impl_NameOK.j0 (k + 1) y0 y1)) ∧ (∀ y0 y1 y2, LeO (impl_NameOK.l0 k y0 y1 y2) (impl_NameOK.l0 (k + 1) y0 y1 y2))
  | 0 => ⟨fun _ _ r h => by simp [impl_NameOK.j0] at h, fun _ _ _ r h => by simp [impl_NameOK.l0] at h⟩
  | k + 1 => by
    obtain ⟨ih0, ih1⟩ := impl_NameOK.mono_l k
    refine ⟨?_, ?_⟩
    · intro y0 y1
      unfold impl_NameOK.j0
      repeat' first
      | (with_reducible exact ih0 _ _)
      | (with_reducible exact ih1 _ _ _)
      | (with_reducible exact LeO.refl _)
      | (with_reducible exact LeO.none _)
      | (with_reducible refine LeO.ite ?_ ?_)
      | (with_reducible refine LeO.bind ?_ (fun _ => ?_))
      | exact ih0 _ _
      | exact ih1 _ _ _
      | exact LeO.none _
      | refine LeO.ite ?_ ?_
      | refine LeO.bind ?_ (fun _ => ?_)
    · intro y0 y1 y2
      unfold impl_NameOK.l0
      repeat' first
      | (with_reducible exact ih0 _ _)
      | (with_reducible exact ih1 _ _ _)
      | (with_reducible exact LeO.refl _)
      | (with_reducible exact LeO.none _)
      | (with_reducible refine LeO.ite ?_ ?_)
      | (with_reducible refine LeO.bind ?_ (fun _ => ?_))
      | exact ih0 _ _
      | exact ih1 _ _ _
      | exact LeO.none _
      | refine LeO.ite ?_ ?_
      | refine LeO.bind ?_ (fun _ => ?_)
theorem impl_NameOK.mono : ∀ a0 k, LeO (impl_NameOK.f k a0) (impl_NameOK.f (k + 1) a0) := by
  intro a0 k
  obtain ⟨ih0, ih1⟩ := impl_NameOK.mono_l k
  unfold impl_NameOK.f
  repeat' first
      | (with_reducible exact ih0 _ _)
      | (with_reducible exact ih1 _ _ _)
      | (with_reducible exact LeO.refl _)
      | (with_reducible exact LeO.none _)
      | (with_reducible refine LeO.ite ?_ ?_)
      | (with_reducible refine LeO.bind ?_ (fun _ => ?_))
      | exact ih0 _ _
      | exact ih1 _ _ _
      | exact LeO.none _
      | refine LeO.ite ?_ ?_
      | refine LeO.bind ?_ (fun _ => ?_)
noncomputable def impl_NameOK.jv0 (x0 : ByteArray) (x17 : Bool) : Option (Bool) := lim (fun k_ => impl_NameOK.j0 k_ x0 x17)
noncomputable def impl_NameOK.lv0 (x0 : ByteArray) (x19 : Int) (x20 : Int) : Option (Bool) := lim (fun k_ => impl_NameOK.l0 k_ x0 x19 x20)
noncomputable def impl_NameOK.v (a0 : ByteArray) : Option (Bool) := lim (fun k_ => impl_NameOK.f k_ a0)
theorem impl_NameOK.jv0_lim (x0 : ByteArray) (x17 : Bool) : LimIs (fun k_ => impl_NameOK.j0 k_ x0 x17) (impl_NameOK.jv0 x0 x17) := lim_is (fun k_ => (impl_NameOK.mono_l k_).1 x0 x17)
theorem impl_NameOK.lv0_lim (x0 : ByteArray) (x19 : Int) (x20 : Int) : LimIs (fun k_ => impl_NameOK.l0 k_ x0 x19 x20) (impl_NameOK.lv0 x0 x19 x20) := lim_is (fun k_ => (impl_NameOK.mono_l k_).2 x0 x19 x20)
theorem impl_NameOK.v_lim (a0 : ByteArray) : LimIs (fun k_ => impl_NameOK.f k_ a0) (impl_NameOK.v a0) := lim_is (fun k_ => impl_NameOK.mono a0 k_)
theorem impl_NameOK.jv0_eq (x0 : ByteArray) (x17 : Bool) : impl_NameOK.jv0 x0 x17 = (if x17 = true then (some false) else (impl_NameOK.lv0 x0 (x0.size : Int) 0) : Option (Bool)) := by
  refine LimIs.eq (impl_NameOK.jv0_lim x0 x17) ?_
  refine LimIs.step (fun k_ => (impl_NameOK.mono_l k_).1 x0 x17) ?_
  simp only [impl_NameOK.j0]
  repeat' (with_reducible first | exact impl_NameOK.lv0_lim _ _ _ | exact LimIs.const _ | refine LimIs.ite ?_ ?_ | refine LimIs.bind ?_ (fun _ => ?_))
theorem impl_NameOK.lv0_eq (x0 : ByteArray) (x19 : Int) (x20 : Int) : impl_NameOK.lv0 x0 x19 x20 = (if x20 < x19 then (if 0 ≤ x20 then (if x20 < (x0.size : Int) then ((impl_isLetter.v (bt x0 x20)).bind fun t248 => (if t248 = true then (impl_NameOK.lv0 x0 x19 (wrap64 (x20 + 1))) else (if (bt x0 x20) < 48 then (some false) else (if (bt x0 x20) > 57 then (some false) else (impl_NameOK.lv0 x0 x19 (wrap64 (x20 + 1))))))) else (none)) else (none)) else (some true) : Option (Bool)) := by
  refine LimIs.eq (impl_NameOK.lv0_lim x0 x19 x20) ?_
  refine LimIs.step (fun k_ => (impl_NameOK.mono_l k_).2 x0 x19 x20) ?_
  simp only [impl_NameOK.l0]
  repeat' (with_reducible first | exact impl_NameOK.lv0_lim _ _ _ | exact impl_isLetter.v_lim _ | exact LimIs.const _ | refine LimIs.ite ?_ ?_ | refine LimIs.bind ?_ (fun _ => ?_))
theorem impl_NameOK.v_eq (a0 : ByteArray) : impl_NameOK.v a0 = (if (a0.size : Int) < 1 then (impl_NameOK.jv0 a0 true) else (if (a0.size : Int) > 40 then (impl_NameOK.jv0 a0 true) else (if 0 < (a0.size : Int) then ((impl_isLetter.v (bt a0 0)).bind fun t247 => (impl_NameOK.jv0 a0 (!t247))) else (none))) : Option (Bool)) := by
  refine LimIs.eq (impl_NameOK.v_lim a0) ?_
  simp only [impl_NameOK.f]
  repeat' (with_reducible first | exact impl_NameOK.jv0_lim _ _ | exact impl_isLetter.v_lim _ | exact LimIs.const _ | refine LimIs.ite ?_ ?_ | refine LimIs.bind ?_ (fun _ => ?_))
def impl_isOpName.f (k : Nat) (a0 : ByteArray) : Option (Bool) := if (a0.size : Int) ≤ 12 then ((impl_NameOK.f k a0).bind fun t249 => (some t249)) else (some false)
theorem impl_isOpName.mono : ∀ a0 k, LeO (impl_isOpName.f k a0) (impl_isOpName.f (k + 1) a0) := by
  intro a0 k
  unfold impl_isOpName.f
  repeat' first
      | (with_reducible exact impl_NameOK.mono _ _)
      | (with_reducible exact LeO.refl _)
      | (with_reducible exact LeO.none _)
      | (with_reducible refine LeO.ite ?_ ?_)
      | (with_reducible refine LeO.bind ?_ (fun _ => ?_))
      | exact impl_NameOK.mono _ _
      | exact LeO.none _
      | refine LeO.ite ?_ ?_
      | refine LeO.bind ?_ (fun _ => ?_)
noncomputable def impl_isOpName.v (a0 : ByteArray) : Option (Bool) := lim (fun k_ => impl_isOpName.f k_ a0)
theorem impl_isOpName.v_lim (a0 : ByteArray) : LimIs (fun k_ => impl_isOpName.f k_ a0) (impl_isOpName.v a0) := lim_is (fun k_ => impl_isOpName.mono a0 k_)
theorem impl_isOpName.v_eq (a0 : ByteArray) : impl_isOpName.v a0 = (if (a0.size : Int) ≤ 12 then ((impl_NameOK.v a0).bind fun t249 => (some t249)) else (some false) : Option (Bool)) := by
  refine LimIs.eq (impl_isOpName.v_lim a0) ?_
  simp only [impl_isOpName.f]
  repeat' (with_reducible first | exact impl_NameOK.v_lim _ | exact LimIs.const _ | refine LimIs.ite ?_ ?_ | refine LimIs.bind ?_ (fun _ => ?_))
def wIdx (l : List S80) (a : Int) : Int := match l.findIdx? (fun y => y.f0 == a) with | some i => (i : Int) | none => -1
def impl_Lock_waits.f (a0_0 : ByteArray) (a0_1 : Int) (a0_2 : Int) (a0_3 : Int) (l0_4 : List S80) (a1 : Int) : Option (Int) := some (wIdx l0_4 a1)
def impl_Lock_waits.v (a0_0 : ByteArray) (a0_1 : Int) (a0_2 : Int) (a0_3 : Int) (l0_4 : List S80) (a1 : Int) : Option (Int) := impl_Lock_waits.f a0_0 a0_1 a0_2 a0_3 l0_4 a1
theorem impl_Lock_waits.v_lim (a0_0 : ByteArray) (a0_1 : Int) (a0_2 : Int) (a0_3 : Int) (l0_4 : List S80) (a1 : Int) : LimIs (fun _ => impl_Lock_waits.f a0_0 a0_1 a0_2 a0_3 l0_4 a1) (impl_Lock_waits.v a0_0 a0_1 a0_2 a0_3 l0_4 a1) := LimIs.const _
theorem impl_Lock_waits.v_eq (a0_0 : ByteArray) (a0_1 : Int) (a0_2 : Int) (a0_3 : Int) (l0_4 : List S80) (a1 : Int) : impl_Lock_waits.v a0_0 a0_1 a0_2 a0_3 l0_4 a1 = (some (wIdx l0_4 a1) : Option (Int)) := rfl
mutual
def impl_isLock.j0 : Nat → Bool → ByteArray → Int → Int → Int → List (S80) → Option (Bool)
  | 0, _, _, _, _, _, _ => none
  | k + 1, x36, x251000, x251001, x251002, x251003, x251004 => if x36 = true then (some false) else (if x251002 = (-1) then (if x251003 = 0 then (impl_isLock.j1 k (decide ((x251004.length : Int) > 0)) x251000 x251001 x251002 x251003 x251004) else (impl_isLock.j1 k true x251000 x251001 x251002 x251003 x251004)) else (impl_isLock.j1 k false x251000 x251001 x251002 x251003 x251004))
def impl_isLock.j1 : Nat → Bool → ByteArray → Int → Int → Int → List (S80) → Option (Bool)
  | 0, _, _, _, _, _, _ => none
  | k + 1, x50, x251000, x251001, x251002, x251003, x251004 => if x50 = true then (some false) else (impl_isLock.l0 k x251004 (x251004.length : Int) 0 x251000 x251001 x251002 x251003 x251004)
def impl_isLock.l0 : Nat → List (S80) → Int → Int → ByteArray → Int → Int → Int → List (S80) → Option (Bool)
  | 0, _, _, _, _, _, _, _, _ => none
  | k + 1, x52, x53, x54, x251000, x251001, x251002, x251003, x251004 => if x54 < x53 then (if 0 ≤ x54 then (if x54 < (x52.length : Int) then ((impl_within.f ((rd_T80 x52 x54).f0) 0 255).bind fun t257 => (if t257 = true then (if ((rd_T80 x52 x54).f0) = x251002 then (some false) else ((impl_within.f ((rd_T80 x52 x54).f1) 1 1000).bind fun t258 => (if t258 = true then ((impl_Lock_waits.f x251000 x251001 x251002 x251003 x251004 ((rd_T80 x52 x54).f0)).bind fun t259 => (if t259 < x54 then (some false) else (impl_isLock.l0 k x52 x53 (wrap64 (x54 + 1)) x251000 x251001 x251002 x251003 x251004))) else (some false)))) else (some false))) else (none)) else (none)) else (some true)
end
def impl_isLock.f (k : Nat) (a0_0 : ByteArray) (a0_1 : Int) (a0_2 : Int) (a0_3 : Int) (l0_4 : List (S80)) (a1 : Int) : Option (Bool) := (impl_isOpName.f k a0_0).bind fun t251 => (if t251 = true then ((impl_within.f a0_1 0 (wrap64 (a1 - 1))).bind fun t252 => (if t252 = true then ((impl_within.f a0_2 (-1) 255).bind fun t253 => (if t253 = true then ((impl_within.f a0_3 0 2000000000).bind fun t254 => (if t254 = true then (impl_isLock.j0 k (decide ((l0_4.length : Int) > 4)) a0_0 a0_1 a0_2 a0_3 l0_4) else (impl_isLock.j0 k true a0_0 a0_1 a0_2 a0_3 l0_4))) else (impl_isLock.j0 k true a0_0 a0_1 a0_2 a0_3 l0_4))) else (impl_isLock.j0 k true a0_0 a0_1 a0_2 a0_3 l0_4))) else (impl_isLock.j0 k true a0_0 a0_1 a0_2 a0_3 l0_4))
theorem impl_isLock.mono_l : ∀ k, (∀ y0 y1 y2 y3 y4 y5, LeO (impl_isLock.j0 k y0 y1 y2 y3 y4 y5) (impl_isLock.j0 (k + 1) y0 y1 y2 y3 y4 y5)) ∧ (∀ y0 y1 y2 y3 y4 y5, LeO (impl_isLock.j1 k y0 y1 y2 y3 y4 y5) (impl_isLock.j1 (k + 1) y0 y1 y2 y3 y4 y5)) ∧ (∀ y0 y1 y2 y3 y4 y5 y6 y7, LeO (impl_isLock.l0 k y0 y1 y2 y3 y4 y5 y6 y7) (impl_isLock.l0 (k + 1) y0 y1 y2 y3 y4 y5 y6 y7))
  | 0 => ⟨fun _ _ _ _ _ _ r h => by simp [impl_isLock.j0] at h, fun _ _ _ _ _ _ r h => by simp [impl_isLock.j1] at h, fun _ _ _ _ _ _ _ _ r h => by simp [impl_isLock.l0] at h⟩
  | k + 1 => by
    obtain ⟨ih0, ih1, ih2⟩ := impl_isLock.mono_l k
    refine ⟨?_, ?_, ?_⟩
    · intro y0 y1 y2 y3 y4 y5
      unfold impl_isLock.j0
      repeat' first
      | (with_reducible exact ih0 _ _ _ _ _ _)
      | (with_reducible exact ih1 _ _ _ _ _ _)
      | (with_reducible exact ih2 _ _ _ _ _ _ _ _)
      | (with_reducible exact impl_isOpName.mono _ _)
      | (with_reducible exact LeO.refl _)
      | (with_reducible exact LeO.none _)
      | (with_reducible refine LeO.ite ?_ ?_)
      | (with_reducible refine LeO.bind ?_ (fun _ => ?_))
      | exact ih0 _ _ _ _ _ _
      | exact ih1 _ _ _ _ _ _
      | exact ih2 _ _ _ _ _ _ _ _
      | exact impl_isOpName.mono _ _
      | exact LeO.none _
      | refine LeO.ite ?_ ?_
      | refine LeO.bind ?_ (fun _ => ?_)
    · intro y0 y1 y2 y3 y4 y5
      unfold impl_isLock.j1
      repeat' first
      | (with_reducible exact ih0 _ _ _ _ _ _)
      | (with_reducible exact ih1 _ _ _ _ _ _)
      | (with_reducible exact ih2 _ _ _ _ _ _ _ _)
      | (with_reducible exact impl_isOpName.mono _ _)
      | (with_reducible exact LeO.refl _)
      | (with_reducible exact LeO.none _)
      | (with_reducible refine LeO.ite ?_ ?_)
      | (with_reducible refine LeO.bind ?_ (fun _ => ?_))
      | exact ih0 _ _ _ _ _ _
      | exact ih1 _ _ _ _ _ _
      | exact ih2 _ _ _ _ _ _ _ _
      | exact impl_isOpName.mono _ _
      | exact LeO.none _
      | refine LeO.ite ?_ ?_
      | refine LeO.bind ?_ (fun _ => ?_)
    · intro y0 y1 y2 y3 y4 y5 y6 y7
      unfold impl_isLock.l0
      repeat' first
      | (with_reducible exact ih0 _ _ _ _ _ _)
      | (with_reducible exact ih1 _ _ _ _ _ _)
      | (with_reducible exact ih2 _ _ _ _ _ _ _ _)
      | (with_reducible exact impl_isOpName.mono _ _)
      | (with_reducible exact LeO.refl _)
      | (with_reducible exact LeO.none _)
      | (with_reducible refine LeO.ite ?_ ?_)
      | (with_reducible refine LeO.bind ?_ (fun _ => ?_))
      | exact ih0 _ _ _ _ _ _
      | exact ih1 _ _ _ _ _ _
      | exact ih2 _ _ _ _ _ _ _ _
      | exact impl_isOpName.mono _ _
      | exact LeO.none _
      | refine LeO.ite ?_ ?_
      | refine LeO.bind ?_ (fun _ => ?_)
theorem impl_isLock.mono : ∀ a0 a1 a2 a3 a4 a5 k, LeO (impl_isLock.f k a0 a1 a2 a3 a4 a5) (impl_isLock.f (k + 1) a0 a1 a2 a3 a4 a5) := by
  intro a0 a1 a2 a3 a4 a5 k
  obtain ⟨ih0, ih1, ih2⟩ := impl_isLock.mono_l k
  unfold impl_isLock.f
  repeat' first
      | (with_reducible exact ih0 _ _ _ _ _ _)
      | (with_reducible exact ih1 _ _ _ _ _ _)
      | (with_reducible exact ih2 _ _ _ _ _ _ _ _)
      | (with_reducible exact impl_isOpName.mono _ _)
      | (with_reducible exact LeO.refl _)
      | (with_reducible exact LeO.none _)
      | (with_reducible refine LeO.ite ?_ ?_)
      | (with_reducible refine LeO.bind ?_ (fun _ => ?_))
      | exact ih0 _ _ _ _ _ _
      | exact ih1 _ _ _ _ _ _
      | exact ih2 _ _ _ _ _ _ _ _
      | exact impl_isOpName.mono _ _
      | exact LeO.none _
      | refine LeO.ite ?_ ?_
      | refine LeO.bind ?_ (fun _ => ?_)
noncomputable def impl_isLock.jv0 (x36 : Bool) (x251000 : ByteArray) (x251001 : Int) (x251002 : Int) (x251003 : Int) (x251004 : List (S80)) : Option (Bool) := lim (fun k_ => impl_isLock.j0 k_ x36 x251000 x251001 x251002 x251003 x251004)
noncomputable def impl_isLock.jv1 (x50 : Bool) (x251000 : ByteArray) (x251001 : Int) (x251002 : Int) (x251003 : Int) (x251004 : List (S80)) : Option (Bool) := lim (fun k_ => impl_isLock.j1 k_ x50 x251000 x251001 x251002 x251003 x251004)
noncomputable def impl_isLock.lv0 (x52 : List (S80)) (x53 : Int) (x54 : Int) (x251000 : ByteArray) (x251001 : Int) (x251002 : Int) (x251003 : Int) (x251004 : List (S80)) : Option (Bool) := lim (fun k_ => impl_isLock.l0 k_ x52 x53 x54 x251000 x251001 x251002 x251003 x251004)
noncomputable def impl_isLock.v (a0_0 : ByteArray) (a0_1 : Int) (a0_2 : Int) (a0_3 : Int) (l0_4 : List (S80)) (a1 : Int) : Option (Bool) := lim (fun k_ => impl_isLock.f k_ a0_0 a0_1 a0_2 a0_3 l0_4 a1)
theorem impl_isLock.jv0_lim (x36 : Bool) (x251000 : ByteArray) (x251001 : Int) (x251002 : Int) (x251003 : Int) (x251004 : List (S80)) : LimIs (fun k_ => impl_isLock.j0 k_ x36 x251000 x251001 x251002 x251003 x251004) (impl_isLock.jv0 x36 x251000 x251001 x251002 x251003 x251004) := lim_is (fun k_ => (impl_isLock.mono_l k_).1 x36 x251000 x251001 x251002 x251003 x251004)
theorem impl_isLock.jv1_lim (x50 : Bool) (x251000 : ByteArray) (x251001 : Int) (x251002 : Int) (x251003 : Int) (x251004 : List (S80)) : LimIs (fun k_ => impl_isLock.j1 k_ x50 x251000 x251001 x251002 x251003 x251004) (impl_isLock.jv1 x50 x251000 x251001 x251002 x251003 x251004) := lim_is (fun k_ => (impl_isLock.mono_l k_).2.1 x50 x251000 x251001 x251002 x251003 x251004)
theorem impl_isLock.lv0_lim (x52 : List (S80)) (x53 : Int) (x54 : Int) (x251000 : ByteArray) (x251001 : Int) (x251002 : Int) (x251003 : Int) (x251004 : List (S80)) : LimIs (fun k_ => impl_isLock.l0 k_ x52 x53 x54 x251000 x251001 x251002 x251003 x251004) (impl_isLock.lv0 x52 x53 x54 x251000 x251001 x251002 x251003 x251004) := lim_is (fun k_ => (impl_isLock.mono_l k_).2.2 x52 x53 x54 x251000 x251001 x251002 x251003 x251004)
theorem impl_isLock.v_lim (a0_0 : ByteArray) (a0_1 : Int) (a0_2 : Int) (a0_3 : Int) (l0_4 : List (S80)) (a1 : Int) : LimIs (fun k_ => impl_isLock.f k_ a0_0 a0_1 a0_2 a0_3 l0_4 a1) (impl_isLock.v a0_0 a0_1 a0_2 a0_3 l0_4 a1) := lim_is (fun k_ => impl_isLock.mono a0_0 a0_1 a0_2 a0_3 l0_4 a1 k_)
theorem impl_isLock.jv0_eq (x36 : Bool) (x251000 : ByteArray) (x251001 : Int) (x251002 : Int) (x251003 : Int) (x251004 : List (S80)) : impl_isLock.jv0 x36 x251000 x251001 x251002 x251003 x251004 = (if x36 = true then (some false) else (if x251002 = (-1) then (if x251003 = 0 then (impl_isLock.jv1 (decide ((x251004.length : Int) > 0)) x251000 x251001 x251002 x251003 x251004) else (impl_isLock.jv1 true x251000 x251001 x251002 x251003 x251004)) else (impl_isLock.jv1 false x251000 x251001 x251002 x251003 x251004)) : Option (Bool)) := by
  refine LimIs.eq (impl_isLock.jv0_lim x36 x251000 x251001 x251002 x251003 x251004) ?_
  refine LimIs.step (fun k_ => (impl_isLock.mono_l k_).1 x36 x251000 x251001 x251002 x251003 x251004) ?_
  simp only [impl_isLock.j0]
  repeat' (with_reducible first | exact impl_isLock.jv1_lim _ _ _ _ _ _ | exact LimIs.const _ | refine LimIs.ite ?_ ?_ | refine LimIs.bind ?_ (fun _ => ?_))
theorem impl_isLock.jv1_eq (x50 : Bool) (x251000 : ByteArray) (x251001 : Int) (x251002 : Int) (x251003 : Int) (x251004 : List (S80)) : impl_isLock.jv1 x50 x251000 x251001 x251002 x251003 x251004 = (if x50 = true then (some false) else (impl_isLock.lv0 x251004 (x251004.length : Int) 0 x251000 x251001 x251002 x251003 x251004) : Option (Bool)) := by
  refine LimIs.eq (impl_isLock.jv1_lim x50 x251000 x251001 x251002 x251003 x251004) ?_
  refine LimIs.step (fun k_ => (impl_isLock.mono_l k_).2.1 x50 x251000 x251001 x251002 x251003 x251004) ?_
  simp only [impl_isLock.j1]
  repeat' (with_reducible first | exact impl_isLock.lv0_lim _ _ _ _ _ _ _ _ | exact LimIs.const _ | refine LimIs.ite ?_ ?_ | refine LimIs.bind ?_ (fun _ => ?_))
theorem impl_isLock.lv0_eq (x52 : List (S80)) (x53 : Int) (x54 : Int) (x251000 : ByteArray) (x251001 : Int) (x251002 : Int) (x251003 : Int) (x251004 : List (S80)) : impl_isLock.lv0 x52 x53 x54 x251000 x251001 x251002 x251003 x251004 = (if x54 < x53 then (if 0 ≤ x54 then (if x54 < (x52.length : Int) then ((impl_within.v ((rd_T80 x52 x54).f0) 0 255).bind fun t257 => (if t257 = true then (if ((rd_T80 x52 x54).f0) = x251002 then (some false) else ((impl_within.v ((rd_T80 x52 x54).f1) 1 1000).bind fun t258 => (if t258 = true then ((impl_Lock_waits.v x251000 x251001 x251002 x251003 x251004 ((rd_T80 x52 x54).f0)).bind fun t259 => (if t259 < x54 then (some false) else (impl_isLock.lv0 x52 x53 (wrap64 (x54 + 1)) x251000 x251001 x251002 x251003 x251004))) else (some false)))) else (some false))) else (none)) else (none)) else (some true) : Option (Bool)) := by
  refine LimIs.eq (impl_isLock.lv0_lim x52 x53 x54 x251000 x251001 x251002 x251003 x251004) ?_
  refine LimIs.step (fun k_ => (impl_isLock.mono_l k_).2.2 x52 x53 x54 x251000 x251001 x251002 x251003 x251004) ?_
  simp only [impl_isLock.l0]
  repeat' (with_reducible first | exact impl_Lock_waits.v_lim _ _ _ _ _ _ | exact impl_isLock.lv0_lim _ _ _ _ _ _ _ _ | exact impl_within.v_lim _ _ _ | exact LimIs.const _ | refine LimIs.ite ?_ ?_ | refine LimIs.bind ?_ (fun _ => ?_))
theorem impl_isLock.v_eq (a0_0 : ByteArray) (a0_1 : Int) (a0_2 : Int) (a0_3 : Int) (l0_4 : List (S80)) (a1 : Int) : impl_isLock.v a0_0 a0_1 a0_2 a0_3 l0_4 a1 = ((impl_isOpName.v a0_0).bind fun t251 => (if t251 = true then ((impl_within.v a0_1 0 (wrap64 (a1 - 1))).bind fun t252 => (if t252 = true then ((impl_within.v a0_2 (-1) 255).bind fun t253 => (if t253 = true then ((impl_within.v a0_3 0 2000000000).bind fun t254 => (if t254 = true then (impl_isLock.jv0 (decide ((l0_4.length : Int) > 4)) a0_0 a0_1 a0_2 a0_3 l0_4) else (impl_isLock.jv0 true a0_0 a0_1 a0_2 a0_3 l0_4))) else (impl_isLock.jv0 true a0_0 a0_1 a0_2 a0_3 l0_4))) else (impl_isLock.jv0 true a0_0 a0_1 a0_2 a0_3 l0_4))) else (impl_isLock.jv0 true a0_0 a0_1 a0_2 a0_3 l0_4)) : Option (Bool)) := by
  refine LimIs.eq (impl_isLock.v_lim a0_0 a0_1 a0_2 a0_3 l0_4 a1) ?_
  simp only [impl_isLock.f]
  repeat' (with_reducible first | exact impl_isLock.jv0_lim _ _ _ _ _ _ | exact impl_isOpName.v_lim _ | exact impl_within.v_lim _ _ _ | exact LimIs.const _ | refine LimIs.ite ?_ ?_ | refine LimIs.bind ?_ (fun _ => ?_))
def impl_isAnswer.f (a0_0 : Int) (a0_1 : Int) (a0_2 : Int) (a0_3 : Int) : Option (Bool) := (impl_within.f a0_0 1 8).bind fun t261 => (if t261 = true then ((impl_within.f a0_1 0 1000000).bind fun t262 => (if t262 = true then ((impl_within.f a0_2 (-1) 255).bind fun t263 => (if t263 = true then ((impl_within.f a0_3 0 2000000000).bind fun t264 => (some t264)) else (some false))) else (some false))) else (some false))
def impl_isAnswer.v (a0_0 : Int) (a0_1 : Int) (a0_2 : Int) (a0_3 : Int) : Option (Bool) := impl_isAnswer.f a0_0 a0_1 a0_2 a0_3
theorem impl_isAnswer.v_lim (a0_0 : Int) (a0_1 : Int) (a0_2 : Int) (a0_3 : Int) : LimIs (fun _ => impl_isAnswer.f a0_0 a0_1 a0_2 a0_3) (impl_isAnswer.v a0_0 a0_1 a0_2 a0_3) := LimIs.const _
theorem impl_isAnswer.v_eq (a0_0 : Int) (a0_1 : Int) (a0_2 : Int) (a0_3 : Int) : impl_isAnswer.v a0_0 a0_1 a0_2 a0_3 = ((impl_within.v a0_0 1 8).bind fun t261 => (if t261 = true then ((impl_within.v a0_1 0 1000000).bind fun t262 => (if t262 = true then ((impl_within.v a0_2 (-1) 255).bind fun t263 => (if t263 = true then ((impl_within.v a0_3 0 2000000000).bind fun t264 => (some t264)) else (some false))) else (some false))) else (some false)) : Option (Bool)) := rfl
mutual
def impl_TableOK.j0 : Nat → Bool → Int → Int → List (S78) → List (S84) → Option (Bool)
  | 0, _, _, _, _, _ => none
  | k + 1, x28, x266000, x266001, x266002, x266003 => if x28 = true then (some false) else (impl_TableOK.l0 k x266002 (x266002.length : Int) 0 x266000 x266001 x266002 x266003)
def impl_TableOK.l0 : Nat → List (S78) → Int → Int → Int → Int → List (S78) → List (S84) → Option (Bool)
  | 0, _, _, _, _, _, _, _ => none
  | k + 1, x30, x31, x32, x266000, x266001, x266002, x266003 => if x32 < x31 then (if 0 ≤ x32 then (if x32 < (x30.length : Int) then ((impl_isLock.f k ((rd_T78 x30 x32).f0) ((rd_T78 x30 x32).f1) ((rd_T78 x30 x32).f2) ((rd_T78 x30 x32).f3) ((rd_T78 x30 x32).f4) x266001).bind fun t270 => (if t270 = true then (if x32 > 0 then (if 0 ≤ (wrap64 (x32 - 1)) then (if (wrap64 (x32 - 1)) < (x266002.length : Int) then (if ((Op.bytesLess (((rd_T78 x266002 (wrap64 (x32 - 1))).f0).toList) (((rd_T78 x30 x32).f0).toList)) = true) then (impl_TableOK.l0 k x30 x31 (wrap64 (x32 + 1)) x266000 x266001 x266002 x266003) else (some false)) else (none)) else (none)) else (impl_TableOK.l0 k x30 x31 (wrap64 (x32 + 1)) x266000 x266001 x266002 x266003)) else (some false))) else (none)) else (none)) else (impl_TableOK.l1 k x266003 (x266003.length : Int) 0 x266000 x266001 x266002 x266003)
def impl_TableOK.l1 : Nat → List (S84) → Int → Int → Int → Int → List (S78) → List (S84) → Option (Bool)
  | 0, _, _, _, _, _, _, _ => none
  | k + 1, x60, x61, x62, x266000, x266001, x266002, x266003 => if x62 < x61 then (if 0 ≤ x62 then (if x62 < (x60.length : Int) then ((impl_within.f ((rd_T84 x60 x62).f0) 0 255).bind fun t274 => (if t274 = true then ((impl_within.f ((rd_T84 x60 x62).f1) 1 65535).bind fun t275 => (if t275 = true then ((impl_isAnswer.f ((rd_T84 x60 x62).f2.f0) ((rd_T84 x60 x62).f2.f1) ((rd_T84 x60 x62).f2.f2) ((rd_T84 x60 x62).f2.f3)).bind fun t276 => (if t276 = true then (if x62 > 0 then (if 0 ≤ (wrap64 (x62 - 1)) then (if (wrap64 (x62 - 1)) < (x266003.length : Int) then (if ((rd_T84 x266003 (wrap64 (x62 - 1))).f0) ≥ ((rd_T84 x60 x62).f0) then (some false) else (impl_TableOK.l1 k x60 x61 (wrap64 (x62 + 1)) x266000 x266001 x266002 x266003)) else (none)) else (none)) else (impl_TableOK.l1 k x60 x61 (wrap64 (x62 + 1)) x266000 x266001 x266002 x266003)) else (some false))) else (some false))) else (some false))) else (none)) else (none)) else (some true)
end
def impl_TableOK.f (k : Nat) (a0_0 : Int) (a0_1 : Int) (l0_2 : List (S78)) (l0_3 : List (S84)) : Option (Bool) := (impl_within.f a0_0 0 1000000000).bind fun t266 => (if t266 = true then ((impl_within.f a0_1 1 1000000).bind fun t267 => (if t267 = true then (if (l0_2.length : Int) > 4 then (impl_TableOK.j0 k true a0_0 a0_1 l0_2 l0_3) else (impl_TableOK.j0 k (decide ((l0_3.length : Int) > 6)) a0_0 a0_1 l0_2 l0_3)) else (impl_TableOK.j0 k true a0_0 a0_1 l0_2 l0_3))) else (impl_TableOK.j0 k true a0_0 a0_1 l0_2 l0_3))
theorem impl_TableOK.mono_l : ∀ k, (∀ y0 y1 y2 y3 y4, LeO (impl_TableOK.j0 k y0 y1 y2 y3 y4) (impl_TableOK.j0 (k + 1) y0 y1 y2 y3 y4)) ∧ (∀ y0 y1 y2 y3 y4 y5 y6, LeO (impl_TableOK.l0 k y0 y1 y2 y3 y4 y5 y6) (impl_TableOK.l0 (k + 1) y0 y1 y2 y3 y4 y5 y6)) ∧ (∀ y0 y1 y2 y3 y4 y5 y6, LeO (impl_TableOK.l1 k y0 y1 y2 y3 y4 y5 y6) (impl_TableOK.l1 (k + 1) y0 y1 y2 y3 y4 y5 y6))
  | 0 => ⟨fun _ _ _ _ _ r h => by simp [impl_TableOK.j0] at h, fun _ _ _ _ _ _ _ r h => by simp [impl_TableOK.l0] at h, fun _ _ _ _ _ _ _ r h => by simp [impl_TableOK.l1] at h⟩
  | k + 1 => by
    obtain ⟨ih0, ih1, ih2⟩ := impl_TableOK.mono_l k
    refine ⟨?_, ?_, ?_⟩
    · intro y0 y1 y2 y3 y4
      unfold impl_TableOK.j0
      repeat' first
      | (with_reducible exact ih0 _ _ _ _ _)
      | (with_reducible exact ih1 _ _ _ _ _ _ _)
      | (with_reducible exact ih2 _ _ _ _ _ _ _)
      | (with_reducible exact impl_isLock.mono _ _ _ _ _ _ _)
      | (with_reducible exact LeO.refl _)
      | (with_reducible exact LeO.none _)
      | (with_reducible refine LeO.ite ?_ ?_)
      | (with_reducible refine LeO.bind ?_ (fun _ => ?_))
      | exact ih0 _ _ _ _ _
      | exact ih1 _ _ _ _ _ _ _
      | exact ih2 _ _ _ _ _ _ _
      | exact impl_isLock.mono _ _ _ _ _ _ _
      | exact LeO.none _
      | refine LeO.ite ?_ ?_
      | refine LeO.bind ?_ (fun _ => ?_)
    · intro y0 y1 y2 y3 y4 y5 y6
      unfold impl_TableOK.l0
      repeat' first
      | (with_reducible exact ih0 _ _ _ _ _)
      | (with_reducible exact ih1 _ _ _ _ _ _ _)
      | (with_reducible exact ih2 _ _ _ _ _ _ _)
      | (with_reducible exact impl_isLock.mono _ _ _ _ _ _ _)
      | (with_reducible exact LeO.refl _)
      | (with_reducible exact LeO.none _)
      | (with_reducible refine LeO.ite ?_ ?_)
      | (with_reducible refine LeO.bind ?_ (fun _ => ?_))
      | exact ih0 _ _ _ _ _
      | exact ih1 _ _ _ _ _ _ _
      | exact ih2 _ _ _ _ _ _ _
      | exact impl_isLock.mono _ _ _ _ _ _ _
      | exact LeO.none _
      | refine LeO.ite ?_ ?_
      | refine LeO.bind ?_ (fun _ => ?_)
    · intro y0 y1 y2 y3 y4 y5 y6
      unfold impl_TableOK.l1
      repeat' first
      | (with_reducible exact ih0 _ _ _ _ _)
      | (with_reducible exact ih1 _ _ _ _ _ _ _)
      | (with_reducible exact ih2 _ _ _ _ _ _ _)
      | (with_reducible exact impl_isLock.mono _ _ _ _ _ _ _)
      | (with_reducible exact LeO.refl _)
      | (with_reducible exact LeO.none _)
      | (with_reducible refine LeO.ite ?_ ?_)
      | (with_reducible refine LeO.bind ?_ (fun _ => ?_))
      | exact ih0 _ _ _ _ _
      | exact ih1 _ _ _ _ _ _ _
      | exact ih2 _ _ _ _ _ _ _
      | exact impl_isLock.mono _ _ _ _ _ _ _
      | exact LeO.none _
      | refine LeO.ite ?_ ?_
      | refine LeO.bind ?_ (fun _ => ?_)
theorem impl_TableOK.mono : ∀ a0 a1 a2 a3 k, LeO (impl_TableOK.f k a0 a1 a2 a3) (impl_TableOK.f (k + 1) a0 a1 a2 a3) := by
  intro a0 a1 a2 a3 k
  obtain ⟨ih0, ih1, ih2⟩ := impl_TableOK.mono_l k
  unfold impl_TableOK.f
  repeat' first
      | (with_reducible exact ih0 _ _ _ _ _)
      | (with_reducible exact ih1 _ _ _ _ _ _ _)
      | (with_reducible exact ih2 _ _ _ _ _ _ _)
      | (with_reducible exact impl_isLock.mono _ _ _ _ _ _ _)
      | (with_reducible exact LeO.refl _)
      | (with_reducible exact LeO.none _)
      | (with_reducible refine LeO.ite ?_ ?_)
      | (with_reducible refine LeO.bind ?_ (fun _ => ?_))
      | exact ih0 _ _ _ _ _
      | exact ih1 _ _ _ _ _ _ _
      | exact ih2 _ _ _ _ _ _ _
      | exact impl_isLock.mono _ _ _ _ _ _ _
      | exact LeO.none _
      | refine LeO.ite ?_ ?_
      | refine LeO.bind ?_ (fun _ => ?_)
noncomputable def impl_TableOK.jv0 (x28 : Bool) (x266000 : Int) (x266001 : Int) (x266002 : List (S78)) (x266003 : List (S84)) : Option (Bool) := lim (fun k_ => impl_TableOK.j0 k_ x28 x266000 x266001 x266002 x266003)
noncomputable def impl_TableOK.lv0 (x30 : List (S78)) (x31 : Int) (x32 : Int) (x266000 : Int) (x266001 : Int) (x266002 : List (S78)) (x266003 : List (S84)) : Option (Bool) := lim (fun k_ => impl_TableOK.l0 k_ x30 x31 x32 x266000 x266001 x266002 x266003)
noncomputable def impl_TableOK.lv1 (x60 : List (S84)) (x61 : Int) (x62 : Int) (x266000 : Int) (x266001 : Int) (x266002 : List (S78)) (x266003 : List (S84)) : Option (Bool) := lim (fun k_ => impl_TableOK.l1 k_ x60 x61 x62 x266000 x266001 x266002 x266003)
noncomputable def impl_TableOK.v (a0_0 : Int) (a0_1 : Int) (l0_2 : List (S78)) (l0_3 : List (S84)) : Option (Bool) := lim (fun k_ => impl_TableOK.f k_ a0_0 a0_1 l0_2 l0_3)
theorem impl_TableOK.jv0_lim (x28 : Bool) (x266000 : Int) (x266001 : Int) (x266002 : List (S78)) (x266003 : List (S84)) : LimIs (fun k_ => impl_TableOK.j0 k_ x28 x266000 x266001 x266002 x266003) (impl_TableOK.jv0 x28 x266000 x266001 x266002 x266003) := lim_is (fun k_ => (impl_TableOK.mono_l k_).1 x28 x266000 x266001 x266002 x266003)
theorem impl_TableOK.lv0_lim (x30 : List (S78)) (x31 : Int) (x32 : Int) (x266000 : Int) (x266001 : Int) (x266002 : List (S78)) (x266003 : List (S84)) : LimIs (fun k_ => impl_TableOK.l0 k_ x30 x31 x32 x266000 x266001 x266002 x266003) (impl_TableOK.lv0 x30 x31 x32 x266000 x266001 x266002 x266003) := lim_is (fun k_ => (impl_TableOK.mono_l k_).2.1 x30 x31 x32 x266000 x266001 x266002 x266003)
theorem impl_TableOK.lv1_lim (x60 : List (S84)) (x61 : Int) (x62 : Int) (x266000 : Int) (x266001 : Int) (x266002 : List (S78)) (x266003 : List (S84)) : LimIs (fun k_ => impl_TableOK.l1 k_ x60 x61 x62 x266000 x266001 x266002 x266003) (impl_TableOK.lv1 x60 x61 x62 x266000 x266001 x266002 x266003) := lim_is (fun k_ => (impl_TableOK.mono_l k_).2.2 x60 x61 x62 x266000 x266001 x266002 x266003)
theorem impl_TableOK.v_lim (a0_0 : Int) (a0_1 : Int) (l0_2 : List (S78)) (l0_3 : List (S84)) : LimIs (fun k_ => impl_TableOK.f k_ a0_0 a0_1 l0_2 l0_3) (impl_TableOK.v a0_0 a0_1 l0_2 l0_3) := lim_is (fun k_ => impl_TableOK.mono a0_0 a0_1 l0_2 l0_3 k_)
theorem impl_TableOK.jv0_eq (x28 : Bool) (x266000 : Int) (x266001 : Int) (x266002 : List (S78)) (x266003 : List (S84)) : impl_TableOK.jv0 x28 x266000 x266001 x266002 x266003 = (if x28 = true then (some false) else (impl_TableOK.lv0 x266002 (x266002.length : Int) 0 x266000 x266001 x266002 x266003) : Option (Bool)) := by
  refine LimIs.eq (impl_TableOK.jv0_lim x28 x266000 x266001 x266002 x266003) ?_
  refine LimIs.step (fun k_ => (impl_TableOK.mono_l k_).1 x28 x266000 x266001 x266002 x266003) ?_
  simp only [impl_TableOK.j0]
  repeat' (with_reducible first | exact impl_TableOK.lv0_lim _ _ _ _ _ _ _ | exact LimIs.const _ | refine LimIs.ite ?_ ?_ | refine LimIs.bind ?_ (fun _ => ?_))
theorem impl_TableOK.lv0_eq (x30 : List (S78)) (x31 : Int) (x32 : Int) (x266000 : Int) (x266001 : Int) (x266002 : List (S78)) (x266003 : List (S84)) : impl_TableOK.lv0 x30 x31 x32 x266000 x266001 x266002 x266003 = (if x32 < x31 then (if 0 ≤ x32 then (if x32 < (x30.length : Int) then ((impl_isLock.v ((rd_T78 x30 x32).f0) ((rd_T78 x30 x32).f1) ((rd_T78 x30 x32).f2) ((rd_T78 x30 x32).f3) ((rd_T78 x30 x32).f4) x266001).bind fun t270 => (if t270 = true then (if x32 > 0 then (if 0 ≤ (wrap64 (x32 - 1)) then (if (wrap64 (x32 - 1)) < (x266002.length : Int) then (if ((Op.bytesLess (((rd_T78 x266002 (wrap64 (x32 - 1))).f0).toList) (((rd_T78 x30 x32).f0).toList)) = true) then (impl_TableOK.lv0 x30 x31 (wrap64 (x32 + 1)) x266000 x266001 x266002 x266003) else (some false)) else (none)) else (none)) else (impl_TableOK.lv0 x30 x31 (wrap64 (x32 + 1)) x266000 x266001 x266002 x266003)) else (some false))) else (none)) else (none)) else (impl_TableOK.lv1 x266003 (x266003.length : Int) 0 x266000 x266001 x266002 x266003) : Option (Bool)) := by
  refine LimIs.eq (impl_TableOK.lv0_lim x30 x31 x32 x266000 x266001 x266002 x266003) ?_
  refine LimIs.step (fun k_ => (impl_TableOK.mono_l k_).2.1 x30 x31 x32 x266000 x266001 x266002 x266003) ?_
  simp only [impl_TableOK.l0]
  repeat' (with_reducible first | exact impl_TableOK.lv0_lim _ _ _ _ _ _ _ | exact impl_TableOK.lv1_lim _ _ _ _ _ _ _ | exact impl_isLock.v_lim _ _ _ _ _ _ | exact LimIs.const _ | refine LimIs.ite ?_ ?_ | refine LimIs.bind ?_ (fun _ => ?_))
theorem impl_TableOK.lv1_eq (x60 : List (S84)) (x61 : Int) (x62 : Int) (x266000 : Int) (x266001 : Int) (x266002 : List (S78)) (x266003 : List (S84)) : impl_TableOK.lv1 x60 x61 x62 x266000 x266001 x266002 x266003 = (if x62 < x61 then (if 0 ≤ x62 then (if x62 < (x60.length : Int) then ((impl_within.v ((rd_T84 x60 x62).f0) 0 255).bind fun t274 => (if t274 = true then ((impl_within.v ((rd_T84 x60 x62).f1) 1 65535).bind fun t275 => (if t275 = true then ((impl_isAnswer.v ((rd_T84 x60 x62).f2.f0) ((rd_T84 x60 x62).f2.f1) ((rd_T84 x60 x62).f2.f2) ((rd_T84 x60 x62).f2.f3)).bind fun t276 => (if t276 = true then (if x62 > 0 then (if 0 ≤ (wrap64 (x62 - 1)) then (if (wrap64 (x62 - 1)) < (x266003.length : Int) then (if ((rd_T84 x266003 (wrap64 (x62 - 1))).f0) ≥ ((rd_T84 x60 x62).f0) then (some false) else (impl_TableOK.lv1 x60 x61 (wrap64 (x62 + 1)) x266000 x266001 x266002 x266003)) else (none)) else (none)) else (impl_TableOK.lv1 x60 x61 (wrap64 (x62 + 1)) x266000 x266001 x266002 x266003)) else (some false))) else (some false))) else (some false))) else (none)) else (none)) else (some true) : Option (Bool)) := by
  refine LimIs.eq (impl_TableOK.lv1_lim x60 x61 x62 x266000 x266001 x266002 x266003) ?_
  refine LimIs.step (fun k_ => (impl_TableOK.mono_l k_).2.2 x60 x61 x62 x266000 x266001 x266002 x266003) ?_
  simp only [impl_TableOK.l1]
  repeat' (with_reducible first | exact impl_TableOK.lv1_lim _ _ _ _ _ _ _ | exact impl_isAnswer.v_lim _ _ _ _ | exact impl_within.v_lim _ _ _ | exact LimIs.const _ | refine LimIs.ite ?_ ?_ | refine LimIs.bind ?_ (fun _ => ?_))
theorem impl_TableOK.v_eq (a0_0 : Int) (a0_1 : Int) (l0_2 : List (S78)) (l0_3 : List (S84)) : impl_TableOK.v a0_0 a0_1 l0_2 l0_3 = ((impl_within.v a0_0 0 1000000000).bind fun t266 => (if t266 = true then ((impl_within.v a0_1 1 1000000).bind fun t267 => (if t267 = true then (if (l0_2.length : Int) > 4 then (impl_TableOK.jv0 true a0_0 a0_1 l0_2 l0_3) else (impl_TableOK.jv0 (decide ((l0_3.length : Int) > 6)) a0_0 a0_1 l0_2 l0_3)) else (impl_TableOK.jv0 true a0_0 a0_1 l0_2 l0_3))) else (impl_TableOK.jv0 true a0_0 a0_1 l0_2 l0_3)) : Option (Bool)) := by
  refine LimIs.eq (impl_TableOK.v_lim a0_0 a0_1 l0_2 l0_3) ?_
  simp only [impl_TableOK.f]
  repeat' (with_reducible first | exact impl_TableOK.jv0_lim _ _ _ _ _ | exact impl_within.v_lim _ _ _ | exact LimIs.const _ | refine LimIs.ite ?_ ?_ | refine LimIs.bind ?_ (fun _ => ?_))
mutual
def impl_readTable.l0 : Nat → Int → Int → ByteArray → Bool → Int → Int → List (S78) → Option (Int × Int × (List (S78)) × (List (S84)) × Bool)
  | 0, _, _, _, _, _, _, _ => none
  | k + 1, x17, x18, x280000, x280001, x287000, x287001, x287002 => if x18 < x17 then ((impl_reader_sized.f k x280000 x280001 1).bind fun bt290 => ((impl_reader_number.f k bt290.2.1 bt290.2.2 3).bind fun bt293 => ((impl_reader_number.f k bt293.2.1 bt293.2.2 2).bind fun bt296 => ((impl_reader_number.f k bt296.2.1 bt296.2.2 4).bind fun bt299 => ((impl_reader_number.f k bt299.2.1 bt299.2.2 1).bind fun bt303 => (impl_readTable.l1 k x17 x18 bt303.1 0 bt303.2.1 bt303.2.2 x287000 x287001 x287002 bt290.1 bt293.1 (wrap64 (bt296.1 - 1)) bt299.1 ([] : List (S80)))))))) else ((impl_reader_number.f k x280000 x280001 1).bind fun bt318 => (impl_readTable.l2 k bt318.1 0 bt318.2.1 bt318.2.2 x287000 x287001 x287002 ([] : List (S84))))
def impl_readTable.l1 : Nat → Int → Int → Int → Int → ByteArray → Bool → Int → Int → List (S78) → ByteArray → Int → Int → Int → List (S80) → Option (Int × Int × (List (S78)) × (List (S84)) × Bool)
  | 0, _, _, _, _, _, _, _, _, _, _, _, _, _, _ => none
  | k + 1, x17, x18, x31, x32, x280000, x280001, x287000, x287001, x287002, x303000, x303001, x303002, x303003, x303004 => if x32 < x31 then ((impl_reader_number.f k x280000 x280001 1).bind fun bt306 => ((impl_reader_number.f k bt306.2.1 bt306.2.2 2).bind fun bt309 => (if x303004.length < 8796093022208 then (impl_readTable.l1 k x17 x18 x31 (wrap64 (x32 + 1)) bt309.2.1 bt309.2.2 x287000 x287001 x287002 x303000 x303001 x303002 x303003 (x303004 ++ [(⟨bt306.1, bt309.1⟩ : S80)])) else (none)))) else (if x287002.length < 2199023255552 then (impl_readTable.l0 k x17 (wrap64 (x18 + 1)) x280000 x280001 x287000 x287001 (x287002 ++ [(⟨x303000, x303001, x303002, x303003, x303004⟩ : S78)])) else (none))
def impl_readTable.l2 : Nat → Int → Int → ByteArray → Bool → Int → Int → List (S78) → List (S84) → Option (Int × Int × (List (S78)) × (List (S84)) × Bool)
  | 0, _, _, _, _, _, _, _, _ => none
  | k + 1, x53, x54, x280000, x280001, x287000, x287001, x287002, x287003 => if x54 < x53 then ((impl_reader_number.f k x280000 x280001 1).bind fun bt321 => ((impl_reader_number.f k bt321.2.1 bt321.2.2 2).bind fun bt324 => ((impl_reader_number.f k bt324.2.1 bt324.2.2 1).bind fun bt328 => ((impl_reader_number.f k bt328.2.1 bt328.2.2 3).bind fun bt331 => ((impl_reader_number.f k bt331.2.1 bt331.2.2 2).bind fun bt334 => ((impl_reader_number.f k bt334.2.1 bt334.2.2 4).bind fun bt337 => (if x287003.length < 2932031007402 then (impl_readTable.l2 k x53 (wrap64 (x54 + 1)) bt337.2.1 bt337.2.2 x287000 x287001 x287002 (x287003 ++ [(⟨bt321.1, bt324.1, (⟨bt328.1, bt331.1, wrap64 (bt334.1 - 1), bt337.1⟩ : S82)⟩ : S84)])) else (none)))))))) else ((impl_reader_done.f x280000 x280001).bind fun bt343 => (if bt343.1 = true then ((impl_TableOK.f k x287000 x287001 x287002 x287003).bind fun t346 => (if t346 = true then (some (x287000, x287001, x287002, x287003, true)) else (some (0, 0, ([] : List (S78)), ([] : List (S84)), false)))) else (some (0, 0, ([] : List (S78)), ([] : List (S84)), false))))
end
def impl_readTable.f (k : Nat) (a0 : ByteArray) : Option (Int × Int × (List (S78)) × (List (S84)) × Bool) := (impl_reader_number.f k a0 false 4).bind fun bt280 => ((impl_reader_number.f k bt280.2.1 bt280.2.2 3).bind fun bt283 => ((impl_reader_number.f k bt283.2.1 bt283.2.2 1).bind fun bt287 => (impl_readTable.l0 k bt287.1 0 bt287.2.1 bt287.2.2 bt280.1 bt283.1 ([] : List (S78)))))
theorem impl_readTable.mono_l : ∀ k, (∀ y0 y1 y2 y3 y4 y5 y6, LeO (impl_readTable.l0 k y0 y1 y2 y3 y4 y5 y6) (impl_readTable.l0 (k + 1) y0 y1 y2 y3 y4 y5 y6)) ∧ (∀ y0 y1 y2 y3 y4 y5 y6 y7 y8 y9 y10 y11 y12 y13, LeO (impl_readTable.l1 k y0 y1 y2 y3 y4 y5 y6 y7 y8 y9 y10 y11 y12 y13) (impl_readTable.l1 (k + 1) y0 y1 y2 y3 y4 y5 y6 y7 y8 y9 y10 y11 y12 y13)) ∧ (∀ y0 y1 y2 y3 y4 y5 y6 y7, LeO (impl_readTable.l2 k y0 y1 y2 y3 y4 y5 y6 y7) (impl_readTable.l2 (k + 1) y0 y1 y2 y3 y4 y5 y6 y7))
  | 0 => ⟨fun _ _ _ _ _ _ _ r h => by simp [impl_readTable.l0] at h, fun _ _ _ _ _ _ _ _ _ _ _ _ _ _ r h => by simp [impl_readTable.l1] at h, fun _ _ _ _ _ _ _ _ r h => by simp [impl_readTable.l2] at h⟩
  | k + 1 => by
    obtain ⟨ih0, ih1, ih2⟩ := impl_readTable.mono_l k
    refine ⟨?_, ?_, ?_⟩
    · intro y0 y1 y2 y3 y4 y5 y6
      unfold impl_readTable.l0
      repeat' first
      | (with_reducible exact ih0 _ _ _ _ _ _ _)
      | (with_reducible exact ih1 _ _ _ _ _ _ _ _ _ _ _ _ _ _)
      | (with_reducible exact ih2 _ _ _ _ _ _ _ _)
      | (with_reducible exact impl_TableOK.mono _ _ _ _ _)
      | (with_reducible exact impl_reader_number.mono _ _ _ _)
      | (with_reducible exact impl_reader_sized.mono _ _ _ _)
      | (with_reducible exact LeO.refl _)
      | (with_reducible exact LeO.none _)
      | (with_reducible refine LeO.ite ?_ ?_)
      | (with_reducible refine LeO.bind ?_ (fun _ => ?_))
      | exact ih0 _ _ _ _ _ _ _
      | exact ih1 _ _ _ _ _ _ _ _ _ _ _ _ _ _
      | exact ih2 _ _ _ _ _ _ _ _
      | exact impl_TableOK.mono _ _ _ _ _
      | exact impl_reader_number.mono _ _ _ _
      | exact impl_reader_sized.mono _ _ _ _
      | exact LeO.none _
      | refine LeO.ite ?_ ?_
      | refine LeO.bind ?_ (fun _ => ?_)
    · intro y0 y1 y2 y3 y4 y5 y6 y7 y8 y9 y10 y11 y12 y13
      unfold impl_readTable.l1
      repeat' first
      | (with_reducible exact ih0 _ _ _ _ _ _ _)
      | (with_reducible exact ih1 _ _ _ _ _ _ _ _ _ _ _ _ _ _)
      | (with_reducible exact ih2 _ _ _ _ _ _ _ _)
      | (with_reducible exact impl_TableOK.mono _ _ _ _ _)
      | (with_reducible exact impl_reader_number.mono _ _ _ _)
      | (with_reducible exact impl_reader_sized.mono _ _ _ _)
      | (with_reducible exact LeO.refl _)
      | (with_reducible exact LeO.none _)
      | (with_reducible refine LeO.ite ?_ ?_)
      | (with_reducible refine LeO.bind ?_ (fun _ => ?_))
      | exact ih0 _ _ _ _ _ _ _
      | exact ih1 _ _ _ _ _ _ _ _ _ _ _ _ _ _
      | exact ih2 _ _ _ _ _ _ _ _
      | exact impl_TableOK.mono _ _ _ _ _
      | exact impl_reader_number.mono _ _ _ _
      | exact impl_reader_sized.mono _ _ _ _
      | exact LeO.none _
      | refine LeO.ite ?_ ?_
      | refine LeO.bind ?_ (fun _ => ?_)
    · intro y0 y1 y2 y3 y4 y5 y6 y7
      unfold impl_readTable.l2
      repeat' first
      | (with_reducible exact ih0 _ _ _ _ _ _ _)
      | (with_reducible exact ih1 _ _ _ _ _ _ _ _ _ _ _ _ _ _)
      | (with_reducible exact ih2 _ _ _ _ _ _ _ _)
      | (with_reducible exact impl_TableOK.mono _ _ _ _ _)
      | (with_reducible exact impl_reader_number.mono _ _ _ _)
      | (with_reducible exact impl_reader_sized.mono _ _ _ _)
      | (with_reducible exact LeO.refl _)
      | (with_reducible exact LeO.none _)
      | (with_reducible refine LeO.ite ?_ ?_)
      | (with_reducible refine LeO.bind ?_ (fun _ => ?_))
      | exact ih0 _ _ _ _ _ _ _
      | exact ih1 _ _ _ _ _ _ _ _ _ _ _ _ _ _
      | exact ih2 _ _ _ _ _ _ _ _
      | exact impl_TableOK.mono _ _ _ _ _
      | exact impl_reader_number.mono _ _ _ _
      | exact impl_reader_sized.mono _ _ _ _
      | exact LeO.none _
      | refine LeO.ite ?_ ?_
      | refine LeO.bind ?_ (fun _ => ?_)
theorem impl_readTable.mono : ∀ a0 k, LeO (impl_readTable.f k a0) (impl_readTable.f (k + 1) a0) := by
  intro a0 k
  obtain ⟨ih0, ih1, ih2⟩ := impl_readTable.mono_l k
  unfold impl_readTable.f
  repeat' first
      | (with_reducible exact ih0 _ _ _ _ _ _ _)
      | (with_reducible exact ih1 _ _ _ _ _ _ _ _ _ _ _ _ _ _)
      | (with_reducible exact ih2 _ _ _ _ _ _ _ _)
      | (with_reducible exact impl_TableOK.mono _ _ _ _ _)
      | (with_reducible exact impl_reader_number.mono _ _ _ _)
      | (with_reducible exact impl_reader_sized.mono _ _ _ _)
      | (with_reducible exact LeO.refl _)
      | (with_reducible exact LeO.none _)
      | (with_reducible refine LeO.ite ?_ ?_)
      | (with_reducible refine LeO.bind ?_ (fun _ => ?_))
      | exact ih0 _ _ _ _ _ _ _
      | exact ih1 _ _ _ _ _ _ _ _ _ _ _ _ _ _
      | exact ih2 _ _ _ _ _ _ _ _
      | exact impl_TableOK.mono _ _ _ _ _
      | exact impl_reader_number.mono _ _ _ _
      | exact impl_reader_sized.mono _ _ _ _
      | exact LeO.none _
      | refine LeO.ite ?_ ?_
      | refine LeO.bind ?_ (fun _ => ?_)
noncomputable def impl_readTable.lv0 (x17 : Int) (x18 : Int) (x280000 : ByteArray) (x280001 : Bool) (x287000 : Int) (x287001 : Int) (x287002 : List (S78)) : Option (Int × Int × (List (S78)) × (List (S84)) × Bool) := lim (fun k_ => impl_readTable.l0 k_ x17 x18 x280000 x280001 x287000 x287001 x287002)
noncomputable def impl_readTable.lv1 (x17 : Int) (x18 : Int) (x31 : Int) (x32 : Int) (x280000 : ByteArray) (x280001 : Bool) (x287000 : Int) (x287001 : Int) (x287002 : List (S78)) (x303000 : ByteArray) (x303001 : Int) (x303002 : Int) (x303003 : Int) (x303004 : List (S80)) : Option (Int × Int × (List (S78)) × (List (S84)) × Bool) := lim (fun k_ => impl_readTable.l1 k_ x17 x18 x31 x32 x280000 x280001 x287000 x287001 x287002 x303000 x303001 x303002 x303003 x303004)
noncomputable def impl_readTable.lv2 (x53 : Int) (x54 : Int) (x280000 : ByteArray) (x280001 : Bool) (x287000 : Int) (x287001 : Int) (x287002 : List (S78)) (x287003 : List (S84)) : Option (Int × Int × (List (S78)) × (List (S84)) × Bool) := lim (fun k_ => impl_readTable.l2 k_ x53 x54 x280000 x280001 x287000 x287001 x287002 x287003)
noncomputable def impl_readTable.v (a0 : ByteArray) : Option (Int × Int × (List (S78)) × (List (S84)) × Bool) := lim (fun k_ => impl_readTable.f k_ a0)
theorem impl_readTable.lv0_lim (x17 : Int) (x18 : Int) (x280000 : ByteArray) (x280001 : Bool) (x287000 : Int) (x287001 : Int) (x287002 : List (S78)) : LimIs (fun k_ => impl_readTable.l0 k_ x17 x18 x280000 x280001 x287000 x287001 x287002) (impl_readTable.lv0 x17 x18 x280000 x280001 x287000 x287001 x287002) := lim_is (fun k_ => (impl_readTable.mono_l k_).1 x17 x18 x280000 x280001 x287000 x287001 x287002)
theorem impl_readTable.lv1_lim (x17 : Int) (x18 : Int) (x31 : Int) (x32 : Int) (x280000 : ByteArray) (x280001 : Bool) (x287000 : Int) (x287001 : Int) (x287002 : List (S78)) (x303000 : ByteArray) (x303001 : Int) (x303002 : Int) (x303003 : Int) (x303004 : List (S80)) : LimIs (fun k_ => impl_readTable.l1 k_ x17 x18 x31 x32 x280000 x280001 x287000 x287001 x287002 x303000 x303001 x303002 x303003 x303004) (impl_readTable.lv1 x17 x18 x31 x32 x280000 x280001 x287000 x287001 x287002 x303000 x303001 x303002 x303003 x303004) := lim_is (fun k_ => (impl_readTable.mono_l k_).2.1 x17 x18 x31 x32 x280000 x280001 x287000 x287001 x287002 x303000 x303001 x303002 x303003 x303004)
theorem impl_readTable.lv2_lim (x53 : Int) (x54 : Int) (x280000 : ByteArray) (x280001 : Bool) (x287000 : Int) (x287001 : Int) (x287002 : List (S78)) (x287003 : List (S84)) : LimIs (fun k_ => impl_readTable.l2 k_ x53 x54 x280000 x280001 x287000 x287001 x287002 x287003) (impl_readTable.lv2 x53 x54 x280000 x280001 x287000 x287001 x287002 x287003) := lim_is (fun k_ => (impl_readTable.mono_l k_).2.2 x53 x54 x280000 x280001 x287000 x287001 x287002 x287003)
theorem impl_readTable.v_lim (a0 : ByteArray) : LimIs (fun k_ => impl_readTable.f k_ a0) (impl_readTable.v a0) := lim_is (fun k_ => impl_readTable.mono a0 k_)
theorem impl_readTable.lv0_eq (x17 : Int) (x18 : Int) (x280000 : ByteArray) (x280001 : Bool) (x287000 : Int) (x287001 : Int) (x287002 : List (S78)) : impl_readTable.lv0 x17 x18 x280000 x280001 x287000 x287001 x287002 = (if x18 < x17 then ((impl_reader_sized.v x280000 x280001 1).bind fun bt290 => ((impl_reader_number.v bt290.2.1 bt290.2.2 3).bind fun bt293 => ((impl_reader_number.v bt293.2.1 bt293.2.2 2).bind fun bt296 => ((impl_reader_number.v bt296.2.1 bt296.2.2 4).bind fun bt299 => ((impl_reader_number.v bt299.2.1 bt299.2.2 1).bind fun bt303 => (impl_readTable.lv1 x17 x18 bt303.1 0 bt303.2.1 bt303.2.2 x287000 x287001 x287002 bt290.1 bt293.1 (wrap64 (bt296.1 - 1)) bt299.1 ([] : List (S80)))))))) else ((impl_reader_number.v x280000 x280001 1).bind fun bt318 => (impl_readTable.lv2 bt318.1 0 bt318.2.1 bt318.2.2 x287000 x287001 x287002 ([] : List (S84)))) : Option (Int × Int × (List (S78)) × (List (S84)) × Bool)) := by
  refine LimIs.eq (impl_readTable.lv0_lim x17 x18 x280000 x280001 x287000 x287001 x287002) ?_
  refine LimIs.step (fun k_ => (impl_readTable.mono_l k_).1 x17 x18 x280000 x280001 x287000 x287001 x287002) ?_
  simp only [impl_readTable.l0]
  repeat' (with_reducible first | exact impl_readTable.lv1_lim _ _ _ _ _ _ _ _ _ _ _ _ _ _ | exact impl_readTable.lv2_lim _ _ _ _ _ _ _ _ | exact impl_reader_number.v_lim _ _ _ | exact impl_reader_sized.v_lim _ _ _ | exact LimIs.const _ | refine LimIs.ite ?_ ?_ | refine LimIs.bind ?_ (fun _ => ?_))
theorem impl_readTable.lv1_eq (x17 : Int) (x18 : Int) (x31 : Int) (x32 : Int) (x280000 : ByteArray) (x280001 : Bool) (x287000 : Int) (x287001 : Int) (x287002 : List (S78)) (x303000 : ByteArray) (x303001 : Int) (x303002 : Int) (x303003 : Int) (x303004 : List (S80)) : impl_readTable.lv1 x17 x18 x31 x32 x280000 x280001 x287000 x287001 x287002 x303000 x303001 x303002 x303003 x303004 = (if x32 < x31 then ((impl_reader_number.v x280000 x280001 1).bind fun bt306 => ((impl_reader_number.v bt306.2.1 bt306.2.2 2).bind fun bt309 => (if x303004.length < 8796093022208 then (impl_readTable.lv1 x17 x18 x31 (wrap64 (x32 + 1)) bt309.2.1 bt309.2.2 x287000 x287001 x287002 x303000 x303001 x303002 x303003 (x303004 ++ [(⟨bt306.1, bt309.1⟩ : S80)])) else (none)))) else (if x287002.length < 2199023255552 then (impl_readTable.lv0 x17 (wrap64 (x18 + 1)) x280000 x280001 x287000 x287001 (x287002 ++ [(⟨x303000, x303001, x303002, x303003, x303004⟩ : S78)])) else (none)) : Option (Int × Int × (List (S78)) × (List (S84)) × Bool)) := by
  refine LimIs.eq (impl_readTable.lv1_lim x17 x18 x31 x32 x280000 x280001 x287000 x287001 x287002 x303000 x303001 x303002 x303003 x303004) ?_
  refine LimIs.step (fun k_ => (impl_readTable.mono_l k_).2.1 x17 x18 x31 x32 x280000 x280001 x287000 x287001 x287002 x303000 x303001 x303002 x303003 x303004) ?_
  simp only [impl_readTable.l1]
  repeat' (with_reducible first | exact impl_readTable.lv0_lim _ _ _ _ _ _ _ | exact impl_readTable.lv1_lim _ _ _ _ _ _ _ _ _ _ _ _ _ _ | exact impl_reader_number.v_lim _ _ _ | exact LimIs.const _ | refine LimIs.ite ?_ ?_ | refine LimIs.bind ?_ (fun _ => ?_))
theorem impl_readTable.lv2_eq (x53 : Int) (x54 : Int) (x280000 : ByteArray) (x280001 : Bool) (x287000 : Int) (x287001 : Int) (x287002 : List (S78)) (x287003 : List (S84)) : impl_readTable.lv2 x53 x54 x280000 x280001 x287000 x287001 x287002 x287003 = (if x54 < x53 then ((impl_reader_number.v x280000 x280001 1).bind fun bt321 => ((impl_reader_number.v bt321.2.1 bt321.2.2 2).bind fun bt324 => ((impl_reader_number.v bt324.2.1 bt324.2.2 1).bind fun bt328 => ((impl_reader_number.v bt328.2.1 bt328.2.2 3).bind fun bt331 => ((impl_reader_number.v bt331.2.1 bt331.2.2 2).bind fun bt334 => ((impl_reader_number.v bt334.2.1 bt334.2.2 4).bind fun bt337 => (if x287003.length < 2932031007402 then (impl_readTable.lv2 x53 (wrap64 (x54 + 1)) bt337.2.1 bt337.2.2 x287000 x287001 x287002 (x287003 ++ [(⟨bt321.1, bt324.1, (⟨bt328.1, bt331.1, wrap64 (bt334.1 - 1), bt337.1⟩ : S82)⟩ : S84)])) else (none)))))))) else ((impl_reader_done.v x280000 x280001).bind fun bt343 => (if bt343.1 = true then ((impl_TableOK.v x287000 x287001 x287002 x287003).bind fun t346 => (if t346 = true then (some (x287000, x287001, x287002, x287003, true)) else (some (0, 0, ([] : List (S78)), ([] : List (S84)), false)))) else (some (0, 0, ([] : List (S78)), ([] : List (S84)), false)))) : Option (Int × Int × (List (S78)) × (List (S84)) × Bool)) := by
  refine LimIs.eq (impl_readTable.lv2_lim x53 x54 x280000 x280001 x287000 x287001 x287002 x287003) ?_
  refine LimIs.step (fun k_ => (impl_readTable.mono_l k_).2.2 x53 x54 x280000 x280001 x287000 x287001 x287002 x287003) ?_
  simp only [impl_readTable.l2]
  repeat' (with_reducible first | exact impl_TableOK.v_lim _ _ _ _ | exact impl_readTable.lv2_lim _ _ _ _ _ _ _ _ | exact impl_reader_done.v_lim _ _ | exact impl_reader_number.v_lim _ _ _ | exact LimIs.const _ | refine LimIs.ite ?_ ?_ | refine LimIs.bind ?_ (fun _ => ?_))
theorem impl_readTable.v_eq (a0 : ByteArray) : impl_readTable.v a0 = ((impl_reader_number.v a0 false 4).bind fun bt280 => ((impl_reader_number.v bt280.2.1 bt280.2.2 3).bind fun bt283 => ((impl_reader_number.v bt283.2.1 bt283.2.2 1).bind fun bt287 => (impl_readTable.lv0 bt287.1 0 bt287.2.1 bt287.2.2 bt280.1 bt283.1 ([] : List (S78))))) : Option (Int × Int × (List (S78)) × (List (S84)) × Bool)) := by
  refine LimIs.eq (impl_readTable.v_lim a0) ?_
  simp only [impl_readTable.f]
  repeat' (with_reducible first | exact impl_readTable.lv0_lim _ _ _ _ _ _ _ | exact impl_reader_number.v_lim _ _ _ | exact LimIs.const _ | refine LimIs.ite ?_ ?_ | refine LimIs.bind ?_ (fun _ => ?_))
def impl_ReadTable.f (k : Nat) (l0 : List Int) : Option (Int × Int × (List (S78)) × (List (S84)) × Int) := if (l0.length : Int) > 65536 then (some (0, 0, ([] : List (S78)), ([] : List (S84)), 2)) else ((impl_readTable.f k (strOfNums l0)).bind fun bt348 => (if bt348.2.2.2.2 = true then (some (bt348.1, bt348.2.1, bt348.2.2.1, bt348.2.2.2.1, 0)) else (some (0, 0, ([] : List (S78)), ([] : List (S84)), 3))))
theorem impl_ReadTable.mono : ∀ a0 k, LeO (impl_ReadTable.f k a0) (impl_ReadTable.f (k + 1) a0) := by
  intro a0 k
  unfold impl_ReadTable.f
  repeat' first
      | (with_reducible exact impl_readTable.mono _ _)
      | (with_reducible exact LeO.refl _)
      | (with_reducible exact LeO.none _)
      | (with_reducible refine LeO.ite ?_ ?_)
      | (with_reducible refine LeO.bind ?_ (fun _ => ?_))
      | exact impl_readTable.mono _ _
      | exact LeO.none _
      | refine LeO.ite ?_ ?_
      | refine LeO.bind ?_ (fun _ => ?_)
noncomputable def impl_ReadTable.v (l0 : List Int) : Option (Int × Int × (List (S78)) × (List (S84)) × Int) := lim (fun k_ => impl_ReadTable.f k_ l0)
theorem impl_ReadTable.v_lim (l0 : List Int) : LimIs (fun k_ => impl_ReadTable.f k_ l0) (impl_ReadTable.v l0) := lim_is (fun k_ => impl_ReadTable.mono l0 k_)
theorem impl_ReadTable.v_eq (l0 : List Int) : impl_ReadTable.v l0 = (if (l0.length : Int) > 65536 then (some (0, 0, ([] : List (S78)), ([] : List (S84)), 2)) else ((impl_readTable.v (strOfNums l0)).bind fun bt348 => (if bt348.2.2.2.2 = true then (some (bt348.1, bt348.2.1, bt348.2.2.1, bt348.2.2.2.1, 0)) else (some (0, 0, ([] : List (S78)), ([] : List (S84)), 3)))) : Option (Int × Int × (List (S78)) × (List (S84)) × Int)) := by
  refine LimIs.eq (impl_ReadTable.v_lim l0) ?_
  simp only [impl_ReadTable.f]
  repeat' (with_reducible first | exact impl_readTable.v_lim _ | exact LimIs.const _ | refine LimIs.ite ?_ ?_ | refine LimIs.bind ?_ (fun _ => ?_))
def laws_eqWaiter.f (a0_0 : Int) (a0_1 : Int) (a1_0 : Int) (a1_1 : Int) : Option (Bool) := if a0_0 = a1_0 then (if a0_1 = a1_1 then (some true) else (some false)) else (some false)
def laws_eqWaiter.v (a0_0 : Int) (a0_1 : Int) (a1_0 : Int) (a1_1 : Int) : Option (Bool) := laws_eqWaiter.f a0_0 a0_1 a1_0 a1_1
theorem laws_eqWaiter.v_lim (a0_0 : Int) (a0_1 : Int) (a1_0 : Int) (a1_1 : Int) : LimIs (fun _ => laws_eqWaiter.f a0_0 a0_1 a1_0 a1_1) (laws_eqWaiter.v a0_0 a0_1 a1_0 a1_1) := LimIs.const _
theorem laws_eqWaiter.v_eq (a0_0 : Int) (a0_1 : Int) (a1_0 : Int) (a1_1 : Int) : laws_eqWaiter.v a0_0 a0_1 a1_0 a1_1 = (if a0_0 = a1_0 then (if a0_1 = a1_1 then (some true) else (some false)) else (some false) : Option (Bool)) := rfl
def laws_eqWaiterS.l0 : Nat → List (S80) → List (S80) → Int → Option (Bool)
  | 0, _, _, _ => none
  | k + 1, x0, x1, x5 => if x5 < (x0.length : Int) then (if 0 ≤ x5 then (if x5 < (x1.length : Int) then ((laws_eqWaiter.f ((rd_T80 x0 x5).f0) ((rd_T80 x0 x5).f1) ((rd_T80 x1 x5).f0) ((rd_T80 x1 x5).f1)).bind fun t362 => (if t362 = true then (laws_eqWaiterS.l0 k x0 x1 (wrap64 (x5 + 1))) else (some false))) else (none)) else (none)) else (some true)
def laws_eqWaiterS.f (k : Nat) (l0 : List (S80)) (l1 : List (S80)) : Option (Bool) := if (l0.length : Int) = (l1.length : Int) then (laws_eqWaiterS.l0 k l0 l1 0) else (some false)
theorem laws_eqWaiterS.mono_l : ∀ k, (∀ y0 y1 y2, LeO (laws_eqWaiterS.l0 k y0 y1 y2) (laws_eqWaiterS.l0 (k + 1) y0 y1 y2))
  | 0 => fun _ _ _ r h => by simp [laws_eqWaiterS.l0] at h
  | k + 1 => by
    have ih0 := laws_eqWaiterS.mono_l k
    · intro y0 y1 y2
      unfold laws_eqWaiterS.l0
      repeat' first
      | (with_reducible exact ih0 _ _ _)
      | (with_reducible exact LeO.refl _)
      | (with_reducible exact LeO.none _)
      | (with_reducible refine LeO.ite ?_ ?_)
      | (with_reducible refine LeO.bind ?_ (fun _ => ?_))
      | exact ih0 _ _ _
      | exact LeO.none _
      | refine LeO.ite ?_ ?_
      | refine LeO.bind ?_ (fun _ => ?_)
theorem laws_eqWaiterS.mono : ∀ a0 a1 k, LeO (laws_eqWaiterS.f k a0 a1) (laws_eqWaiterS.f (k + 1) a0 a1) := by
  intro a0 a1 k
  have ih0 := laws_eqWaiterS.mono_l k
  unfold laws_eqWaiterS.f
  repeat' first
      | (with_reducible exact ih0 _ _ _)
      | (with_reducible exact LeO.refl _)
      | (with_reducible exact LeO.none _)
      | (with_reducible refine LeO.ite ?_ ?_)
      | (with_reducible refine LeO.bind ?_ (fun _ => ?_))
      | exact ih0 _ _ _
      | exact LeO.none _
      | refine LeO.ite ?_ ?_
      | refine LeO.bind ?_ (fun _ => ?_)
noncomputable def laws_eqWaiterS.lv0 (x0 : List (S80)) (x1 : List (S80)) (x5 : Int) : Option (Bool) := lim (fun k_ => laws_eqWaiterS.l0 k_ x0 x1 x5)
noncomputable def laws_eqWaiterS.v (l0 : List (S80)) (l1 : List (S80)) : Option (Bool) := lim (fun k_ => laws_eqWaiterS.f k_ l0 l1)
theorem laws_eqWaiterS.lv0_lim (x0 : List (S80)) (x1 : List (S80)) (x5 : Int) : LimIs (fun k_ => laws_eqWaiterS.l0 k_ x0 x1 x5) (laws_eqWaiterS.lv0 x0 x1 x5) := lim_is (fun k_ => (laws_eqWaiterS.mono_l k_) x0 x1 x5)
theorem laws_eqWaiterS.v_lim (l0 : List (S80)) (l1 : List (S80)) : LimIs (fun k_ => laws_eqWaiterS.f k_ l0 l1) (laws_eqWaiterS.v l0 l1) := lim_is (fun k_ => laws_eqWaiterS.mono l0 l1 k_)
theorem laws_eqWaiterS.lv0_eq (x0 : List (S80)) (x1 : List (S80)) (x5 : Int) : laws_eqWaiterS.lv0 x0 x1 x5 = (if x5 < (x0.length : Int) then (if 0 ≤ x5 then (if x5 < (x1.length : Int) then ((laws_eqWaiter.v ((rd_T80 x0 x5).f0) ((rd_T80 x0 x5).f1) ((rd_T80 x1 x5).f0) ((rd_T80 x1 x5).f1)).bind fun t362 => (if t362 = true then (laws_eqWaiterS.lv0 x0 x1 (wrap64 (x5 + 1))) else (some false))) else (none)) else (none)) else (some true) : Option (Bool)) := by
  refine LimIs.eq (laws_eqWaiterS.lv0_lim x0 x1 x5) ?_
  refine LimIs.step (fun k_ => (laws_eqWaiterS.mono_l k_) x0 x1 x5) ?_
  simp only [laws_eqWaiterS.l0]
  repeat' (with_reducible first | exact laws_eqWaiter.v_lim _ _ _ _ | exact laws_eqWaiterS.lv0_lim _ _ _ | exact LimIs.const _ | refine LimIs.ite ?_ ?_ | refine LimIs.bind ?_ (fun _ => ?_))
theorem laws_eqWaiterS.v_eq (l0 : List (S80)) (l1 : List (S80)) : laws_eqWaiterS.v l0 l1 = (if (l0.length : Int) = (l1.length : Int) then (laws_eqWaiterS.lv0 l0 l1 0) else (some false) : Option (Bool)) := by
  refine LimIs.eq (laws_eqWaiterS.v_lim l0 l1) ?_
  simp only [laws_eqWaiterS.f]
  repeat' (with_reducible first | exact laws_eqWaiterS.lv0_lim _ _ _ | exact LimIs.const _ | refine LimIs.ite ?_ ?_ | refine LimIs.bind ?_ (fun _ => ?_))
def laws_eqLock.f (k : Nat) (a0_0 : ByteArray) (a0_1 : Int) (a0_2 : Int) (a0_3 : Int) (l0_4 : List (S80)) (a1_0 : ByteArray) (a1_1 : Int) (a1_2 : Int) (a1_3 : Int) (l1_4 : List (S80)) : Option (Bool) := if a0_0.toList = a1_0.toList then (if a0_1 = a1_1 then (if a0_2 = a1_2 then (if a0_3 = a1_3 then ((laws_eqWaiterS.f k l0_4 l1_4).bind fun t365 => (if t365 = true then (some true) else (some false))) else (some false)) else (some false)) else (some false)) else (some false)
theorem laws_eqLock.mono : ∀ a0 a1 a2 a3 a4 a5 a6 a7 a8 a9 k, LeO (laws_eqLock.f k a0 a1 a2 a3 a4 a5 a6 a7 a8 a9) (laws_eqLock.f (k + 1) a0 a1 a2 a3 a4 a5 a6 a7 a8 a9) := by
  intro a0 a1 a2 a3 a4 a5 a6 a7 a8 a9 k
  unfold laws_eqLock.f
  repeat' first
      | (with_reducible exact laws_eqWaiterS.mono _ _ _)
      | (with_reducible exact LeO.refl _)
      | (with_reducible exact LeO.none _)
      | (with_reducible refine LeO.ite ?_ ?_)
      | (with_reducible refine LeO.bind ?_ (fun _ => ?_))
      | exact laws_eqWaiterS.mono _ _ _
      | exact LeO.none _
      | refine LeO.ite ?_ ?_
      | refine LeO.bind ?_ (fun _ => ?_)
noncomputable def laws_eqLock.v (a0_0 : ByteArray) (a0_1 : Int) (a0_2 : Int) (a0_3 : Int) (l0_4 : List (S80)) (a1_0 : ByteArray) (a1_1 : Int) (a1_2 : Int) (a1_3 : Int) (l1_4 : List (S80)) : Option (Bool) := lim (fun k_ => laws_eqLock.f k_ a0_0 a0_1 a0_2 a0_3 l0_4 a1_0 a1_1 a1_2 a1_3 l1_4)
theorem laws_eqLock.v_lim (a0_0 : ByteArray) (a0_1 : Int) (a0_2 : Int) (a0_3 : Int) (l0_4 : List (S80)) (a1_0 : ByteArray) (a1_1 : Int) (a1_2 : Int) (a1_3 : Int) (l1_4 : List (S80)) : LimIs (fun k_ => laws_eqLock.f k_ a0_0 a0_1 a0_2 a0_3 l0_4 a1_0 a1_1 a1_2 a1_3 l1_4) (laws_eqLock.v a0_0 a0_1 a0_2 a0_3 l0_4 a1_0 a1_1 a1_2 a1_3 l1_4) := lim_is (fun k_ => laws_eqLock.mono a0_0 a0_1 a0_2 a0_3 l0_4 a1_0 a1_1 a1_2 a1_3 l1_4 k_)
theorem laws_eqLock.v_eq (a0_0 : ByteArray) (a0_1 : Int) (a0_2 : Int) (a0_3 : Int) (l0_4 : List (S80)) (a1_0 : ByteArray) (a1_1 : Int) (a1_2 : Int) (a1_3 : Int) (l1_4 : List (S80)) : laws_eqLock.v a0_0 a0_1 a0_2 a0_3 l0_4 a1_0 a1_1 a1_2 a1_3 l1_4 = (if a0_0.toList = a1_0.toList then (if a0_1 = a1_1 then (if a0_2 = a1_2 then (if a0_3 = a1_3 then ((laws_eqWaiterS.v l0_4 l1_4).bind fun t365 => (if t365 = true then (some true) else (some false))) else (some false)) else (some false)) else (some false)) else (some false) : Option (Bool)) := by
  refine LimIs.eq (laws_eqLock.v_lim a0_0 a0_1 a0_2 a0_3 l0_4 a1_0 a1_1 a1_2 a1_3 l1_4) ?_
  simp only [laws_eqLock.f]
  repeat' (with_reducible first | exact laws_eqWaiterS.v_lim _ _ | exact LimIs.const _ | refine LimIs.ite ?_ ?_ | refine LimIs.bind ?_ (fun _ => ?_))
def laws_eqLockS.l0 : Nat → List (S78) → List (S78) → Int → Option (Bool)
  | 0, _, _, _ => none
  | k + 1, x0, x1, x5 => if x5 < (x0.length : Int) then (if 0 ≤ x5 then (if x5 < (x1.length : Int) then ((laws_eqLock.f k ((rd_T78 x0 x5).f0) ((rd_T78 x0 x5).f1) ((rd_T78 x0 x5).f2) ((rd_T78 x0 x5).f3) ((rd_T78 x0 x5).f4) ((rd_T78 x1 x5).f0) ((rd_T78 x1 x5).f1) ((rd_T78 x1 x5).f2) ((rd_T78 x1 x5).f3) ((rd_T78 x1 x5).f4)).bind fun t368 => (if t368 = true then (laws_eqLockS.l0 k x0 x1 (wrap64 (x5 + 1))) else (some false))) else (none)) else (none)) else (some true)
def laws_eqLockS.f (k : Nat) (l0 : List (S78)) (l1 : List (S78)) : Option (Bool) := if (l0.length : Int) = (l1.length : Int) then (laws_eqLockS.l0 k l0 l1 0) else (some false)
theorem laws_eqLockS.mono_l : ∀ k, (∀ y0 y1 y2, LeO (laws_eqLockS.l0 k y0 y1 y2) (laws_eqLockS.l0 (k + 1) y0 y1 y2))
  | 0 => fun _ _ _ r h => by simp [laws_eqLockS.l0] at h
  | k + 1 => by
    have ih0 := laws_eqLockS.mono_l k
    · intro y0 y1 y2
      unfold laws_eqLockS.l0
      repeat' first
      | (with_reducible exact ih0 _ _ _)
      | (with_reducible exact laws_eqLock.mono _ _ _ _ _ _ _ _ _ _ _)
      | (with_reducible exact LeO.refl _)
      | (with_reducible exact LeO.none _)
      | (with_reducible refine LeO.ite ?_ ?_)
      | (with_reducible refine LeO.bind ?_ (fun _ => ?_))
      | exact ih0 _ _ _
      | exact laws_eqLock.mono _ _ _ _ _ _ _ _ _ _ _
      | exact LeO.none _
      | refine LeO.ite ?_ ?_
      | refine LeO.bind ?_ (fun _ => ?_)
theorem laws_eqLockS.mono : ∀ a0 a1 k, LeO (laws_eqLockS.f k a0 a1) (laws_eqLockS.f (k + 1) a0 a1) := by
  intro a0 a1 k
  have ih0 := laws_eqLockS.mono_l k
  unfold laws_eqLockS.f
  repeat' first
      | (with_reducible exact ih0 _ _ _)
      | (with_reducible exact laws_eqLock.mono _ _ _ _ _ _ _ _ _ _ _)
      | (with_reducible exact LeO.refl _)
      | (with_reducible exact LeO.none _)
      | (with_reducible refine LeO.ite ?_ ?_)
      | (with_reducible refine LeO.bind ?_ (fun _ => ?_))
      | exact ih0 _ _ _
      | exact laws_eqLock.mono _ _ _ _ _ _ _ _ _ _ _
      | exact LeO.none _
      | refine LeO.ite ?_ ?_
      | refine LeO.bind ?_ (fun _ => ?_)
noncomputable def laws_eqLockS.lv0 (x0 : List (S78)) (x1 : List (S78)) (x5 : Int) : Option (Bool) := lim (fun k_ => laws_eqLockS.l0 k_ x0 x1 x5)
noncomputable def laws_eqLockS.v (l0 : List (S78)) (l1 : List (S78)) : Option (Bool) := lim (fun k_ => laws_eqLockS.f k_ l0 l1)
theorem laws_eqLockS.lv0_lim (x0 : List (S78)) (x1 : List (S78)) (x5 : Int) : LimIs (fun k_ => laws_eqLockS.l0 k_ x0 x1 x5) (laws_eqLockS.lv0 x0 x1 x5) := lim_is (fun k_ => (laws_eqLockS.mono_l k_) x0 x1 x5)
theorem laws_eqLockS.v_lim (l0 : List (S78)) (l1 : List (S78)) : LimIs (fun k_ => laws_eqLockS.f k_ l0 l1) (laws_eqLockS.v l0 l1) := lim_is (fun k_ => laws_eqLockS.mono l0 l1 k_)
theorem laws_eqLockS.lv0_eq (x0 : List (S78)) (x1 : List (S78)) (x5 : Int) : laws_eqLockS.lv0 x0 x1 x5 = (if x5 < (x0.length : Int) then (if 0 ≤ x5 then (if x5 < (x1.length : Int) then ((laws_eqLock.v ((rd_T78 x0 x5).f0) ((rd_T78 x0 x5).f1) ((rd_T78 x0 x5).f2) ((rd_T78 x0 x5).f3) ((rd_T78 x0 x5).f4) ((rd_T78 x1 x5).f0) ((rd_T78 x1 x5).f1) ((rd_T78 x1 x5).f2) ((rd_T78 x1 x5).f3) ((rd_T78 x1 x5).f4)).bind fun t368 => (if t368 = true then (laws_eqLockS.lv0 x0 x1 (wrap64 (x5 + 1))) else (some false))) else (none)) else (none)) else (some true) : Option (Bool)) := by
  refine LimIs.eq (laws_eqLockS.lv0_lim x0 x1 x5) ?_
  refine LimIs.step (fun k_ => (laws_eqLockS.mono_l k_) x0 x1 x5) ?_
  simp only [laws_eqLockS.l0]
  repeat' (with_reducible first | exact laws_eqLock.v_lim _ _ _ _ _ _ _ _ _ _ | exact laws_eqLockS.lv0_lim _ _ _ | exact LimIs.const _ | refine LimIs.ite ?_ ?_ | refine LimIs.bind ?_ (fun _ => ?_))
theorem laws_eqLockS.v_eq (l0 : List (S78)) (l1 : List (S78)) : laws_eqLockS.v l0 l1 = (if (l0.length : Int) = (l1.length : Int) then (laws_eqLockS.lv0 l0 l1 0) else (some false) : Option (Bool)) := by
  refine LimIs.eq (laws_eqLockS.v_lim l0 l1) ?_
  simp only [laws_eqLockS.f]
  repeat' (with_reducible first | exact laws_eqLockS.lv0_lim _ _ _ | exact LimIs.const _ | refine LimIs.ite ?_ ?_ | refine LimIs.bind ?_ (fun _ => ?_))
def laws_eqAnswer.f (a0_0 : Int) (a0_1 : Int) (a0_2 : Int) (a0_3 : Int) (a1_0 : Int) (a1_1 : Int) (a1_2 : Int) (a1_3 : Int) : Option (Bool) := if a0_0 = a1_0 then (if a0_1 = a1_1 then (if a0_2 = a1_2 then (if a0_3 = a1_3 then (some true) else (some false)) else (some false)) else (some false)) else (some false)
def laws_eqAnswer.v (a0_0 : Int) (a0_1 : Int) (a0_2 : Int) (a0_3 : Int) (a1_0 : Int) (a1_1 : Int) (a1_2 : Int) (a1_3 : Int) : Option (Bool) := laws_eqAnswer.f a0_0 a0_1 a0_2 a0_3 a1_0 a1_1 a1_2 a1_3
theorem laws_eqAnswer.v_eq (a0_0 : Int) (a0_1 : Int) (a0_2 : Int) (a0_3 : Int) (a1_0 : Int) (a1_1 : Int) (a1_2 : Int) (a1_3 : Int) : laws_eqAnswer.v a0_0 a0_1 a0_2 a0_3 a1_0 a1_1 a1_2 a1_3 = (if a0_0 = a1_0 then (if a0_1 = a1_1 then (if a0_2 = a1_2 then (if a0_3 = a1_3 then (some true) else (some false)) else (some false)) else (some false)) else (some false) : Option (Bool)) := rfl
def laws_eqSeen.f (a0_0 : Int) (a0_1 : Int) (a0_2 : Int) (a0_3 : Int) (a0_4 : Int) (a0_5 : Int) (a1_0 : Int) (a1_1 : Int) (a1_2 : Int) (a1_3 : Int) (a1_4 : Int) (a1_5 : Int) : Option (Bool) := if a0_0 = a1_0 then (if a0_1 = a1_1 then ((laws_eqAnswer.f a0_2 a0_3 a0_4 a0_5 a1_2 a1_3 a1_4 a1_5).bind fun t373 => (if t373 = true then (some true) else (some false))) else (some false)) else (some false)
def laws_eqSeen.v (a0_0 : Int) (a0_1 : Int) (a0_2 : Int) (a0_3 : Int) (a0_4 : Int) (a0_5 : Int) (a1_0 : Int) (a1_1 : Int) (a1_2 : Int) (a1_3 : Int) (a1_4 : Int) (a1_5 : Int) : Option (Bool) := laws_eqSeen.f a0_0 a0_1 a0_2 a0_3 a0_4 a0_5 a1_0 a1_1 a1_2 a1_3 a1_4 a1_5
theorem laws_eqSeen.v_lim (a0_0 : Int) (a0_1 : Int) (a0_2 : Int) (a0_3 : Int) (a0_4 : Int) (a0_5 : Int) (a1_0 : Int) (a1_1 : Int) (a1_2 : Int) (a1_3 : Int) (a1_4 : Int) (a1_5 : Int) : LimIs (fun _ => laws_eqSeen.f a0_0 a0_1 a0_2 a0_3 a0_4 a0_5 a1_0 a1_1 a1_2 a1_3 a1_4 a1_5) (laws_eqSeen.v a0_0 a0_1 a0_2 a0_3 a0_4 a0_5 a1_0 a1_1 a1_2 a1_3 a1_4 a1_5) := LimIs.const _
theorem laws_eqSeen.v_eq (a0_0 : Int) (a0_1 : Int) (a0_2 : Int) (a0_3 : Int) (a0_4 : Int) (a0_5 : Int) (a1_0 : Int) (a1_1 : Int) (a1_2 : Int) (a1_3 : Int) (a1_4 : Int) (a1_5 : Int) : laws_eqSeen.v a0_0 a0_1 a0_2 a0_3 a0_4 a0_5 a1_0 a1_1 a1_2 a1_3 a1_4 a1_5 = (if a0_0 = a1_0 then (if a0_1 = a1_1 then ((laws_eqAnswer.v a0_2 a0_3 a0_4 a0_5 a1_2 a1_3 a1_4 a1_5).bind fun t373 => (if t373 = true then (some true) else (some false))) else (some false)) else (some false) : Option (Bool)) := rfl
def laws_eqSeenS.l0 : Nat → List (S84) → List (S84) → Int → Option (Bool)
  | 0, _, _, _ => none
  | k + 1, x0, x1, x5 => if x5 < (x0.length : Int) then (if 0 ≤ x5 then (if x5 < (x1.length : Int) then ((laws_eqSeen.f ((rd_T84 x0 x5).f0) ((rd_T84 x0 x5).f1) ((rd_T84 x0 x5).f2.f0) ((rd_T84 x0 x5).f2.f1) ((rd_T84 x0 x5).f2.f2) ((rd_T84 x0 x5).f2.f3) ((rd_T84 x1 x5).f0) ((rd_T84 x1 x5).f1) ((rd_T84 x1 x5).f2.f0) ((rd_T84 x1 x5).f2.f1) ((rd_T84 x1 x5).f2.f2) ((rd_T84 x1 x5).f2.f3)).bind fun t376 => (if t376 = true then (laws_eqSeenS.l0 k x0 x1 (wrap64 (x5 + 1))) else (some false))) else (none)) else (none)) else (some true)
def laws_eqSeenS.f (k : Nat) (l0 : List (S84)) (l1 : List (S84)) : Option (Bool) := if (l0.length : Int) = (l1.length : Int) then (laws_eqSeenS.l0 k l0 l1 0) else (some false)
theorem laws_eqSeenS.mono_l : ∀ k, (∀ y0 y1 y2, LeO (laws_eqSeenS.l0 k y0 y1 y2) (laws_eqSeenS.l0 (k + 1) y0 y1 y2))
  | 0 => fun _ _ _ r h => by simp [laws_eqSeenS.l0] at h
  | k + 1 => by
    have ih0 := laws_eqSeenS.mono_l k
    · intro y0 y1 y2
      unfold laws_eqSeenS.l0
      repeat' first
      | (with_reducible exact ih0 _ _ _)
      | (with_reducible exact LeO.refl _)
      | (with_reducible exact LeO.none _)
      | (with_reducible refine LeO.ite ?_ ?_)
      | (with_reducible refine LeO.bind ?_ (fun _ => ?_))
      | exact ih0 _ _ _
      | exact LeO.none _
      | refine LeO.ite ?_ ?_
      | refine LeO.bind ?_ (fun _ => ?_)
theorem laws_eqSeenS.mono : ∀ a0 a1 k, LeO (laws_eqSeenS.f k a0 a1) (laws_eqSeenS.f (k + 1) a0 a1) := by
  intro a0 a1 k
  have ih0 := laws_eqSeenS.mono_l k
  unfold laws_eqSeenS.f
  repeat' first
      | (with_reducible exact ih0 _ _ _)
      | (with_reducible exact LeO.refl _)
      | (with_reducible exact LeO.none _)
      | (with_reducible refine LeO.ite ?_ ?_)
      | (with_reducible refine LeO.bind ?_ (fun _ => ?_))
      | exact ih0 _ _ _
      | exact LeO.none _
      | refine LeO.ite ?_ ?_
      | refine LeO.bind ?_ (fun _ => ?_)
noncomputable def laws_eqSeenS.lv0 (x0 : List (S84)) (x1 : List (S84)) (x5 : Int) : Option (Bool) := lim (fun k_ => laws_eqSeenS.l0 k_ x0 x1 x5)
noncomputable def laws_eqSeenS.v (l0 : List (S84)) (l1 : List (S84)) : Option (Bool) := lim (fun k_ => laws_eqSeenS.f k_ l0 l1)
theorem laws_eqSeenS.lv0_lim (x0 : List (S84)) (x1 : List (S84)) (x5 : Int) : LimIs (fun k_ => laws_eqSeenS.l0 k_ x0 x1 x5) (laws_eqSeenS.lv0 x0 x1 x5) := lim_is (fun k_ => (laws_eqSeenS.mono_l k_) x0 x1 x5)
theorem laws_eqSeenS.v_lim (l0 : List (S84)) (l1 : List (S84)) : LimIs (fun k_ => laws_eqSeenS.f k_ l0 l1) (laws_eqSeenS.v l0 l1) := lim_is (fun k_ => laws_eqSeenS.mono l0 l1 k_)
theorem laws_eqSeenS.lv0_eq (x0 : List (S84)) (x1 : List (S84)) (x5 : Int) : laws_eqSeenS.lv0 x0 x1 x5 = (if x5 < (x0.length : Int) then (if 0 ≤ x5 then (if x5 < (x1.length : Int) then ((laws_eqSeen.v ((rd_T84 x0 x5).f0) ((rd_T84 x0 x5).f1) ((rd_T84 x0 x5).f2.f0) ((rd_T84 x0 x5).f2.f1) ((rd_T84 x0 x5).f2.f2) ((rd_T84 x0 x5).f2.f3) ((rd_T84 x1 x5).f0) ((rd_T84 x1 x5).f1) ((rd_T84 x1 x5).f2.f0) ((rd_T84 x1 x5).f2.f1) ((rd_T84 x1 x5).f2.f2) ((rd_T84 x1 x5).f2.f3)).bind fun t376 => (if t376 = true then (laws_eqSeenS.lv0 x0 x1 (wrap64 (x5 + 1))) else (some false))) else (none)) else (none)) else (some true) : Option (Bool)) := by
  refine LimIs.eq (laws_eqSeenS.lv0_lim x0 x1 x5) ?_
  refine LimIs.step (fun k_ => (laws_eqSeenS.mono_l k_) x0 x1 x5) ?_
  simp only [laws_eqSeenS.l0]
  repeat' (with_reducible first | exact laws_eqSeen.v_lim _ _ _ _ _ _ _ _ _ _ _ _ | exact laws_eqSeenS.lv0_lim _ _ _ | exact LimIs.const _ | refine LimIs.ite ?_ ?_ | refine LimIs.bind ?_ (fun _ => ?_))
theorem laws_eqSeenS.v_eq (l0 : List (S84)) (l1 : List (S84)) : laws_eqSeenS.v l0 l1 = (if (l0.length : Int) = (l1.length : Int) then (laws_eqSeenS.lv0 l0 l1 0) else (some false) : Option (Bool)) := by
  refine LimIs.eq (laws_eqSeenS.v_lim l0 l1) ?_
  simp only [laws_eqSeenS.f]
  repeat' (with_reducible first | exact laws_eqSeenS.lv0_lim _ _ _ | exact LimIs.const _ | refine LimIs.ite ?_ ?_ | refine LimIs.bind ?_ (fun _ => ?_))
def laws_eqTable.f (k : Nat) (a0_0 : Int) (a0_1 : Int) (l0_2 : List (S78)) (l0_3 : List (S84)) (a1_0 : Int) (a1_1 : Int) (l1_2 : List (S78)) (l1_3 : List (S84)) : Option (Bool) := if a0_0 = a1_0 then (if a0_1 = a1_1 then ((laws_eqLockS.f k l0_2 l1_2).bind fun t379 => (if t379 = true then ((laws_eqSeenS.f k l0_3 l1_3).bind fun t380 => (if t380 = true then (some true) else (some false))) else (some false))) else (some false)) else (some false)
theorem laws_eqTable.mono : ∀ a0 a1 a2 a3 a4 a5 a6 a7 k, LeO (laws_eqTable.f k a0 a1 a2 a3 a4 a5 a6 a7) (laws_eqTable.f (k + 1) a0 a1 a2 a3 a4 a5 a6 a7) := by
  intro a0 a1 a2 a3 a4 a5 a6 a7 k
  unfold laws_eqTable.f
  repeat' first
      | (with_reducible exact laws_eqLockS.mono _ _ _)
      | (with_reducible exact laws_eqSeenS.mono _ _ _)
      | (with_reducible exact LeO.refl _)
      | (with_reducible exact LeO.none _)
      | (with_reducible refine LeO.ite ?_ ?_)
      | (with_reducible refine LeO.bind ?_ (fun _ => ?_))
      | exact laws_eqLockS.mono _ _ _
      | exact laws_eqSeenS.mono _ _ _
      | exact LeO.none _
      | refine LeO.ite ?_ ?_
      | refine LeO.bind ?_ (fun _ => ?_)
noncomputable def laws_eqTable.v (a0_0 : Int) (a0_1 : Int) (l0_2 : List (S78)) (l0_3 : List (S84)) (a1_0 : Int) (a1_1 : Int) (l1_2 : List (S78)) (l1_3 : List (S84)) : Option (Bool) := lim (fun k_ => laws_eqTable.f k_ a0_0 a0_1 l0_2 l0_3 a1_0 a1_1 l1_2 l1_3)
theorem laws_eqTable.v_lim (a0_0 : Int) (a0_1 : Int) (l0_2 : List (S78)) (l0_3 : List (S84)) (a1_0 : Int) (a1_1 : Int) (l1_2 : List (S78)) (l1_3 : List (S84)) : LimIs (fun k_ => laws_eqTable.f k_ a0_0 a0_1 l0_2 l0_3 a1_0 a1_1 l1_2 l1_3) (laws_eqTable.v a0_0 a0_1 l0_2 l0_3 a1_0 a1_1 l1_2 l1_3) := lim_is (fun k_ => laws_eqTable.mono a0_0 a0_1 l0_2 l0_3 a1_0 a1_1 l1_2 l1_3 k_)
theorem laws_eqTable.v_eq (a0_0 : Int) (a0_1 : Int) (l0_2 : List (S78)) (l0_3 : List (S84)) (a1_0 : Int) (a1_1 : Int) (l1_2 : List (S78)) (l1_3 : List (S84)) : laws_eqTable.v a0_0 a0_1 l0_2 l0_3 a1_0 a1_1 l1_2 l1_3 = (if a0_0 = a1_0 then (if a0_1 = a1_1 then ((laws_eqLockS.v l0_2 l1_2).bind fun t379 => (if t379 = true then ((laws_eqSeenS.v l0_3 l1_3).bind fun t380 => (if t380 = true then (some true) else (some false))) else (some false))) else (some false)) else (some false) : Option (Bool)) := by
  refine LimIs.eq (laws_eqTable.v_lim a0_0 a0_1 l0_2 l0_3 a1_0 a1_1 l1_2 l1_3) ?_
  simp only [laws_eqTable.f]
  repeat' (with_reducible first | exact laws_eqLockS.v_lim _ _ | exact laws_eqSeenS.v_lim _ _ | exact LimIs.const _ | refine LimIs.ite ?_ ?_ | refine LimIs.bind ?_ (fun _ => ?_))
def laws_eqByteS.l0 : Nat → List Int → List Int → Int → Option (Bool)
  | 0, _, _, _ => none
  | k + 1, x0, x1, x5 => if x5 < (x0.length : Int) then (if 0 ≤ x5 then (if x5 < (x1.length : Int) then (if (rd x0 x5) = (rd x1 x5) then (laws_eqByteS.l0 k x0 x1 (wrap64 (x5 + 1))) else (some false)) else (none)) else (none)) else (some true)
def laws_eqByteS.f (k : Nat) (l0 : List Int) (l1 : List Int) : Option (Bool) := if (l0.length : Int) = (l1.length : Int) then (laws_eqByteS.l0 k l0 l1 0) else (some false)
theorem laws_eqByteS.mono_l : ∀ k, (∀ y0 y1 y2, LeO (laws_eqByteS.l0 k y0 y1 y2) (laws_eqByteS.l0 (k + 1) y0 y1 y2))
  | 0 => fun _ _ _ r h => by simp [laws_eqByteS.l0] at h
  | k + 1 => by
    have ih0 := laws_eqByteS.mono_l k
    · intro y0 y1 y2
      unfold laws_eqByteS.l0
      repeat' first
      | (with_reducible exact ih0 _ _ _)
      | (with_reducible exact LeO.refl _)
      | (with_reducible exact LeO.none _)
      | (with_reducible refine LeO.ite ?_ ?_)
      | (with_reducible refine LeO.bind ?_ (fun _ => ?_))
      | exact ih0 _ _ _
      | exact LeO.none _
      | refine LeO.ite ?_ ?_
      | refine LeO.bind ?_ (fun _ => ?_)
theorem laws_eqByteS.mono : ∀ a0 a1 k, LeO (laws_eqByteS.f k a0 a1) (laws_eqByteS.f (k + 1) a0 a1) := by
  intro a0 a1 k
  have ih0 := laws_eqByteS.mono_l k
  unfold laws_eqByteS.f
  repeat' first
      | (with_reducible exact ih0 _ _ _)
      | (with_reducible exact LeO.refl _)
      | (with_reducible exact LeO.none _)
      | (with_reducible refine LeO.ite ?_ ?_)
      | (with_reducible refine LeO.bind ?_ (fun _ => ?_))
      | exact ih0 _ _ _
      | exact LeO.none _
      | refine LeO.ite ?_ ?_
      | refine LeO.bind ?_ (fun _ => ?_)
noncomputable def laws_eqByteS.lv0 (x0 : List Int) (x1 : List Int) (x5 : Int) : Option (Bool) := lim (fun k_ => laws_eqByteS.l0 k_ x0 x1 x5)
noncomputable def laws_eqByteS.v (l0 : List Int) (l1 : List Int) : Option (Bool) := lim (fun k_ => laws_eqByteS.f k_ l0 l1)
theorem laws_eqByteS.lv0_lim (x0 : List Int) (x1 : List Int) (x5 : Int) : LimIs (fun k_ => laws_eqByteS.l0 k_ x0 x1 x5) (laws_eqByteS.lv0 x0 x1 x5) := lim_is (fun k_ => (laws_eqByteS.mono_l k_) x0 x1 x5)
theorem laws_eqByteS.v_lim (l0 : List Int) (l1 : List Int) : LimIs (fun k_ => laws_eqByteS.f k_ l0 l1) (laws_eqByteS.v l0 l1) := lim_is (fun k_ => laws_eqByteS.mono l0 l1 k_)
theorem laws_eqByteS.lv0_eq (x0 : List Int) (x1 : List Int) (x5 : Int) : laws_eqByteS.lv0 x0 x1 x5 = (if x5 < (x0.length : Int) then (if 0 ≤ x5 then (if x5 < (x1.length : Int) then (if (rd x0 x5) = (rd x1 x5) then (laws_eqByteS.lv0 x0 x1 (wrap64 (x5 + 1))) else (some false)) else (none)) else (none)) else (some true) : Option (Bool)) := by
  refine LimIs.eq (laws_eqByteS.lv0_lim x0 x1 x5) ?_
  refine LimIs.step (fun k_ => (laws_eqByteS.mono_l k_) x0 x1 x5) ?_
  simp only [laws_eqByteS.l0]
  repeat' (with_reducible first | exact laws_eqByteS.lv0_lim _ _ _ | exact LimIs.const _ | refine LimIs.ite ?_ ?_ | refine LimIs.bind ?_ (fun _ => ?_))
theorem laws_eqByteS.v_eq (l0 : List Int) (l1 : List Int) : laws_eqByteS.v l0 l1 = (if (l0.length : Int) = (l1.length : Int) then (laws_eqByteS.lv0 l0 l1 0) else (some false) : Option (Bool)) := by
  refine LimIs.eq (laws_eqByteS.v_lim l0 l1) ?_
  simp only [laws_eqByteS.f]
  repeat' (with_reducible first | exact laws_eqByteS.lv0_lim _ _ _ | exact LimIs.const _ | refine LimIs.ite ?_ ?_ | refine LimIs.bind ?_ (fun _ => ?_))
def laws_markByteS.l0 : Nat → List Int → Int → Int → Option (Int × List Int)
  | 0, _, _, _ => none
  | k + 1, x0, x1, x5 => if x5 < (x0.length : Int) then (if 0 ≤ x5 then (laws_markByteS.l0 k (x0.set (x5 : Int).toNat ((x1) % 256)) (wrap64 (x1 + 1)) (wrap64 (x5 + 1))) else (none)) else (some (x1, x0))
def laws_markByteS.f (k : Nat) (l0 : List Int) (a1 : Int) : Option (Int × List Int) := laws_markByteS.l0 k l0 a1 0
theorem laws_markByteS.mono_l : ∀ k, (∀ y0 y1 y2, LeO (laws_markByteS.l0 k y0 y1 y2) (laws_markByteS.l0 (k + 1) y0 y1 y2))
  | 0 => fun _ _ _ r h => by simp [laws_markByteS.l0] at h
  | k + 1 => by
    have ih0 := laws_markByteS.mono_l k
    · intro y0 y1 y2
      unfold laws_markByteS.l0
      repeat' first
      | (with_reducible exact ih0 _ _ _)
      | (with_reducible exact LeO.refl _)
      | (with_reducible exact LeO.none _)
      | (with_reducible refine LeO.ite ?_ ?_)
      | (with_reducible refine LeO.bind ?_ (fun _ => ?_))
      | exact ih0 _ _ _
      | exact LeO.none _
      | refine LeO.ite ?_ ?_
      | refine LeO.bind ?_ (fun _ => ?_)
theorem laws_markByteS.mono : ∀ a0 a1 k, LeO (laws_markByteS.f k a0 a1) (laws_markByteS.f (k + 1) a0 a1) := by
  intro a0 a1 k
  have ih0 := laws_markByteS.mono_l k
  unfold laws_markByteS.f
  repeat' first
      | (with_reducible exact ih0 _ _ _)
      | (with_reducible exact LeO.refl _)
      | (with_reducible exact LeO.none _)
      | (with_reducible refine LeO.ite ?_ ?_)
      | (with_reducible refine LeO.bind ?_ (fun _ => ?_))
      | exact ih0 _ _ _
      | exact LeO.none _
      | refine LeO.ite ?_ ?_
      | refine LeO.bind ?_ (fun _ => ?_)
noncomputable def laws_markByteS.lv0 (x0 : List Int) (x1 : Int) (x5 : Int) : Option (Int × List Int) := lim (fun k_ => laws_markByteS.l0 k_ x0 x1 x5)
noncomputable def laws_markByteS.v (l0 : List Int) (a1 : Int) : Option (Int × List Int) := lim (fun k_ => laws_markByteS.f k_ l0 a1)
theorem laws_markByteS.lv0_lim (x0 : List Int) (x1 : Int) (x5 : Int) : LimIs (fun k_ => laws_markByteS.l0 k_ x0 x1 x5) (laws_markByteS.lv0 x0 x1 x5) := lim_is (fun k_ => (laws_markByteS.mono_l k_) x0 x1 x5)
theorem laws_markByteS.v_lim (l0 : List Int) (a1 : Int) : LimIs (fun k_ => laws_markByteS.f k_ l0 a1) (laws_markByteS.v l0 a1) := lim_is (fun k_ => laws_markByteS.mono l0 a1 k_)
theorem laws_markByteS.lv0_eq (x0 : List Int) (x1 : Int) (x5 : Int) : laws_markByteS.lv0 x0 x1 x5 = (if x5 < (x0.length : Int) then (if 0 ≤ x5 then (laws_markByteS.lv0 (x0.set (x5 : Int).toNat ((x1) % 256)) (wrap64 (x1 + 1)) (wrap64 (x5 + 1))) else (none)) else (some (x1, x0)) : Option (Int × List Int)) := by
  refine LimIs.eq (laws_markByteS.lv0_lim x0 x1 x5) ?_
  refine LimIs.step (fun k_ => (laws_markByteS.mono_l k_) x0 x1 x5) ?_
  simp only [laws_markByteS.l0]
  repeat' (with_reducible first | exact laws_markByteS.lv0_lim _ _ _ | exact LimIs.const _ | refine LimIs.ite ?_ ?_ | refine LimIs.bind ?_ (fun _ => ?_))
theorem laws_markByteS.v_eq (l0 : List Int) (a1 : Int) : laws_markByteS.v l0 a1 = (laws_markByteS.lv0 l0 a1 0 : Option (Int × List Int)) := by
  refine LimIs.eq (laws_markByteS.v_lim l0 a1) ?_
  simp only [laws_markByteS.f]
  repeat' (with_reducible first | exact laws_markByteS.lv0_lim _ _ _ | exact LimIs.const _ | refine LimIs.ite ?_ ?_ | refine LimIs.bind ?_ (fun _ => ?_))
def laws_markText.l0 : Nat → Int → ByteArray → Option (ByteArray)
  | 0, _, _ => none
  | k + 1, x0, x3 => if x0 > 0 then ((some (([(wrap64 (48 + (Int.tmod x0 10))) % 256] : List Int) : List Int)).bind fun y384 => (if (strOfNums y384).size + x3.size ≤ 9223372036854775807 then (laws_markText.l0 k (wrap64 (Int.tdiv x0 10)) ((strOfNums y384) ++ x3)) else (none))) else (if 1 + x3.size ≤ 9223372036854775807 then (some ((⟨#[109]⟩ : ByteArray) ++ x3)) else (none))
def laws_markText.f (k : Nat) (a0 : Int) : Option (ByteArray) := if a0 ≤ 0 then (some (⟨#[109, 48]⟩ : ByteArray)) else (laws_markText.l0 k a0 (⟨#[]⟩ : ByteArray))
theorem laws_markText.mono_l : ∀ k, (∀ y0 y1, LeO (laws_markText.l0 k y0 y1) (laws_markText.l0 (k + 1) y0 y1))
  | 0 => fun _ _ r h => by simp [laws_markText.l0] at h
  | k + 1 => by
    have ih0 := laws_markText.mono_l k
    · intro y0 y1
      unfold laws_markText.l0
      repeat' first
      | (with_reducible exact ih0 _ _)
      | (with_reducible exact LeO.refl _)
      | (with_reducible exact LeO.none _)
      | (with_reducible refine LeO.ite ?_ ?_)
      | (with_reducible refine LeO.bind ?_ (fun _ => ?_))
      | exact ih0 _ _
      | exact LeO.none _
      | refine LeO.ite ?_ ?_
      | refine LeO.bind ?_ (fun _ => ?_)
theorem laws_markText.mono : ∀ a0 k, LeO (laws_markText.f k a0) (laws_markText.f (k + 1) a0) := by
  intro a0 k
  have ih0 := laws_markText.mono_l k
  unfold laws_markText.f
  repeat' first
      | (with_reducible exact ih0 _ _)
      | (with_reducible exact LeO.refl _)
      | (with_reducible exact LeO.none _)
      | (with_reducible refine LeO.ite ?_ ?_)
      | (with_reducible refine LeO.bind ?_ (fun _ => ?_))
      | exact ih0 _ _
      | exact LeO.none _
      | refine LeO.ite ?_ ?_
      | refine LeO.bind ?_ (fun _ => ?_)
noncomputable def laws_markText.lv0 (x0 : Int) (x3 : ByteArray) : Option (ByteArray) := lim (fun k_ => laws_markText.l0 k_ x0 x3)
noncomputable def laws_markText.v (a0 : Int) : Option (ByteArray) := lim (fun k_ => laws_markText.f k_ a0)
theorem laws_markText.lv0_lim (x0 : Int) (x3 : ByteArray) : LimIs (fun k_ => laws_markText.l0 k_ x0 x3) (laws_markText.lv0 x0 x3) := lim_is (fun k_ => (laws_markText.mono_l k_) x0 x3)
theorem laws_markText.v_lim (a0 : Int) : LimIs (fun k_ => laws_markText.f k_ a0) (laws_markText.v a0) := lim_is (fun k_ => laws_markText.mono a0 k_)
theorem laws_markText.lv0_eq (x0 : Int) (x3 : ByteArray) : laws_markText.lv0 x0 x3 = (if x0 > 0 then ((some (([(wrap64 (48 + (Int.tmod x0 10))) % 256] : List Int) : List Int)).bind fun y384 => (if (strOfNums y384).size + x3.size ≤ 9223372036854775807 then (laws_markText.lv0 (wrap64 (Int.tdiv x0 10)) ((strOfNums y384) ++ x3)) else (none))) else (if 1 + x3.size ≤ 9223372036854775807 then (some ((⟨#[109]⟩ : ByteArray) ++ x3)) else (none)) : Option (ByteArray)) := by
  refine LimIs.eq (laws_markText.lv0_lim x0 x3) ?_
  refine LimIs.step (fun k_ => (laws_markText.mono_l k_) x0 x3) ?_
  simp only [laws_markText.l0]
  repeat' (with_reducible first | exact laws_markText.lv0_lim _ _ | exact LimIs.const _ | refine LimIs.ite ?_ ?_ | refine LimIs.bind ?_ (fun _ => ?_))
theorem laws_markText.v_eq (a0 : Int) : laws_markText.v a0 = (if a0 ≤ 0 then (some (⟨#[109, 48]⟩ : ByteArray)) else (laws_markText.lv0 a0 (⟨#[]⟩ : ByteArray)) : Option (ByteArray)) := by
  refine LimIs.eq (laws_markText.v_lim a0) ?_
  simp only [laws_markText.f]
  repeat' (with_reducible first | exact laws_markText.lv0_lim _ _ | exact LimIs.const _ | refine LimIs.ite ?_ ?_ | refine LimIs.bind ?_ (fun _ => ?_))
def laws_markWaiterS.l0 : Nat → List (S80) → Int → Int → Option (Int × (List (S80)))
  | 0, _, _, _ => none
  | k + 1, x0, x1, x5 => if x5 < (x0.length : Int) then (if 0 ≤ x5 then ((some (x0.set (x5 : Int).toNat (⟨x1, (rd_T80 x0 x5).f1⟩ : S80) : List (S80))).bind fun y387 => (laws_markWaiterS.l0 k (y387.set (x5 : Int).toNat (⟨(rd_T80 y387 x5).f0, wrap64 (x1 + 1)⟩ : S80)) (wrap64 ((wrap64 (x1 + 1)) + 1)) (wrap64 (x5 + 1)))) else (none)) else (some (x1, x0))
def laws_markWaiterS.f (k : Nat) (l0 : List (S80)) (a1 : Int) : Option (Int × (List (S80))) := laws_markWaiterS.l0 k l0 a1 0
theorem laws_markWaiterS.mono_l : ∀ k, (∀ y0 y1 y2, LeO (laws_markWaiterS.l0 k y0 y1 y2) (laws_markWaiterS.l0 (k + 1) y0 y1 y2))
  | 0 => fun _ _ _ r h => by simp [laws_markWaiterS.l0] at h
  | k + 1 => by
    have ih0 := laws_markWaiterS.mono_l k
    · intro y0 y1 y2
      unfold laws_markWaiterS.l0
      repeat' first
      | (with_reducible exact ih0 _ _ _)
      | (with_reducible exact LeO.refl _)
      | (with_reducible exact LeO.none _)
      | (with_reducible refine LeO.ite ?_ ?_)
      | (with_reducible refine LeO.bind ?_ (fun _ => ?_))
      | exact ih0 _ _ _
      | exact LeO.none _
      | refine LeO.ite ?_ ?_
      | refine LeO.bind ?_ (fun _ => ?_)
theorem laws_markWaiterS.mono : ∀ a0 a1 k, LeO (laws_markWaiterS.f k a0 a1) (laws_markWaiterS.f (k + 1) a0 a1) := by
  intro a0 a1 k
  have ih0 := laws_markWaiterS.mono_l k
  unfold laws_markWaiterS.f
  repeat' first
      | (with_reducible exact ih0 _ _ _)
      | (with_reducible exact LeO.refl _)
      | (with_reducible exact LeO.none _)
      | (with_reducible refine LeO.ite ?_ ?_)
      | (with_reducible refine LeO.bind ?_ (fun _ => ?_))
      | exact ih0 _ _ _
      | exact LeO.none _
      | refine LeO.ite ?_ ?_
      | refine LeO.bind ?_ (fun _ => ?_)
noncomputable def laws_markWaiterS.lv0 (x0 : List (S80)) (x1 : Int) (x5 : Int) : Option (Int × (List (S80))) := lim (fun k_ => laws_markWaiterS.l0 k_ x0 x1 x5)
noncomputable def laws_markWaiterS.v (l0 : List (S80)) (a1 : Int) : Option (Int × (List (S80))) := lim (fun k_ => laws_markWaiterS.f k_ l0 a1)
theorem laws_markWaiterS.lv0_lim (x0 : List (S80)) (x1 : Int) (x5 : Int) : LimIs (fun k_ => laws_markWaiterS.l0 k_ x0 x1 x5) (laws_markWaiterS.lv0 x0 x1 x5) := lim_is (fun k_ => (laws_markWaiterS.mono_l k_) x0 x1 x5)
theorem laws_markWaiterS.v_lim (l0 : List (S80)) (a1 : Int) : LimIs (fun k_ => laws_markWaiterS.f k_ l0 a1) (laws_markWaiterS.v l0 a1) := lim_is (fun k_ => laws_markWaiterS.mono l0 a1 k_)
theorem laws_markWaiterS.lv0_eq (x0 : List (S80)) (x1 : Int) (x5 : Int) : laws_markWaiterS.lv0 x0 x1 x5 = (if x5 < (x0.length : Int) then (if 0 ≤ x5 then ((some (x0.set (x5 : Int).toNat (⟨x1, (rd_T80 x0 x5).f1⟩ : S80) : List (S80))).bind fun y387 => (laws_markWaiterS.lv0 (y387.set (x5 : Int).toNat (⟨(rd_T80 y387 x5).f0, wrap64 (x1 + 1)⟩ : S80)) (wrap64 ((wrap64 (x1 + 1)) + 1)) (wrap64 (x5 + 1)))) else (none)) else (some (x1, x0)) : Option (Int × (List (S80)))) := by
  refine LimIs.eq (laws_markWaiterS.lv0_lim x0 x1 x5) ?_
  refine LimIs.step (fun k_ => (laws_markWaiterS.mono_l k_) x0 x1 x5) ?_
  simp only [laws_markWaiterS.l0]
  repeat' (with_reducible first | exact laws_markWaiterS.lv0_lim _ _ _ | exact LimIs.const _ | refine LimIs.ite ?_ ?_ | refine LimIs.bind ?_ (fun _ => ?_))
theorem laws_markWaiterS.v_eq (l0 : List (S80)) (a1 : Int) : laws_markWaiterS.v l0 a1 = (laws_markWaiterS.lv0 l0 a1 0 : Option (Int × (List (S80)))) := by
  refine LimIs.eq (laws_markWaiterS.v_lim l0 a1) ?_
  simp only [laws_markWaiterS.f]
  repeat' (with_reducible first | exact laws_markWaiterS.lv0_lim _ _ _ | exact LimIs.const _ | refine LimIs.ite ?_ ?_ | refine LimIs.bind ?_ (fun _ => ?_))
def laws_markLockS.l0 : Nat → List (S78) → Int → Int → Option (Int × (List (S78)))
  | 0, _, _, _ => none
  | k + 1, x0, x1, x5 => if x5 < (x0.length : Int) then ((laws_markText.f k x1).bind fun t389 => (if 0 ≤ x5 then ((some (x0.set (x5 : Int).toNat (⟨t389, (rd_T78 x0 x5).f1, (rd_T78 x0 x5).f2, (rd_T78 x0 x5).f3, (rd_T78 x0 x5).f4⟩ : S78) : List (S78))).bind fun y390 => ((some (y390.set (x5 : Int).toNat (⟨(rd_T78 y390 x5).f0, wrap64 (x1 + 1), (rd_T78 y390 x5).f2, (rd_T78 y390 x5).f3, (rd_T78 y390 x5).f4⟩ : S78) : List (S78))).bind fun y391 => ((some (y391.set (x5 : Int).toNat (⟨(rd_T78 y391 x5).f0, (rd_T78 y391 x5).f1, wrap64 ((wrap64 (x1 + 1)) + 1), (rd_T78 y391 x5).f3, (rd_T78 y391 x5).f4⟩ : S78) : List (S78))).bind fun y392 => ((some (y392.set (x5 : Int).toNat (⟨(rd_T78 y392 x5).f0, (rd_T78 y392 x5).f1, (rd_T78 y392 x5).f2, wrap64 ((wrap64 ((wrap64 (x1 + 1)) + 1)) + 1), (rd_T78 y392 x5).f4⟩ : S78) : List (S78))).bind fun y9_ => ((laws_markWaiterS.f k ((rd_T78 y9_ x5).f4) (wrap64 ((wrap64 ((wrap64 ((wrap64 (x1 + 1)) + 1)) + 1)) + 1))).bind fun bw_ => (laws_markLockS.l0 k (y9_.set (x5 : Int).toNat (⟨(rd_T78 y9_ x5).f0, (rd_T78 y9_ x5).f1, (rd_T78 y9_ x5).f2, (rd_T78 y9_ x5).f3, bw_.2⟩ : S78)) bw_.1 (wrap64 (x5 + 1)))))))) else (none))) else (some (x1, x0))
def laws_markLockS.f (k : Nat) (l0 : List (S78)) (a1 : Int) : Option (Int × (List (S78))) := laws_markLockS.l0 k l0 a1 0
theorem laws_markLockS.mono_l : ∀ k, (∀ y0 y1 y2, LeO (laws_markLockS.l0 k y0 y1 y2) (laws_markLockS.l0 (k + 1) y0 y1 y2))
  | 0 => fun _ _ _ r h => by simp [laws_markLockS.l0] at h
  | k + 1 => by
    have ih0 := laws_markLockS.mono_l k
    · intro y0 y1 y2
      unfold laws_markLockS.l0
      repeat' first
      | (with_reducible exact ih0 _ _ _)
      | (with_reducible exact laws_markText.mono _ _)
      | (with_reducible exact laws_markWaiterS.mono _ _ _)
      | (with_reducible exact LeO.refl _)
      | (with_reducible exact LeO.none _)
      | (with_reducible refine LeO.ite ?_ ?_)
      | (with_reducible refine LeO.bind ?_ (fun _ => ?_))
      | exact ih0 _ _ _
      | exact laws_markText.mono _ _
      | exact LeO.none _
      | refine LeO.ite ?_ ?_
      | refine LeO.bind ?_ (fun _ => ?_)
theorem laws_markLockS.mono : ∀ a0 a1 k, LeO (laws_markLockS.f k a0 a1) (laws_markLockS.f (k + 1) a0 a1) := by
  intro a0 a1 k
  have ih0 := laws_markLockS.mono_l k
  unfold laws_markLockS.f
  repeat' first
      | (with_reducible exact ih0 _ _ _)
      | (with_reducible exact laws_markText.mono _ _)
      | (with_reducible exact laws_markWaiterS.mono _ _ _)
      | (with_reducible exact LeO.refl _)
      | (with_reducible exact LeO.none _)
      | (with_reducible refine LeO.ite ?_ ?_)
      | (with_reducible refine LeO.bind ?_ (fun _ => ?_))
      | exact ih0 _ _ _
      | exact laws_markText.mono _ _
      | exact LeO.none _
      | refine LeO.ite ?_ ?_
      | refine LeO.bind ?_ (fun _ => ?_)
noncomputable def laws_markLockS.lv0 (x0 : List (S78)) (x1 : Int) (x5 : Int) : Option (Int × (List (S78))) := lim (fun k_ => laws_markLockS.l0 k_ x0 x1 x5)
noncomputable def laws_markLockS.v (l0 : List (S78)) (a1 : Int) : Option (Int × (List (S78))) := lim (fun k_ => laws_markLockS.f k_ l0 a1)
theorem laws_markLockS.lv0_lim (x0 : List (S78)) (x1 : Int) (x5 : Int) : LimIs (fun k_ => laws_markLockS.l0 k_ x0 x1 x5) (laws_markLockS.lv0 x0 x1 x5) := lim_is (fun k_ => (laws_markLockS.mono_l k_) x0 x1 x5)
theorem laws_markLockS.v_lim (l0 : List (S78)) (a1 : Int) : LimIs (fun k_ => laws_markLockS.f k_ l0 a1) (laws_markLockS.v l0 a1) := lim_is (fun k_ => laws_markLockS.mono l0 a1 k_)
theorem laws_markLockS.lv0_eq (x0 : List (S78)) (x1 : Int) (x5 : Int) : laws_markLockS.lv0 x0 x1 x5 = (if x5 < (x0.length : Int) then ((laws_markText.v x1).bind fun t389 => (if 0 ≤ x5 then ((some (x0.set (x5 : Int).toNat (⟨t389, (rd_T78 x0 x5).f1, (rd_T78 x0 x5).f2, (rd_T78 x0 x5).f3, (rd_T78 x0 x5).f4⟩ : S78) : List (S78))).bind fun y390 => ((some (y390.set (x5 : Int).toNat (⟨(rd_T78 y390 x5).f0, wrap64 (x1 + 1), (rd_T78 y390 x5).f2, (rd_T78 y390 x5).f3, (rd_T78 y390 x5).f4⟩ : S78) : List (S78))).bind fun y391 => ((some (y391.set (x5 : Int).toNat (⟨(rd_T78 y391 x5).f0, (rd_T78 y391 x5).f1, wrap64 ((wrap64 (x1 + 1)) + 1), (rd_T78 y391 x5).f3, (rd_T78 y391 x5).f4⟩ : S78) : List (S78))).bind fun y392 => ((some (y392.set (x5 : Int).toNat (⟨(rd_T78 y392 x5).f0, (rd_T78 y392 x5).f1, (rd_T78 y392 x5).f2, wrap64 ((wrap64 ((wrap64 (x1 + 1)) + 1)) + 1), (rd_T78 y392 x5).f4⟩ : S78) : List (S78))).bind fun y9_ => ((laws_markWaiterS.v ((rd_T78 y9_ x5).f4) (wrap64 ((wrap64 ((wrap64 ((wrap64 (x1 + 1)) + 1)) + 1)) + 1))).bind fun bw_ => (laws_markLockS.lv0 (y9_.set (x5 : Int).toNat (⟨(rd_T78 y9_ x5).f0, (rd_T78 y9_ x5).f1, (rd_T78 y9_ x5).f2, (rd_T78 y9_ x5).f3, bw_.2⟩ : S78)) bw_.1 (wrap64 (x5 + 1)))))))) else (none))) else (some (x1, x0)) : Option (Int × (List (S78)))) := by
  refine LimIs.eq (laws_markLockS.lv0_lim x0 x1 x5) ?_
  refine LimIs.step (fun k_ => (laws_markLockS.mono_l k_) x0 x1 x5) ?_
  simp only [laws_markLockS.l0]
  repeat' (with_reducible first | exact laws_markLockS.lv0_lim _ _ _ | exact laws_markText.v_lim _ | exact laws_markWaiterS.v_lim _ _ | exact LimIs.const _ | refine LimIs.ite ?_ ?_ | refine LimIs.bind ?_ (fun _ => ?_))
theorem laws_markLockS.v_eq (l0 : List (S78)) (a1 : Int) : laws_markLockS.v l0 a1 = (laws_markLockS.lv0 l0 a1 0 : Option (Int × (List (S78)))) := by
  refine LimIs.eq (laws_markLockS.v_lim l0 a1) ?_
  simp only [laws_markLockS.f]
  repeat' (with_reducible first | exact laws_markLockS.lv0_lim _ _ _ | exact LimIs.const _ | refine LimIs.ite ?_ ?_ | refine LimIs.bind ?_ (fun _ => ?_))
def laws_markSeenS.l0 : Nat → List (S84) → Int → Int → Option (Int × (List (S84)))
  | 0, _, _, _ => none
  | k + 1, x0, x1, x5 => if x5 < (x0.length : Int) then (if 0 ≤ x5 then ((some (x0.set (x5 : Int).toNat (⟨x1, (rd_T84 x0 x5).f1, (⟨(rd_T84 x0 x5).f2.f0, (rd_T84 x0 x5).f2.f1, (rd_T84 x0 x5).f2.f2, (rd_T84 x0 x5).f2.f3⟩ : S82)⟩ : S84) : List (S84))).bind fun y394 => ((some (y394.set (x5 : Int).toNat (⟨(rd_T84 y394 x5).f0, wrap64 (x1 + 1), (⟨(rd_T84 y394 x5).f2.f0, (rd_T84 y394 x5).f2.f1, (rd_T84 y394 x5).f2.f2, (rd_T84 y394 x5).f2.f3⟩ : S82)⟩ : S84) : List (S84))).bind fun y395 => ((some (y395.set (x5 : Int).toNat (⟨(rd_T84 y395 x5).f0, (rd_T84 y395 x5).f1, (⟨wrap64 ((wrap64 (x1 + 1)) + 1), (rd_T84 y395 x5).f2.f1, (rd_T84 y395 x5).f2.f2, (rd_T84 y395 x5).f2.f3⟩ : S82)⟩ : S84) : List (S84))).bind fun y396 => ((some (y396.set (x5 : Int).toNat (⟨(rd_T84 y396 x5).f0, (rd_T84 y396 x5).f1, (⟨(rd_T84 y396 x5).f2.f0, wrap64 ((wrap64 ((wrap64 (x1 + 1)) + 1)) + 1), (rd_T84 y396 x5).f2.f2, (rd_T84 y396 x5).f2.f3⟩ : S82)⟩ : S84) : List (S84))).bind fun y397 => ((some (y397.set (x5 : Int).toNat (⟨(rd_T84 y397 x5).f0, (rd_T84 y397 x5).f1, (⟨(rd_T84 y397 x5).f2.f0, (rd_T84 y397 x5).f2.f1, wrap64 ((wrap64 ((wrap64 ((wrap64 (x1 + 1)) + 1)) + 1)) + 1), (rd_T84 y397 x5).f2.f3⟩ : S82)⟩ : S84) : List (S84))).bind fun y398 => (laws_markSeenS.l0 k (y398.set (x5 : Int).toNat (⟨(rd_T84 y398 x5).f0, (rd_T84 y398 x5).f1, (⟨(rd_T84 y398 x5).f2.f0, (rd_T84 y398 x5).f2.f1, (rd_T84 y398 x5).f2.f2, wrap64 ((wrap64 ((wrap64 ((wrap64 ((wrap64 (x1 + 1)) + 1)) + 1)) + 1)) + 1)⟩ : S82)⟩ : S84)) (wrap64 ((wrap64 ((wrap64 ((wrap64 ((wrap64 ((wrap64 (x1 + 1)) + 1)) + 1)) + 1)) + 1)) + 1)) (wrap64 (x5 + 1)))))))) else (none)) else (some (x1, x0))
def laws_markSeenS.f (k : Nat) (l0 : List (S84)) (a1 : Int) : Option (Int × (List (S84))) := laws_markSeenS.l0 k l0 a1 0
theorem laws_markSeenS.mono_l : ∀ k, (∀ y0 y1 y2, LeO (laws_markSeenS.l0 k y0 y1 y2) (laws_markSeenS.l0 (k + 1) y0 y1 y2))
  | 0 => fun _ _ _ r h => by simp [laws_markSeenS.l0] at h
  | k + 1 => by
    have ih0 := laws_markSeenS.mono_l k
    · intro y0 y1 y2
      unfold laws_markSeenS.l0
      repeat' first
      | (with_reducible exact ih0 _ _ _)
      | (with_reducible exact LeO.refl _)
      | (with_reducible exact LeO.none _)
      | (with_reducible refine LeO.ite ?_ ?_)
      | (with_reducible refine LeO.bind ?_ (fun _ => ?_))
      | exact ih0 _ _ _
      | exact LeO.none _
      | refine LeO.ite ?_ ?_
      | refine LeO.bind ?_ (fun _ => ?_)
theorem laws_markSeenS.mono : ∀ a0 a1 k, LeO (laws_markSeenS.f k a0 a1) (laws_markSeenS.f (k + 1) a0 a1) := by
  intro a0 a1 k
  have ih0 := laws_markSeenS.mono_l k
  unfold laws_markSeenS.f
  repeat' first
      | (with_reducible exact ih0 _ _ _)
      | (with_reducible exact LeO.refl _)
      | (with_reducible exact LeO.none _)
      | (with_reducible refine LeO.ite ?_ ?_)
      | (with_reducible refine LeO.bind ?_ (fun _ => ?_))
      | exact ih0 _ _ _
      | exact LeO.none _
      | refine LeO.ite ?_ ?_
      | refine LeO.bind ?_ (fun _ => ?_)
noncomputable def laws_markSeenS.lv0 (x0 : List (S84)) (x1 : Int) (x5 : Int) : Option (Int × (List (S84))) := lim (fun k_ => laws_markSeenS.l0 k_ x0 x1 x5)
noncomputable def laws_markSeenS.v (l0 : List (S84)) (a1 : Int) : Option (Int × (List (S84))) := lim (fun k_ => laws_markSeenS.f k_ l0 a1)
theorem laws_markSeenS.lv0_lim (x0 : List (S84)) (x1 : Int) (x5 : Int) : LimIs (fun k_ => laws_markSeenS.l0 k_ x0 x1 x5) (laws_markSeenS.lv0 x0 x1 x5) := lim_is (fun k_ => (laws_markSeenS.mono_l k_) x0 x1 x5)
theorem laws_markSeenS.v_lim (l0 : List (S84)) (a1 : Int) : LimIs (fun k_ => laws_markSeenS.f k_ l0 a1) (laws_markSeenS.v l0 a1) := lim_is (fun k_ => laws_markSeenS.mono l0 a1 k_)
theorem laws_markSeenS.lv0_eq (x0 : List (S84)) (x1 : Int) (x5 : Int) : laws_markSeenS.lv0 x0 x1 x5 = (if x5 < (x0.length : Int) then (if 0 ≤ x5 then ((some (x0.set (x5 : Int).toNat (⟨x1, (rd_T84 x0 x5).f1, (⟨(rd_T84 x0 x5).f2.f0, (rd_T84 x0 x5).f2.f1, (rd_T84 x0 x5).f2.f2, (rd_T84 x0 x5).f2.f3⟩ : S82)⟩ : S84) : List (S84))).bind fun y394 => ((some (y394.set (x5 : Int).toNat (⟨(rd_T84 y394 x5).f0, wrap64 (x1 + 1), (⟨(rd_T84 y394 x5).f2.f0, (rd_T84 y394 x5).f2.f1, (rd_T84 y394 x5).f2.f2, (rd_T84 y394 x5).f2.f3⟩ : S82)⟩ : S84) : List (S84))).bind fun y395 => ((some (y395.set (x5 : Int).toNat (⟨(rd_T84 y395 x5).f0, (rd_T84 y395 x5).f1, (⟨wrap64 ((wrap64 (x1 + 1)) + 1), (rd_T84 y395 x5).f2.f1, (rd_T84 y395 x5).f2.f2, (rd_T84 y395 x5).f2.f3⟩ : S82)⟩ : S84) : List (S84))).bind fun y396 => ((some (y396.set (x5 : Int).toNat (⟨(rd_T84 y396 x5).f0, (rd_T84 y396 x5).f1, (⟨(rd_T84 y396 x5).f2.f0, wrap64 ((wrap64 ((wrap64 (x1 + 1)) + 1)) + 1), (rd_T84 y396 x5).f2.f2, (rd_T84 y396 x5).f2.f3⟩ : S82)⟩ : S84) : List (S84))).bind fun y397 => ((some (y397.set (x5 : Int).toNat (⟨(rd_T84 y397 x5).f0, (rd_T84 y397 x5).f1, (⟨(rd_T84 y397 x5).f2.f0, (rd_T84 y397 x5).f2.f1, wrap64 ((wrap64 ((wrap64 ((wrap64 (x1 + 1)) + 1)) + 1)) + 1), (rd_T84 y397 x5).f2.f3⟩ : S82)⟩ : S84) : List (S84))).bind fun y398 => (laws_markSeenS.lv0 (y398.set (x5 : Int).toNat (⟨(rd_T84 y398 x5).f0, (rd_T84 y398 x5).f1, (⟨(rd_T84 y398 x5).f2.f0, (rd_T84 y398 x5).f2.f1, (rd_T84 y398 x5).f2.f2, wrap64 ((wrap64 ((wrap64 ((wrap64 ((wrap64 (x1 + 1)) + 1)) + 1)) + 1)) + 1)⟩ : S82)⟩ : S84)) (wrap64 ((wrap64 ((wrap64 ((wrap64 ((wrap64 ((wrap64 (x1 + 1)) + 1)) + 1)) + 1)) + 1)) + 1)) (wrap64 (x5 + 1)))))))) else (none)) else (some (x1, x0)) : Option (Int × (List (S84)))) := by
  refine LimIs.eq (laws_markSeenS.lv0_lim x0 x1 x5) ?_
  refine LimIs.step (fun k_ => (laws_markSeenS.mono_l k_) x0 x1 x5) ?_
  simp only [laws_markSeenS.l0]
  repeat' (with_reducible first | exact laws_markSeenS.lv0_lim _ _ _ | exact LimIs.const _ | refine LimIs.ite ?_ ?_ | refine LimIs.bind ?_ (fun _ => ?_))
theorem laws_markSeenS.v_eq (l0 : List (S84)) (a1 : Int) : laws_markSeenS.v l0 a1 = (laws_markSeenS.lv0 l0 a1 0 : Option (Int × (List (S84)))) := by
  refine LimIs.eq (laws_markSeenS.v_lim l0 a1) ?_
  simp only [laws_markSeenS.f]
  repeat' (with_reducible first | exact laws_markSeenS.lv0_lim _ _ _ | exact LimIs.const _ | refine LimIs.ite ?_ ?_ | refine LimIs.bind ?_ (fun _ => ?_))
def laws_markTable.f (k : Nat) (a0_0 : Int) (a0_1 : Int) (l0_2 : List (S78)) (l0_3 : List (S84)) (a1 : Int) : Option (Int × List (S78) × List (S84)) := ((laws_markLockS.f k l0_2 a1).bind fun p => ((laws_markSeenS.f k l0_3 p.1).bind fun q => (some (q.1, p.2, q.2))))
theorem laws_markTable.mono : ∀ y0 y1 y2 y3 y4 k, LeO (laws_markTable.f k y0 y1 y2 y3 y4) (laws_markTable.f (k + 1) y0 y1 y2 y3 y4) := by
  intro y0 y1 y2 y3 y4 k
  unfold laws_markTable.f
  repeat' first
      | (with_reducible exact laws_markLockS.mono _ _ _)
      | (with_reducible exact laws_markSeenS.mono _ _ _)
      | (with_reducible exact LeO.refl _)
      | refine LeO.ite ?_ ?_
      | refine LeO.bind ?_ (fun _ => ?_)
noncomputable def laws_markTable.v (a0_0 : Int) (a0_1 : Int) (l0_2 : List (S78)) (l0_3 : List (S84)) (a1 : Int) : Option (Int × List (S78) × List (S84)) := lim (fun k_ => laws_markTable.f k_ a0_0 a0_1 l0_2 l0_3 a1)
theorem laws_markTable.v_lim (a0_0 : Int) (a0_1 : Int) (l0_2 : List (S78)) (l0_3 : List (S84)) (a1 : Int) : LimIs (fun k_ => laws_markTable.f k_ a0_0 a0_1 l0_2 l0_3 a1) (laws_markTable.v a0_0 a0_1 l0_2 l0_3 a1) := lim_is (fun k_ => laws_markTable.mono a0_0 a0_1 l0_2 l0_3 a1 k_)
theorem laws_markTable.v_eq (a0_0 : Int) (a0_1 : Int) (l0_2 : List (S78)) (l0_3 : List (S84)) (a1 : Int) : laws_markTable.v a0_0 a0_1 l0_2 l0_3 a1 = (((laws_markLockS.v l0_2 a1).bind fun p => ((laws_markSeenS.v l0_3 p.1).bind fun q => (some (q.1, p.2, q.2)))) : Option (Int × List (S78) × List (S84))) := by
  refine LimIs.eq (laws_markTable.v_lim a0_0 a0_1 l0_2 l0_3 a1) ?_
  simp only [laws_markTable.f]
  repeat' (with_reducible first | exact laws_markLockS.v_lim _ _ | exact laws_markSeenS.v_lim _ _ | exact LimIs.const _ | refine LimIs.ite ?_ ?_ | refine LimIs.bind ?_ (fun _ => ?_))
def laws_heldWaiterS.l0 : Nat → List (S80) → Int → Int → Option (Int)
  | 0, _, _, _ => none
  | k + 1, x0, x1, x5 => if x5 < (x0.length : Int) then (if 0 ≤ x5 then (if ((rd_T80 x0 x5).f0) = x1 then (if ((rd_T80 x0 x5).f1) = (wrap64 (x1 + 1)) then (laws_heldWaiterS.l0 k x0 (wrap64 ((wrap64 (x1 + 1)) + 1)) (wrap64 (x5 + 1))) else (some (-1))) else (some (-1))) else (none)) else (some x1)
def laws_heldWaiterS.f (k : Nat) (l0 : List (S80)) (a1 : Int) : Option (Int) := laws_heldWaiterS.l0 k l0 a1 0
theorem laws_heldWaiterS.mono_l : ∀ k, (∀ y0 y1 y2, LeO (laws_heldWaiterS.l0 k y0 y1 y2) (laws_heldWaiterS.l0 (k + 1) y0 y1 y2))
  | 0 => fun _ _ _ r h => by simp [laws_heldWaiterS.l0] at h
  | k + 1 => by
    have ih0 := laws_heldWaiterS.mono_l k
    · intro y0 y1 y2
      unfold laws_heldWaiterS.l0
      repeat' first
      | (with_reducible exact ih0 _ _ _)
      | (with_reducible exact LeO.refl _)
      | (with_reducible exact LeO.none _)
      | (with_reducible refine LeO.ite ?_ ?_)
      | (with_reducible refine LeO.bind ?_ (fun _ => ?_))
      | exact ih0 _ _ _
      | exact LeO.none _
      | refine LeO.ite ?_ ?_
      | refine LeO.bind ?_ (fun _ => ?_)
theorem laws_heldWaiterS.mono : ∀ a0 a1 k, LeO (laws_heldWaiterS.f k a0 a1) (laws_heldWaiterS.f (k + 1) a0 a1) := by
  intro a0 a1 k
  have ih0 := laws_heldWaiterS.mono_l k
  unfold laws_heldWaiterS.f
  repeat' first
      | (with_reducible exact ih0 _ _ _)
      | (with_reducible exact LeO.refl _)
      | (with_reducible exact LeO.none _)
      | (with_reducible refine LeO.ite ?_ ?_)
      | (with_reducible refine LeO.bind ?_ (fun _ => ?_))
      | exact ih0 _ _ _
      | exact LeO.none _
      | refine LeO.ite ?_ ?_
      | refine LeO.bind ?_ (fun _ => ?_)
noncomputable def laws_heldWaiterS.lv0 (x0 : List (S80)) (x1 : Int) (x5 : Int) : Option (Int) := lim (fun k_ => laws_heldWaiterS.l0 k_ x0 x1 x5)
noncomputable def laws_heldWaiterS.v (l0 : List (S80)) (a1 : Int) : Option (Int) := lim (fun k_ => laws_heldWaiterS.f k_ l0 a1)
theorem laws_heldWaiterS.lv0_lim (x0 : List (S80)) (x1 : Int) (x5 : Int) : LimIs (fun k_ => laws_heldWaiterS.l0 k_ x0 x1 x5) (laws_heldWaiterS.lv0 x0 x1 x5) := lim_is (fun k_ => (laws_heldWaiterS.mono_l k_) x0 x1 x5)
theorem laws_heldWaiterS.v_lim (l0 : List (S80)) (a1 : Int) : LimIs (fun k_ => laws_heldWaiterS.f k_ l0 a1) (laws_heldWaiterS.v l0 a1) := lim_is (fun k_ => laws_heldWaiterS.mono l0 a1 k_)
theorem laws_heldWaiterS.lv0_eq (x0 : List (S80)) (x1 : Int) (x5 : Int) : laws_heldWaiterS.lv0 x0 x1 x5 = (if x5 < (x0.length : Int) then (if 0 ≤ x5 then (if ((rd_T80 x0 x5).f0) = x1 then (if ((rd_T80 x0 x5).f1) = (wrap64 (x1 + 1)) then (laws_heldWaiterS.lv0 x0 (wrap64 ((wrap64 (x1 + 1)) + 1)) (wrap64 (x5 + 1))) else (some (-1))) else (some (-1))) else (none)) else (some x1) : Option (Int)) := by
  refine LimIs.eq (laws_heldWaiterS.lv0_lim x0 x1 x5) ?_
  refine LimIs.step (fun k_ => (laws_heldWaiterS.mono_l k_) x0 x1 x5) ?_
  simp only [laws_heldWaiterS.l0]
  repeat' (with_reducible first | exact laws_heldWaiterS.lv0_lim _ _ _ | exact LimIs.const _ | refine LimIs.ite ?_ ?_ | refine LimIs.bind ?_ (fun _ => ?_))
theorem laws_heldWaiterS.v_eq (l0 : List (S80)) (a1 : Int) : laws_heldWaiterS.v l0 a1 = (laws_heldWaiterS.lv0 l0 a1 0 : Option (Int)) := by
  refine LimIs.eq (laws_heldWaiterS.v_lim l0 a1) ?_
  simp only [laws_heldWaiterS.f]
  repeat' (with_reducible first | exact laws_heldWaiterS.lv0_lim _ _ _ | exact LimIs.const _ | refine LimIs.ite ?_ ?_ | refine LimIs.bind ?_ (fun _ => ?_))
def laws_heldLockS.l0 : Nat → List (S78) → Int → Int → Option (Int)
  | 0, _, _, _ => none
  | k + 1, x0, x1, x5 => if x5 < (x0.length : Int) then (if 0 ≤ x5 then ((laws_markText.f k x1).bind fun t403 => (if ((rd_T78 x0 x5).f0).toList = t403.toList then (if ((rd_T78 x0 x5).f1) = (wrap64 (x1 + 1)) then (if ((rd_T78 x0 x5).f2) = (wrap64 ((wrap64 (x1 + 1)) + 1)) then (if ((rd_T78 x0 x5).f3) = (wrap64 ((wrap64 ((wrap64 (x1 + 1)) + 1)) + 1)) then ((laws_heldWaiterS.f k ((rd_T78 x0 x5).f4) (wrap64 ((wrap64 ((wrap64 ((wrap64 (x1 + 1)) + 1)) + 1)) + 1))).bind fun t408 => (if t408 < 0 then (some (-1)) else (laws_heldLockS.l0 k x0 t408 (wrap64 (x5 + 1))))) else (some (-1))) else (some (-1))) else (some (-1))) else (some (-1)))) else (none)) else (some x1)
def laws_heldLockS.f (k : Nat) (l0 : List (S78)) (a1 : Int) : Option (Int) := laws_heldLockS.l0 k l0 a1 0
theorem laws_heldLockS.mono_l : ∀ k, (∀ y0 y1 y2, LeO (laws_heldLockS.l0 k y0 y1 y2) (laws_heldLockS.l0 (k + 1) y0 y1 y2))
  | 0 => fun _ _ _ r h => by simp [laws_heldLockS.l0] at h
  | k + 1 => by
    have ih0 := laws_heldLockS.mono_l k
    · intro y0 y1 y2
      unfold laws_heldLockS.l0
      repeat' first
      | (with_reducible exact ih0 _ _ _)
      | (with_reducible exact laws_heldWaiterS.mono _ _ _)
      | (with_reducible exact laws_markText.mono _ _)
      | (with_reducible exact LeO.refl _)
      | (with_reducible exact LeO.none _)
      | (with_reducible refine LeO.ite ?_ ?_)
      | (with_reducible refine LeO.bind ?_ (fun _ => ?_))
      | exact ih0 _ _ _
      | exact laws_heldWaiterS.mono _ _ _
      | exact laws_markText.mono _ _
      | exact LeO.none _
      | refine LeO.ite ?_ ?_
      | refine LeO.bind ?_ (fun _ => ?_)
theorem laws_heldLockS.mono : ∀ a0 a1 k, LeO (laws_heldLockS.f k a0 a1) (laws_heldLockS.f (k + 1) a0 a1) := by
  intro a0 a1 k
  have ih0 := laws_heldLockS.mono_l k
  unfold laws_heldLockS.f
  repeat' first
      | (with_reducible exact ih0 _ _ _)
      | (with_reducible exact laws_heldWaiterS.mono _ _ _)
      | (with_reducible exact laws_markText.mono _ _)
      | (with_reducible exact LeO.refl _)
      | (with_reducible exact LeO.none _)
      | (with_reducible refine LeO.ite ?_ ?_)
      | (with_reducible refine LeO.bind ?_ (fun _ => ?_))
      | exact ih0 _ _ _
      | exact laws_heldWaiterS.mono _ _ _
      | exact laws_markText.mono _ _
      | exact LeO.none _
      | refine LeO.ite ?_ ?_
      | refine LeO.bind ?_ (fun _ => ?_)
noncomputable def laws_heldLockS.lv0 (x0 : List (S78)) (x1 : Int) (x5 : Int) : Option (Int) := lim (fun k_ => laws_heldLockS.l0 k_ x0 x1 x5)
noncomputable def laws_heldLockS.v (l0 : List (S78)) (a1 : Int) : Option (Int) := lim (fun k_ => laws_heldLockS.f k_ l0 a1)
theorem laws_heldLockS.lv0_lim (x0 : List (S78)) (x1 : Int) (x5 : Int) : LimIs (fun k_ => laws_heldLockS.l0 k_ x0 x1 x5) (laws_heldLockS.lv0 x0 x1 x5) := lim_is (fun k_ => (laws_heldLockS.mono_l k_) x0 x1 x5)
theorem laws_heldLockS.v_lim (l0 : List (S78)) (a1 : Int) : LimIs (fun k_ => laws_heldLockS.f k_ l0 a1) (laws_heldLockS.v l0 a1) := lim_is (fun k_ => laws_heldLockS.mono l0 a1 k_)
theorem laws_heldLockS.lv0_eq (x0 : List (S78)) (x1 : Int) (x5 : Int) : laws_heldLockS.lv0 x0 x1 x5 = (if x5 < (x0.length : Int) then (if 0 ≤ x5 then ((laws_markText.v x1).bind fun t403 => (if ((rd_T78 x0 x5).f0).toList = t403.toList then (if ((rd_T78 x0 x5).f1) = (wrap64 (x1 + 1)) then (if ((rd_T78 x0 x5).f2) = (wrap64 ((wrap64 (x1 + 1)) + 1)) then (if ((rd_T78 x0 x5).f3) = (wrap64 ((wrap64 ((wrap64 (x1 + 1)) + 1)) + 1)) then ((laws_heldWaiterS.v ((rd_T78 x0 x5).f4) (wrap64 ((wrap64 ((wrap64 ((wrap64 (x1 + 1)) + 1)) + 1)) + 1))).bind fun t408 => (if t408 < 0 then (some (-1)) else (laws_heldLockS.lv0 x0 t408 (wrap64 (x5 + 1))))) else (some (-1))) else (some (-1))) else (some (-1))) else (some (-1)))) else (none)) else (some x1) : Option (Int)) := by
  refine LimIs.eq (laws_heldLockS.lv0_lim x0 x1 x5) ?_
  refine LimIs.step (fun k_ => (laws_heldLockS.mono_l k_) x0 x1 x5) ?_
  simp only [laws_heldLockS.l0]
  repeat' (with_reducible first | exact laws_heldLockS.lv0_lim _ _ _ | exact laws_heldWaiterS.v_lim _ _ | exact laws_markText.v_lim _ | exact LimIs.const _ | refine LimIs.ite ?_ ?_ | refine LimIs.bind ?_ (fun _ => ?_))
theorem laws_heldLockS.v_eq (l0 : List (S78)) (a1 : Int) : laws_heldLockS.v l0 a1 = (laws_heldLockS.lv0 l0 a1 0 : Option (Int)) := by
  refine LimIs.eq (laws_heldLockS.v_lim l0 a1) ?_
  simp only [laws_heldLockS.f]
  repeat' (with_reducible first | exact laws_heldLockS.lv0_lim _ _ _ | exact LimIs.const _ | refine LimIs.ite ?_ ?_ | refine LimIs.bind ?_ (fun _ => ?_))
def laws_heldSeenS.l0 : Nat → List (S84) → Int → Int → Option (Int)
  | 0, _, _, _ => none
  | k + 1, x0, x1, x5 => if x5 < (x0.length : Int) then (if 0 ≤ x5 then (if ((rd_T84 x0 x5).f0) = x1 then (if ((rd_T84 x0 x5).f1) = (wrap64 (x1 + 1)) then (if ((rd_T84 x0 x5).f2.f0) = (wrap64 ((wrap64 (x1 + 1)) + 1)) then (if ((rd_T84 x0 x5).f2.f1) = (wrap64 ((wrap64 ((wrap64 (x1 + 1)) + 1)) + 1)) then (if ((rd_T84 x0 x5).f2.f2) = (wrap64 ((wrap64 ((wrap64 ((wrap64 (x1 + 1)) + 1)) + 1)) + 1)) then (if ((rd_T84 x0 x5).f2.f3) = (wrap64 ((wrap64 ((wrap64 ((wrap64 ((wrap64 (x1 + 1)) + 1)) + 1)) + 1)) + 1)) then (laws_heldSeenS.l0 k x0 (wrap64 ((wrap64 ((wrap64 ((wrap64 ((wrap64 ((wrap64 (x1 + 1)) + 1)) + 1)) + 1)) + 1)) + 1)) (wrap64 (x5 + 1))) else (some (-1))) else (some (-1))) else (some (-1))) else (some (-1))) else (some (-1))) else (some (-1))) else (none)) else (some x1)
def laws_heldSeenS.f (k : Nat) (l0 : List (S84)) (a1 : Int) : Option (Int) := laws_heldSeenS.l0 k l0 a1 0
theorem laws_heldSeenS.mono_l : ∀ k, (∀ y0 y1 y2, LeO (laws_heldSeenS.l0 k y0 y1 y2) (laws_heldSeenS.l0 (k + 1) y0 y1 y2))
  | 0 => fun _ _ _ r h => by simp [laws_heldSeenS.l0] at h
  | k + 1 => by
    have ih0 := laws_heldSeenS.mono_l k
    · intro y0 y1 y2
      unfold laws_heldSeenS.l0
      repeat' first
      | (with_reducible exact ih0 _ _ _)
      | (with_reducible exact LeO.refl _)
      | (with_reducible exact LeO.none _)
      | (with_reducible refine LeO.ite ?_ ?_)
      | (with_reducible refine LeO.bind ?_ (fun _ => ?_))
      | exact ih0 _ _ _
      | exact LeO.none _
      | refine LeO.ite ?_ ?_
      | refine LeO.bind ?_ (fun _ => ?_)
theorem laws_heldSeenS.mono : ∀ a0 a1 k, LeO (laws_heldSeenS.f k a0 a1) (laws_heldSeenS.f (k + 1) a0 a1) := by
  intro a0 a1 k
  have ih0 := laws_heldSeenS.mono_l k
  unfold laws_heldSeenS.f
  repeat' first
      | (with_reducible exact ih0 _ _ _)
      | (with_reducible exact LeO.refl _)
      | (with_reducible exact LeO.none _)
      | (with_reducible refine LeO.ite ?_ ?_)
      | (with_reducible refine LeO.bind ?_ (fun _ => ?_))
      | exact ih0 _ _ _
      | exact LeO.none _
      | refine LeO.ite ?_ ?_
      | refine LeO.bind ?_ (fun _ => ?_)
noncomputable def laws_heldSeenS.lv0 (x0 : List (S84)) (x1 : Int) (x5 : Int) : Option (Int) := lim (fun k_ => laws_heldSeenS.l0 k_ x0 x1 x5)
noncomputable def laws_heldSeenS.v (l0 : List (S84)) (a1 : Int) : Option (Int) := lim (fun k_ => laws_heldSeenS.f k_ l0 a1)
theorem laws_heldSeenS.lv0_lim (x0 : List (S84)) (x1 : Int) (x5 : Int) : LimIs (fun k_ => laws_heldSeenS.l0 k_ x0 x1 x5) (laws_heldSeenS.lv0 x0 x1 x5) := lim_is (fun k_ => (laws_heldSeenS.mono_l k_) x0 x1 x5)
theorem laws_heldSeenS.v_lim (l0 : List (S84)) (a1 : Int) : LimIs (fun k_ => laws_heldSeenS.f k_ l0 a1) (laws_heldSeenS.v l0 a1) := lim_is (fun k_ => laws_heldSeenS.mono l0 a1 k_)
theorem laws_heldSeenS.lv0_eq (x0 : List (S84)) (x1 : Int) (x5 : Int) : laws_heldSeenS.lv0 x0 x1 x5 = (if x5 < (x0.length : Int) then (if 0 ≤ x5 then (if ((rd_T84 x0 x5).f0) = x1 then (if ((rd_T84 x0 x5).f1) = (wrap64 (x1 + 1)) then (if ((rd_T84 x0 x5).f2.f0) = (wrap64 ((wrap64 (x1 + 1)) + 1)) then (if ((rd_T84 x0 x5).f2.f1) = (wrap64 ((wrap64 ((wrap64 (x1 + 1)) + 1)) + 1)) then (if ((rd_T84 x0 x5).f2.f2) = (wrap64 ((wrap64 ((wrap64 ((wrap64 (x1 + 1)) + 1)) + 1)) + 1)) then (if ((rd_T84 x0 x5).f2.f3) = (wrap64 ((wrap64 ((wrap64 ((wrap64 ((wrap64 (x1 + 1)) + 1)) + 1)) + 1)) + 1)) then (laws_heldSeenS.lv0 x0 (wrap64 ((wrap64 ((wrap64 ((wrap64 ((wrap64 ((wrap64 (x1 + 1)) + 1)) + 1)) + 1)) + 1)) + 1)) (wrap64 (x5 + 1))) else (some (-1))) else (some (-1))) else (some (-1))) else (some (-1))) else (some (-1))) else (some (-1))) else (none)) else (some x1) : Option (Int)) := by
  refine LimIs.eq (laws_heldSeenS.lv0_lim x0 x1 x5) ?_
  refine LimIs.step (fun k_ => (laws_heldSeenS.mono_l k_) x0 x1 x5) ?_
  simp only [laws_heldSeenS.l0]
  repeat' (with_reducible first | exact laws_heldSeenS.lv0_lim _ _ _ | exact LimIs.const _ | refine LimIs.ite ?_ ?_ | refine LimIs.bind ?_ (fun _ => ?_))
theorem laws_heldSeenS.v_eq (l0 : List (S84)) (a1 : Int) : laws_heldSeenS.v l0 a1 = (laws_heldSeenS.lv0 l0 a1 0 : Option (Int)) := by
  refine LimIs.eq (laws_heldSeenS.v_lim l0 a1) ?_
  simp only [laws_heldSeenS.f]
  repeat' (with_reducible first | exact laws_heldSeenS.lv0_lim _ _ _ | exact LimIs.const _ | refine LimIs.ite ?_ ?_ | refine LimIs.bind ?_ (fun _ => ?_))
def laws_heldTable.f (k : Nat) (a0_0 : Int) (a0_1 : Int) (l0_2 : List (S78)) (l0_3 : List (S84)) (a1 : Int) : Option (Int) := (laws_heldLockS.f k l0_2 a1).bind fun t416 => (if t416 < 0 then (some (-1)) else ((laws_heldSeenS.f k l0_3 t416).bind fun t417 => (if t417 < 0 then (some (-1)) else (some t417))))
theorem laws_heldTable.mono : ∀ a0 a1 a2 a3 a4 k, LeO (laws_heldTable.f k a0 a1 a2 a3 a4) (laws_heldTable.f (k + 1) a0 a1 a2 a3 a4) := by
  intro a0 a1 a2 a3 a4 k
  unfold laws_heldTable.f
  repeat' first
      | (with_reducible exact laws_heldLockS.mono _ _ _)
      | (with_reducible exact laws_heldSeenS.mono _ _ _)
      | (with_reducible exact LeO.refl _)
      | (with_reducible exact LeO.none _)
      | (with_reducible refine LeO.ite ?_ ?_)
      | (with_reducible refine LeO.bind ?_ (fun _ => ?_))
      | exact laws_heldLockS.mono _ _ _
      | exact laws_heldSeenS.mono _ _ _
      | exact LeO.none _
      | refine LeO.ite ?_ ?_
      | refine LeO.bind ?_ (fun _ => ?_)
noncomputable def laws_heldTable.v (a0_0 : Int) (a0_1 : Int) (l0_2 : List (S78)) (l0_3 : List (S84)) (a1 : Int) : Option (Int) := lim (fun k_ => laws_heldTable.f k_ a0_0 a0_1 l0_2 l0_3 a1)
theorem laws_heldTable.v_lim (a0_0 : Int) (a0_1 : Int) (l0_2 : List (S78)) (l0_3 : List (S84)) (a1 : Int) : LimIs (fun k_ => laws_heldTable.f k_ a0_0 a0_1 l0_2 l0_3 a1) (laws_heldTable.v a0_0 a0_1 l0_2 l0_3 a1) := lim_is (fun k_ => laws_heldTable.mono a0_0 a0_1 l0_2 l0_3 a1 k_)
theorem laws_heldTable.v_eq (a0_0 : Int) (a0_1 : Int) (l0_2 : List (S78)) (l0_3 : List (S84)) (a1 : Int) : laws_heldTable.v a0_0 a0_1 l0_2 l0_3 a1 = ((laws_heldLockS.v l0_2 a1).bind fun t416 => (if t416 < 0 then (some (-1)) else ((laws_heldSeenS.v l0_3 t416).bind fun t417 => (if t417 < 0 then (some (-1)) else (some t417)))) : Option (Int)) := by
  refine LimIs.eq (laws_heldTable.v_lim a0_0 a0_1 l0_2 l0_3 a1) ?_
  simp only [laws_heldTable.f]
  repeat' (with_reducible first | exact laws_heldLockS.v_lim _ _ | exact laws_heldSeenS.v_lim _ _ | exact LimIs.const _ | refine LimIs.ite ?_ ?_ | refine LimIs.bind ?_ (fun _ => ?_))
mutual
def laws_FnExactReadTable.j0 : Nat → List Int → Int → List Int → Int → Bool → Int → Int → List (S78) → List (S84) → Int → Int → List (S78) → List (S84) → Option (Bool)
  | 0, _, _, _, _, _, _, _, _, _, _, _, _, _ => none
  | k + 1, x0, x4, x5, x7, x37, x431000, x431001, x431002, x431003, x444000, x444001, x444002, x444003 => if x37 = true then (some false) else ((laws_toByteS.f k x0).bind fun t445 => ((laws_eqByteS.f k x5 t445).bind fun t448 => (if t448 = true then ((laws_markByteS.f k x5 1).bind fun bt449 => (if bt449.1 < 0 then (laws_FnExactReadTable.j1 k x0 x4 true x431000 x431001 x431002 x431003 x444000 x444001 x444002 x444003) else ((laws_eqTable.f k x444000 x444001 x444002 x444003 x431000 x431001 x431002 x431003).bind fun t451 => (if t451 = true then (laws_FnExactReadTable.j1 k x0 x4 (x7 != x4) x431000 x431001 x431002 x431003 x444000 x444001 x444002 x444003) else (laws_FnExactReadTable.j1 k x0 x4 true x431000 x431001 x431002 x431003 x444000 x444001 x444002 x444003))))) else (some false))))
def laws_FnExactReadTable.j1 : Nat → List Int → Int → Bool → Int → Int → List (S78) → List (S84) → Int → Int → List (S78) → List (S84) → Option (Bool)
  | 0, _, _, _, _, _, _, _, _, _, _, _ => none
  | k + 1, x0, x4, x58, x431000, x431001, x431002, x431003, x444000, x444001, x444002, x444003 => if x58 = true then (some false) else ((laws_markTable.f k x444000 x444001 x444002 x444003 1).bind fun bm_ => ((laws_heldTable.f k x444000 x444001 bm_.2.1 bm_.2.2 1).bind fun t453 => (if t453 < 0 then (some false) else (if t453 = bm_.1 then ((laws_toByteS.f k x0).bind fun t454 => ((impl_ReadTable.f k t454).bind fun bt457 => ((laws_eqTable.f k bt457.1 bt457.2.1 bt457.2.2.1 bt457.2.2.2.1 x431000 x431001 x431002 x431003).bind fun t467 => (if t467 = true then (laws_FnExactReadTable.j2 k bm_.1 (bt457.2.2.2.2 != x4) x444000 x444001 bm_.2.1 bm_.2.2) else (laws_FnExactReadTable.j2 k bm_.1 true x444000 x444001 bm_.2.1 bm_.2.2))))) else (some false)))))
def laws_FnExactReadTable.j2 : Nat → Int → Bool → Int → Int → List (S78) → List (S84) → Option (Bool)
  | 0, _, _, _, _, _, _ => none
  | k + 1, x9, x84, x444000, x444001, x444002, x444003 => if x84 = true then (some false) else ((laws_heldTable.f k x444000 x444001 x444002 x444003 1).bind fun t468 => (if t468 < 0 then (some false) else (if t468 = x9 then (some true) else (some false))))
end
def laws_FnExactReadTable.f (k : Nat) (l0 : List Int) : Option (Bool) := if (l0.length : Int) > 1048576 then (some true) else ((laws_toByteS.f k l0).bind fun t418 => ((spec_ReadTable.f k t418).bind fun bt421 => ((laws_toByteS.f k l0).bind fun t431 => ((impl_ReadTable.f k t431).bind fun bt434 => ((laws_eqTable.f k bt434.1 bt434.2.1 bt434.2.2.1 bt434.2.2.2.1 bt421.1 bt421.2.1 bt421.2.2.1 bt421.2.2.2.1).bind fun t444 => (if t444 = true then (laws_FnExactReadTable.j0 k l0 bt421.2.2.2.2 t431 bt434.2.2.2.2 (bt434.2.2.2.2 != bt421.2.2.2.2) bt421.1 bt421.2.1 bt421.2.2.1 bt421.2.2.2.1 bt434.1 bt434.2.1 bt434.2.2.1 bt434.2.2.2.1) else (laws_FnExactReadTable.j0 k l0 bt421.2.2.2.2 t431 bt434.2.2.2.2 true bt421.1 bt421.2.1 bt421.2.2.1 bt421.2.2.2.1 bt434.1 bt434.2.1 bt434.2.2.1 bt434.2.2.2.1)))))))
theorem laws_FnExactReadTable.mono_l : ∀ k, (∀ y0 y1 y2 y3 y4 y5 y6 y7 y8 y9 y10 y11 y12, LeO (laws_FnExactReadTable.j0 k y0 y1 y2 y3 y4 y5 y6 y7 y8 y9 y10 y11 y12) (laws_FnExactReadTable.j0 (k + 1) y0 y1 y2 y3 y4 y5 y6 y7 y8 y9 y10 y11 y12)) ∧ (∀ y0 y1 y2 y3 y4 y5 y6 y7 y8 y9 y10, LeO (laws_FnExactReadTable.j1 k y0 y1 y2 y3 y4 y5 y6 y7 y8 y9 y10) (laws_FnExactReadTable.j1 (k + 1) y0 y1 y2 y3 y4 y5 y6 y7 y8 y9 y10)) ∧ (∀ y0 y1 y2 y3 y4 y5, LeO (laws_FnExactReadTable.j2 k y0 y1 y2 y3 y4 y5) (laws_FnExactReadTable.j2 (k + 1) y0 y1 y2 y3 y4 y5))
  | 0 => ⟨fun _ _ _ _ _ _ _ _ _ _ _ _ _ r h => by simp [laws_FnExactReadTable.j0] at h, fun _ _ _ _ _ _ _ _ _ _ _ r h => by simp [laws_FnExactReadTable.j1] at h, fun _ _ _ _ _ _ r h => by simp [laws_FnExactReadTable.j2] at h⟩
  | k + 1 => by
    obtain ⟨ih0, ih1, ih2⟩ := laws_FnExactReadTable.mono_l k
    refine ⟨?_, ?_, ?_⟩
    · intro y0 y1 y2 y3 y4 y5 y6 y7 y8 y9 y10 y11 y12
      unfold laws_FnExactReadTable.j0
      repeat' first
      | (with_reducible exact ih0 _ _ _ _ _ _ _ _ _ _ _ _ _)
      | (with_reducible exact ih1 _ _ _ _ _ _ _ _ _ _ _)
      | (with_reducible exact ih2 _ _ _ _ _ _)
      | (with_reducible exact impl_ReadTable.mono _ _)
      | (with_reducible exact laws_eqByteS.mono _ _ _)
      | (with_reducible exact laws_eqTable.mono _ _ _ _ _ _ _ _ _)
      | (with_reducible exact laws_heldTable.mono _ _ _ _ _ _)
      | (with_reducible exact laws_markByteS.mono _ _ _)
      | (with_reducible exact laws_markTable.mono _ _ _ _ _ _)
      | (with_reducible exact laws_toByteS.mono _ _)
      | (with_reducible exact spec_ReadTable.mono _ _)
      | (with_reducible exact LeO.refl _)
      | (with_reducible exact LeO.none _)
      | (with_reducible refine LeO.ite ?_ ?_)
      | (with_reducible refine LeO.bind ?_ (fun _ => ?_))
      | exact ih0 _ _ _ _ _ _ _ _ _ _ _ _ _
      | exact ih1 _ _ _ _ _ _ _ _ _ _ _
      | exact ih2 _ _ _ _ _ _
      | exact impl_ReadTable.mono _ _
      | exact laws_eqByteS.mono _ _ _
      | exact laws_eqTable.mono _ _ _ _ _ _ _ _ _
      | exact laws_heldTable.mono _ _ _ _ _ _
      | exact laws_markByteS.mono _ _ _
      | exact laws_markTable.mono _ _ _ _ _ _
      | exact laws_toByteS.mono _ _
      | exact spec_ReadTable.mono _ _
      | exact LeO.none _
      | refine LeO.ite ?_ ?_
      | refine LeO.bind ?_ (fun _ => ?_)
    · intro y0 y1 y2 y3 y4 y5 y6 y7 y8 y9 y10
      unfold laws_FnExactReadTable.j1
      repeat' first
      | (with_reducible exact ih0 _ _ _ _ _ _ _ _ _ _ _ _ _)
      | (with_reducible exact ih1 _ _ _ _ _ _ _ _ _ _ _)
      | (with_reducible exact ih2 _ _ _ _ _ _)
      | (with_reducible exact impl_ReadTable.mono _ _)
      | (with_reducible exact laws_eqByteS.mono _ _ _)
      | (with_reducible exact laws_eqTable.mono _ _ _ _ _ _ _ _ _)
      | (with_reducible exact laws_heldTable.mono _ _ _ _ _ _)
      | (with_reducible exact laws_markByteS.mono _ _ _)
      | (with_reducible exact laws_markTable.mono _ _ _ _ _ _)
      | (with_reducible exact laws_toByteS.mono _ _)
      | (with_reducible exact spec_ReadTable.mono _ _)
      | (with_reducible exact LeO.refl _)
      | (with_reducible exact LeO.none _)
      | (with_reducible refine LeO.ite ?_ ?_)
      | (with_reducible refine LeO.bind ?_ (fun _ => ?_))
      | exact ih0 _ _ _ _ _ _ _ _ _ _ _ _ _
      | exact ih1 _ _ _ _ _ _ _ _ _ _ _
      | exact ih2 _ _ _ _ _ _
      | exact impl_ReadTable.mono _ _
      | exact laws_eqByteS.mono _ _ _
      | exact laws_eqTable.mono _ _ _ _ _ _ _ _ _
      | exact laws_heldTable.mono _ _ _ _ _ _
      | exact laws_markByteS.mono _ _ _
      | exact laws_markTable.mono _ _ _ _ _ _
      | exact laws_toByteS.mono _ _
      | exact spec_ReadTable.mono _ _
      | exact LeO.none _
      | refine LeO.ite ?_ ?_
      | refine LeO.bind ?_ (fun _ => ?_)
    · intro y0 y1 y2 y3 y4 y5
      unfold laws_FnExactReadTable.j2
      repeat' first
      | (with_reducible exact ih0 _ _ _ _ _ _ _ _ _ _ _ _ _)
      | (with_reducible exact ih1 _ _ _ _ _ _ _ _ _ _ _)
      | (with_reducible exact ih2 _ _ _ _ _ _)
      | (with_reducible exact impl_ReadTable.mono _ _)
      | (with_reducible exact laws_eqByteS.mono _ _ _)
      | (with_reducible exact laws_eqTable.mono _ _ _ _ _ _ _ _ _)
      | (with_reducible exact laws_heldTable.mono _ _ _ _ _ _)
      | (with_reducible exact laws_markByteS.mono _ _ _)
      | (with_reducible exact laws_markTable.mono _ _ _ _ _ _)
      | (with_reducible exact laws_toByteS.mono _ _)
      | (with_reducible exact spec_ReadTable.mono _ _)
      | (with_reducible exact LeO.refl _)
      | (with_reducible exact LeO.none _)
      | (with_reducible refine LeO.ite ?_ ?_)
      | (with_reducible refine LeO.bind ?_ (fun _ => ?_))
      | exact ih0 _ _ _ _ _ _ _ _ _ _ _ _ _
      | exact ih1 _ _ _ _ _ _ _ _ _ _ _
      | exact ih2 _ _ _ _ _ _
      | exact impl_ReadTable.mono _ _
      | exact laws_eqByteS.mono _ _ _
      | exact laws_eqTable.mono _ _ _ _ _ _ _ _ _
      | exact laws_heldTable.mono _ _ _ _ _ _
      | exact laws_markByteS.mono _ _ _
      | exact laws_markTable.mono _ _ _ _ _ _
      | exact laws_toByteS.mono _ _
      | exact spec_ReadTable.mono _ _
      | exact LeO.none _
      | refine LeO.ite ?_ ?_
      | refine LeO.bind ?_ (fun _ => ?_)
theorem laws_FnExactReadTable.mono : ∀ a0 k, LeO (laws_FnExactReadTable.f k a0) (laws_FnExactReadTable.f (k + 1) a0) := by
  intro a0 k
  obtain ⟨ih0, ih1, ih2⟩ := laws_FnExactReadTable.mono_l k
  unfold laws_FnExactReadTable.f
  repeat' first
      | (with_reducible exact ih0 _ _ _ _ _ _ _ _ _ _ _ _ _)
      | (with_reducible exact ih1 _ _ _ _ _ _ _ _ _ _ _)
      | (with_reducible exact ih2 _ _ _ _ _ _)
      | (with_reducible exact impl_ReadTable.mono _ _)
      | (with_reducible exact laws_eqByteS.mono _ _ _)
      | (with_reducible exact laws_eqTable.mono _ _ _ _ _ _ _ _ _)
      | (with_reducible exact laws_heldTable.mono _ _ _ _ _ _)
      | (with_reducible exact laws_markByteS.mono _ _ _)
      | (with_reducible exact laws_markTable.mono _ _ _ _ _ _)
      | (with_reducible exact laws_toByteS.mono _ _)
      | (with_reducible exact spec_ReadTable.mono _ _)
      | (with_reducible exact LeO.refl _)
      | (with_reducible exact LeO.none _)
      | (with_reducible refine LeO.ite ?_ ?_)
      | (with_reducible refine LeO.bind ?_ (fun _ => ?_))
      | exact ih0 _ _ _ _ _ _ _ _ _ _ _ _ _
      | exact ih1 _ _ _ _ _ _ _ _ _ _ _
      | exact ih2 _ _ _ _ _ _
      | exact impl_ReadTable.mono _ _
      | exact laws_eqByteS.mono _ _ _
      | exact laws_eqTable.mono _ _ _ _ _ _ _ _ _
      | exact laws_heldTable.mono _ _ _ _ _ _
      | exact laws_markByteS.mono _ _ _
      | exact laws_markTable.mono _ _ _ _ _ _
      | exact laws_toByteS.mono _ _
      | exact spec_ReadTable.mono _ _
      | exact LeO.none _
      | refine LeO.ite ?_ ?_
      | refine LeO.bind ?_ (fun _ => ?_)
noncomputable def laws_FnExactReadTable.jv0 (x0 : List Int) (x4 : Int) (x5 : List Int) (x7 : Int) (x37 : Bool) (x431000 : Int) (x431001 : Int) (x431002 : List (S78)) (x431003 : List (S84)) (x444000 : Int) (x444001 : Int) (x444002 : List (S78)) (x444003 : List (S84)) : Option (Bool) := lim (fun k_ => laws_FnExactReadTable.j0 k_ x0 x4 x5 x7 x37 x431000 x431001 x431002 x431003 x444000 x444001 x444002 x444003)
noncomputable def laws_FnExactReadTable.jv1 (x0 : List Int) (x4 : Int) (x58 : Bool) (x431000 : Int) (x431001 : Int) (x431002 : List (S78)) (x431003 : List (S84)) (x444000 : Int) (x444001 : Int) (x444002 : List (S78)) (x444003 : List (S84)) : Option (Bool) := lim (fun k_ => laws_FnExactReadTable.j1 k_ x0 x4 x58 x431000 x431001 x431002 x431003 x444000 x444001 x444002 x444003)
noncomputable def laws_FnExactReadTable.jv2 (x9 : Int) (x84 : Bool) (x444000 : Int) (x444001 : Int) (x444002 : List (S78)) (x444003 : List (S84)) : Option (Bool) := lim (fun k_ => laws_FnExactReadTable.j2 k_ x9 x84 x444000 x444001 x444002 x444003)
noncomputable def laws_FnExactReadTable.v (l0 : List Int) : Option (Bool) := lim (fun k_ => laws_FnExactReadTable.f k_ l0)
theorem laws_FnExactReadTable.jv0_lim (x0 : List Int) (x4 : Int) (x5 : List Int) (x7 : Int) (x37 : Bool) (x431000 : Int) (x431001 : Int) (x431002 : List (S78)) (x431003 : List (S84)) (x444000 : Int) (x444001 : Int) (x444002 : List (S78)) (x444003 : List (S84)) : LimIs (fun k_ => laws_FnExactReadTable.j0 k_ x0 x4 x5 x7 x37 x431000 x431001 x431002 x431003 x444000 x444001 x444002 x444003) (laws_FnExactReadTable.jv0 x0 x4 x5 x7 x37 x431000 x431001 x431002 x431003 x444000 x444001 x444002 x444003) := lim_is (fun k_ => (laws_FnExactReadTable.mono_l k_).1 x0 x4 x5 x7 x37 x431000 x431001 x431002 x431003 x444000 x444001 x444002 x444003)
theorem laws_FnExactReadTable.jv1_lim (x0 : List Int) (x4 : Int) (x58 : Bool) (x431000 : Int) (x431001 : Int) (x431002 : List (S78)) (x431003 : List (S84)) (x444000 : Int) (x444001 : Int) (x444002 : List (S78)) (x444003 : List (S84)) : LimIs (fun k_ => laws_FnExactReadTable.j1 k_ x0 x4 x58 x431000 x431001 x431002 x431003 x444000 x444001 x444002 x444003) (laws_FnExactReadTable.jv1 x0 x4 x58 x431000 x431001 x431002 x431003 x444000 x444001 x444002 x444003) := lim_is (fun k_ => (laws_FnExactReadTable.mono_l k_).2.1 x0 x4 x58 x431000 x431001 x431002 x431003 x444000 x444001 x444002 x444003)
theorem laws_FnExactReadTable.jv2_lim (x9 : Int) (x84 : Bool) (x444000 : Int) (x444001 : Int) (x444002 : List (S78)) (x444003 : List (S84)) : LimIs (fun k_ => laws_FnExactReadTable.j2 k_ x9 x84 x444000 x444001 x444002 x444003) (laws_FnExactReadTable.jv2 x9 x84 x444000 x444001 x444002 x444003) := lim_is (fun k_ => (laws_FnExactReadTable.mono_l k_).2.2 x9 x84 x444000 x444001 x444002 x444003)
theorem laws_FnExactReadTable.v_lim (l0 : List Int) : LimIs (fun k_ => laws_FnExactReadTable.f k_ l0) (laws_FnExactReadTable.v l0) := lim_is (fun k_ => laws_FnExactReadTable.mono l0 k_)
theorem laws_FnExactReadTable.jv0_eq (x0 : List Int) (x4 : Int) (x5 : List Int) (x7 : Int) (x37 : Bool) (x431000 : Int) (x431001 : Int) (x431002 : List (S78)) (x431003 : List (S84)) (x444000 : Int) (x444001 : Int) (x444002 : List (S78)) (x444003 : List (S84)) : laws_FnExactReadTable.jv0 x0 x4 x5 x7 x37 x431000 x431001 x431002 x431003 x444000 x444001 x444002 x444003 = (if x37 = true then (some false) else ((laws_toByteS.v x0).bind fun t445 => ((laws_eqByteS.v x5 t445).bind fun t448 => (if t448 = true then ((laws_markByteS.v x5 1).bind fun bt449 => (if bt449.1 < 0 then (laws_FnExactReadTable.jv1 x0 x4 true x431000 x431001 x431002 x431003 x444000 x444001 x444002 x444003) else ((laws_eqTable.v x444000 x444001 x444002 x444003 x431000 x431001 x431002 x431003).bind fun t451 => (if t451 = true then (laws_FnExactReadTable.jv1 x0 x4 (x7 != x4) x431000 x431001 x431002 x431003 x444000 x444001 x444002 x444003) else (laws_FnExactReadTable.jv1 x0 x4 true x431000 x431001 x431002 x431003 x444000 x444001 x444002 x444003))))) else (some false)))) : Option (Bool)) := by
  refine LimIs.eq (laws_FnExactReadTable.jv0_lim x0 x4 x5 x7 x37 x431000 x431001 x431002 x431003 x444000 x444001 x444002 x444003) ?_
  refine LimIs.step (fun k_ => (laws_FnExactReadTable.mono_l k_).1 x0 x4 x5 x7 x37 x431000 x431001 x431002 x431003 x444000 x444001 x444002 x444003) ?_
  simp only [laws_FnExactReadTable.j0]
  repeat' (with_reducible first | exact laws_FnExactReadTable.jv1_lim _ _ _ _ _ _ _ _ _ _ _ | exact laws_eqByteS.v_lim _ _ | exact laws_eqTable.v_lim _ _ _ _ _ _ _ _ | exact laws_markByteS.v_lim _ _ | exact laws_toByteS.v_lim _ | exact LimIs.const _ | refine LimIs.ite ?_ ?_ | refine LimIs.bind ?_ (fun _ => ?_))
theorem laws_FnExactReadTable.jv1_eq (x0 : List Int) (x4 : Int) (x58 : Bool) (x431000 : Int) (x431001 : Int) (x431002 : List (S78)) (x431003 : List (S84)) (x444000 : Int) (x444001 : Int) (x444002 : List (S78)) (x444003 : List (S84)) : laws_FnExactReadTable.jv1 x0 x4 x58 x431000 x431001 x431002 x431003 x444000 x444001 x444002 x444003 = (if x58 = true then (some false) else ((laws_markTable.v x444000 x444001 x444002 x444003 1).bind fun bm_ => ((laws_heldTable.v x444000 x444001 bm_.2.1 bm_.2.2 1).bind fun t453 => (if t453 < 0 then (some false) else (if t453 = bm_.1 then ((laws_toByteS.v x0).bind fun t454 => ((impl_ReadTable.v t454).bind fun bt457 => ((laws_eqTable.v bt457.1 bt457.2.1 bt457.2.2.1 bt457.2.2.2.1 x431000 x431001 x431002 x431003).bind fun t467 => (if t467 = true then (laws_FnExactReadTable.jv2 bm_.1 (bt457.2.2.2.2 != x4) x444000 x444001 bm_.2.1 bm_.2.2) else (laws_FnExactReadTable.jv2 bm_.1 true x444000 x444001 bm_.2.1 bm_.2.2))))) else (some false))))) : Option (Bool)) := by
  refine LimIs.eq (laws_FnExactReadTable.jv1_lim x0 x4 x58 x431000 x431001 x431002 x431003 x444000 x444001 x444002 x444003) ?_
  refine LimIs.step (fun k_ => (laws_FnExactReadTable.mono_l k_).2.1 x0 x4 x58 x431000 x431001 x431002 x431003 x444000 x444001 x444002 x444003) ?_
  simp only [laws_FnExactReadTable.j1]
  repeat' (with_reducible first | exact impl_ReadTable.v_lim _ | exact laws_FnExactReadTable.jv2_lim _ _ _ _ _ _ | exact laws_eqTable.v_lim _ _ _ _ _ _ _ _ | exact laws_heldTable.v_lim _ _ _ _ _ | exact laws_markTable.v_lim _ _ _ _ _ | exact laws_toByteS.v_lim _ | exact LimIs.const _ | refine LimIs.ite ?_ ?_ | refine LimIs.bind ?_ (fun _ => ?_))
theorem laws_FnExactReadTable.jv2_eq (x9 : Int) (x84 : Bool) (x444000 : Int) (x444001 : Int) (x444002 : List (S78)) (x444003 : List (S84)) : laws_FnExactReadTable.jv2 x9 x84 x444000 x444001 x444002 x444003 = (if x84 = true then (some false) else ((laws_heldTable.v x444000 x444001 x444002 x444003 1).bind fun t468 => (if t468 < 0 then (some false) else (if t468 = x9 then (some true) else (some false)))) : Option (Bool)) := by
  refine LimIs.eq (laws_FnExactReadTable.jv2_lim x9 x84 x444000 x444001 x444002 x444003) ?_
  refine LimIs.step (fun k_ => (laws_FnExactReadTable.mono_l k_).2.2 x9 x84 x444000 x444001 x444002 x444003) ?_
  simp only [laws_FnExactReadTable.j2]
  repeat' (with_reducible first | exact laws_heldTable.v_lim _ _ _ _ _ | exact LimIs.const _ | refine LimIs.ite ?_ ?_ | refine LimIs.bind ?_ (fun _ => ?_))
theorem laws_FnExactReadTable.v_eq (l0 : List Int) : laws_FnExactReadTable.v l0 = (if (l0.length : Int) > 1048576 then (some true) else ((laws_toByteS.v l0).bind fun t418 => ((spec_ReadTable.v t418).bind fun bt421 => ((laws_toByteS.v l0).bind fun t431 => ((impl_ReadTable.v t431).bind fun bt434 => ((laws_eqTable.v bt434.1 bt434.2.1 bt434.2.2.1 bt434.2.2.2.1 bt421.1 bt421.2.1 bt421.2.2.1 bt421.2.2.2.1).bind fun t444 => (if t444 = true then (laws_FnExactReadTable.jv0 l0 bt421.2.2.2.2 t431 bt434.2.2.2.2 (bt434.2.2.2.2 != bt421.2.2.2.2) bt421.1 bt421.2.1 bt421.2.2.1 bt421.2.2.2.1 bt434.1 bt434.2.1 bt434.2.2.1 bt434.2.2.2.1) else (laws_FnExactReadTable.jv0 l0 bt421.2.2.2.2 t431 bt434.2.2.2.2 true bt421.1 bt421.2.1 bt421.2.2.1 bt421.2.2.2.1 bt434.1 bt434.2.1 bt434.2.2.1 bt434.2.2.2.1))))))) : Option (Bool)) := by
  refine LimIs.eq (laws_FnExactReadTable.v_lim l0) ?_
  simp only [laws_FnExactReadTable.f]
  repeat' (with_reducible first | exact impl_ReadTable.v_lim _ | exact laws_FnExactReadTable.jv0_lim _ _ _ _ _ _ _ _ _ _ _ _ _ | exact laws_eqTable.v_lim _ _ _ _ _ _ _ _ | exact laws_toByteS.v_lim _ | exact spec_ReadTable.v_lim _ | exact LimIs.const _ | refine LimIs.ite ?_ ?_ | refine LimIs.bind ?_ (fun _ => ?_))
end Go.Proofs.Ytioocldcdonlpaa.B
end
