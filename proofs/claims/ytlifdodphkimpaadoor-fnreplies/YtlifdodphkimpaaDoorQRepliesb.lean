/- A part of the proof that FnReplies returns true at every input: plain functions, contracts and lemmas. No conditions. -/
import Derived.Test.YtlifdodphkimpaaDoorQRepliesa
set_option linter.unusedVariables false
set_option linter.unusedSimpArgs false
set_option linter.unusedSectionVars false
section
namespace Go.Proofs.YtlifdodphkimpaaDoor.B
open Go.RowKit Go.Proofs.YtlifdodphkimpaaDoorW.PrintWords Go.Proofs.YtlifdodphkimpaaDoorW.PrintLast Go.Proofs.YtlifdodphkimpaaDoorW.PrintMore
attribute [local go_sem] max2_int min2_int max_two min_two max_three min_three max_four min_four
def spec_l05Answer.f (a0_0 : Int) (a0_1 : Int) (a0_2 : Int) (a0_3 : Int) : Option (Bool) := (spec_l01In.f a0_0 1 8).bind fun t867 => (if t867 = true then ((spec_l01In.f a0_1 0 1000000).bind fun t868 => (if t868 = true then ((spec_l01In.f a0_2 (-1) 255).bind fun t869 => (if t869 = true then ((spec_l01In.f a0_3 0 2000000000).bind fun t870 => (some t870)) else (some false))) else (some false))) else (some false))
def spec_l05Answer.v (a0_0 : Int) (a0_1 : Int) (a0_2 : Int) (a0_3 : Int) : Option (Bool) := spec_l05Answer.f a0_0 a0_1 a0_2 a0_3
theorem spec_l05Answer.v_eq (a0_0 : Int) (a0_1 : Int) (a0_2 : Int) (a0_3 : Int) : spec_l05Answer.v a0_0 a0_1 a0_2 a0_3 = ((spec_l01In.v a0_0 1 8).bind fun t867 => (if t867 = true then ((spec_l01In.v a0_1 0 1000000).bind fun t868 => (if t868 = true then ((spec_l01In.v a0_2 (-1) 255).bind fun t869 => (if t869 = true then ((spec_l01In.v a0_3 0 2000000000).bind fun t870 => (some t870)) else (some false))) else (some false))) else (some false)) : Option (Bool)) := rfl
def spec_l11Form.f (a0_0 : Int) (a0_1 : Int) (a0_2 : Int) (a0_3 : Int) (a0_4 : Int) (a0_5 : Int) (a0_6 : Int) (a0_7 : ByteArray) : Option (Bool) := (spec_l01In.f a0_0 0 6).bind fun t872 => (if t872 = true then ((spec_l01In.f a0_1 0 255).bind fun t873 => (if t873 = true then ((spec_l01In.f a0_2 1 65535).bind fun t874 => (if t874 = true then ((spec_l05Answer.f a0_3 a0_4 a0_5 a0_6).bind fun t875 => (some t875)) else (some false))) else (some false))) else (some false))
def spec_l11Form.v (a0_0 : Int) (a0_1 : Int) (a0_2 : Int) (a0_3 : Int) (a0_4 : Int) (a0_5 : Int) (a0_6 : Int) (a0_7 : ByteArray) : Option (Bool) := spec_l11Form.f a0_0 a0_1 a0_2 a0_3 a0_4 a0_5 a0_6 a0_7
theorem spec_l11Form.v_lim (a0_0 : Int) (a0_1 : Int) (a0_2 : Int) (a0_3 : Int) (a0_4 : Int) (a0_5 : Int) (a0_6 : Int) (a0_7 : ByteArray) : LimIs (fun _ => spec_l11Form.f a0_0 a0_1 a0_2 a0_3 a0_4 a0_5 a0_6 a0_7) (spec_l11Form.v a0_0 a0_1 a0_2 a0_3 a0_4 a0_5 a0_6 a0_7) := LimIs.const _
theorem spec_l11Form.v_eq (a0_0 : Int) (a0_1 : Int) (a0_2 : Int) (a0_3 : Int) (a0_4 : Int) (a0_5 : Int) (a0_6 : Int) (a0_7 : ByteArray) : spec_l11Form.v a0_0 a0_1 a0_2 a0_3 a0_4 a0_5 a0_6 a0_7 = ((spec_l01In.v a0_0 0 6).bind fun t872 => (if t872 = true then ((spec_l01In.v a0_1 0 255).bind fun t873 => (if t873 = true then ((spec_l01In.v a0_2 1 65535).bind fun t874 => (if t874 = true then ((spec_l05Answer.v a0_3 a0_4 a0_5 a0_6).bind fun t875 => (some t875)) else (some false))) else (some false))) else (some false)) : Option (Bool)) := rfl
def spec_l04Secret.f (k : Nat) (a0 : Int) : Option (ByteArray) := (some (([(a0) % 256] : List Int) : List Int)).bind fun y876 => (if 8 + (strOfNums y876).size ≤ 9223372036854775807 then (if ((⟨#[110, 111, 100, 101, 32, 107, 101, 121]⟩ : ByteArray) ++ (strOfNums y876)).size ≤ 140737488355328 then ((spec_l01Hash.f k (bytesOf ((⟨#[110, 111, 100, 101, 32, 107, 101, 121]⟩ : ByteArray) ++ (strOfNums y876)))).bind fun t882 => (some t882)) else (none)) else (none))
theorem spec_l04Secret.mono : ∀ a0 k, LeO (spec_l04Secret.f k a0) (spec_l04Secret.f (k + 1) a0) := by
  intro a0 k
  unfold spec_l04Secret.f
  repeat' first
      | (with_reducible exact spec_l01Hash.mono _ _)
      | (with_reducible exact LeO.refl _)
      | (with_reducible exact LeO.none _)
      | (with_reducible refine LeO.ite ?_ ?_)
      | (with_reducible refine LeO.bind ?_ (fun _ => ?_))
      | exact spec_l01Hash.mono _ _
      | exact LeO.none _
      | refine LeO.ite ?_ ?_
      | refine LeO.bind ?_ (fun _ => ?_)
noncomputable def spec_l04Secret.v (a0 : Int) : Option (ByteArray) := lim (fun k_ => spec_l04Secret.f k_ a0)
theorem spec_l04Secret.v_lim (a0 : Int) : LimIs (fun k_ => spec_l04Secret.f k_ a0) (spec_l04Secret.v a0) := lim_is (fun k_ => spec_l04Secret.mono a0 k_)
theorem spec_l04Secret.v_eq (a0 : Int) : spec_l04Secret.v a0 = ((some (([(a0) % 256] : List Int) : List Int)).bind fun y876 => (if 8 + (strOfNums y876).size ≤ 9223372036854775807 then (if ((⟨#[110, 111, 100, 101, 32, 107, 101, 121]⟩ : ByteArray) ++ (strOfNums y876)).size ≤ 140737488355328 then ((spec_l01Hash.v (bytesOf ((⟨#[110, 111, 100, 101, 32, 107, 101, 121]⟩ : ByteArray) ++ (strOfNums y876)))).bind fun t882 => (some t882)) else (none)) else (none)) : Option (ByteArray)) := by
  refine LimIs.eq (spec_l04Secret.v_lim a0) ?_
  simp only [spec_l04Secret.f]
  repeat' (with_reducible first | exact spec_l01Hash.v_lim _ | exact LimIs.const _ | refine LimIs.ite ?_ ?_ | refine LimIs.bind ?_ (fun _ => ?_))
def spec_l04Mac.f (k : Nat) (a0 : Int) (l1 : List Int) : Option (ByteArray) := (spec_l04Secret.f k a0).bind fun t1 => (if t1.size + l1.length < 140737488355328 ∧ 0 < t1.size then ((spec_l01Hash.f k (bytesOf t1 ++ l1)).bind fun t2 => (if 8 ≤ t2.size then (some (t2.extract 0 8)) else (none))) else (none))
theorem spec_l04Mac.mono : ∀ a0 l1 k, LeO (spec_l04Mac.f k a0 l1) (spec_l04Mac.f (k + 1) a0 l1) := by
  intro a0 l1 k
  unfold spec_l04Mac.f
  repeat' first
      | (with_reducible exact spec_l04Secret.mono _ _)
      | (with_reducible exact spec_l01Hash.mono _ _)
      | (with_reducible exact LeO.refl _)
      | refine LeO.ite ?_ ?_
      | refine LeO.bind ?_ (fun _ => ?_)
noncomputable def spec_l04Mac.v (a0 : Int) (l1 : List Int) : Option (ByteArray) := lim (fun k_ => spec_l04Mac.f k_ a0 l1)
theorem spec_l04Mac.v_lim (a0 : Int) (l1 : List Int) : LimIs (fun k_ => spec_l04Mac.f k_ a0 l1) (spec_l04Mac.v a0 l1) := lim_is (fun k_ => spec_l04Mac.mono a0 l1 k_)
theorem spec_l04Mac.v_eq (a0 : Int) (l1 : List Int) : spec_l04Mac.v a0 l1 = ((spec_l04Secret.v a0).bind fun t1 => (if t1.size + l1.length < 140737488355328 ∧ 0 < t1.size then ((spec_l01Hash.v (bytesOf t1 ++ l1)).bind fun t2 => (if 8 ≤ t2.size then (some (t2.extract 0 8)) else (none))) else (none)) : Option (ByteArray)) := by
  refine LimIs.eq (spec_l04Mac.v_lim a0 l1) ?_
  simp only [spec_l04Mac.f]
  repeat' (with_reducible first | exact spec_l01Hash.v_lim _ | exact spec_l04Secret.v_lim _ | exact LimIs.const _ | refine LimIs.ite ?_ ?_ | refine LimIs.bind ?_ (fun _ => ?_))
def spec_l02Number.l0 : Nat → Int → List Int → Int → Option (List Int)
  | 0, _, _, _ => none
  | k + 1, x0, x5, x6 => if x6 ≥ 0 then (if 0 ≤ (IntKind.u64.wrap (wrap64 (8 * x6))) then (if x5.length < 140737488355328 then (spec_l02Number.l0 k x0 (x5 ++ [(shr .i64 x0 (IntKind.u64.wrap (wrap64 (8 * x6)))) % 256]) (wrap64 (x6 - 1))) else (none)) else (none)) else (some x5)
def spec_l02Number.f (k : Nat) (a0 : Int) (a1 : Int) : Option (List Int) := spec_l02Number.l0 k a0 (([] : List Int)) (wrap64 (a1 - 1))
theorem spec_l02Number.mono_l : ∀ k, (∀ y0 y1 y2, LeO (spec_l02Number.l0 k y0 y1 y2) (spec_l02Number.l0 (k + 1) y0 y1 y2))
  | 0 => fun _ _ _ r h => by simp [spec_l02Number.l0] at h
  | k + 1 => by
    have ih0 := spec_l02Number.mono_l k
    · intro y0 y1 y2
      unfold spec_l02Number.l0
      repeat' first
      | (with_reducible exact ih0 _ _ _)
      | (with_reducible exact LeO.refl _)
      | (with_reducible exact LeO.none _)
      | (with_reducible refine LeO.ite ?_ ?_)
      | (with_reducible refine LeO.bind ?_ (fun _ => ?_))
      | exact ih0 _ _ _
      | exact LeO.none _
      | refine LeO.ite ?_ ?_
      | refine LeO.bind ?_ (fun _ => ?_)
theorem spec_l02Number.mono : ∀ a0 a1 k, LeO (spec_l02Number.f k a0 a1) (spec_l02Number.f (k + 1) a0 a1) := by
  intro a0 a1 k
  have ih0 := spec_l02Number.mono_l k
  unfold spec_l02Number.f
  repeat' first
      | (with_reducible exact ih0 _ _ _)
      | (with_reducible exact LeO.refl _)
      | (with_reducible exact LeO.none _)
      | (with_reducible refine LeO.ite ?_ ?_)
      | (with_reducible refine LeO.bind ?_ (fun _ => ?_))
      | exact ih0 _ _ _
      | exact LeO.none _
      | refine LeO.ite ?_ ?_
      | refine LeO.bind ?_ (fun _ => ?_)
noncomputable def spec_l02Number.lv0 (x0 : Int) (x5 : List Int) (x6 : Int) : Option (List Int) := lim (fun k_ => spec_l02Number.l0 k_ x0 x5 x6)
noncomputable def spec_l02Number.v (a0 : Int) (a1 : Int) : Option (List Int) := lim (fun k_ => spec_l02Number.f k_ a0 a1)
theorem spec_l02Number.lv0_lim (x0 : Int) (x5 : List Int) (x6 : Int) : LimIs (fun k_ => spec_l02Number.l0 k_ x0 x5 x6) (spec_l02Number.lv0 x0 x5 x6) := lim_is (fun k_ => (spec_l02Number.mono_l k_) x0 x5 x6)
theorem spec_l02Number.v_lim (a0 : Int) (a1 : Int) : LimIs (fun k_ => spec_l02Number.f k_ a0 a1) (spec_l02Number.v a0 a1) := lim_is (fun k_ => spec_l02Number.mono a0 a1 k_)
theorem spec_l02Number.lv0_eq (x0 : Int) (x5 : List Int) (x6 : Int) : spec_l02Number.lv0 x0 x5 x6 = (if x6 ≥ 0 then (if 0 ≤ (IntKind.u64.wrap (wrap64 (8 * x6))) then (if x5.length < 140737488355328 then (spec_l02Number.lv0 x0 (x5 ++ [(shr .i64 x0 (IntKind.u64.wrap (wrap64 (8 * x6)))) % 256]) (wrap64 (x6 - 1))) else (none)) else (none)) else (some x5) : Option (List Int)) := by
  refine LimIs.eq (spec_l02Number.lv0_lim x0 x5 x6) ?_
  refine LimIs.step (fun k_ => (spec_l02Number.mono_l k_) x0 x5 x6) ?_
  simp only [spec_l02Number.l0]
  repeat' (with_reducible first | exact spec_l02Number.lv0_lim _ _ _ | exact LimIs.const _ | refine LimIs.ite ?_ ?_ | refine LimIs.bind ?_ (fun _ => ?_))
theorem spec_l02Number.v_eq (a0 : Int) (a1 : Int) : spec_l02Number.v a0 a1 = (spec_l02Number.lv0 a0 (([] : List Int)) (wrap64 (a1 - 1)) : Option (List Int)) := by
  refine LimIs.eq (spec_l02Number.v_lim a0 a1) ?_
  simp only [spec_l02Number.f]
  repeat' (with_reducible first | exact spec_l02Number.lv0_lim _ _ _ | exact LimIs.const _ | refine LimIs.ite ?_ ?_ | refine LimIs.bind ?_ (fun _ => ?_))
def spec_l11Plain.f (k : Nat) (a0_0 : Int) (a0_1 : Int) (a0_2 : Int) (a0_3 : Int) (a0_4 : Int) (a0_5 : Int) (a0_6 : Int) (a0_7 : ByteArray) : Option (List Int) := (some (([114, 101, 112, 108, 121, (a0_1) % 256] : List Int) : List Int)).bind fun y890 => ((spec_l02Number.f k a0_2 2).bind fun t893 => (if y890.length + t893.length < 140737488355328 then ((some (y890 ++ t893 : List Int)).bind fun y896 => ((some (([(a0_3) % 256] : List Int) : List Int)).bind fun y899 => (if y896.length + y899.length < 140737488355328 then ((some (y896 ++ y899 : List Int)).bind fun y902 => ((spec_l02Number.f k a0_4 3).bind fun t905 => (if y902.length + t905.length < 140737488355328 then ((some (y902 ++ t905 : List Int)).bind fun y908 => ((spec_l02Number.f k (wrap64 (a0_5 + 1)) 2).bind fun t911 => (if y908.length + t911.length < 140737488355328 then ((some (y908 ++ t911 : List Int)).bind fun y914 => ((spec_l02Number.f k a0_6 4).bind fun t917 => (if y914.length + t917.length < 140737488355328 then (some (y914 ++ t917)) else (none)))) else (none)))) else (none)))) else (none)))) else (none)))
theorem spec_l11Plain.mono : ∀ a0 a1 a2 a3 a4 a5 a6 a7 k, LeO (spec_l11Plain.f k a0 a1 a2 a3 a4 a5 a6 a7) (spec_l11Plain.f (k + 1) a0 a1 a2 a3 a4 a5 a6 a7) := by
  intro a0 a1 a2 a3 a4 a5 a6 a7 k
  unfold spec_l11Plain.f
  repeat' first
      | (with_reducible exact spec_l02Number.mono _ _ _)
      | (with_reducible exact LeO.refl _)
      | (with_reducible exact LeO.none _)
      | (with_reducible refine LeO.ite ?_ ?_)
      | (with_reducible refine LeO.bind ?_ (fun _ => ?_))
      | exact spec_l02Number.mono _ _ _
      | exact LeO.none _
      | refine LeO.ite ?_ ?_
      | refine LeO.bind ?_ (fun _ => ?_)
noncomputable def spec_l11Plain.v (a0_0 : Int) (a0_1 : Int) (a0_2 : Int) (a0_3 : Int) (a0_4 : Int) (a0_5 : Int) (a0_6 : Int) (a0_7 : ByteArray) : Option (List Int) := lim (fun k_ => spec_l11Plain.f k_ a0_0 a0_1 a0_2 a0_3 a0_4 a0_5 a0_6 a0_7)
theorem spec_l11Plain.v_lim (a0_0 : Int) (a0_1 : Int) (a0_2 : Int) (a0_3 : Int) (a0_4 : Int) (a0_5 : Int) (a0_6 : Int) (a0_7 : ByteArray) : LimIs (fun k_ => spec_l11Plain.f k_ a0_0 a0_1 a0_2 a0_3 a0_4 a0_5 a0_6 a0_7) (spec_l11Plain.v a0_0 a0_1 a0_2 a0_3 a0_4 a0_5 a0_6 a0_7) := lim_is (fun k_ => spec_l11Plain.mono a0_0 a0_1 a0_2 a0_3 a0_4 a0_5 a0_6 a0_7 k_)
theorem spec_l11Plain.v_eq (a0_0 : Int) (a0_1 : Int) (a0_2 : Int) (a0_3 : Int) (a0_4 : Int) (a0_5 : Int) (a0_6 : Int) (a0_7 : ByteArray) : spec_l11Plain.v a0_0 a0_1 a0_2 a0_3 a0_4 a0_5 a0_6 a0_7 = ((some (([114, 101, 112, 108, 121, (a0_1) % 256] : List Int) : List Int)).bind fun y890 => ((spec_l02Number.v a0_2 2).bind fun t893 => (if y890.length + t893.length < 140737488355328 then ((some (y890 ++ t893 : List Int)).bind fun y896 => ((some (([(a0_3) % 256] : List Int) : List Int)).bind fun y899 => (if y896.length + y899.length < 140737488355328 then ((some (y896 ++ y899 : List Int)).bind fun y902 => ((spec_l02Number.v a0_4 3).bind fun t905 => (if y902.length + t905.length < 140737488355328 then ((some (y902 ++ t905 : List Int)).bind fun y908 => ((spec_l02Number.v (wrap64 (a0_5 + 1)) 2).bind fun t911 => (if y908.length + t911.length < 140737488355328 then ((some (y908 ++ t911 : List Int)).bind fun y914 => ((spec_l02Number.v a0_6 4).bind fun t917 => (if y914.length + t917.length < 140737488355328 then (some (y914 ++ t917)) else (none)))) else (none)))) else (none)))) else (none)))) else (none))) : Option (List Int)) := by
  refine LimIs.eq (spec_l11Plain.v_lim a0_0 a0_1 a0_2 a0_3 a0_4 a0_5 a0_6 a0_7) ?_
  simp only [spec_l11Plain.f]
  repeat' (with_reducible first | exact spec_l02Number.v_lim _ _ | exact LimIs.const _ | refine LimIs.ite ?_ ?_ | refine LimIs.bind ?_ (fun _ => ?_))
def spec_l11Mac.f (k : Nat) (a0_0 : Int) (a0_1 : Int) (a0_2 : Int) (a0_3 : Int) (a0_4 : Int) (a0_5 : Int) (a0_6 : Int) (a0_7 : ByteArray) : Option (ByteArray) := (spec_l11Plain.f k a0_0 a0_1 a0_2 a0_3 a0_4 a0_5 a0_6 a0_7).bind fun t924 => ((spec_l04Mac.f k a0_0 t924).bind fun t927 => (some t927))
theorem spec_l11Mac.mono : ∀ a0 a1 a2 a3 a4 a5 a6 a7 k, LeO (spec_l11Mac.f k a0 a1 a2 a3 a4 a5 a6 a7) (spec_l11Mac.f (k + 1) a0 a1 a2 a3 a4 a5 a6 a7) := by
  intro a0 a1 a2 a3 a4 a5 a6 a7 k
  unfold spec_l11Mac.f
  repeat' first
      | (with_reducible exact spec_l04Mac.mono _ _ _)
      | (with_reducible exact spec_l11Plain.mono _ _ _ _ _ _ _ _ _)
      | (with_reducible exact LeO.refl _)
      | (with_reducible exact LeO.none _)
      | (with_reducible refine LeO.ite ?_ ?_)
      | (with_reducible refine LeO.bind ?_ (fun _ => ?_))
      | exact spec_l04Mac.mono _ _ _
      | exact spec_l11Plain.mono _ _ _ _ _ _ _ _ _
      | exact LeO.none _
      | refine LeO.ite ?_ ?_
      | refine LeO.bind ?_ (fun _ => ?_)
noncomputable def spec_l11Mac.v (a0_0 : Int) (a0_1 : Int) (a0_2 : Int) (a0_3 : Int) (a0_4 : Int) (a0_5 : Int) (a0_6 : Int) (a0_7 : ByteArray) : Option (ByteArray) := lim (fun k_ => spec_l11Mac.f k_ a0_0 a0_1 a0_2 a0_3 a0_4 a0_5 a0_6 a0_7)
theorem spec_l11Mac.v_lim (a0_0 : Int) (a0_1 : Int) (a0_2 : Int) (a0_3 : Int) (a0_4 : Int) (a0_5 : Int) (a0_6 : Int) (a0_7 : ByteArray) : LimIs (fun k_ => spec_l11Mac.f k_ a0_0 a0_1 a0_2 a0_3 a0_4 a0_5 a0_6 a0_7) (spec_l11Mac.v a0_0 a0_1 a0_2 a0_3 a0_4 a0_5 a0_6 a0_7) := lim_is (fun k_ => spec_l11Mac.mono a0_0 a0_1 a0_2 a0_3 a0_4 a0_5 a0_6 a0_7 k_)
theorem spec_l11Mac.v_eq (a0_0 : Int) (a0_1 : Int) (a0_2 : Int) (a0_3 : Int) (a0_4 : Int) (a0_5 : Int) (a0_6 : Int) (a0_7 : ByteArray) : spec_l11Mac.v a0_0 a0_1 a0_2 a0_3 a0_4 a0_5 a0_6 a0_7 = ((spec_l11Plain.v a0_0 a0_1 a0_2 a0_3 a0_4 a0_5 a0_6 a0_7).bind fun t924 => ((spec_l04Mac.v a0_0 t924).bind fun t927 => (some t927)) : Option (ByteArray)) := by
  refine LimIs.eq (spec_l11Mac.v_lim a0_0 a0_1 a0_2 a0_3 a0_4 a0_5 a0_6 a0_7) ?_
  simp only [spec_l11Mac.f]
  repeat' (with_reducible first | exact spec_l04Mac.v_lim _ _ | exact spec_l11Plain.v_lim _ _ _ _ _ _ _ _ | exact LimIs.const _ | refine LimIs.ite ?_ ?_ | refine LimIs.bind ?_ (fun _ => ?_))
def spec_l11OK.f (k : Nat) (a0 : Int) (a1_0 : Int) (a1_1 : Int) (a1_2 : Int) (a1_3 : Int) (a1_4 : Int) (a1_5 : Int) (a1_6 : Int) (a1_7 : ByteArray) : Option (Bool) := (spec_l11Form.f a1_0 a1_1 a1_2 a1_3 a1_4 a1_5 a1_6 a1_7).bind fun t929 => (if t929 = true then (if a1_0 < a0 then ((spec_l11Mac.f k a1_0 a1_1 a1_2 a1_3 a1_4 a1_5 a1_6 a1_7).bind fun t930 => (some (t930.toList == a1_7.toList))) else (some false)) else (some false))
theorem spec_l11OK.mono : ∀ a0 a1 a2 a3 a4 a5 a6 a7 a8 k, LeO (spec_l11OK.f k a0 a1 a2 a3 a4 a5 a6 a7 a8) (spec_l11OK.f (k + 1) a0 a1 a2 a3 a4 a5 a6 a7 a8) := by
  intro a0 a1 a2 a3 a4 a5 a6 a7 a8 k
  unfold spec_l11OK.f
  repeat' first
      | (with_reducible exact spec_l11Mac.mono _ _ _ _ _ _ _ _ _)
      | (with_reducible exact LeO.refl _)
      | (with_reducible exact LeO.none _)
      | (with_reducible refine LeO.ite ?_ ?_)
      | (with_reducible refine LeO.bind ?_ (fun _ => ?_))
      | exact spec_l11Mac.mono _ _ _ _ _ _ _ _ _
      | exact LeO.none _
      | refine LeO.ite ?_ ?_
      | refine LeO.bind ?_ (fun _ => ?_)
noncomputable def spec_l11OK.v (a0 : Int) (a1_0 : Int) (a1_1 : Int) (a1_2 : Int) (a1_3 : Int) (a1_4 : Int) (a1_5 : Int) (a1_6 : Int) (a1_7 : ByteArray) : Option (Bool) := lim (fun k_ => spec_l11OK.f k_ a0 a1_0 a1_1 a1_2 a1_3 a1_4 a1_5 a1_6 a1_7)
theorem spec_l11OK.v_lim (a0 : Int) (a1_0 : Int) (a1_1 : Int) (a1_2 : Int) (a1_3 : Int) (a1_4 : Int) (a1_5 : Int) (a1_6 : Int) (a1_7 : ByteArray) : LimIs (fun k_ => spec_l11OK.f k_ a0 a1_0 a1_1 a1_2 a1_3 a1_4 a1_5 a1_6 a1_7) (spec_l11OK.v a0 a1_0 a1_1 a1_2 a1_3 a1_4 a1_5 a1_6 a1_7) := lim_is (fun k_ => spec_l11OK.mono a0 a1_0 a1_1 a1_2 a1_3 a1_4 a1_5 a1_6 a1_7 k_)
theorem spec_l11OK.v_eq (a0 : Int) (a1_0 : Int) (a1_1 : Int) (a1_2 : Int) (a1_3 : Int) (a1_4 : Int) (a1_5 : Int) (a1_6 : Int) (a1_7 : ByteArray) : spec_l11OK.v a0 a1_0 a1_1 a1_2 a1_3 a1_4 a1_5 a1_6 a1_7 = ((spec_l11Form.v a1_0 a1_1 a1_2 a1_3 a1_4 a1_5 a1_6 a1_7).bind fun t929 => (if t929 = true then (if a1_0 < a0 then ((spec_l11Mac.v a1_0 a1_1 a1_2 a1_3 a1_4 a1_5 a1_6 a1_7).bind fun t930 => (some (t930.toList == a1_7.toList))) else (some false)) else (some false)) : Option (Bool)) := by
  refine LimIs.eq (spec_l11OK.v_lim a0 a1_0 a1_1 a1_2 a1_3 a1_4 a1_5 a1_6 a1_7) ?_
  simp only [spec_l11OK.f]
  repeat' (with_reducible first | exact spec_l11Form.v_lim _ _ _ _ _ _ _ _ | exact spec_l11Mac.v_lim _ _ _ _ _ _ _ _ | exact LimIs.const _ | refine LimIs.ite ?_ ?_ | refine LimIs.bind ?_ (fun _ => ?_))
def spec_l08Has.l0 : Nat → List Int → Int → Int → Option (Bool)
  | 0, _, _, _ => none
  | k + 1, x0, x1, x5 => if x5 < (x0.length : Int) then (if 0 ≤ x5 then (if (rd x0 x5) = x1 then (some true) else (spec_l08Has.l0 k x0 x1 (wrap64 (x5 + 1)))) else (none)) else (some false)
def spec_l08Has.f (k : Nat) (l0 : List Int) (a1 : Int) : Option (Bool) := spec_l08Has.l0 k l0 a1 0
theorem spec_l08Has.mono_l : ∀ k, (∀ y0 y1 y2, LeO (spec_l08Has.l0 k y0 y1 y2) (spec_l08Has.l0 (k + 1) y0 y1 y2))
  | 0 => fun _ _ _ r h => by simp [spec_l08Has.l0] at h
  | k + 1 => by
    have ih0 := spec_l08Has.mono_l k
    · intro y0 y1 y2
      unfold spec_l08Has.l0
      repeat' first
      | (with_reducible exact ih0 _ _ _)
      | (with_reducible exact LeO.refl _)
      | (with_reducible exact LeO.none _)
      | (with_reducible refine LeO.ite ?_ ?_)
      | (with_reducible refine LeO.bind ?_ (fun _ => ?_))
      | exact ih0 _ _ _
      | exact LeO.none _
      | refine LeO.ite ?_ ?_
      | refine LeO.bind ?_ (fun _ => ?_)
theorem spec_l08Has.mono : ∀ a0 a1 k, LeO (spec_l08Has.f k a0 a1) (spec_l08Has.f (k + 1) a0 a1) := by
  intro a0 a1 k
  have ih0 := spec_l08Has.mono_l k
  unfold spec_l08Has.f
  repeat' first
      | (with_reducible exact ih0 _ _ _)
      | (with_reducible exact LeO.refl _)
      | (with_reducible exact LeO.none _)
      | (with_reducible refine LeO.ite ?_ ?_)
      | (with_reducible refine LeO.bind ?_ (fun _ => ?_))
      | exact ih0 _ _ _
      | exact LeO.none _
      | refine LeO.ite ?_ ?_
      | refine LeO.bind ?_ (fun _ => ?_)
noncomputable def spec_l08Has.lv0 (x0 : List Int) (x1 : Int) (x5 : Int) : Option (Bool) := lim (fun k_ => spec_l08Has.l0 k_ x0 x1 x5)
noncomputable def spec_l08Has.v (l0 : List Int) (a1 : Int) : Option (Bool) := lim (fun k_ => spec_l08Has.f k_ l0 a1)
theorem spec_l08Has.lv0_lim (x0 : List Int) (x1 : Int) (x5 : Int) : LimIs (fun k_ => spec_l08Has.l0 k_ x0 x1 x5) (spec_l08Has.lv0 x0 x1 x5) := lim_is (fun k_ => (spec_l08Has.mono_l k_) x0 x1 x5)
theorem spec_l08Has.v_lim (l0 : List Int) (a1 : Int) : LimIs (fun k_ => spec_l08Has.f k_ l0 a1) (spec_l08Has.v l0 a1) := lim_is (fun k_ => spec_l08Has.mono l0 a1 k_)
theorem spec_l08Has.lv0_eq (x0 : List Int) (x1 : Int) (x5 : Int) : spec_l08Has.lv0 x0 x1 x5 = (if x5 < (x0.length : Int) then (if 0 ≤ x5 then (if (rd x0 x5) = x1 then (some true) else (spec_l08Has.lv0 x0 x1 (wrap64 (x5 + 1)))) else (none)) else (some false) : Option (Bool)) := by
  refine LimIs.eq (spec_l08Has.lv0_lim x0 x1 x5) ?_
  refine LimIs.step (fun k_ => (spec_l08Has.mono_l k_) x0 x1 x5) ?_
  simp only [spec_l08Has.l0]
  repeat' (with_reducible first | exact spec_l08Has.lv0_lim _ _ _ | exact LimIs.const _ | refine LimIs.ite ?_ ?_ | refine LimIs.bind ?_ (fun _ => ?_))
theorem spec_l08Has.v_eq (l0 : List Int) (a1 : Int) : spec_l08Has.v l0 a1 = (spec_l08Has.lv0 l0 a1 0 : Option (Bool)) := by
  refine LimIs.eq (spec_l08Has.v_lim l0 a1) ?_
  simp only [spec_l08Has.f]
  repeat' (with_reducible first | exact spec_l08Has.lv0_lim _ _ _ | exact LimIs.const _ | refine LimIs.ite ?_ ?_ | refine LimIs.bind ?_ (fun _ => ?_))
mutual
def spec_l11Count.l0 : Nat → Int → Int → Int → List (S73) → Int → Option (Int × Int × Int × Int × Bool)
  | 0, _, _, _, _, _ => none
  | k + 1, x0, x1, x2, x3, x10 => if x10 < (x3.length : Int) then (spec_l11Count.l1 k x0 x1 x2 x3 x10 (([] : List Int)) 0) else (some (0, 0, 0, 0, false))
def spec_l11Count.l1 : Nat → Int → Int → Int → List (S73) → Int → List Int → Int → Option (Int × Int × Int × Int × Bool)
  | 0, _, _, _, _, _, _, _ => none
  | k + 1, x0, x1, x2, x3, x10, x11, x12 => if x12 ≤ x10 then (if 0 ≤ x12 then (if x12 < (x3.length : Int) then ((spec_l11OK.f k x0 ((rd_T73 x3 x12).f0) ((rd_T73 x3 x12).f1) ((rd_T73 x3 x12).f2) ((rd_T73 x3 x12).f3.f0) ((rd_T73 x3 x12).f3.f1) ((rd_T73 x3 x12).f3.f2) ((rd_T73 x3 x12).f3.f3) ((rd_T73 x3 x12).f4)).bind fun t939 => (if t939 = true then (if ((rd_T73 x3 x12).f1) = x1 then (if ((rd_T73 x3 x12).f2) = x2 then (if 0 ≤ x10 then (if x10 < (x3.length : Int) then (if (((rd_T73 x3 x12).f3.f0) == ((rd_T73 x3 x10).f3.f0) && (((rd_T73 x3 x12).f3.f1) == ((rd_T73 x3 x10).f3.f1) && (((rd_T73 x3 x12).f3.f2) == ((rd_T73 x3 x10).f3.f2) && (((rd_T73 x3 x12).f3.f3) == ((rd_T73 x3 x10).f3.f3))))) = true then ((spec_l08Has.f k x11 ((rd_T73 x3 x12).f0)).bind fun t941 => (if t941 = true then (spec_l11Count.l1 k x0 x1 x2 x3 x10 x11 (wrap64 (x12 + 1))) else (if x11.length < 17592186044416 then (spec_l11Count.l1 k x0 x1 x2 x3 x10 (x11 ++ [(rd_T73 x3 x12).f0]) (wrap64 (x12 + 1))) else (none)))) else (spec_l11Count.l1 k x0 x1 x2 x3 x10 x11 (wrap64 (x12 + 1)))) else (none)) else (none)) else (spec_l11Count.l1 k x0 x1 x2 x3 x10 x11 (wrap64 (x12 + 1)))) else (spec_l11Count.l1 k x0 x1 x2 x3 x10 x11 (wrap64 (x12 + 1)))) else (spec_l11Count.l1 k x0 x1 x2 x3 x10 x11 (wrap64 (x12 + 1))))) else (none)) else (none)) else (if (x11.length : Int) > (wrap64 (Int.tdiv (wrap64 (x0 - 1)) 3)) then (if 0 ≤ x10 then (if x10 < (x3.length : Int) then (some ((rd_T73 x3 x10).f3.f0, (rd_T73 x3 x10).f3.f1, (rd_T73 x3 x10).f3.f2, (rd_T73 x3 x10).f3.f3, true)) else (none)) else (none)) else (spec_l11Count.l0 k x0 x1 x2 x3 (wrap64 (x10 + 1))))
end
def spec_l11Count.f (k : Nat) (a0 : Int) (a1 : Int) (a2 : Int) (l3 : List (S73)) : Option (Int × Int × Int × Int × Bool) := spec_l11Count.l0 k a0 a1 a2 l3 0
theorem spec_l11Count.mono_l : ∀ k, (∀ y0 y1 y2 y3 y4, LeO (spec_l11Count.l0 k y0 y1 y2 y3 y4) (spec_l11Count.l0 (k + 1) y0 y1 y2 y3 y4)) ∧ (∀ y0 y1 y2 y3 y4 y5 y6, LeO (spec_l11Count.l1 k y0 y1 y2 y3 y4 y5 y6) (spec_l11Count.l1 (k + 1) y0 y1 y2 y3 y4 y5 y6))
  | 0 => ⟨fun _ _ _ _ _ r h => by simp [spec_l11Count.l0] at h, fun _ _ _ _ _ _ _ r h => by simp [spec_l11Count.l1] at h⟩
  | k + 1 => by
    obtain ⟨ih0, ih1⟩ := spec_l11Count.mono_l k
    refine ⟨?_, ?_⟩
    · intro y0 y1 y2 y3 y4
      unfold spec_l11Count.l0
      repeat' first
      | (with_reducible exact ih0 _ _ _ _ _)
      | (with_reducible exact ih1 _ _ _ _ _ _ _)
      | (with_reducible exact spec_l08Has.mono _ _ _)
      | (with_reducible exact spec_l11OK.mono _ _ _ _ _ _ _ _ _ _)
      | (with_reducible exact LeO.refl _)
      | (with_reducible exact LeO.none _)
      | (with_reducible refine LeO.ite ?_ ?_)
      | (with_reducible refine LeO.bind ?_ (fun _ => ?_))
      | exact ih0 _ _ _ _ _
      | exact ih1 _ _ _ _ _ _ _
      | exact spec_l08Has.mono _ _ _
      | exact spec_l11OK.mono _ _ _ _ _ _ _ _ _ _
      | exact LeO.none _
      | refine LeO.ite ?_ ?_
      | refine LeO.bind ?_ (fun _ => ?_)
    · intro y0 y1 y2 y3 y4 y5 y6
      unfold spec_l11Count.l1
      repeat' first
      | (with_reducible exact ih0 _ _ _ _ _)
      | (with_reducible exact ih1 _ _ _ _ _ _ _)
      | (with_reducible exact spec_l08Has.mono _ _ _)
      | (with_reducible exact spec_l11OK.mono _ _ _ _ _ _ _ _ _ _)
      | (with_reducible exact LeO.refl _)
      | (with_reducible exact LeO.none _)
      | (with_reducible refine LeO.ite ?_ ?_)
      | (with_reducible refine LeO.bind ?_ (fun _ => ?_))
      | exact ih0 _ _ _ _ _
      | exact ih1 _ _ _ _ _ _ _
      | exact spec_l08Has.mono _ _ _
      | exact spec_l11OK.mono _ _ _ _ _ _ _ _ _ _
      | exact LeO.none _
      | refine LeO.ite ?_ ?_
      | refine LeO.bind ?_ (fun _ => ?_)
theorem spec_l11Count.mono : ∀ a0 a1 a2 a3 k, LeO (spec_l11Count.f k a0 a1 a2 a3) (spec_l11Count.f (k + 1) a0 a1 a2 a3) := by
  intro a0 a1 a2 a3 k
  obtain ⟨ih0, ih1⟩ := spec_l11Count.mono_l k
  unfold spec_l11Count.f
  repeat' first
      | (with_reducible exact ih0 _ _ _ _ _)
      | (with_reducible exact ih1 _ _ _ _ _ _ _)
      | (with_reducible exact spec_l08Has.mono _ _ _)
      | (with_reducible exact spec_l11OK.mono _ _ _ _ _ _ _ _ _ _)
      | (with_reducible exact LeO.refl _)
      | (with_reducible exact LeO.none _)
      | (with_reducible refine LeO.ite ?_ ?_)
      | (with_reducible refine LeO.bind ?_ (fun _ => ?_))
      | exact ih0 _ _ _ _ _
      | exact ih1 _ _ _ _ _ _ _
      | exact spec_l08Has.mono _ _ _
      | exact spec_l11OK.mono _ _ _ _ _ _ _ _ _ _
      | exact LeO.none _
      | refine LeO.ite ?_ ?_
      | refine LeO.bind ?_ (fun _ => ?_)
noncomputable def spec_l11Count.lv0 (x0 : Int) (x1 : Int) (x2 : Int) (x3 : List (S73)) (x10 : Int) : Option (Int × Int × Int × Int × Bool) := lim (fun k_ => spec_l11Count.l0 k_ x0 x1 x2 x3 x10)
noncomputable def spec_l11Count.lv1 (x0 : Int) (x1 : Int) (x2 : Int) (x3 : List (S73)) (x10 : Int) (x11 : List Int) (x12 : Int) : Option (Int × Int × Int × Int × Bool) := lim (fun k_ => spec_l11Count.l1 k_ x0 x1 x2 x3 x10 x11 x12)
noncomputable def spec_l11Count.v (a0 : Int) (a1 : Int) (a2 : Int) (l3 : List (S73)) : Option (Int × Int × Int × Int × Bool) := lim (fun k_ => spec_l11Count.f k_ a0 a1 a2 l3)
theorem spec_l11Count.lv0_lim (x0 : Int) (x1 : Int) (x2 : Int) (x3 : List (S73)) (x10 : Int) : LimIs (fun k_ => spec_l11Count.l0 k_ x0 x1 x2 x3 x10) (spec_l11Count.lv0 x0 x1 x2 x3 x10) := lim_is (fun k_ => (spec_l11Count.mono_l k_).1 x0 x1 x2 x3 x10)
theorem spec_l11Count.lv1_lim (x0 : Int) (x1 : Int) (x2 : Int) (x3 : List (S73)) (x10 : Int) (x11 : List Int) (x12 : Int) : LimIs (fun k_ => spec_l11Count.l1 k_ x0 x1 x2 x3 x10 x11 x12) (spec_l11Count.lv1 x0 x1 x2 x3 x10 x11 x12) := lim_is (fun k_ => (spec_l11Count.mono_l k_).2 x0 x1 x2 x3 x10 x11 x12)
theorem spec_l11Count.v_lim (a0 : Int) (a1 : Int) (a2 : Int) (l3 : List (S73)) : LimIs (fun k_ => spec_l11Count.f k_ a0 a1 a2 l3) (spec_l11Count.v a0 a1 a2 l3) := lim_is (fun k_ => spec_l11Count.mono a0 a1 a2 l3 k_)
theorem spec_l11Count.lv0_eq (x0 : Int) (x1 : Int) (x2 : Int) (x3 : List (S73)) (x10 : Int) : spec_l11Count.lv0 x0 x1 x2 x3 x10 = (if x10 < (x3.length : Int) then (spec_l11Count.lv1 x0 x1 x2 x3 x10 (([] : List Int)) 0) else (some (0, 0, 0, 0, false)) : Option (Int × Int × Int × Int × Bool)) := by
  refine LimIs.eq (spec_l11Count.lv0_lim x0 x1 x2 x3 x10) ?_
  refine LimIs.step (fun k_ => (spec_l11Count.mono_l k_).1 x0 x1 x2 x3 x10) ?_
  simp only [spec_l11Count.l0]
  repeat' (with_reducible first | exact spec_l11Count.lv1_lim _ _ _ _ _ _ _ | exact LimIs.const _ | refine LimIs.ite ?_ ?_ | refine LimIs.bind ?_ (fun _ => ?_))
theorem spec_l11Count.lv1_eq (x0 : Int) (x1 : Int) (x2 : Int) (x3 : List (S73)) (x10 : Int) (x11 : List Int) (x12 : Int) : spec_l11Count.lv1 x0 x1 x2 x3 x10 x11 x12 = (if x12 ≤ x10 then (if 0 ≤ x12 then (if x12 < (x3.length : Int) then ((spec_l11OK.v x0 ((rd_T73 x3 x12).f0) ((rd_T73 x3 x12).f1) ((rd_T73 x3 x12).f2) ((rd_T73 x3 x12).f3.f0) ((rd_T73 x3 x12).f3.f1) ((rd_T73 x3 x12).f3.f2) ((rd_T73 x3 x12).f3.f3) ((rd_T73 x3 x12).f4)).bind fun t939 => (if t939 = true then (if ((rd_T73 x3 x12).f1) = x1 then (if ((rd_T73 x3 x12).f2) = x2 then (if 0 ≤ x10 then (if x10 < (x3.length : Int) then (if (((rd_T73 x3 x12).f3.f0) == ((rd_T73 x3 x10).f3.f0) && (((rd_T73 x3 x12).f3.f1) == ((rd_T73 x3 x10).f3.f1) && (((rd_T73 x3 x12).f3.f2) == ((rd_T73 x3 x10).f3.f2) && (((rd_T73 x3 x12).f3.f3) == ((rd_T73 x3 x10).f3.f3))))) = true then ((spec_l08Has.v x11 ((rd_T73 x3 x12).f0)).bind fun t941 => (if t941 = true then (spec_l11Count.lv1 x0 x1 x2 x3 x10 x11 (wrap64 (x12 + 1))) else (if x11.length < 17592186044416 then (spec_l11Count.lv1 x0 x1 x2 x3 x10 (x11 ++ [(rd_T73 x3 x12).f0]) (wrap64 (x12 + 1))) else (none)))) else (spec_l11Count.lv1 x0 x1 x2 x3 x10 x11 (wrap64 (x12 + 1)))) else (none)) else (none)) else (spec_l11Count.lv1 x0 x1 x2 x3 x10 x11 (wrap64 (x12 + 1)))) else (spec_l11Count.lv1 x0 x1 x2 x3 x10 x11 (wrap64 (x12 + 1)))) else (spec_l11Count.lv1 x0 x1 x2 x3 x10 x11 (wrap64 (x12 + 1))))) else (none)) else (none)) else (if (x11.length : Int) > (wrap64 (Int.tdiv (wrap64 (x0 - 1)) 3)) then (if 0 ≤ x10 then (if x10 < (x3.length : Int) then (some ((rd_T73 x3 x10).f3.f0, (rd_T73 x3 x10).f3.f1, (rd_T73 x3 x10).f3.f2, (rd_T73 x3 x10).f3.f3, true)) else (none)) else (none)) else (spec_l11Count.lv0 x0 x1 x2 x3 (wrap64 (x10 + 1)))) : Option (Int × Int × Int × Int × Bool)) := by
  refine LimIs.eq (spec_l11Count.lv1_lim x0 x1 x2 x3 x10 x11 x12) ?_
  refine LimIs.step (fun k_ => (spec_l11Count.mono_l k_).2 x0 x1 x2 x3 x10 x11 x12) ?_
  simp only [spec_l11Count.l1]
  repeat' (with_reducible first | exact spec_l08Has.v_lim _ _ | exact spec_l11Count.lv0_lim _ _ _ _ _ | exact spec_l11Count.lv1_lim _ _ _ _ _ _ _ | exact spec_l11OK.v_lim _ _ _ _ _ _ _ _ _ | exact LimIs.const _ | refine LimIs.ite ?_ ?_ | refine LimIs.bind ?_ (fun _ => ?_))
theorem spec_l11Count.v_eq (a0 : Int) (a1 : Int) (a2 : Int) (l3 : List (S73)) : spec_l11Count.v a0 a1 a2 l3 = (spec_l11Count.lv0 a0 a1 a2 l3 0 : Option (Int × Int × Int × Int × Bool)) := by
  refine LimIs.eq (spec_l11Count.v_lim a0 a1 a2 l3) ?_
  simp only [spec_l11Count.f]
  repeat' (with_reducible first | exact spec_l11Count.lv0_lim _ _ _ _ _ | exact LimIs.const _ | refine LimIs.ite ?_ ?_ | refine LimIs.bind ?_ (fun _ => ?_))
def spec_CountReplies.f (k : Nat) (a0 : Int) (a1 : Int) (a2 : Int) (l3 : List (S73)) : Option (Int × Int × Int × Int × Int) := if (l3.length : Int) > 4096 then (some (0, 0, 0, 0, 2)) else ((spec_l04Nodes.f a0).bind fun t946 => (if t946 = true then (if (l3.length : Int) > 60 then (some (0, 0, 0, 0, 6)) else ((spec_l11Count.f k a0 a1 a2 l3).bind fun bt947 => (if bt947.2.2.2.2 = true then (some (bt947.1, bt947.2.1, bt947.2.2.1, bt947.2.2.2.1, 0)) else (some (0, 0, 0, 0, 19))))) else (some (0, 0, 0, 0, 4))))
theorem spec_CountReplies.mono : ∀ a0 a1 a2 a3 k, LeO (spec_CountReplies.f k a0 a1 a2 a3) (spec_CountReplies.f (k + 1) a0 a1 a2 a3) := by
  intro a0 a1 a2 a3 k
  unfold spec_CountReplies.f
  repeat' first
      | (with_reducible exact spec_l11Count.mono _ _ _ _ _)
      | (with_reducible exact LeO.refl _)
      | (with_reducible exact LeO.none _)
      | (with_reducible refine LeO.ite ?_ ?_)
      | (with_reducible refine LeO.bind ?_ (fun _ => ?_))
      | exact spec_l11Count.mono _ _ _ _ _
      | exact LeO.none _
      | refine LeO.ite ?_ ?_
      | refine LeO.bind ?_ (fun _ => ?_)
noncomputable def spec_CountReplies.v (a0 : Int) (a1 : Int) (a2 : Int) (l3 : List (S73)) : Option (Int × Int × Int × Int × Int) := lim (fun k_ => spec_CountReplies.f k_ a0 a1 a2 l3)
theorem spec_CountReplies.v_lim (a0 : Int) (a1 : Int) (a2 : Int) (l3 : List (S73)) : LimIs (fun k_ => spec_CountReplies.f k_ a0 a1 a2 l3) (spec_CountReplies.v a0 a1 a2 l3) := lim_is (fun k_ => spec_CountReplies.mono a0 a1 a2 l3 k_)
theorem spec_CountReplies.v_eq (a0 : Int) (a1 : Int) (a2 : Int) (l3 : List (S73)) : spec_CountReplies.v a0 a1 a2 l3 = (if (l3.length : Int) > 4096 then (some (0, 0, 0, 0, 2)) else ((spec_l04Nodes.v a0).bind fun t946 => (if t946 = true then (if (l3.length : Int) > 60 then (some (0, 0, 0, 0, 6)) else ((spec_l11Count.v a0 a1 a2 l3).bind fun bt947 => (if bt947.2.2.2.2 = true then (some (bt947.1, bt947.2.1, bt947.2.2.1, bt947.2.2.2.1, 0)) else (some (0, 0, 0, 0, 19))))) else (some (0, 0, 0, 0, 4)))) : Option (Int × Int × Int × Int × Int)) := by
  refine LimIs.eq (spec_CountReplies.v_lim a0 a1 a2 l3) ?_
  simp only [spec_CountReplies.f]
  repeat' (with_reducible first | exact spec_l04Nodes.v_lim _ | exact spec_l11Count.v_lim _ _ _ _ | exact LimIs.const _ | refine LimIs.ite ?_ ?_ | refine LimIs.bind ?_ (fun _ => ?_))
def impl_Reply.f (l0 : List (S73)) : Option (Bool) := some (decide ((l0.length : Int) > 4096))
def impl_Reply.v (l0 : List (S73)) : Option (Bool) := impl_Reply.f l0
theorem impl_Reply.v_lim (l0 : List (S73)) : LimIs (fun _ => impl_Reply.f l0) (impl_Reply.v l0) := LimIs.const _
theorem impl_Reply.v_eq (l0 : List (S73)) : impl_Reply.v l0 = (some (decide ((l0.length : Int) > 4096)) : Option (Bool)) := rfl
def impl_isAnswer.f (a0_0 : Int) (a0_1 : Int) (a0_2 : Int) (a0_3 : Int) : Option (Bool) := (impl_within.f a0_0 1 8).bind fun t977 => (if t977 = true then ((impl_within.f a0_1 0 1000000).bind fun t978 => (if t978 = true then ((impl_within.f a0_2 (-1) 255).bind fun t979 => (if t979 = true then ((impl_within.f a0_3 0 2000000000).bind fun t980 => (some t980)) else (some false))) else (some false))) else (some false))
def impl_isAnswer.v (a0_0 : Int) (a0_1 : Int) (a0_2 : Int) (a0_3 : Int) : Option (Bool) := impl_isAnswer.f a0_0 a0_1 a0_2 a0_3
theorem impl_isAnswer.v_eq (a0_0 : Int) (a0_1 : Int) (a0_2 : Int) (a0_3 : Int) : impl_isAnswer.v a0_0 a0_1 a0_2 a0_3 = ((impl_within.v a0_0 1 8).bind fun t977 => (if t977 = true then ((impl_within.v a0_1 0 1000000).bind fun t978 => (if t978 = true then ((impl_within.v a0_2 (-1) 255).bind fun t979 => (if t979 = true then ((impl_within.v a0_3 0 2000000000).bind fun t980 => (some t980)) else (some false))) else (some false))) else (some false)) : Option (Bool)) := rfl
def impl_isReply.f (a0_0 : Int) (a0_1 : Int) (a0_2 : Int) (a0_3 : Int) (a0_4 : Int) (a0_5 : Int) (a0_6 : Int) (a0_7 : ByteArray) : Option (Bool) := (impl_within.f a0_0 0 6).bind fun t982 => (if t982 = true then ((impl_within.f a0_1 0 255).bind fun t983 => (if t983 = true then ((impl_within.f a0_2 1 65535).bind fun t984 => (if t984 = true then ((impl_isAnswer.f a0_3 a0_4 a0_5 a0_6).bind fun t985 => (some t985)) else (some false))) else (some false))) else (some false))
def impl_isReply.v (a0_0 : Int) (a0_1 : Int) (a0_2 : Int) (a0_3 : Int) (a0_4 : Int) (a0_5 : Int) (a0_6 : Int) (a0_7 : ByteArray) : Option (Bool) := impl_isReply.f a0_0 a0_1 a0_2 a0_3 a0_4 a0_5 a0_6 a0_7
theorem impl_isReply.v_lim (a0_0 : Int) (a0_1 : Int) (a0_2 : Int) (a0_3 : Int) (a0_4 : Int) (a0_5 : Int) (a0_6 : Int) (a0_7 : ByteArray) : LimIs (fun _ => impl_isReply.f a0_0 a0_1 a0_2 a0_3 a0_4 a0_5 a0_6 a0_7) (impl_isReply.v a0_0 a0_1 a0_2 a0_3 a0_4 a0_5 a0_6 a0_7) := LimIs.const _
theorem impl_isReply.v_eq (a0_0 : Int) (a0_1 : Int) (a0_2 : Int) (a0_3 : Int) (a0_4 : Int) (a0_5 : Int) (a0_6 : Int) (a0_7 : ByteArray) : impl_isReply.v a0_0 a0_1 a0_2 a0_3 a0_4 a0_5 a0_6 a0_7 = ((impl_within.v a0_0 0 6).bind fun t982 => (if t982 = true then ((impl_within.v a0_1 0 255).bind fun t983 => (if t983 = true then ((impl_within.v a0_2 1 65535).bind fun t984 => (if t984 = true then ((impl_isAnswer.v a0_3 a0_4 a0_5 a0_6).bind fun t985 => (some t985)) else (some false))) else (some false))) else (some false)) : Option (Bool)) := rfl
def impl_mark.f (k : Nat) (a0 : Int) (a1 : ByteArray) : Option (ByteArray) := (impl_number.f k a0 1).bind fun t986 => (if 8 + t986.size ≤ 9223372036854775807 then ((impl_hash.f k ((⟨#[110, 111, 100, 101, 32, 107, 101, 121]⟩ : ByteArray) ++ t986)).bind fun t987 => (if t987.size + a1.size ≤ 9223372036854775807 then ((impl_hash.f k (t987 ++ a1)).bind fun t988 => (if 0 ≤ 8 then (if 8 ≤ (t988.size : Int) then (some (t988.extract 0 8)) else (none)) else (none))) else (none))) else (none))
theorem impl_mark.mono : ∀ a0 a1 k, LeO (impl_mark.f k a0 a1) (impl_mark.f (k + 1) a0 a1) := by
  intro a0 a1 k
  unfold impl_mark.f
  repeat' first
      | (with_reducible exact impl_hash.mono _ _)
      | (with_reducible exact impl_number.mono _ _ _)
      | (with_reducible exact LeO.refl _)
      | (with_reducible exact LeO.none _)
      | (with_reducible refine LeO.ite ?_ ?_)
      | (with_reducible refine LeO.bind ?_ (fun _ => ?_))
      | exact impl_hash.mono _ _
      | exact impl_number.mono _ _ _
      | exact LeO.none _
      | refine LeO.ite ?_ ?_
      | refine LeO.bind ?_ (fun _ => ?_)
noncomputable def impl_mark.v (a0 : Int) (a1 : ByteArray) : Option (ByteArray) := lim (fun k_ => impl_mark.f k_ a0 a1)
theorem impl_mark.v_lim (a0 : Int) (a1 : ByteArray) : LimIs (fun k_ => impl_mark.f k_ a0 a1) (impl_mark.v a0 a1) := lim_is (fun k_ => impl_mark.mono a0 a1 k_)
theorem impl_mark.v_eq (a0 : Int) (a1 : ByteArray) : impl_mark.v a0 a1 = ((impl_number.v a0 1).bind fun t986 => (if 8 + t986.size ≤ 9223372036854775807 then ((impl_hash.v ((⟨#[110, 111, 100, 101, 32, 107, 101, 121]⟩ : ByteArray) ++ t986)).bind fun t987 => (if t987.size + a1.size ≤ 9223372036854775807 then ((impl_hash.v (t987 ++ a1)).bind fun t988 => (if 0 ≤ 8 then (if 8 ≤ (t988.size : Int) then (some (t988.extract 0 8)) else (none)) else (none))) else (none))) else (none)) : Option (ByteArray)) := by
  refine LimIs.eq (impl_mark.v_lim a0 a1) ?_
  simp only [impl_mark.f]
  repeat' (with_reducible first | exact impl_hash.v_lim _ | exact impl_number.v_lim _ _ | exact LimIs.const _ | refine LimIs.ite ?_ ?_ | refine LimIs.bind ?_ (fun _ => ?_))
def impl_answerText.f (k : Nat) (a0_0 : Int) (a0_1 : Int) (a0_2 : Int) (a0_3 : Int) : Option (ByteArray) := (impl_number.f k a0_0 1).bind fun t990 => ((impl_number.f k a0_1 3).bind fun t991 => (if t990.size + t991.size ≤ 9223372036854775807 then ((impl_number.f k (wrap64 (a0_2 + 1)) 2).bind fun t992 => (if (t990 ++ t991).size + t992.size ≤ 9223372036854775807 then ((impl_number.f k a0_3 4).bind fun t993 => (if ((t990 ++ t991) ++ t992).size + t993.size ≤ 9223372036854775807 then (some (((t990 ++ t991) ++ t992) ++ t993)) else (none))) else (none))) else (none)))
theorem impl_answerText.mono : ∀ a0 a1 a2 a3 k, LeO (impl_answerText.f k a0 a1 a2 a3) (impl_answerText.f (k + 1) a0 a1 a2 a3) := by
  intro a0 a1 a2 a3 k
  unfold impl_answerText.f
  repeat' first
      | (with_reducible exact impl_number.mono _ _ _)
      | (with_reducible exact LeO.refl _)
      | (with_reducible exact LeO.none _)
      | (with_reducible refine LeO.ite ?_ ?_)
      | (with_reducible refine LeO.bind ?_ (fun _ => ?_))
      | exact impl_number.mono _ _ _
      | exact LeO.none _
      | refine LeO.ite ?_ ?_
      | refine LeO.bind ?_ (fun _ => ?_)
noncomputable def impl_answerText.v (a0_0 : Int) (a0_1 : Int) (a0_2 : Int) (a0_3 : Int) : Option (ByteArray) := lim (fun k_ => impl_answerText.f k_ a0_0 a0_1 a0_2 a0_3)
theorem impl_answerText.v_lim (a0_0 : Int) (a0_1 : Int) (a0_2 : Int) (a0_3 : Int) : LimIs (fun k_ => impl_answerText.f k_ a0_0 a0_1 a0_2 a0_3) (impl_answerText.v a0_0 a0_1 a0_2 a0_3) := lim_is (fun k_ => impl_answerText.mono a0_0 a0_1 a0_2 a0_3 k_)
theorem impl_answerText.v_eq (a0_0 : Int) (a0_1 : Int) (a0_2 : Int) (a0_3 : Int) : impl_answerText.v a0_0 a0_1 a0_2 a0_3 = ((impl_number.v a0_0 1).bind fun t990 => ((impl_number.v a0_1 3).bind fun t991 => (if t990.size + t991.size ≤ 9223372036854775807 then ((impl_number.v (wrap64 (a0_2 + 1)) 2).bind fun t992 => (if (t990 ++ t991).size + t992.size ≤ 9223372036854775807 then ((impl_number.v a0_3 4).bind fun t993 => (if ((t990 ++ t991) ++ t992).size + t993.size ≤ 9223372036854775807 then (some (((t990 ++ t991) ++ t992) ++ t993)) else (none))) else (none))) else (none))) : Option (ByteArray)) := by
  refine LimIs.eq (impl_answerText.v_lim a0_0 a0_1 a0_2 a0_3) ?_
  simp only [impl_answerText.f]
  repeat' (with_reducible first | exact impl_number.v_lim _ _ | exact LimIs.const _ | refine LimIs.ite ?_ ?_ | refine LimIs.bind ?_ (fun _ => ?_))
def impl_replyMac.f (k : Nat) (a0_0 : Int) (a0_1 : Int) (a0_2 : Int) (a0_3 : Int) (a0_4 : Int) (a0_5 : Int) (a0_6 : Int) (a0_7 : ByteArray) : Option (ByteArray) := (impl_number.f k a0_1 1).bind fun t995 => (if 5 + t995.size ≤ 9223372036854775807 then ((impl_number.f k a0_2 2).bind fun t996 => (if ((⟨#[114, 101, 112, 108, 121]⟩ : ByteArray) ++ t995).size + t996.size ≤ 9223372036854775807 then ((impl_answerText.f k a0_3 a0_4 a0_5 a0_6).bind fun t997 => (if (((⟨#[114, 101, 112, 108, 121]⟩ : ByteArray) ++ t995) ++ t996).size + t997.size ≤ 9223372036854775807 then ((impl_mark.f k a0_0 ((((⟨#[114, 101, 112, 108, 121]⟩ : ByteArray) ++ t995) ++ t996) ++ t997)).bind fun t998 => (some t998)) else (none))) else (none))) else (none))
theorem impl_replyMac.mono : ∀ a0 a1 a2 a3 a4 a5 a6 a7 k, LeO (impl_replyMac.f k a0 a1 a2 a3 a4 a5 a6 a7) (impl_replyMac.f (k + 1) a0 a1 a2 a3 a4 a5 a6 a7) := by
  intro a0 a1 a2 a3 a4 a5 a6 a7 k
  unfold impl_replyMac.f
  repeat' first
      | (with_reducible exact impl_answerText.mono _ _ _ _ _)
      | (with_reducible exact impl_mark.mono _ _ _)
      | (with_reducible exact impl_number.mono _ _ _)
      | (with_reducible exact LeO.refl _)
      | (with_reducible exact LeO.none _)
      | (with_reducible refine LeO.ite ?_ ?_)
      | (with_reducible refine LeO.bind ?_ (fun _ => ?_))
      | exact impl_answerText.mono _ _ _ _ _
      | exact impl_mark.mono _ _ _
      | exact impl_number.mono _ _ _
      | exact LeO.none _
      | refine LeO.ite ?_ ?_
      | refine LeO.bind ?_ (fun _ => ?_)
noncomputable def impl_replyMac.v (a0_0 : Int) (a0_1 : Int) (a0_2 : Int) (a0_3 : Int) (a0_4 : Int) (a0_5 : Int) (a0_6 : Int) (a0_7 : ByteArray) : Option (ByteArray) := lim (fun k_ => impl_replyMac.f k_ a0_0 a0_1 a0_2 a0_3 a0_4 a0_5 a0_6 a0_7)
theorem impl_replyMac.v_lim (a0_0 : Int) (a0_1 : Int) (a0_2 : Int) (a0_3 : Int) (a0_4 : Int) (a0_5 : Int) (a0_6 : Int) (a0_7 : ByteArray) : LimIs (fun k_ => impl_replyMac.f k_ a0_0 a0_1 a0_2 a0_3 a0_4 a0_5 a0_6 a0_7) (impl_replyMac.v a0_0 a0_1 a0_2 a0_3 a0_4 a0_5 a0_6 a0_7) := lim_is (fun k_ => impl_replyMac.mono a0_0 a0_1 a0_2 a0_3 a0_4 a0_5 a0_6 a0_7 k_)
theorem impl_replyMac.v_eq (a0_0 : Int) (a0_1 : Int) (a0_2 : Int) (a0_3 : Int) (a0_4 : Int) (a0_5 : Int) (a0_6 : Int) (a0_7 : ByteArray) : impl_replyMac.v a0_0 a0_1 a0_2 a0_3 a0_4 a0_5 a0_6 a0_7 = ((impl_number.v a0_1 1).bind fun t995 => (if 5 + t995.size ≤ 9223372036854775807 then ((impl_number.v a0_2 2).bind fun t996 => (if ((⟨#[114, 101, 112, 108, 121]⟩ : ByteArray) ++ t995).size + t996.size ≤ 9223372036854775807 then ((impl_answerText.v a0_3 a0_4 a0_5 a0_6).bind fun t997 => (if (((⟨#[114, 101, 112, 108, 121]⟩ : ByteArray) ++ t995) ++ t996).size + t997.size ≤ 9223372036854775807 then ((impl_mark.v a0_0 ((((⟨#[114, 101, 112, 108, 121]⟩ : ByteArray) ++ t995) ++ t996) ++ t997)).bind fun t998 => (some t998)) else (none))) else (none))) else (none)) : Option (ByteArray)) := by
  refine LimIs.eq (impl_replyMac.v_lim a0_0 a0_1 a0_2 a0_3 a0_4 a0_5 a0_6 a0_7) ?_
  simp only [impl_replyMac.f]
  repeat' (with_reducible first | exact impl_answerText.v_lim _ _ _ _ | exact impl_mark.v_lim _ _ | exact impl_number.v_lim _ _ | exact LimIs.const _ | refine LimIs.ite ?_ ?_ | refine LimIs.bind ?_ (fun _ => ?_))
def impl_ReplyOK.f (k : Nat) (a0 : Int) (a1_0 : Int) (a1_1 : Int) (a1_2 : Int) (a1_3 : Int) (a1_4 : Int) (a1_5 : Int) (a1_6 : Int) (a1_7 : ByteArray) : Option (Bool) := (impl_areNodes.f a0).bind fun t1000 => (if t1000 = true then ((impl_isReply.f a1_0 a1_1 a1_2 a1_3 a1_4 a1_5 a1_6 a1_7).bind fun t1001 => (if t1001 = true then (if a1_0 < a0 then ((impl_replyMac.f k a1_0 a1_1 a1_2 a1_3 a1_4 a1_5 a1_6 a1_7).bind fun t1002 => (some (a1_7.toList == t1002.toList))) else (some false)) else (some false))) else (some false))
theorem impl_ReplyOK.mono : ∀ a0 a1 a2 a3 a4 a5 a6 a7 a8 k, LeO (impl_ReplyOK.f k a0 a1 a2 a3 a4 a5 a6 a7 a8) (impl_ReplyOK.f (k + 1) a0 a1 a2 a3 a4 a5 a6 a7 a8) := by
  intro a0 a1 a2 a3 a4 a5 a6 a7 a8 k
  unfold impl_ReplyOK.f
  repeat' first
      | (with_reducible exact impl_replyMac.mono _ _ _ _ _ _ _ _ _)
      | (with_reducible exact LeO.refl _)
      | (with_reducible exact LeO.none _)
      | (with_reducible refine LeO.ite ?_ ?_)
      | (with_reducible refine LeO.bind ?_ (fun _ => ?_))
      | exact impl_replyMac.mono _ _ _ _ _ _ _ _ _
      | exact LeO.none _
      | refine LeO.ite ?_ ?_
      | refine LeO.bind ?_ (fun _ => ?_)
noncomputable def impl_ReplyOK.v (a0 : Int) (a1_0 : Int) (a1_1 : Int) (a1_2 : Int) (a1_3 : Int) (a1_4 : Int) (a1_5 : Int) (a1_6 : Int) (a1_7 : ByteArray) : Option (Bool) := lim (fun k_ => impl_ReplyOK.f k_ a0 a1_0 a1_1 a1_2 a1_3 a1_4 a1_5 a1_6 a1_7)
theorem impl_ReplyOK.v_lim (a0 : Int) (a1_0 : Int) (a1_1 : Int) (a1_2 : Int) (a1_3 : Int) (a1_4 : Int) (a1_5 : Int) (a1_6 : Int) (a1_7 : ByteArray) : LimIs (fun k_ => impl_ReplyOK.f k_ a0 a1_0 a1_1 a1_2 a1_3 a1_4 a1_5 a1_6 a1_7) (impl_ReplyOK.v a0 a1_0 a1_1 a1_2 a1_3 a1_4 a1_5 a1_6 a1_7) := lim_is (fun k_ => impl_ReplyOK.mono a0 a1_0 a1_1 a1_2 a1_3 a1_4 a1_5 a1_6 a1_7 k_)
theorem impl_ReplyOK.v_eq (a0 : Int) (a1_0 : Int) (a1_1 : Int) (a1_2 : Int) (a1_3 : Int) (a1_4 : Int) (a1_5 : Int) (a1_6 : Int) (a1_7 : ByteArray) : impl_ReplyOK.v a0 a1_0 a1_1 a1_2 a1_3 a1_4 a1_5 a1_6 a1_7 = ((impl_areNodes.v a0).bind fun t1000 => (if t1000 = true then ((impl_isReply.v a1_0 a1_1 a1_2 a1_3 a1_4 a1_5 a1_6 a1_7).bind fun t1001 => (if t1001 = true then (if a1_0 < a0 then ((impl_replyMac.v a1_0 a1_1 a1_2 a1_3 a1_4 a1_5 a1_6 a1_7).bind fun t1002 => (some (a1_7.toList == t1002.toList))) else (some false)) else (some false))) else (some false)) : Option (Bool)) := by
  refine LimIs.eq (impl_ReplyOK.v_lim a0 a1_0 a1_1 a1_2 a1_3 a1_4 a1_5 a1_6 a1_7) ?_
  simp only [impl_ReplyOK.f]
  repeat' (with_reducible first | exact impl_areNodes.v_lim _ | exact impl_isReply.v_lim _ _ _ _ _ _ _ _ | exact impl_replyMac.v_lim _ _ _ _ _ _ _ _ | exact LimIs.const _ | refine LimIs.ite ?_ ?_ | refine LimIs.bind ?_ (fun _ => ?_))
def slices_Index_int_int.l0 : Nat → List Int → Int → Int → Int → Option (Int)
  | 0, _, _, _, _ => none
  | k + 1, x0, x1, x7, x8 => if x8 < x7 then (if 0 ≤ x8 then (if x8 < (x0.length : Int) then (if x1 = (rd x0 x8) then (some x8) else (slices_Index_int_int.l0 k x0 x1 x7 (wrap64 (x8 + 1)))) else (none)) else (none)) else (some (-1))
def slices_Index_int_int.f (k : Nat) (l0 : List Int) (a1 : Int) : Option (Int) := slices_Index_int_int.l0 k l0 a1 (l0.length : Int) 0
theorem slices_Index_int_int.mono_l : ∀ k, (∀ y0 y1 y2 y3, LeO (slices_Index_int_int.l0 k y0 y1 y2 y3) (slices_Index_int_int.l0 (k + 1) y0 y1 y2 y3))
  | 0 => fun _ _ _ _ r h => by simp [slices_Index_int_int.l0] at h
  | k + 1 => by
    have ih0 := slices_Index_int_int.mono_l k
    · intro y0 y1 y2 y3
      unfold slices_Index_int_int.l0
      repeat' first
      | (with_reducible exact ih0 _ _ _ _)
      | (with_reducible exact LeO.refl _)
      | (with_reducible exact LeO.none _)
      | (with_reducible refine LeO.ite ?_ ?_)
      | (with_reducible refine LeO.bind ?_ (fun _ => ?_))
      | exact ih0 _ _ _ _
      | exact LeO.none _
      | refine LeO.ite ?_ ?_
      | refine LeO.bind ?_ (fun _ => ?_)
theorem slices_Index_int_int.mono : ∀ a0 a1 k, LeO (slices_Index_int_int.f k a0 a1) (slices_Index_int_int.f (k + 1) a0 a1) := by
  intro a0 a1 k
  have ih0 := slices_Index_int_int.mono_l k
  unfold slices_Index_int_int.f
  repeat' first
      | (with_reducible exact ih0 _ _ _ _)
      | (with_reducible exact LeO.refl _)
      | (with_reducible exact LeO.none _)
      | (with_reducible refine LeO.ite ?_ ?_)
      | (with_reducible refine LeO.bind ?_ (fun _ => ?_))
      | exact ih0 _ _ _ _
      | exact LeO.none _
      | refine LeO.ite ?_ ?_
      | refine LeO.bind ?_ (fun _ => ?_)
noncomputable def slices_Index_int_int.lv0 (x0 : List Int) (x1 : Int) (x7 : Int) (x8 : Int) : Option (Int) := lim (fun k_ => slices_Index_int_int.l0 k_ x0 x1 x7 x8)
noncomputable def slices_Index_int_int.v (l0 : List Int) (a1 : Int) : Option (Int) := lim (fun k_ => slices_Index_int_int.f k_ l0 a1)
theorem slices_Index_int_int.lv0_lim (x0 : List Int) (x1 : Int) (x7 : Int) (x8 : Int) : LimIs (fun k_ => slices_Index_int_int.l0 k_ x0 x1 x7 x8) (slices_Index_int_int.lv0 x0 x1 x7 x8) := lim_is (fun k_ => (slices_Index_int_int.mono_l k_) x0 x1 x7 x8)
theorem slices_Index_int_int.v_lim (l0 : List Int) (a1 : Int) : LimIs (fun k_ => slices_Index_int_int.f k_ l0 a1) (slices_Index_int_int.v l0 a1) := lim_is (fun k_ => slices_Index_int_int.mono l0 a1 k_)
theorem slices_Index_int_int.lv0_eq (x0 : List Int) (x1 : Int) (x7 : Int) (x8 : Int) : slices_Index_int_int.lv0 x0 x1 x7 x8 = (if x8 < x7 then (if 0 ≤ x8 then (if x8 < (x0.length : Int) then (if x1 = (rd x0 x8) then (some x8) else (slices_Index_int_int.lv0 x0 x1 x7 (wrap64 (x8 + 1)))) else (none)) else (none)) else (some (-1)) : Option (Int)) := by
  refine LimIs.eq (slices_Index_int_int.lv0_lim x0 x1 x7 x8) ?_
  refine LimIs.step (fun k_ => (slices_Index_int_int.mono_l k_) x0 x1 x7 x8) ?_
  simp only [slices_Index_int_int.l0]
  repeat' (with_reducible first | exact slices_Index_int_int.lv0_lim _ _ _ _ | exact LimIs.const _ | refine LimIs.ite ?_ ?_ | refine LimIs.bind ?_ (fun _ => ?_))
theorem slices_Index_int_int.v_eq (l0 : List Int) (a1 : Int) : slices_Index_int_int.v l0 a1 = (slices_Index_int_int.lv0 l0 a1 (l0.length : Int) 0 : Option (Int)) := by
  refine LimIs.eq (slices_Index_int_int.v_lim l0 a1) ?_
  simp only [slices_Index_int_int.f]
  repeat' (with_reducible first | exact slices_Index_int_int.lv0_lim _ _ _ _ | exact LimIs.const _ | refine LimIs.ite ?_ ?_ | refine LimIs.bind ?_ (fun _ => ?_))
def slices_Contains_int_int.f (k : Nat) (l0 : List Int) (a1 : Int) : Option (Bool) := (slices_Index_int_int.f k l0 a1).bind fun t1004 => (some (decide (t1004 ≥ 0)))
theorem slices_Contains_int_int.mono : ∀ a0 a1 k, LeO (slices_Contains_int_int.f k a0 a1) (slices_Contains_int_int.f (k + 1) a0 a1) := by
  intro a0 a1 k
  unfold slices_Contains_int_int.f
  repeat' first
      | (with_reducible exact slices_Index_int_int.mono _ _ _)
      | (with_reducible exact LeO.refl _)
      | (with_reducible exact LeO.none _)
      | (with_reducible refine LeO.ite ?_ ?_)
      | (with_reducible refine LeO.bind ?_ (fun _ => ?_))
      | exact slices_Index_int_int.mono _ _ _
      | exact LeO.none _
      | refine LeO.ite ?_ ?_
      | refine LeO.bind ?_ (fun _ => ?_)
noncomputable def slices_Contains_int_int.v (l0 : List Int) (a1 : Int) : Option (Bool) := lim (fun k_ => slices_Contains_int_int.f k_ l0 a1)
theorem slices_Contains_int_int.v_lim (l0 : List Int) (a1 : Int) : LimIs (fun k_ => slices_Contains_int_int.f k_ l0 a1) (slices_Contains_int_int.v l0 a1) := lim_is (fun k_ => slices_Contains_int_int.mono l0 a1 k_)
theorem slices_Contains_int_int.v_eq (l0 : List Int) (a1 : Int) : slices_Contains_int_int.v l0 a1 = ((slices_Index_int_int.v l0 a1).bind fun t1004 => (some (decide (t1004 ≥ 0))) : Option (Bool)) := by
  refine LimIs.eq (slices_Contains_int_int.v_lim l0 a1) ?_
  simp only [slices_Contains_int_int.f]
  repeat' (with_reducible first | exact slices_Index_int_int.v_lim _ _ | exact LimIs.const _ | refine LimIs.ite ?_ ?_ | refine LimIs.bind ?_ (fun _ => ?_))
def gm_has.f (k : Nat) (l0 : GMap) (a1_0 : Int) (a1_1 : Int) (a1_2 : Int) (a1_3 : Int) (a2 : Int) : Option (Bool) := if gb64 a1_0 ∧ gb64 a1_1 ∧ gb64 a1_2 ∧ gb64 a1_3 ∧ l0.length < 1000000000 then (slices_Contains_int_int.f k (gl l0 (a1_0, a1_1, a1_2, a1_3)) a2) else (none)
theorem gm_has.mono : ∀ l0 a1_0 a1_1 a1_2 a1_3 a2 k, LeO (gm_has.f k l0 a1_0 a1_1 a1_2 a1_3 a2) (gm_has.f (k + 1) l0 a1_0 a1_1 a1_2 a1_3 a2) := by
  intro l0 a1_0 a1_1 a1_2 a1_3 a2 k
  unfold gm_has.f
  repeat' first
      | (with_reducible exact slices_Contains_int_int.mono _ _ _)
      | (with_reducible exact LeO.refl _)
      | refine LeO.ite ?_ ?_
noncomputable def gm_has.v (l0 : GMap) (a1_0 : Int) (a1_1 : Int) (a1_2 : Int) (a1_3 : Int) (a2 : Int) : Option (Bool) := lim (fun k_ => gm_has.f k_ l0 a1_0 a1_1 a1_2 a1_3 a2)
theorem gm_has.v_lim (l0 : GMap) (a1_0 : Int) (a1_1 : Int) (a1_2 : Int) (a1_3 : Int) (a2 : Int) : LimIs (fun k_ => gm_has.f k_ l0 a1_0 a1_1 a1_2 a1_3 a2) (gm_has.v l0 a1_0 a1_1 a1_2 a1_3 a2) := lim_is (fun k_ => gm_has.mono l0 a1_0 a1_1 a1_2 a1_3 a2 k_)
theorem gm_has.v_eq (l0 : GMap) (a1_0 : Int) (a1_1 : Int) (a1_2 : Int) (a1_3 : Int) (a2 : Int) : gm_has.v l0 a1_0 a1_1 a1_2 a1_3 a2 = (if gb64 a1_0 ∧ gb64 a1_1 ∧ gb64 a1_2 ∧ gb64 a1_3 ∧ l0.length < 1000000000 then (slices_Contains_int_int.v (gl l0 (a1_0, a1_1, a1_2, a1_3)) a2) else (none) : Option (Bool)) := by
  refine LimIs.eq (gm_has.v_lim l0 a1_0 a1_1 a1_2 a1_3 a2) ?_
  simp only [gm_has.f]
  repeat' (with_reducible first | exact slices_Contains_int_int.v_lim _ _ | exact LimIs.const _ | refine LimIs.ite ?_ ?_ | refine LimIs.bind ?_ (fun _ => ?_))
def gm_len.f (l0 : GMap) (a1_0 : Int) (a1_1 : Int) (a1_2 : Int) (a1_3 : Int) : Option (Int) := if gb64 a1_0 ∧ gb64 a1_1 ∧ gb64 a1_2 ∧ gb64 a1_3 ∧ l0.length < 1000000000 then (some ((gl l0 (a1_0, a1_1, a1_2, a1_3)).length : Int)) else (none)
def gm_len.v (l0 : GMap) (a1_0 : Int) (a1_1 : Int) (a1_2 : Int) (a1_3 : Int) : Option (Int) := gm_len.f l0 a1_0 a1_1 a1_2 a1_3
theorem gm_len.v_lim (l0 : GMap) (a1_0 : Int) (a1_1 : Int) (a1_2 : Int) (a1_3 : Int) : LimIs (fun _ => gm_len.f l0 a1_0 a1_1 a1_2 a1_3) (gm_len.v l0 a1_0 a1_1 a1_2 a1_3) := LimIs.const _
theorem gm_len.v_eq (l0 : GMap) (a1_0 : Int) (a1_1 : Int) (a1_2 : Int) (a1_3 : Int) : gm_len.v l0 a1_0 a1_1 a1_2 a1_3 = (if gb64 a1_0 ∧ gb64 a1_1 ∧ gb64 a1_2 ∧ gb64 a1_3 ∧ l0.length < 1000000000 then (some ((gl l0 (a1_0, a1_1, a1_2, a1_3)).length : Int)) else (none) : Option (Int)) := rfl
def gm_put.f (l0 : GMap) (a1_0 : Int) (a1_1 : Int) (a1_2 : Int) (a1_3 : Int) (a2 : Int) : Option (GMap) := if (gb64 a1_0 ∧ gb64 a1_1 ∧ gb64 a1_2 ∧ gb64 a1_3) ∧ gb64 a2 ∧ l0.length < 1000000000 then (some (((a1_0, a1_1, a1_2, a1_3), gl l0 (a1_0, a1_1, a1_2, a1_3) ++ [a2]) :: l0)) else (none)
def gm_put.v (l0 : GMap) (a1_0 : Int) (a1_1 : Int) (a1_2 : Int) (a1_3 : Int) (a2 : Int) : Option (GMap) := gm_put.f l0 a1_0 a1_1 a1_2 a1_3 a2
theorem gm_put.v_lim (l0 : GMap) (a1_0 : Int) (a1_1 : Int) (a1_2 : Int) (a1_3 : Int) (a2 : Int) : LimIs (fun _ => gm_put.f l0 a1_0 a1_1 a1_2 a1_3 a2) (gm_put.v l0 a1_0 a1_1 a1_2 a1_3 a2) := LimIs.const _
theorem gm_put.v_eq (l0 : GMap) (a1_0 : Int) (a1_1 : Int) (a1_2 : Int) (a1_3 : Int) (a2 : Int) : gm_put.v l0 a1_0 a1_1 a1_2 a1_3 a2 = (if (gb64 a1_0 ∧ gb64 a1_1 ∧ gb64 a1_2 ∧ gb64 a1_3) ∧ gb64 a2 ∧ l0.length < 1000000000 then (some (((a1_0, a1_1, a1_2, a1_3), gl l0 (a1_0, a1_1, a1_2, a1_3) ++ [a2]) :: l0)) else (none) : Option (GMap)) := rfl
mutual
def impl_decided.l0 : Nat → Int → Int → Int → GMap → List (S73) → Int → Int → Option (Int × Int × Int × Int × Bool)
  | 0, _, _, _, _, _, _, _ => none
  | k + 1, x0, x1, x2, x10, x14, x15, x16 => if x16 < x15 then (if 0 ≤ x16 then (if x16 < (x14.length : Int) then (if ((rd_T73 x14 x16).f1) = x1 then (if ((rd_T73 x14 x16).f2) = x2 then ((impl_ReplyOK.f k x0 ((rd_T73 x14 x16).f0) ((rd_T73 x14 x16).f1) ((rd_T73 x14 x16).f2) ((rd_T73 x14 x16).f3.f0) ((rd_T73 x14 x16).f3.f1) ((rd_T73 x14 x16).f3.f2) ((rd_T73 x14 x16).f3.f3) ((rd_T73 x14 x16).f4)).bind fun t1011 => (if t1011 = true then ((gm_has.f k x10 ((rd_T73 x14 x16).f3.f0) ((rd_T73 x14 x16).f3.f1) ((rd_T73 x14 x16).f3.f2) ((rd_T73 x14 x16).f3.f3) ((rd_T73 x14 x16).f0)).bind fun t1012 => (impl_decided.j1 k x0 x1 x2 x10 x14 x15 x16 t1012 ((rd_T73 x14 x16).f0) ((rd_T73 x14 x16).f1) ((rd_T73 x14 x16).f2) ((rd_T73 x14 x16).f3.f0) ((rd_T73 x14 x16).f3.f1) ((rd_T73 x14 x16).f3.f2) ((rd_T73 x14 x16).f3.f3) ((rd_T73 x14 x16).f4))) else (impl_decided.j1 k x0 x1 x2 x10 x14 x15 x16 true ((rd_T73 x14 x16).f0) ((rd_T73 x14 x16).f1) ((rd_T73 x14 x16).f2) ((rd_T73 x14 x16).f3.f0) ((rd_T73 x14 x16).f3.f1) ((rd_T73 x14 x16).f3.f2) ((rd_T73 x14 x16).f3.f3) ((rd_T73 x14 x16).f4)))) else (impl_decided.j1 k x0 x1 x2 x10 x14 x15 x16 true ((rd_T73 x14 x16).f0) ((rd_T73 x14 x16).f1) ((rd_T73 x14 x16).f2) ((rd_T73 x14 x16).f3.f0) ((rd_T73 x14 x16).f3.f1) ((rd_T73 x14 x16).f3.f2) ((rd_T73 x14 x16).f3.f3) ((rd_T73 x14 x16).f4))) else (impl_decided.j1 k x0 x1 x2 x10 x14 x15 x16 true ((rd_T73 x14 x16).f0) ((rd_T73 x14 x16).f1) ((rd_T73 x14 x16).f2) ((rd_T73 x14 x16).f3.f0) ((rd_T73 x14 x16).f3.f1) ((rd_T73 x14 x16).f3.f2) ((rd_T73 x14 x16).f3.f3) ((rd_T73 x14 x16).f4))) else (none)) else (none)) else (some (0, 0, 0, 0, false))
def impl_decided.j1 : Nat → Int → Int → Int → GMap → List (S73) → Int → Int → Bool → Int → Int → Int → Int → Int → Int → Int → ByteArray → Option (Int × Int × Int × Int × Bool)
  | 0, _, _, _, _, _, _, _, _, _, _, _, _, _, _, _, _ => none
  | k + 1, x0, x1, x2, x10, x14, x15, x16, x44, x1011000, x1011001, x1011002, x1011003, x1011004, x1011005, x1011006, x1011007 => if x44 = true then (impl_decided.l0 k x0 x1 x2 x10 x14 x15 (wrap64 (x16 + 1))) else ((gm_put.f x10 x1011003 x1011004 x1011005 x1011006 x1011000).bind fun t1013 => ((gm_len.f t1013 x1011003 x1011004 x1011005 x1011006).bind fun t1016 => (if t1016 > (wrap64 (Int.tdiv (wrap64 (x0 - 1)) 3)) then (some (x1011003, x1011004, x1011005, x1011006, true)) else (impl_decided.l0 k x0 x1 x2 t1013 x14 x15 (wrap64 (x16 + 1))))))
end
def impl_decided.f (k : Nat) (a0 : Int) (a1 : Int) (a2 : Int) (l3 : List (S73)) : Option (Int × Int × Int × Int × Bool) := impl_decided.l0 k a0 a1 a2 (([] : GMap)) l3 (l3.length : Int) 0
theorem impl_decided.mono_l : ∀ k, (∀ y0 y1 y2 y3 y4 y5 y6, LeO (impl_decided.l0 k y0 y1 y2 y3 y4 y5 y6) (impl_decided.l0 (k + 1) y0 y1 y2 y3 y4 y5 y6)) ∧ (∀ y0 y1 y2 y3 y4 y5 y6 y7 y8 y9 y10 y11 y12 y13 y14 y15, LeO (impl_decided.j1 k y0 y1 y2 y3 y4 y5 y6 y7 y8 y9 y10 y11 y12 y13 y14 y15) (impl_decided.j1 (k + 1) y0 y1 y2 y3 y4 y5 y6 y7 y8 y9 y10 y11 y12 y13 y14 y15))
  | 0 => ⟨fun _ _ _ _ _ _ _ r h => by simp [impl_decided.l0] at h, fun _ _ _ _ _ _ _ _ _ _ _ _ _ _ _ _ r h => by simp [impl_decided.j1] at h⟩
  | k + 1 => by
    obtain ⟨ih0, ih1⟩ := impl_decided.mono_l k
    refine ⟨?_, ?_⟩
    · intro y0 y1 y2 y3 y4 y5 y6
      unfold impl_decided.l0
      repeat' first
      | (with_reducible exact ih0 _ _ _ _ _ _ _)
      | (with_reducible exact ih1 _ _ _ _ _ _ _ _ _ _ _ _ _ _ _ _)
      | (with_reducible exact gm_has.mono _ _ _ _ _ _ _)
      | (with_reducible exact impl_ReplyOK.mono _ _ _ _ _ _ _ _ _ _)
      | (with_reducible exact LeO.refl _)
      | (with_reducible exact LeO.none _)
      | (with_reducible refine LeO.ite ?_ ?_)
      | (with_reducible refine LeO.bind ?_ (fun _ => ?_))
      | exact ih0 _ _ _ _ _ _ _
      | exact ih1 _ _ _ _ _ _ _ _ _ _ _ _ _ _ _ _
      | exact gm_has.mono _ _ _ _ _ _ _
      | exact impl_ReplyOK.mono _ _ _ _ _ _ _ _ _ _
      | exact LeO.none _
      | refine LeO.ite ?_ ?_
      | refine LeO.bind ?_ (fun _ => ?_)
    · intro y0 y1 y2 y3 y4 y5 y6 y7 y8 y9 y10 y11 y12 y13 y14 y15
      unfold impl_decided.j1
      repeat' first
      | (with_reducible exact ih0 _ _ _ _ _ _ _)
      | (with_reducible exact ih1 _ _ _ _ _ _ _ _ _ _ _ _ _ _ _ _)
      | (with_reducible exact gm_has.mono _ _ _ _ _ _ _)
      | (with_reducible exact impl_ReplyOK.mono _ _ _ _ _ _ _ _ _ _)
      | (with_reducible exact LeO.refl _)
      | (with_reducible exact LeO.none _)
      | (with_reducible refine LeO.ite ?_ ?_)
      | (with_reducible refine LeO.bind ?_ (fun _ => ?_))
      | exact ih0 _ _ _ _ _ _ _
      | exact ih1 _ _ _ _ _ _ _ _ _ _ _ _ _ _ _ _
      | exact gm_has.mono _ _ _ _ _ _ _
      | exact impl_ReplyOK.mono _ _ _ _ _ _ _ _ _ _
      | exact LeO.none _
      | refine LeO.ite ?_ ?_
      | refine LeO.bind ?_ (fun _ => ?_)
theorem impl_decided.mono : ∀ a0 a1 a2 a3 k, LeO (impl_decided.f k a0 a1 a2 a3) (impl_decided.f (k + 1) a0 a1 a2 a3) := by
  intro a0 a1 a2 a3 k
  obtain ⟨ih0, ih1⟩ := impl_decided.mono_l k
  unfold impl_decided.f
  repeat' first
      | (with_reducible exact ih0 _ _ _ _ _ _ _)
      | (with_reducible exact ih1 _ _ _ _ _ _ _ _ _ _ _ _ _ _ _ _)
      | (with_reducible exact gm_has.mono _ _ _ _ _ _ _)
      | (with_reducible exact impl_ReplyOK.mono _ _ _ _ _ _ _ _ _ _)
      | (with_reducible exact LeO.refl _)
      | (with_reducible exact LeO.none _)
      | (with_reducible refine LeO.ite ?_ ?_)
      | (with_reducible refine LeO.bind ?_ (fun _ => ?_))
      | exact ih0 _ _ _ _ _ _ _
      | exact ih1 _ _ _ _ _ _ _ _ _ _ _ _ _ _ _ _
      | exact gm_has.mono _ _ _ _ _ _ _
      | exact impl_ReplyOK.mono _ _ _ _ _ _ _ _ _ _
      | exact LeO.none _
      | refine LeO.ite ?_ ?_
      | refine LeO.bind ?_ (fun _ => ?_)
noncomputable def impl_decided.lv0 (x0 : Int) (x1 : Int) (x2 : Int) (x10 : GMap) (x14 : List (S73)) (x15 : Int) (x16 : Int) : Option (Int × Int × Int × Int × Bool) := lim (fun k_ => impl_decided.l0 k_ x0 x1 x2 x10 x14 x15 x16)
noncomputable def impl_decided.jv1 (x0 : Int) (x1 : Int) (x2 : Int) (x10 : GMap) (x14 : List (S73)) (x15 : Int) (x16 : Int) (x44 : Bool) (x1011000 : Int) (x1011001 : Int) (x1011002 : Int) (x1011003 : Int) (x1011004 : Int) (x1011005 : Int) (x1011006 : Int) (x1011007 : ByteArray) : Option (Int × Int × Int × Int × Bool) := lim (fun k_ => impl_decided.j1 k_ x0 x1 x2 x10 x14 x15 x16 x44 x1011000 x1011001 x1011002 x1011003 x1011004 x1011005 x1011006 x1011007)
noncomputable def impl_decided.v (a0 : Int) (a1 : Int) (a2 : Int) (l3 : List (S73)) : Option (Int × Int × Int × Int × Bool) := lim (fun k_ => impl_decided.f k_ a0 a1 a2 l3)
theorem impl_decided.lv0_lim (x0 : Int) (x1 : Int) (x2 : Int) (x10 : GMap) (x14 : List (S73)) (x15 : Int) (x16 : Int) : LimIs (fun k_ => impl_decided.l0 k_ x0 x1 x2 x10 x14 x15 x16) (impl_decided.lv0 x0 x1 x2 x10 x14 x15 x16) := lim_is (fun k_ => (impl_decided.mono_l k_).1 x0 x1 x2 x10 x14 x15 x16)
theorem impl_decided.jv1_lim (x0 : Int) (x1 : Int) (x2 : Int) (x10 : GMap) (x14 : List (S73)) (x15 : Int) (x16 : Int) (x44 : Bool) (x1011000 : Int) (x1011001 : Int) (x1011002 : Int) (x1011003 : Int) (x1011004 : Int) (x1011005 : Int) (x1011006 : Int) (x1011007 : ByteArray) : LimIs (fun k_ => impl_decided.j1 k_ x0 x1 x2 x10 x14 x15 x16 x44 x1011000 x1011001 x1011002 x1011003 x1011004 x1011005 x1011006 x1011007) (impl_decided.jv1 x0 x1 x2 x10 x14 x15 x16 x44 x1011000 x1011001 x1011002 x1011003 x1011004 x1011005 x1011006 x1011007) := lim_is (fun k_ => (impl_decided.mono_l k_).2 x0 x1 x2 x10 x14 x15 x16 x44 x1011000 x1011001 x1011002 x1011003 x1011004 x1011005 x1011006 x1011007)
theorem impl_decided.v_lim (a0 : Int) (a1 : Int) (a2 : Int) (l3 : List (S73)) : LimIs (fun k_ => impl_decided.f k_ a0 a1 a2 l3) (impl_decided.v a0 a1 a2 l3) := lim_is (fun k_ => impl_decided.mono a0 a1 a2 l3 k_)
theorem impl_decided.lv0_eq (x0 : Int) (x1 : Int) (x2 : Int) (x10 : GMap) (x14 : List (S73)) (x15 : Int) (x16 : Int) : impl_decided.lv0 x0 x1 x2 x10 x14 x15 x16 = (if x16 < x15 then (if 0 ≤ x16 then (if x16 < (x14.length : Int) then (if ((rd_T73 x14 x16).f1) = x1 then (if ((rd_T73 x14 x16).f2) = x2 then ((impl_ReplyOK.v x0 ((rd_T73 x14 x16).f0) ((rd_T73 x14 x16).f1) ((rd_T73 x14 x16).f2) ((rd_T73 x14 x16).f3.f0) ((rd_T73 x14 x16).f3.f1) ((rd_T73 x14 x16).f3.f2) ((rd_T73 x14 x16).f3.f3) ((rd_T73 x14 x16).f4)).bind fun t1011 => (if t1011 = true then ((gm_has.v x10 ((rd_T73 x14 x16).f3.f0) ((rd_T73 x14 x16).f3.f1) ((rd_T73 x14 x16).f3.f2) ((rd_T73 x14 x16).f3.f3) ((rd_T73 x14 x16).f0)).bind fun t1012 => (impl_decided.jv1 x0 x1 x2 x10 x14 x15 x16 t1012 ((rd_T73 x14 x16).f0) ((rd_T73 x14 x16).f1) ((rd_T73 x14 x16).f2) ((rd_T73 x14 x16).f3.f0) ((rd_T73 x14 x16).f3.f1) ((rd_T73 x14 x16).f3.f2) ((rd_T73 x14 x16).f3.f3) ((rd_T73 x14 x16).f4))) else (impl_decided.jv1 x0 x1 x2 x10 x14 x15 x16 true ((rd_T73 x14 x16).f0) ((rd_T73 x14 x16).f1) ((rd_T73 x14 x16).f2) ((rd_T73 x14 x16).f3.f0) ((rd_T73 x14 x16).f3.f1) ((rd_T73 x14 x16).f3.f2) ((rd_T73 x14 x16).f3.f3) ((rd_T73 x14 x16).f4)))) else (impl_decided.jv1 x0 x1 x2 x10 x14 x15 x16 true ((rd_T73 x14 x16).f0) ((rd_T73 x14 x16).f1) ((rd_T73 x14 x16).f2) ((rd_T73 x14 x16).f3.f0) ((rd_T73 x14 x16).f3.f1) ((rd_T73 x14 x16).f3.f2) ((rd_T73 x14 x16).f3.f3) ((rd_T73 x14 x16).f4))) else (impl_decided.jv1 x0 x1 x2 x10 x14 x15 x16 true ((rd_T73 x14 x16).f0) ((rd_T73 x14 x16).f1) ((rd_T73 x14 x16).f2) ((rd_T73 x14 x16).f3.f0) ((rd_T73 x14 x16).f3.f1) ((rd_T73 x14 x16).f3.f2) ((rd_T73 x14 x16).f3.f3) ((rd_T73 x14 x16).f4))) else (none)) else (none)) else (some (0, 0, 0, 0, false)) : Option (Int × Int × Int × Int × Bool)) := by
  refine LimIs.eq (impl_decided.lv0_lim x0 x1 x2 x10 x14 x15 x16) ?_
  refine LimIs.step (fun k_ => (impl_decided.mono_l k_).1 x0 x1 x2 x10 x14 x15 x16) ?_
  simp only [impl_decided.l0]
  repeat' (with_reducible first | exact gm_has.v_lim _ _ _ _ _ _ | exact impl_ReplyOK.v_lim _ _ _ _ _ _ _ _ _ | exact impl_decided.jv1_lim _ _ _ _ _ _ _ _ _ _ _ _ _ _ _ _ | exact LimIs.const _ | refine LimIs.ite ?_ ?_ | refine LimIs.bind ?_ (fun _ => ?_))
theorem impl_decided.jv1_eq (x0 : Int) (x1 : Int) (x2 : Int) (x10 : GMap) (x14 : List (S73)) (x15 : Int) (x16 : Int) (x44 : Bool) (x1011000 : Int) (x1011001 : Int) (x1011002 : Int) (x1011003 : Int) (x1011004 : Int) (x1011005 : Int) (x1011006 : Int) (x1011007 : ByteArray) : impl_decided.jv1 x0 x1 x2 x10 x14 x15 x16 x44 x1011000 x1011001 x1011002 x1011003 x1011004 x1011005 x1011006 x1011007 = (if x44 = true then (impl_decided.lv0 x0 x1 x2 x10 x14 x15 (wrap64 (x16 + 1))) else ((gm_put.v x10 x1011003 x1011004 x1011005 x1011006 x1011000).bind fun t1013 => ((gm_len.v t1013 x1011003 x1011004 x1011005 x1011006).bind fun t1016 => (if t1016 > (wrap64 (Int.tdiv (wrap64 (x0 - 1)) 3)) then (some (x1011003, x1011004, x1011005, x1011006, true)) else (impl_decided.lv0 x0 x1 x2 t1013 x14 x15 (wrap64 (x16 + 1)))))) : Option (Int × Int × Int × Int × Bool)) := by
  refine LimIs.eq (impl_decided.jv1_lim x0 x1 x2 x10 x14 x15 x16 x44 x1011000 x1011001 x1011002 x1011003 x1011004 x1011005 x1011006 x1011007) ?_
  refine LimIs.step (fun k_ => (impl_decided.mono_l k_).2 x0 x1 x2 x10 x14 x15 x16 x44 x1011000 x1011001 x1011002 x1011003 x1011004 x1011005 x1011006 x1011007) ?_
  simp only [impl_decided.j1]
  repeat' (with_reducible first | exact gm_len.v_lim _ _ _ _ _ | exact gm_put.v_lim _ _ _ _ _ _ | exact impl_decided.lv0_lim _ _ _ _ _ _ _ | exact LimIs.const _ | refine LimIs.ite ?_ ?_ | refine LimIs.bind ?_ (fun _ => ?_))
theorem impl_decided.v_eq (a0 : Int) (a1 : Int) (a2 : Int) (l3 : List (S73)) : impl_decided.v a0 a1 a2 l3 = (impl_decided.lv0 a0 a1 a2 (([] : GMap)) l3 (l3.length : Int) 0 : Option (Int × Int × Int × Int × Bool)) := by
  refine LimIs.eq (impl_decided.v_lim a0 a1 a2 l3) ?_
  simp only [impl_decided.f]
  repeat' (with_reducible first | exact impl_decided.lv0_lim _ _ _ _ _ _ _ | exact LimIs.const _ | refine LimIs.ite ?_ ?_ | refine LimIs.bind ?_ (fun _ => ?_))
def impl_CountReplies.f (k : Nat) (a0 : Int) (a1 : Int) (a2 : Int) (l3 : List (S73)) : Option (Int × Int × Int × Int × Int) := (impl_Reply.f l3).bind fun t1018 => (if t1018 = true then (some (0, 0, 0, 0, 2)) else ((impl_areNodes.f a0).bind fun t1019 => (if t1019 = true then (if (l3.length : Int) > 60 then (some (0, 0, 0, 0, 6)) else ((impl_decided.f k a0 a1 a2 l3).bind fun bt1020 => (if bt1020.2.2.2.2 = true then (some (bt1020.1, bt1020.2.1, bt1020.2.2.1, bt1020.2.2.2.1, 0)) else (some (0, 0, 0, 0, 19))))) else (some (0, 0, 0, 0, 4)))))
theorem impl_CountReplies.mono : ∀ a0 a1 a2 a3 k, LeO (impl_CountReplies.f k a0 a1 a2 a3) (impl_CountReplies.f (k + 1) a0 a1 a2 a3) := by
  intro a0 a1 a2 a3 k
  unfold impl_CountReplies.f
  repeat' first
      | (with_reducible exact impl_decided.mono _ _ _ _ _)
      | (with_reducible exact LeO.refl _)
      | (with_reducible exact LeO.none _)
      | (with_reducible refine LeO.ite ?_ ?_)
      | (with_reducible refine LeO.bind ?_ (fun _ => ?_))
      | exact impl_decided.mono _ _ _ _ _
      | exact LeO.none _
      | refine LeO.ite ?_ ?_
      | refine LeO.bind ?_ (fun _ => ?_)
noncomputable def impl_CountReplies.v (a0 : Int) (a1 : Int) (a2 : Int) (l3 : List (S73)) : Option (Int × Int × Int × Int × Int) := lim (fun k_ => impl_CountReplies.f k_ a0 a1 a2 l3)
theorem impl_CountReplies.v_lim (a0 : Int) (a1 : Int) (a2 : Int) (l3 : List (S73)) : LimIs (fun k_ => impl_CountReplies.f k_ a0 a1 a2 l3) (impl_CountReplies.v a0 a1 a2 l3) := lim_is (fun k_ => impl_CountReplies.mono a0 a1 a2 l3 k_)
theorem impl_CountReplies.v_eq (a0 : Int) (a1 : Int) (a2 : Int) (l3 : List (S73)) : impl_CountReplies.v a0 a1 a2 l3 = ((impl_Reply.v l3).bind fun t1018 => (if t1018 = true then (some (0, 0, 0, 0, 2)) else ((impl_areNodes.v a0).bind fun t1019 => (if t1019 = true then (if (l3.length : Int) > 60 then (some (0, 0, 0, 0, 6)) else ((impl_decided.v a0 a1 a2 l3).bind fun bt1020 => (if bt1020.2.2.2.2 = true then (some (bt1020.1, bt1020.2.1, bt1020.2.2.1, bt1020.2.2.2.1, 0)) else (some (0, 0, 0, 0, 19))))) else (some (0, 0, 0, 0, 4))))) : Option (Int × Int × Int × Int × Int)) := by
  refine LimIs.eq (impl_CountReplies.v_lim a0 a1 a2 l3) ?_
  simp only [impl_CountReplies.f]
  repeat' (with_reducible first | exact impl_Reply.v_lim _ | exact impl_areNodes.v_lim _ | exact impl_decided.v_lim _ _ _ _ | exact LimIs.const _ | refine LimIs.ite ?_ ?_ | refine LimIs.bind ?_ (fun _ => ?_))
def spec_l00Src_answer.f (s0_0 : List Int) (s0_1 : Int) (s0_2 : Int) : Option (Int × Int × Int × Int × Int × Int) := (spec_l00Src_next.f s0_0 s0_1 s0_2 8).bind fun bt1059 => ((spec_l00Src_next.f s0_0 bt1059.2.1 bt1059.2.2 3).bind fun bt1062 => ((spec_l00Src_next.f s0_0 bt1062.2.1 bt1062.2.2 3).bind fun bt1065 => ((spec_l00Src_next.f s0_0 bt1065.2.1 bt1065.2.2 3).bind fun bt1068 => (some (wrap64 (1 + bt1059.1), bt1062.1, wrap64 (bt1065.1 - 1), wrap64 (bt1068.1 * 10), bt1068.2.1, bt1068.2.2)))))
def spec_l00Src_answer.v (s0_0 : List Int) (s0_1 : Int) (s0_2 : Int) : Option (Int × Int × Int × Int × Int × Int) := spec_l00Src_answer.f s0_0 s0_1 s0_2
theorem spec_l00Src_answer.v_eq (s0_0 : List Int) (s0_1 : Int) (s0_2 : Int) : spec_l00Src_answer.v s0_0 s0_1 s0_2 = ((spec_l00Src_next.v s0_0 s0_1 s0_2 8).bind fun bt1059 => ((spec_l00Src_next.v s0_0 bt1059.2.1 bt1059.2.2 3).bind fun bt1062 => ((spec_l00Src_next.v s0_0 bt1062.2.1 bt1062.2.2 3).bind fun bt1065 => ((spec_l00Src_next.v s0_0 bt1065.2.1 bt1065.2.2 3).bind fun bt1068 => (some (wrap64 (1 + bt1059.1), bt1062.1, wrap64 (bt1065.1 - 1), wrap64 (bt1068.1 * 10), bt1068.2.1, bt1068.2.2))))) : Option (Int × Int × Int × Int × Int × Int)) := rfl
def spec_AnswerOf.f (l0 : List Int) : Option (Int × Int × Int × Int) := (spec_l00Source.f l0).bind fun bt1072 => ((spec_l00Src_answer.f bt1072.1 bt1072.2.1 bt1072.2.2).bind fun bt1076 => (some (bt1076.1, bt1076.2.1, bt1076.2.2.1, bt1076.2.2.2.1)))
def spec_AnswerOf.v (l0 : List Int) : Option (Int × Int × Int × Int) := spec_AnswerOf.f l0
theorem spec_AnswerOf.v_lim (l0 : List Int) : LimIs (fun _ => spec_AnswerOf.f l0) (spec_AnswerOf.v l0) := LimIs.const _
theorem spec_AnswerOf.v_eq (l0 : List Int) : spec_AnswerOf.v l0 = ((spec_l00Source.v l0).bind fun bt1072 => ((spec_l00Src_answer.v bt1072.1 bt1072.2.1 bt1072.2.2).bind fun bt1076 => (some (bt1076.1, bt1076.2.1, bt1076.2.2.1, bt1076.2.2.2.1))) : Option (Int × Int × Int × Int)) := rfl
def impl_MakeReply.f (k : Nat) (a0 : Int) (a1 : Int) (a2 : Int) (a3_0 : Int) (a3_1 : Int) (a3_2 : Int) (a3_3 : Int) : Option (Int × Int × Int × Int × Int × Int × Int × ByteArray × Int) := (impl_isReply.f a0 a1 a2 a3_0 a3_1 a3_2 a3_3 (⟨#[]⟩ : ByteArray)).bind fun t1085 => (if t1085 = true then ((impl_replyMac.f k a0 a1 a2 a3_0 a3_1 a3_2 a3_3 (⟨#[]⟩ : ByteArray)).bind fun t1086 => (some (a0, a1, a2, a3_0, a3_1, a3_2, a3_3, t1086, 0))) else (some (0, 0, 0, 0, 0, 0, 0, (⟨#[]⟩ : ByteArray), 1)))
theorem impl_MakeReply.mono : ∀ a0 a1 a2 a3 a4 a5 a6 k, LeO (impl_MakeReply.f k a0 a1 a2 a3 a4 a5 a6) (impl_MakeReply.f (k + 1) a0 a1 a2 a3 a4 a5 a6) := by
  intro a0 a1 a2 a3 a4 a5 a6 k
  unfold impl_MakeReply.f
  repeat' first
      | (with_reducible exact impl_replyMac.mono _ _ _ _ _ _ _ _ _)
      | (with_reducible exact LeO.refl _)
      | (with_reducible exact LeO.none _)
      | (with_reducible refine LeO.ite ?_ ?_)
      | (with_reducible refine LeO.bind ?_ (fun _ => ?_))
      | exact impl_replyMac.mono _ _ _ _ _ _ _ _ _
      | exact LeO.none _
      | refine LeO.ite ?_ ?_
      | refine LeO.bind ?_ (fun _ => ?_)
noncomputable def impl_MakeReply.v (a0 : Int) (a1 : Int) (a2 : Int) (a3_0 : Int) (a3_1 : Int) (a3_2 : Int) (a3_3 : Int) : Option (Int × Int × Int × Int × Int × Int × Int × ByteArray × Int) := lim (fun k_ => impl_MakeReply.f k_ a0 a1 a2 a3_0 a3_1 a3_2 a3_3)
theorem impl_MakeReply.v_lim (a0 : Int) (a1 : Int) (a2 : Int) (a3_0 : Int) (a3_1 : Int) (a3_2 : Int) (a3_3 : Int) : LimIs (fun k_ => impl_MakeReply.f k_ a0 a1 a2 a3_0 a3_1 a3_2 a3_3) (impl_MakeReply.v a0 a1 a2 a3_0 a3_1 a3_2 a3_3) := lim_is (fun k_ => impl_MakeReply.mono a0 a1 a2 a3_0 a3_1 a3_2 a3_3 k_)
theorem impl_MakeReply.v_eq (a0 : Int) (a1 : Int) (a2 : Int) (a3_0 : Int) (a3_1 : Int) (a3_2 : Int) (a3_3 : Int) : impl_MakeReply.v a0 a1 a2 a3_0 a3_1 a3_2 a3_3 = ((impl_isReply.v a0 a1 a2 a3_0 a3_1 a3_2 a3_3 (⟨#[]⟩ : ByteArray)).bind fun t1085 => (if t1085 = true then ((impl_replyMac.v a0 a1 a2 a3_0 a3_1 a3_2 a3_3 (⟨#[]⟩ : ByteArray)).bind fun t1086 => (some (a0, a1, a2, a3_0, a3_1, a3_2, a3_3, t1086, 0))) else (some (0, 0, 0, 0, 0, 0, 0, (⟨#[]⟩ : ByteArray), 1))) : Option (Int × Int × Int × Int × Int × Int × Int × ByteArray × Int)) := by
  refine LimIs.eq (impl_MakeReply.v_lim a0 a1 a2 a3_0 a3_1 a3_2 a3_3) ?_
  simp only [impl_MakeReply.f]
  repeat' (with_reducible first | exact impl_isReply.v_lim _ _ _ _ _ _ _ _ | exact impl_replyMac.v_lim _ _ _ _ _ _ _ _ | exact LimIs.const _ | refine LimIs.ite ?_ ?_ | refine LimIs.bind ?_ (fun _ => ?_))
def spec_l11Make.f (k : Nat) (a0 : Int) (a1 : Int) (a2 : Int) (a3_0 : Int) (a3_1 : Int) (a3_2 : Int) (a3_3 : Int) : Option (Int × Int × Int × Int × Int × Int × Int × ByteArray) := (spec_l11Mac.f k a0 a1 a2 a3_0 a3_1 a3_2 a3_3 (⟨#[]⟩ : ByteArray)).bind fun t1090 => (some (a0, a1, a2, a3_0, a3_1, a3_2, a3_3, t1090))
theorem spec_l11Make.mono : ∀ a0 a1 a2 a3 a4 a5 a6 k, LeO (spec_l11Make.f k a0 a1 a2 a3 a4 a5 a6) (spec_l11Make.f (k + 1) a0 a1 a2 a3 a4 a5 a6) := by
  intro a0 a1 a2 a3 a4 a5 a6 k
  unfold spec_l11Make.f
  repeat' first
      | (with_reducible exact spec_l11Mac.mono _ _ _ _ _ _ _ _ _)
      | (with_reducible exact LeO.refl _)
      | (with_reducible exact LeO.none _)
      | (with_reducible refine LeO.ite ?_ ?_)
      | (with_reducible refine LeO.bind ?_ (fun _ => ?_))
      | exact spec_l11Mac.mono _ _ _ _ _ _ _ _ _
      | exact LeO.none _
      | refine LeO.ite ?_ ?_
      | refine LeO.bind ?_ (fun _ => ?_)
noncomputable def spec_l11Make.v (a0 : Int) (a1 : Int) (a2 : Int) (a3_0 : Int) (a3_1 : Int) (a3_2 : Int) (a3_3 : Int) : Option (Int × Int × Int × Int × Int × Int × Int × ByteArray) := lim (fun k_ => spec_l11Make.f k_ a0 a1 a2 a3_0 a3_1 a3_2 a3_3)
theorem spec_l11Make.v_lim (a0 : Int) (a1 : Int) (a2 : Int) (a3_0 : Int) (a3_1 : Int) (a3_2 : Int) (a3_3 : Int) : LimIs (fun k_ => spec_l11Make.f k_ a0 a1 a2 a3_0 a3_1 a3_2 a3_3) (spec_l11Make.v a0 a1 a2 a3_0 a3_1 a3_2 a3_3) := lim_is (fun k_ => spec_l11Make.mono a0 a1 a2 a3_0 a3_1 a3_2 a3_3 k_)
theorem spec_l11Make.v_eq (a0 : Int) (a1 : Int) (a2 : Int) (a3_0 : Int) (a3_1 : Int) (a3_2 : Int) (a3_3 : Int) : spec_l11Make.v a0 a1 a2 a3_0 a3_1 a3_2 a3_3 = ((spec_l11Mac.v a0 a1 a2 a3_0 a3_1 a3_2 a3_3 (⟨#[]⟩ : ByteArray)).bind fun t1090 => (some (a0, a1, a2, a3_0, a3_1, a3_2, a3_3, t1090)) : Option (Int × Int × Int × Int × Int × Int × Int × ByteArray)) := by
  refine LimIs.eq (spec_l11Make.v_lim a0 a1 a2 a3_0 a3_1 a3_2 a3_3) ?_
  simp only [spec_l11Make.f]
  repeat' (with_reducible first | exact spec_l11Mac.v_lim _ _ _ _ _ _ _ _ | exact LimIs.const _ | refine LimIs.ite ?_ ?_ | refine LimIs.bind ?_ (fun _ => ?_))
def spec_MakeReply.f (k : Nat) (a0 : Int) (a1 : Int) (a2 : Int) (a3_0 : Int) (a3_1 : Int) (a3_2 : Int) (a3_3 : Int) : Option (Int × Int × Int × Int × Int × Int × Int × ByteArray × Int) := (spec_l11Form.f a0 a1 a2 a3_0 a3_1 a3_2 a3_3 (⟨#[]⟩ : ByteArray)).bind fun t1093 => (if t1093 = true then ((spec_l11Make.f k a0 a1 a2 a3_0 a3_1 a3_2 a3_3).bind fun bt1094 => (some (bt1094.1, bt1094.2.1, bt1094.2.2.1, bt1094.2.2.2.1, bt1094.2.2.2.2.1, bt1094.2.2.2.2.2.1, bt1094.2.2.2.2.2.2.1, bt1094.2.2.2.2.2.2.2, 0))) else (some (0, 0, 0, 0, 0, 0, 0, (⟨#[]⟩ : ByteArray), 1)))
theorem spec_MakeReply.mono : ∀ a0 a1 a2 a3 a4 a5 a6 k, LeO (spec_MakeReply.f k a0 a1 a2 a3 a4 a5 a6) (spec_MakeReply.f (k + 1) a0 a1 a2 a3 a4 a5 a6) := by
  intro a0 a1 a2 a3 a4 a5 a6 k
  unfold spec_MakeReply.f
  repeat' first
      | (with_reducible exact spec_l11Make.mono _ _ _ _ _ _ _ _)
      | (with_reducible exact LeO.refl _)
      | (with_reducible exact LeO.none _)
      | (with_reducible refine LeO.ite ?_ ?_)
      | (with_reducible refine LeO.bind ?_ (fun _ => ?_))
      | exact spec_l11Make.mono _ _ _ _ _ _ _ _
      | exact LeO.none _
      | refine LeO.ite ?_ ?_
      | refine LeO.bind ?_ (fun _ => ?_)
noncomputable def spec_MakeReply.v (a0 : Int) (a1 : Int) (a2 : Int) (a3_0 : Int) (a3_1 : Int) (a3_2 : Int) (a3_3 : Int) : Option (Int × Int × Int × Int × Int × Int × Int × ByteArray × Int) := lim (fun k_ => spec_MakeReply.f k_ a0 a1 a2 a3_0 a3_1 a3_2 a3_3)
theorem spec_MakeReply.v_lim (a0 : Int) (a1 : Int) (a2 : Int) (a3_0 : Int) (a3_1 : Int) (a3_2 : Int) (a3_3 : Int) : LimIs (fun k_ => spec_MakeReply.f k_ a0 a1 a2 a3_0 a3_1 a3_2 a3_3) (spec_MakeReply.v a0 a1 a2 a3_0 a3_1 a3_2 a3_3) := lim_is (fun k_ => spec_MakeReply.mono a0 a1 a2 a3_0 a3_1 a3_2 a3_3 k_)
theorem spec_MakeReply.v_eq (a0 : Int) (a1 : Int) (a2 : Int) (a3_0 : Int) (a3_1 : Int) (a3_2 : Int) (a3_3 : Int) : spec_MakeReply.v a0 a1 a2 a3_0 a3_1 a3_2 a3_3 = ((spec_l11Form.v a0 a1 a2 a3_0 a3_1 a3_2 a3_3 (⟨#[]⟩ : ByteArray)).bind fun t1093 => (if t1093 = true then ((spec_l11Make.v a0 a1 a2 a3_0 a3_1 a3_2 a3_3).bind fun bt1094 => (some (bt1094.1, bt1094.2.1, bt1094.2.2.1, bt1094.2.2.2.1, bt1094.2.2.2.2.1, bt1094.2.2.2.2.2.1, bt1094.2.2.2.2.2.2.1, bt1094.2.2.2.2.2.2.2, 0))) else (some (0, 0, 0, 0, 0, 0, 0, (⟨#[]⟩ : ByteArray), 1))) : Option (Int × Int × Int × Int × Int × Int × Int × ByteArray × Int)) := by
  refine LimIs.eq (spec_MakeReply.v_lim a0 a1 a2 a3_0 a3_1 a3_2 a3_3) ?_
  simp only [spec_MakeReply.f]
  repeat' (with_reducible first | exact spec_l11Form.v_lim _ _ _ _ _ _ _ _ | exact spec_l11Make.v_lim _ _ _ _ _ _ _ | exact LimIs.const _ | refine LimIs.ite ?_ ?_ | refine LimIs.bind ?_ (fun _ => ?_))
def impl_ReplyMac.f (k : Nat) (a0_0 : Int) (a0_1 : Int) (a0_2 : Int) (a0_3 : Int) (a0_4 : Int) (a0_5 : Int) (a0_6 : Int) (a0_7 : ByteArray) : Option (ByteArray × Int) := (impl_isReply.f a0_0 a0_1 a0_2 a0_3 a0_4 a0_5 a0_6 a0_7).bind fun t1103 => (if t1103 = true then ((impl_replyMac.f k a0_0 a0_1 a0_2 a0_3 a0_4 a0_5 a0_6 a0_7).bind fun t1104 => (some (t1104, 0))) else (some ((⟨#[]⟩ : ByteArray), 1)))
theorem impl_ReplyMac.mono : ∀ a0 a1 a2 a3 a4 a5 a6 a7 k, LeO (impl_ReplyMac.f k a0 a1 a2 a3 a4 a5 a6 a7) (impl_ReplyMac.f (k + 1) a0 a1 a2 a3 a4 a5 a6 a7) := by
  intro a0 a1 a2 a3 a4 a5 a6 a7 k
  unfold impl_ReplyMac.f
  repeat' first
      | (with_reducible exact impl_replyMac.mono _ _ _ _ _ _ _ _ _)
      | (with_reducible exact LeO.refl _)
      | (with_reducible exact LeO.none _)
      | (with_reducible refine LeO.ite ?_ ?_)
      | (with_reducible refine LeO.bind ?_ (fun _ => ?_))
      | exact impl_replyMac.mono _ _ _ _ _ _ _ _ _
      | exact LeO.none _
      | refine LeO.ite ?_ ?_
      | refine LeO.bind ?_ (fun _ => ?_)
noncomputable def impl_ReplyMac.v (a0_0 : Int) (a0_1 : Int) (a0_2 : Int) (a0_3 : Int) (a0_4 : Int) (a0_5 : Int) (a0_6 : Int) (a0_7 : ByteArray) : Option (ByteArray × Int) := lim (fun k_ => impl_ReplyMac.f k_ a0_0 a0_1 a0_2 a0_3 a0_4 a0_5 a0_6 a0_7)
theorem impl_ReplyMac.v_lim (a0_0 : Int) (a0_1 : Int) (a0_2 : Int) (a0_3 : Int) (a0_4 : Int) (a0_5 : Int) (a0_6 : Int) (a0_7 : ByteArray) : LimIs (fun k_ => impl_ReplyMac.f k_ a0_0 a0_1 a0_2 a0_3 a0_4 a0_5 a0_6 a0_7) (impl_ReplyMac.v a0_0 a0_1 a0_2 a0_3 a0_4 a0_5 a0_6 a0_7) := lim_is (fun k_ => impl_ReplyMac.mono a0_0 a0_1 a0_2 a0_3 a0_4 a0_5 a0_6 a0_7 k_)
theorem impl_ReplyMac.v_eq (a0_0 : Int) (a0_1 : Int) (a0_2 : Int) (a0_3 : Int) (a0_4 : Int) (a0_5 : Int) (a0_6 : Int) (a0_7 : ByteArray) : impl_ReplyMac.v a0_0 a0_1 a0_2 a0_3 a0_4 a0_5 a0_6 a0_7 = ((impl_isReply.v a0_0 a0_1 a0_2 a0_3 a0_4 a0_5 a0_6 a0_7).bind fun t1103 => (if t1103 = true then ((impl_replyMac.v a0_0 a0_1 a0_2 a0_3 a0_4 a0_5 a0_6 a0_7).bind fun t1104 => (some (t1104, 0))) else (some ((⟨#[]⟩ : ByteArray), 1))) : Option (ByteArray × Int)) := by
  refine LimIs.eq (impl_ReplyMac.v_lim a0_0 a0_1 a0_2 a0_3 a0_4 a0_5 a0_6 a0_7) ?_
  simp only [impl_ReplyMac.f]
  repeat' (with_reducible first | exact impl_isReply.v_lim _ _ _ _ _ _ _ _ | exact impl_replyMac.v_lim _ _ _ _ _ _ _ _ | exact LimIs.const _ | refine LimIs.ite ?_ ?_ | refine LimIs.bind ?_ (fun _ => ?_))
mutual
def laws_FnReplies.j0 : Nat → List Int → List Int → Bool → Option (Bool)
  | 0, _, _, _ => none
  | k + 1, x0, x1, x32 => if x32 = true then (some true) else ((some (([4, 7] : List Int) : List Int)).bind fun y1105 => ((laws_at.f x1 0 2).bind fun t1108 => (if 0 ≤ t1108 then (if t1108 < (y1105.length : Int) then ((spec_AnswerOf.f x0).bind fun bt1110 => ((spec_AnswerOf.f x1).bind fun bt1115 => (laws_FnReplies.l0 k x1 (rd y1105 t1108) (wrap64 (Int.tdiv (wrap64 ((rd y1105 t1108) - 1)) 3)) (([] : List (S73))) 0 bt1110.1 bt1110.2.1 bt1110.2.2.1 bt1110.2.2.2 bt1115.1 bt1115.2.1 bt1115.2.2.1 bt1115.2.2.2))) else (none)) else (none))))
def laws_FnReplies.l0 : Nat → List Int → Int → Int → List (S73) → Int → Int → Int → Int → Int → Int → Int → Int → Int → Option (Bool)
  | 0, _, _, _, _, _, _, _, _, _, _, _, _, _ => none
  | k + 1, x1, x5, x6, x9, x10, x1115000, x1115001, x1115002, x1115003, x1120000, x1120001, x1120002, x1120003 => if x10 < 12 then ((laws_at.f x1 (wrap64 (x10 + 1)) x5).bind fun t1123 => (if t1123 < x6 then (laws_FnReplies.j2 k x1 x5 x6 x9 x10 t1123 x1115000 x1115001 x1115002 x1115003 x1120000 x1120001 x1120002 x1120003 x1120000 x1120001 x1120002 x1120003) else (laws_FnReplies.j2 k x1 x5 x6 x9 x10 t1123 x1115000 x1115001 x1115002 x1115003 x1120000 x1120001 x1120002 x1120003 x1115000 x1115001 x1115002 x1115003))) else ((impl_CountReplies.f k x5 1 2 x9).bind fun bt1151 => ((spec_CountReplies.f k x5 1 2 x9).bind fun bt1157 => ((impl_CountReplies.f k x5 1 3 x9).bind fun bt1163 => (if bt1151.2.2.2.2 = bt1157.2.2.2.2 then (if (!(bt1151.1 == bt1157.1) || (!(bt1151.2.1 == bt1157.2.1) || (!(bt1151.2.2.1 == bt1157.2.2.1) || (!(bt1151.2.2.2.1 == bt1157.2.2.2.1))))) = true then (some false) else (if bt1163.2.2.2.2 = 19 then (if bt1151.2.2.2.2 = 19 then (some true) else (if bt1151.2.2.2.2 = 0 then (some (bt1151.1 == x1115000 && (bt1151.2.1 == x1115001 && (bt1151.2.2.1 == x1115002 && (bt1151.2.2.2.1 == x1115003))))) else (some false))) else (some false))) else (some false)))))
def laws_FnReplies.j2 : Nat → List Int → Int → Int → List (S73) → Int → Int → Int → Int → Int → Int → Int → Int → Int → Int → Int → Int → Int → Int → Option (Bool)
  | 0, _, _, _, _, _, _, _, _, _, _, _, _, _, _, _, _, _, _ => none
  | k + 1, x1, x5, x6, x9, x10, x11, x1115000, x1115001, x1115002, x1115003, x1120000, x1120001, x1120002, x1120003, x1125000, x1125001, x1125002, x1125003 => (impl_MakeReply.f k x11 1 2 x1125000 x1125001 x1125002 x1125003).bind fun bt1125 => ((spec_MakeReply.f k x11 1 2 x1125000 x1125001 x1125002 x1125003).bind fun bt1135 => ((impl_ReplyMac.f k bt1125.1 bt1125.2.1 bt1125.2.2.1 bt1125.2.2.2.1 bt1125.2.2.2.2.1 bt1125.2.2.2.2.2.1 bt1125.2.2.2.2.2.2.1 bt1125.2.2.2.2.2.2.2.1).bind fun bt1145 => (if bt1125.2.2.2.2.2.2.2.2 = 0 then (if (!(bt1125.1 == bt1135.1) || (!(bt1125.2.1 == bt1135.2.1) || (!(bt1125.2.2.1 == bt1135.2.2.1) || ((!(bt1125.2.2.2.1 == bt1135.2.2.2.1) || (!(bt1125.2.2.2.2.1 == bt1135.2.2.2.2.1) || (!(bt1125.2.2.2.2.2.1 == bt1135.2.2.2.2.2.1) || (!(bt1125.2.2.2.2.2.2.1 == bt1135.2.2.2.2.2.2.1))))) || (!(bt1125.2.2.2.2.2.2.2.1.toList == bt1135.2.2.2.2.2.2.2.1.toList)))))) = true then (some false) else (if bt1145.2 = 0 then (if bt1145.1.toList = bt1125.2.2.2.2.2.2.2.1.toList then ((impl_ReplyOK.f k x5 bt1125.1 bt1125.2.1 bt1125.2.2.1 bt1125.2.2.2.1 bt1125.2.2.2.2.1 bt1125.2.2.2.2.2.1 bt1125.2.2.2.2.2.2.1 bt1125.2.2.2.2.2.2.2.1).bind fun t1147 => (if t1147 = true then (if x9.length < 1954687338268 then (laws_FnReplies.l0 k x1 x5 x6 (x9 ++ [(⟨bt1125.1, bt1125.2.1, bt1125.2.2.1, (⟨bt1125.2.2.2.1, bt1125.2.2.2.2.1, bt1125.2.2.2.2.2.1, bt1125.2.2.2.2.2.2.1⟩ : S63), bt1125.2.2.2.2.2.2.2.1⟩ : S73)]) (wrap64 (x10 + 1)) x1115000 x1115001 x1115002 x1115003 x1120000 x1120001 x1120002 x1120003) else (none)) else (some false))) else (some false)) else (some false))) else (some false))))
end
def laws_FnReplies.f (k : Nat) (l0 : List Int) (l1 : List Int) : Option (Bool) := if (l0.length : Int) > 1048576 then (laws_FnReplies.j0 k l0 l1 true) else (laws_FnReplies.j0 k l0 l1 (decide ((l1.length : Int) > 1048576)))
theorem laws_FnReplies.mono_l : ∀ k, (∀ y0 y1 y2, LeO (laws_FnReplies.j0 k y0 y1 y2) (laws_FnReplies.j0 (k + 1) y0 y1 y2)) ∧ (∀ y0 y1 y2 y3 y4 y5 y6 y7 y8 y9 y10 y11 y12, LeO (laws_FnReplies.l0 k y0 y1 y2 y3 y4 y5 y6 y7 y8 y9 y10 y11 y12) (laws_FnReplies.l0 (k + 1) y0 y1 y2 y3 y4 y5 y6 y7 y8 y9 y10 y11 y12)) ∧ (∀ y0 y1 y2 y3 y4 y5 y6 y7 y8 y9 y10 y11 y12 y13 y14 y15 y16 y17, LeO (laws_FnReplies.j2 k y0 y1 y2 y3 y4 y5 y6 y7 y8 y9 y10 y11 y12 y13 y14 y15 y16 y17) (laws_FnReplies.j2 (k + 1) y0 y1 y2 y3 y4 y5 y6 y7 y8 y9 y10 y11 y12 y13 y14 y15 y16 y17))
  | 0 => ⟨fun _ _ _ r h => by simp [laws_FnReplies.j0] at h, fun _ _ _ _ _ _ _ _ _ _ _ _ _ r h => by simp [laws_FnReplies.l0] at h, fun _ _ _ _ _ _ _ _ _ _ _ _ _ _ _ _ _ _ r h => by simp [laws_FnReplies.j2] at h⟩
  | k + 1 => by
    obtain ⟨ih0, ih1, ih2⟩ := laws_FnReplies.mono_l k
    refine ⟨?_, ?_, ?_⟩
    · intro y0 y1 y2
      unfold laws_FnReplies.j0
      repeat' first
      | (with_reducible exact ih0 _ _ _)
      | (with_reducible exact ih1 _ _ _ _ _ _ _ _ _ _ _ _ _)
      | (with_reducible exact ih2 _ _ _ _ _ _ _ _ _ _ _ _ _ _ _ _ _ _)
      | (with_reducible exact impl_CountReplies.mono _ _ _ _ _)
      | (with_reducible exact impl_MakeReply.mono _ _ _ _ _ _ _ _)
      | (with_reducible exact impl_ReplyMac.mono _ _ _ _ _ _ _ _ _)
      | (with_reducible exact impl_ReplyOK.mono _ _ _ _ _ _ _ _ _ _)
      | (with_reducible exact spec_CountReplies.mono _ _ _ _ _)
      | (with_reducible exact spec_MakeReply.mono _ _ _ _ _ _ _ _)
      | (with_reducible exact LeO.refl _)
      | (with_reducible exact LeO.none _)
      | (with_reducible refine LeO.ite ?_ ?_)
      | (with_reducible refine LeO.bind ?_ (fun _ => ?_))
      | exact ih0 _ _ _
      | exact ih1 _ _ _ _ _ _ _ _ _ _ _ _ _
      | exact ih2 _ _ _ _ _ _ _ _ _ _ _ _ _ _ _ _ _ _
      | exact impl_CountReplies.mono _ _ _ _ _
      | exact impl_MakeReply.mono _ _ _ _ _ _ _ _
      | exact impl_ReplyMac.mono _ _ _ _ _ _ _ _ _
      | exact impl_ReplyOK.mono _ _ _ _ _ _ _ _ _ _
      | exact spec_CountReplies.mono _ _ _ _ _
      | exact spec_MakeReply.mono _ _ _ _ _ _ _ _
      | exact LeO.none _
      | refine LeO.ite ?_ ?_
      | refine LeO.bind ?_ (fun _ => ?_)
    · intro y0 y1 y2 y3 y4 y5 y6 y7 y8 y9 y10 y11 y12
      unfold laws_FnReplies.l0
      repeat' first
      | (with_reducible exact ih0 _ _ _)
      | (with_reducible exact ih1 _ _ _ _ _ _ _ _ _ _ _ _ _)
      | (with_reducible exact ih2 _ _ _ _ _ _ _ _ _ _ _ _ _ _ _ _ _ _)
      | (with_reducible exact impl_CountReplies.mono _ _ _ _ _)
      | (with_reducible exact impl_MakeReply.mono _ _ _ _ _ _ _ _)
      | (with_reducible exact impl_ReplyMac.mono _ _ _ _ _ _ _ _ _)
      | (with_reducible exact impl_ReplyOK.mono _ _ _ _ _ _ _ _ _ _)
      | (with_reducible exact spec_CountReplies.mono _ _ _ _ _)
      | (with_reducible exact spec_MakeReply.mono _ _ _ _ _ _ _ _)
      | (with_reducible exact LeO.refl _)
      | (with_reducible exact LeO.none _)
      | (with_reducible refine LeO.ite ?_ ?_)
      | (with_reducible refine LeO.bind ?_ (fun _ => ?_))
      | exact ih0 _ _ _
      | exact ih1 _ _ _ _ _ _ _ _ _ _ _ _ _
      | exact ih2 _ _ _ _ _ _ _ _ _ _ _ _ _ _ _ _ _ _
      | exact impl_CountReplies.mono _ _ _ _ _
      | exact impl_MakeReply.mono _ _ _ _ _ _ _ _
      | exact impl_ReplyMac.mono _ _ _ _ _ _ _ _ _
      | exact impl_ReplyOK.mono _ _ _ _ _ _ _ _ _ _
      | exact spec_CountReplies.mono _ _ _ _ _
      | exact spec_MakeReply.mono _ _ _ _ _ _ _ _
      | exact LeO.none _
      | refine LeO.ite ?_ ?_
      | refine LeO.bind ?_ (fun _ => ?_)
    · intro y0 y1 y2 y3 y4 y5 y6 y7 y8 y9 y10 y11 y12 y13 y14 y15 y16 y17
      unfold laws_FnReplies.j2
      repeat' first
      | (with_reducible exact ih0 _ _ _)
      | (with_reducible exact ih1 _ _ _ _ _ _ _ _ _ _ _ _ _)
      | (with_reducible exact ih2 _ _ _ _ _ _ _ _ _ _ _ _ _ _ _ _ _ _)
      | (with_reducible exact impl_CountReplies.mono _ _ _ _ _)
      | (with_reducible exact impl_MakeReply.mono _ _ _ _ _ _ _ _)
      | (with_reducible exact impl_ReplyMac.mono _ _ _ _ _ _ _ _ _)
      | (with_reducible exact impl_ReplyOK.mono _ _ _ _ _ _ _ _ _ _)
      | (with_reducible exact spec_CountReplies.mono _ _ _ _ _)
      | (with_reducible exact spec_MakeReply.mono _ _ _ _ _ _ _ _)
      | (with_reducible exact LeO.refl _)
      | (with_reducible exact LeO.none _)
      | (with_reducible refine LeO.ite ?_ ?_)
      | (with_reducible refine LeO.bind ?_ (fun _ => ?_))
      | exact ih0 _ _ _
      | exact ih1 _ _ _ _ _ _ _ _ _ _ _ _ _
      | exact ih2 _ _ _ _ _ _ _ _ _ _ _ _ _ _ _ _ _ _
      | exact impl_CountReplies.mono _ _ _ _ _
      | exact impl_MakeReply.mono _ _ _ _ _ _ _ _
      | exact impl_ReplyMac.mono _ _ _ _ _ _ _ _ _
      | exact impl_ReplyOK.mono _ _ _ _ _ _ _ _ _ _
      | exact spec_CountReplies.mono _ _ _ _ _
      | exact spec_MakeReply.mono _ _ _ _ _ _ _ _
      | exact LeO.none _
      | refine LeO.ite ?_ ?_
      | refine LeO.bind ?_ (fun _ => ?_)
theorem laws_FnReplies.mono : ∀ a0 a1 k, LeO (laws_FnReplies.f k a0 a1) (laws_FnReplies.f (k + 1) a0 a1) := by
  intro a0 a1 k
  obtain ⟨ih0, ih1, ih2⟩ := laws_FnReplies.mono_l k
  unfold laws_FnReplies.f
  repeat' first
      | (with_reducible exact ih0 _ _ _)
      | (with_reducible exact ih1 _ _ _ _ _ _ _ _ _ _ _ _ _)
      | (with_reducible exact ih2 _ _ _ _ _ _ _ _ _ _ _ _ _ _ _ _ _ _)
      | (with_reducible exact impl_CountReplies.mono _ _ _ _ _)
      | (with_reducible exact impl_MakeReply.mono _ _ _ _ _ _ _ _)
      | (with_reducible exact impl_ReplyMac.mono _ _ _ _ _ _ _ _ _)
      | (with_reducible exact impl_ReplyOK.mono _ _ _ _ _ _ _ _ _ _)
      | (with_reducible exact spec_CountReplies.mono _ _ _ _ _)
      | (with_reducible exact spec_MakeReply.mono _ _ _ _ _ _ _ _)
      | (with_reducible exact LeO.refl _)
      | (with_reducible exact LeO.none _)
      | (with_reducible refine LeO.ite ?_ ?_)
      | (with_reducible refine LeO.bind ?_ (fun _ => ?_))
      | exact ih0 _ _ _
      | exact ih1 _ _ _ _ _ _ _ _ _ _ _ _ _
      | exact ih2 _ _ _ _ _ _ _ _ _ _ _ _ _ _ _ _ _ _
      | exact impl_CountReplies.mono _ _ _ _ _
      | exact impl_MakeReply.mono _ _ _ _ _ _ _ _
      | exact impl_ReplyMac.mono _ _ _ _ _ _ _ _ _
      | exact impl_ReplyOK.mono _ _ _ _ _ _ _ _ _ _
      | exact spec_CountReplies.mono _ _ _ _ _
      | exact spec_MakeReply.mono _ _ _ _ _ _ _ _
      | exact LeO.none _
      | refine LeO.ite ?_ ?_
      | refine LeO.bind ?_ (fun _ => ?_)
noncomputable def laws_FnReplies.jv0 (x0 : List Int) (x1 : List Int) (x32 : Bool) : Option (Bool) := lim (fun k_ => laws_FnReplies.j0 k_ x0 x1 x32)
noncomputable def laws_FnReplies.lv0 (x1 : List Int) (x5 : Int) (x6 : Int) (x9 : List (S73)) (x10 : Int) (x1115000 : Int) (x1115001 : Int) (x1115002 : Int) (x1115003 : Int) (x1120000 : Int) (x1120001 : Int) (x1120002 : Int) (x1120003 : Int) : Option (Bool) := lim (fun k_ => laws_FnReplies.l0 k_ x1 x5 x6 x9 x10 x1115000 x1115001 x1115002 x1115003 x1120000 x1120001 x1120002 x1120003)
noncomputable def laws_FnReplies.jv2 (x1 : List Int) (x5 : Int) (x6 : Int) (x9 : List (S73)) (x10 : Int) (x11 : Int) (x1115000 : Int) (x1115001 : Int) (x1115002 : Int) (x1115003 : Int) (x1120000 : Int) (x1120001 : Int) (x1120002 : Int) (x1120003 : Int) (x1125000 : Int) (x1125001 : Int) (x1125002 : Int) (x1125003 : Int) : Option (Bool) := lim (fun k_ => laws_FnReplies.j2 k_ x1 x5 x6 x9 x10 x11 x1115000 x1115001 x1115002 x1115003 x1120000 x1120001 x1120002 x1120003 x1125000 x1125001 x1125002 x1125003)
noncomputable def laws_FnReplies.v (l0 : List Int) (l1 : List Int) : Option (Bool) := lim (fun k_ => laws_FnReplies.f k_ l0 l1)
theorem laws_FnReplies.jv0_lim (x0 : List Int) (x1 : List Int) (x32 : Bool) : LimIs (fun k_ => laws_FnReplies.j0 k_ x0 x1 x32) (laws_FnReplies.jv0 x0 x1 x32) := lim_is (fun k_ => (laws_FnReplies.mono_l k_).1 x0 x1 x32)
theorem laws_FnReplies.lv0_lim (x1 : List Int) (x5 : Int) (x6 : Int) (x9 : List (S73)) (x10 : Int) (x1115000 : Int) (x1115001 : Int) (x1115002 : Int) (x1115003 : Int) (x1120000 : Int) (x1120001 : Int) (x1120002 : Int) (x1120003 : Int) : LimIs (fun k_ => laws_FnReplies.l0 k_ x1 x5 x6 x9 x10 x1115000 x1115001 x1115002 x1115003 x1120000 x1120001 x1120002 x1120003) (laws_FnReplies.lv0 x1 x5 x6 x9 x10 x1115000 x1115001 x1115002 x1115003 x1120000 x1120001 x1120002 x1120003) := lim_is (fun k_ => (laws_FnReplies.mono_l k_).2.1 x1 x5 x6 x9 x10 x1115000 x1115001 x1115002 x1115003 x1120000 x1120001 x1120002 x1120003)
theorem laws_FnReplies.jv2_lim (x1 : List Int) (x5 : Int) (x6 : Int) (x9 : List (S73)) (x10 : Int) (x11 : Int) (x1115000 : Int) (x1115001 : Int) (x1115002 : Int) (x1115003 : Int) (x1120000 : Int) (x1120001 : Int) (x1120002 : Int) (x1120003 : Int) (x1125000 : Int) (x1125001 : Int) (x1125002 : Int) (x1125003 : Int) : LimIs (fun k_ => laws_FnReplies.j2 k_ x1 x5 x6 x9 x10 x11 x1115000 x1115001 x1115002 x1115003 x1120000 x1120001 x1120002 x1120003 x1125000 x1125001 x1125002 x1125003) (laws_FnReplies.jv2 x1 x5 x6 x9 x10 x11 x1115000 x1115001 x1115002 x1115003 x1120000 x1120001 x1120002 x1120003 x1125000 x1125001 x1125002 x1125003) := lim_is (fun k_ => (laws_FnReplies.mono_l k_).2.2 x1 x5 x6 x9 x10 x11 x1115000 x1115001 x1115002 x1115003 x1120000 x1120001 x1120002 x1120003 x1125000 x1125001 x1125002 x1125003)
theorem laws_FnReplies.v_lim (l0 : List Int) (l1 : List Int) : LimIs (fun k_ => laws_FnReplies.f k_ l0 l1) (laws_FnReplies.v l0 l1) := lim_is (fun k_ => laws_FnReplies.mono l0 l1 k_)
theorem laws_FnReplies.jv0_eq (x0 : List Int) (x1 : List Int) (x32 : Bool) : laws_FnReplies.jv0 x0 x1 x32 = (if x32 = true then (some true) else ((some (([4, 7] : List Int) : List Int)).bind fun y1105 => ((laws_at.v x1 0 2).bind fun t1108 => (if 0 ≤ t1108 then (if t1108 < (y1105.length : Int) then ((spec_AnswerOf.v x0).bind fun bt1110 => ((spec_AnswerOf.v x1).bind fun bt1115 => (laws_FnReplies.lv0 x1 (rd y1105 t1108) (wrap64 (Int.tdiv (wrap64 ((rd y1105 t1108) - 1)) 3)) (([] : List (S73))) 0 bt1110.1 bt1110.2.1 bt1110.2.2.1 bt1110.2.2.2 bt1115.1 bt1115.2.1 bt1115.2.2.1 bt1115.2.2.2))) else (none)) else (none)))) : Option (Bool)) := by
  refine LimIs.eq (laws_FnReplies.jv0_lim x0 x1 x32) ?_
  refine LimIs.step (fun k_ => (laws_FnReplies.mono_l k_).1 x0 x1 x32) ?_
  simp only [laws_FnReplies.j0]
  repeat' (with_reducible first | exact laws_FnReplies.lv0_lim _ _ _ _ _ _ _ _ _ _ _ _ _ | exact laws_at.v_lim _ _ _ | exact spec_AnswerOf.v_lim _ | exact LimIs.const _ | refine LimIs.ite ?_ ?_ | refine LimIs.bind ?_ (fun _ => ?_))
theorem laws_FnReplies.lv0_eq (x1 : List Int) (x5 : Int) (x6 : Int) (x9 : List (S73)) (x10 : Int) (x1115000 : Int) (x1115001 : Int) (x1115002 : Int) (x1115003 : Int) (x1120000 : Int) (x1120001 : Int) (x1120002 : Int) (x1120003 : Int) : laws_FnReplies.lv0 x1 x5 x6 x9 x10 x1115000 x1115001 x1115002 x1115003 x1120000 x1120001 x1120002 x1120003 = (if x10 < 12 then ((laws_at.v x1 (wrap64 (x10 + 1)) x5).bind fun t1123 => (if t1123 < x6 then (laws_FnReplies.jv2 x1 x5 x6 x9 x10 t1123 x1115000 x1115001 x1115002 x1115003 x1120000 x1120001 x1120002 x1120003 x1120000 x1120001 x1120002 x1120003) else (laws_FnReplies.jv2 x1 x5 x6 x9 x10 t1123 x1115000 x1115001 x1115002 x1115003 x1120000 x1120001 x1120002 x1120003 x1115000 x1115001 x1115002 x1115003))) else ((impl_CountReplies.v x5 1 2 x9).bind fun bt1151 => ((spec_CountReplies.v x5 1 2 x9).bind fun bt1157 => ((impl_CountReplies.v x5 1 3 x9).bind fun bt1163 => (if bt1151.2.2.2.2 = bt1157.2.2.2.2 then (if (!(bt1151.1 == bt1157.1) || (!(bt1151.2.1 == bt1157.2.1) || (!(bt1151.2.2.1 == bt1157.2.2.1) || (!(bt1151.2.2.2.1 == bt1157.2.2.2.1))))) = true then (some false) else (if bt1163.2.2.2.2 = 19 then (if bt1151.2.2.2.2 = 19 then (some true) else (if bt1151.2.2.2.2 = 0 then (some (bt1151.1 == x1115000 && (bt1151.2.1 == x1115001 && (bt1151.2.2.1 == x1115002 && (bt1151.2.2.2.1 == x1115003))))) else (some false))) else (some false))) else (some false))))) : Option (Bool)) := by
  refine LimIs.eq (laws_FnReplies.lv0_lim x1 x5 x6 x9 x10 x1115000 x1115001 x1115002 x1115003 x1120000 x1120001 x1120002 x1120003) ?_
  refine LimIs.step (fun k_ => (laws_FnReplies.mono_l k_).2.1 x1 x5 x6 x9 x10 x1115000 x1115001 x1115002 x1115003 x1120000 x1120001 x1120002 x1120003) ?_
  simp only [laws_FnReplies.l0]
  repeat' (with_reducible first | exact impl_CountReplies.v_lim _ _ _ _ | exact laws_FnReplies.jv2_lim _ _ _ _ _ _ _ _ _ _ _ _ _ _ _ _ _ _ | exact laws_at.v_lim _ _ _ | exact spec_CountReplies.v_lim _ _ _ _ | exact LimIs.const _ | refine LimIs.ite ?_ ?_ | refine LimIs.bind ?_ (fun _ => ?_))
theorem laws_FnReplies.jv2_eq (x1 : List Int) (x5 : Int) (x6 : Int) (x9 : List (S73)) (x10 : Int) (x11 : Int) (x1115000 : Int) (x1115001 : Int) (x1115002 : Int) (x1115003 : Int) (x1120000 : Int) (x1120001 : Int) (x1120002 : Int) (x1120003 : Int) (x1125000 : Int) (x1125001 : Int) (x1125002 : Int) (x1125003 : Int) : laws_FnReplies.jv2 x1 x5 x6 x9 x10 x11 x1115000 x1115001 x1115002 x1115003 x1120000 x1120001 x1120002 x1120003 x1125000 x1125001 x1125002 x1125003 = ((impl_MakeReply.v x11 1 2 x1125000 x1125001 x1125002 x1125003).bind fun bt1125 => ((spec_MakeReply.v x11 1 2 x1125000 x1125001 x1125002 x1125003).bind fun bt1135 => ((impl_ReplyMac.v bt1125.1 bt1125.2.1 bt1125.2.2.1 bt1125.2.2.2.1 bt1125.2.2.2.2.1 bt1125.2.2.2.2.2.1 bt1125.2.2.2.2.2.2.1 bt1125.2.2.2.2.2.2.2.1).bind fun bt1145 => (if bt1125.2.2.2.2.2.2.2.2 = 0 then (if (!(bt1125.1 == bt1135.1) || (!(bt1125.2.1 == bt1135.2.1) || (!(bt1125.2.2.1 == bt1135.2.2.1) || ((!(bt1125.2.2.2.1 == bt1135.2.2.2.1) || (!(bt1125.2.2.2.2.1 == bt1135.2.2.2.2.1) || (!(bt1125.2.2.2.2.2.1 == bt1135.2.2.2.2.2.1) || (!(bt1125.2.2.2.2.2.2.1 == bt1135.2.2.2.2.2.2.1))))) || (!(bt1125.2.2.2.2.2.2.2.1.toList == bt1135.2.2.2.2.2.2.2.1.toList)))))) = true then (some false) else (if bt1145.2 = 0 then (if bt1145.1.toList = bt1125.2.2.2.2.2.2.2.1.toList then ((impl_ReplyOK.v x5 bt1125.1 bt1125.2.1 bt1125.2.2.1 bt1125.2.2.2.1 bt1125.2.2.2.2.1 bt1125.2.2.2.2.2.1 bt1125.2.2.2.2.2.2.1 bt1125.2.2.2.2.2.2.2.1).bind fun t1147 => (if t1147 = true then (if x9.length < 1954687338268 then (laws_FnReplies.lv0 x1 x5 x6 (x9 ++ [(⟨bt1125.1, bt1125.2.1, bt1125.2.2.1, (⟨bt1125.2.2.2.1, bt1125.2.2.2.2.1, bt1125.2.2.2.2.2.1, bt1125.2.2.2.2.2.2.1⟩ : S63), bt1125.2.2.2.2.2.2.2.1⟩ : S73)]) (wrap64 (x10 + 1)) x1115000 x1115001 x1115002 x1115003 x1120000 x1120001 x1120002 x1120003) else (none)) else (some false))) else (some false)) else (some false))) else (some false)))) : Option (Bool)) := by
  refine LimIs.eq (laws_FnReplies.jv2_lim x1 x5 x6 x9 x10 x11 x1115000 x1115001 x1115002 x1115003 x1120000 x1120001 x1120002 x1120003 x1125000 x1125001 x1125002 x1125003) ?_
  refine LimIs.step (fun k_ => (laws_FnReplies.mono_l k_).2.2 x1 x5 x6 x9 x10 x11 x1115000 x1115001 x1115002 x1115003 x1120000 x1120001 x1120002 x1120003 x1125000 x1125001 x1125002 x1125003) ?_
  simp only [laws_FnReplies.j2]
  repeat' (with_reducible first | exact impl_MakeReply.v_lim _ _ _ _ _ _ _ | exact impl_ReplyMac.v_lim _ _ _ _ _ _ _ _ | exact impl_ReplyOK.v_lim _ _ _ _ _ _ _ _ _ | exact laws_FnReplies.lv0_lim _ _ _ _ _ _ _ _ _ _ _ _ _ | exact spec_MakeReply.v_lim _ _ _ _ _ _ _ | exact LimIs.const _ | refine LimIs.ite ?_ ?_ | refine LimIs.bind ?_ (fun _ => ?_))
theorem laws_FnReplies.v_eq (l0 : List Int) (l1 : List Int) : laws_FnReplies.v l0 l1 = (if (l0.length : Int) > 1048576 then (laws_FnReplies.jv0 l0 l1 true) else (laws_FnReplies.jv0 l0 l1 (decide ((l1.length : Int) > 1048576))) : Option (Bool)) := by
  refine LimIs.eq (laws_FnReplies.v_lim l0 l1) ?_
  simp only [laws_FnReplies.f]
  repeat' (with_reducible first | exact laws_FnReplies.jv0_lim _ _ _ | exact LimIs.const _ | refine LimIs.ite ?_ ?_ | refine LimIs.bind ?_ (fun _ => ?_))
end Go.Proofs.YtlifdodphkimpaaDoor.B
end

section
namespace Go.Proofs.YtlifdodphkimpaaDoorW.PrintWords
open Go.RowKit
theorem add0 (g j : Nat) : (⟨g, 0, none⟩ : Addr).add j = ⟨g, j, none⟩ := by rw [add_plain]; first | done | rw [Nat.zero_add]
/-- Block g holds the bytes l at its head; it has cap cells, none of them marked. -/
structure Bm (W : World) (g cap : Nat) (l : List Int) : Prop where
  cell : ∀ j, j < l.length → W.cell? ⟨g, j, none⟩ = some (.int .u8 (l.getD j 0))
  there : ∀ j, j < cap → (W.cell? ⟨g, j, none⟩).isSome = true
  free : ∀ j, j < cap → W.frozen? ⟨g, j, none⟩ = false
  room : l.length ≤ cap
theorem Bm.at {W W' : World} {g cap : Nat} {l : List Int} (h : Bm W g cap l) (e : W'.heap[g]? = W.heap[g]?) : Bm W' g cap l :=
  ⟨fun j hj => (World.cell?_of_block (a := ⟨g, j, none⟩) e).trans (h.cell j hj), fun j hj => by rw [World.cell?_of_block (a := ⟨g, j, none⟩) e]; exact h.there j hj, fun j hj => (World.frozen?_of_block (a := ⟨g, j, none⟩) e).trans (h.free j hj), h.room⟩
theorem Bm.conv (W : World) (e : Nat) (s : ByteArray) : Bm (Lib.bytesWorld W e s) W.heap.size (grownCap W s.size 0 e) (bytesOf s) := by
  have hc : s.size ≤ grownCap W s.size 0 e := grownCap_ge _ _ _ _
  have hsz : (Lib.bytesCells W e s).size = grownCap W s.size 0 e := by simp [Lib.bytesCells]; omega
  refine ⟨fun j hj => ?_, fun j hj => ?_, fun j hj => ?_, by rw [bytesOf_length]; exact hc⟩
  · rw [bytesOf_length] at hj
    rw [Lib.bytesWorld_cell W e s j hj]
    simp [bytesOf, List.getD, hj]
  · unfold World.cell?
    rw [Lib.bytesWorld_at_new]
    simp [hsz, hj]
  · unfold World.frozen?
    rw [Lib.bytesWorld_at_new]
    simp [hsz]
    omega
section
variable {P : Program} {ops : Array Oper} {rest : List Oper} {o : Oper} {a : Act} {Q : Exit → Act → World → Prop}
theorem Bm.grown {W : World} {g cap : Nat} {l ys : List Int} {e : Nat} {n : Nat} {fill : List Value} (h : Bm W g cap l) (hn : n = l.length + ys.length) :
    ∀ w1, w1.heap[W.heap.size]? = some (.cells (((nums .u8 l) ++ (nums .u8 ys) ++ fill).toArray) e (0, 0)) → Bm w1 W.heap.size (n + fill.length) (l ++ ys) := by
  intro w1 hw
  have hl : (nums .u8 l ++ nums .u8 ys ++ fill).length = n + fill.length := by simp [nums]; omega
  refine ⟨fun j hj => ?_, fun j hj => ?_, fun j hj => ?_, by simp; omega⟩
  · unfold World.cell?
    rw [hw]
    rw [List.length_append] at hj
    simp only [Option.isSome_none, Bool.false_eq_true, if_false, List.getElem?_toArray]
    rw [← nums_append, List.getElem?_append_left (by simp [nums]; omega)]
    have hjl : j < (l ++ ys).length := by rw [List.length_append]; exact hj
    simp only [nums, List.getElem?_map, List.getElem?_eq_getElem hjl, Option.map_some, List.getD, Option.getD_some]
  · unfold World.cell?
    rw [hw]
    simp only [Option.isSome_none, Bool.false_eq_true, if_false, List.getElem?_toArray]
    rw [List.getElem?_eq_getElem (by omega)]
    rfl
  · unfold World.frozen?
    rw [hw]
    simp
theorem Bm.set {W : World} {g cap : Nat} {l ys : List Int} (h : Bm W g cap l) (hr : l.length + ys.length ≤ cap) : Bm (W.setCells g l.length (nums .u8 ys)) g cap (l ++ ys) := by
  have hlen : (nums .u8 ys).length = ys.length := nums_length _ _
  refine ⟨fun j hj => ?_, fun j hj => ?_, fun j hj => ?_, by simp; omega⟩
  · rw [List.length_append] at hj
    by_cases c : j < l.length
    · rw [World.cell?_setCells_out g _ _ _ _ (fun _ _ => by dsimp only; omega), h.cell j c]
      simp [List.getD, List.getElem?_append_left c]
    · have := World.cell?_setCells_in g (nums .u8 ys) l.length W (fun i hi => h.there _ (by omega)) (j - l.length) (by omega)
      rw [show l.length + (j - l.length) = j by omega] at this
      rw [this]
      simp [nums, List.getD, List.getElem?_append_right (show l.length ≤ j by omega), List.getElem?_eq_getElem (show j - l.length < ys.length by omega)]
  · by_cases c : l.length ≤ j ∧ j < l.length + ys.length
    · have := World.cell?_setCells_in g (nums .u8 ys) l.length W (fun i hi => h.there _ (by omega)) (j - l.length) (by omega)
      rw [show l.length + (j - l.length) = j by omega] at this
      rw [this]
      rfl
    · rw [World.cell?_setCells_out g _ _ _ _ (fun _ _ => by dsimp only; omega)]
      exact h.there j hj
  · rw [World.frozen?_setCells]
    exact h.free j hj
theorem setCells_old (b : Nat) : ∀ (vs : List Value) (o : Nat) (w : World), (w.setCells b o vs).os = w.os ∧ (w.setCells b o vs).tape = w.tape ∧ (w.setCells b o vs).output = w.output ∧ (w.setCells b o vs).heap.size = w.heap.size ∧ ∀ k, k ≠ b → (w.setCells b o vs).heap[k]? = w.heap[k]?
  | [], _, w => ⟨rfl, rfl, rfl, rfl, fun _ _ => rfl⟩
  | v :: r, o, w => by
    obtain ⟨h1, h2, h3, h4, h5⟩ := setCells_old b r (o + 1) (w.setCell ⟨b, o, none⟩ v)
    refine ⟨h1, h2, h3, ?_, fun k hk => ?_⟩
    · rw [World.setCells, h4]; simp [World.setCell]
    · rw [World.setCells, h5 k hk]
      simp [World.setCell, Array.getElem?_modify, Ne.symm hk]
/-- An append to such a row. -/
theorem run_append_bm {W : World} {g cap : Nat} {l : List Int} (t u ty e : TypeId) (ht : P.underlying t = some (.slice e)) (hu : P.underlying u = some .string ∨ P.underlying u = some (.slice e)) (hinfo : (P.info? e).map (fun i => (i.zero, i.size, i.bytes)) = some (some (.int .u8 0), 1, 1))
    (x : Value) (ys : List Int) (hlen : ∀ W', (Builtin.lenOf x).run P W' = .ok ys.length W') (hf : ∀ W', W'.heap = W.heap → (Builtin.firstCells 1 ys.length x).run P W' = .ok (nums .u8 ys).toArray W')
    (HB : Bm W g cap l) (hl : l.length + ys.length ≤ 140737488355328) :
    ∃ g' cap' w1, (Builtin.append_ #[t, u] ty #[.slice (some ⟨g, 0, none⟩) l.length cap, x]).run P W = .ok (.slice (some ⟨g', 0, none⟩) (l.length + ys.length) cap') w1 ∧ Bm w1 g' cap' (l ++ ys) ∧ W.grownBy w1 (some g) ∧ (g' = g ∨ W.heap.size ≤ g') := by
  obtain ⟨i, hi, hzz⟩ := Option.map_eq_some_iff.1 hinfo
  simp only [Prod.mk.injEq] at hzz
  obtain ⟨hz, hs1, hb1⟩ := hzz
  have hnl : (nums .u8 ys).length = ys.length := nums_length _ _
  have hnl2 : (nums .u8 l).length = l.length := nums_length _ _
  by_cases hroom : l.length + ys.length ≤ cap
  · have hst := run_storeCells_cells (P := P) g l.length (nums .u8 ys) 0 W (fun j hj => HB.there _ (by omega)) (fun j hj => HB.free _ (by omega)) (fun v hv => by
      obtain ⟨z, _, rfl⟩ := List.mem_map.1 hv; rfl)
    simp only [Nat.add_zero] at hst
    refine ⟨g, cap, W.setCells g l.length (nums .u8 ys), ?_, HB.set hroom, ?_, Or.inl rfl⟩
    · rcases hu with hu | hu <;> simp [Builtin.append_, run_underlying ht, run_underlying hu, sizeOf, typeInfo, hi, hs1, hlen, hroom, hf W rfl, add0, hst]
    · obtain ⟨h1, h2, h3, h4, h5⟩ := setCells_old g (nums .u8 ys) l.length W
      exact ⟨h1, h2, h3, by omega, fun k hk hn => h5 k (by intro e; exact hn (by rw [e]))⟩
  · have h63' : ¬ (9223372036854775807 < ((l.length : Int) + (ys.length : Int))) := by omega
    have hfit : Builtin.nextslicecap (l.length + ys.length) cap * i.bytes ≤ 281474976710656 := by rw [hb1]; exact growslice_fits (by omega) (by omega)
    have h48' : ¬ (281474976710656 < Builtin.nextslicecap (l.length + ys.length) cap * i.bytes) := by omega
    have hfo := run_firstCells_some (P := P) W.drew 1 l.length ⟨g, 0, none⟩ l.length cap (nums .u8 l) (by omega) (fun j v hj => by
      rw [add0]
      have hjl : j < l.length := by
        have := (List.getElem?_eq_some_iff.1 hj).1
        omega
      have := HB.cell j hjl
      simp only [nums, List.getElem?_map, List.getElem?_eq_getElem hjl, Option.map_some, Option.some.injEq] at hj
      subst hj
      simpa [List.getD, hjl] using this)
    have hfs := hf W.drew rfl
    have hr : (Builtin.append_ #[t, u] ty #[.slice (some ⟨g, 0, none⟩) l.length cap, x]).run P W = .ok (.slice (some ⟨W.heap.size, 0, none⟩) (l.length + ys.length) (grownCap W (l.length + ys.length) cap e))
        (W.drew.alloc (.cells ((nums .u8 l).toArray ++ (nums .u8 ys).toArray ++ Builtin.zeroCells #[.int .u8 0] (grownCap W (l.length + ys.length) cap e - (l.length + ys.length))) e)) := by
      rw [← hs1] at hfo hfs
      have hzc : (Value.int .u8 0).cells = #[.int .u8 0] := rfl
      rcases hu with hu | hu <;> simp [Builtin.append_, run_underlying ht, run_underlying hu, sizeOf, typeInfo, zeroValue, hi, hz, hlen, hroom, h63', h48', Question.forced, hfs, hfo, newRow, grownCap, hzc]
      all_goals (congr 2; apply Array.ext'; simp [List.append_assoc])
    have hge : l.length + ys.length ≤ grownCap W (l.length + ys.length) cap e := grownCap_ge _ _ _ _
    refine ⟨W.heap.size, _, _, hr, ?_, ?_, Or.inr (Nat.le_refl _)⟩
    · have := HB.grown (e := e) (ys := ys) (n := l.length + ys.length) (fill := (Builtin.zeroCells #[.int .u8 0] (grownCap W (l.length + ys.length) cap e - (l.length + ys.length))).toList) rfl (W.drew.alloc (.cells ((nums .u8 l).toArray ++ (nums .u8 ys).toArray ++ Builtin.zeroCells #[.int .u8 0] (grownCap W (l.length + ys.length) cap e - (l.length + ys.length))) e)) (by
        simp [World.alloc, World.drew, -World.alloc_eq, -World.drew_eq])
      have hz2 : (Builtin.zeroCells #[.int .u8 0] (grownCap W (l.length + ys.length) cap e - (l.length + ys.length))).toList.length = grownCap W (l.length + ys.length) cap e - (l.length + ys.length) := by simp [Builtin.zeroCells]
      rw [hz2, show l.length + ys.length + (grownCap W (l.length + ys.length) cap e - (l.length + ys.length)) = grownCap W (l.length + ys.length) cap e by omega] at this
      exact this
    · exact ⟨rfl, rfl, rfl, by simp [World.alloc, World.drew, -World.alloc_eq, -World.drew_eq], fun k hk hn => by
        have : W.heap.size ≠ k := by omega
        simp [World.alloc, World.drew, -World.alloc_eq, -World.drew_eq, Array.getElem?_push, Ne.symm this]⟩
end
end Go.Proofs.YtlifdodphkimpaaDoorW.PrintWords
end

section
namespace Go.Proofs.YtlifdodphkimpaaDoorW.PrintWords
open Go.RowKit
/-- What a walk keeps of a row of bytes of its own: block g, behind block n. -/
structure Hs (w W : World) (n g cap : Nat) (l : List Int) : Prop where
  row : Bm W g cap l
  mine : n ≤ g
  lt : g < W.heap.size
  below : Below n w W
theorem Hs.alloc {w W : World} {n g cap : Nat} {l : List Int} (h : Hs w W n g cap l) (o : Obj) : Hs w (W.alloc o) n g cap l := by
  have hs : (W.alloc o).heap.size = W.heap.size + 1 := by simp [World.alloc, -World.alloc_eq]
  have e : ∀ k, k < W.heap.size → (W.alloc o).heap[k]? = W.heap[k]? := fun k hk => by
    have : W.heap.size ≠ k := by omega
    simp [World.alloc, -World.alloc_eq, Array.getElem?_push, Ne.symm this]
  refine ⟨h.row.at (e _ h.lt), h.mine, by rw [hs]; have := h.lt; omega, ⟨h.below.os, h.below.tape, h.below.output, by rw [hs]; have := h.below.size; omega, fun k hk => ?_⟩⟩
  rw [e k (by have := h.mine; have := h.lt; omega)]
  exact h.below.block k hk
theorem Hs.on {w W W' : World} {n g cap : Nat} {l : List Int} (h : Hs w W n g cap l) (b : Below W.heap.size W W') : Hs w W' n g cap l := by
  have := h.lt
  have := h.mine
  exact ⟨h.row.at (b.block g h.lt), h.mine, by have := b.size; omega, ⟨b.os.trans h.below.os, b.tape.trans h.below.tape, b.output.trans h.below.output, Nat.le_trans h.below.size b.size, fun k hk => (b.block k (by omega)).trans (h.below.block k hk)⟩⟩
section
variable {P : Program} {ops : Array Oper} {rest : List Oper} {o : Oper} {a : Act} {Q : Exit → Act → World → Prop}
theorem conv_hs {w : World} (e : Nat) (hgd : o.guard = none) (src dst : TypeId) (x : Operand) (ho : o.op = .convert src dst x) (s : ByteArray) (hx : a.eval x = .string s)
    (hs : P.underlying src = some .string) (ht : P.underlying dst = some (.slice e)) (he : P.underlying e = some (.int .u8))
    (h : ∀ g cap w1, Hs w w1 w.heap.size g cap (bytesOf s) → wpList P ops Q rest (a.put o.dst (.slice (some ⟨g, 0, none⟩) s.size cap)) w1) : wpList P ops Q (o :: rest) a w := by
  have hrun : (execOp a.eval o).run P w = .ok (.value (.slice (some ⟨w.heap.size, 0, none⟩) s.size (grownCap w s.size 0 e))) (Lib.bytesWorld w e s) := by
    simp [execOp, ho, hx, Lib.run_convert_string_bytes w src dst e s hs ht he]
  exact Kd.event_run hgd hrun (h _ _ _ ⟨Bm.conv w e s, Nat.le_refl _, by rw [Lib.bytesWorld_size]; omega, ⟨rfl, rfl, rfl, by rw [Lib.bytesWorld_size]; omega, fun i hi => Lib.bytesWorld_at_old w e s i (by omega)⟩⟩)
theorem Hs.after {w W w1 : World} {n g g' cap cap' : Nat} {l l' : List Int} (h : Hs w W n g cap l) (hb : Bm w1 g' cap' l') (hc : 0 < cap') (hg : W.grownBy w1 (some g)) (hat : g' = g ∨ W.heap.size ≤ g') : Hs w w1 n g' cap' l' := by
  have h1 := h.lt
  have h2 := h.mine
  refine ⟨hb, by rcases hat with rfl | h3 <;> omega, ?_, ⟨hg.os.trans h.below.os, hg.tape.trans h.below.tape, hg.output.trans h.below.output, Nat.le_trans h.below.size hg.size, fun k hk => ?_⟩⟩
  · obtain ⟨v, hv⟩ := Option.isSome_iff_exists.1 (hb.there 0 hc)
    exact World.block_lt_of_cell? w1 _ hv
  · rw [hg.block k (by omega) (by intro e; injection e with e; omega)]
    exact h.below.block k hk
theorem append1_hs {w W : World} {n g cap : Nat} {l : List Int} (t e : TypeId) (hgd : o.guard = none) (s x : Operand) (ho : o.op = .call { callee := .builtin .append, args := #[s, x], argTypes := #[t, t] })
    (ht : P.underlying t = some (.slice e)) (hinfo : (P.info? e).map (fun i => (i.zero, i.size, i.bytes)) = some (some (.int .u8 0), 1, 1)) (z : Int)
    (hs : a.eval s = .slice (some ⟨g, 0, none⟩) l.length cap) (hx : a.eval x = .slice (some ⟨W.heap.size, 0, none⟩) 1 1) (HB : Hs w W n g cap l) (hl : l.length + 1 ≤ 140737488355328)
    (h : ∀ g' cap' w1, Hs w w1 n g' cap' (l ++ [z]) → wpList P ops Q rest (a.put o.dst (.slice (some ⟨g', 0, none⟩) (l ++ [z]).length cap')) w1) :
    wpList P ops Q (o :: rest) a (W.alloc (.cells #[.int .u8 z] e)) := by
  have H2 := HB.alloc (.cells #[.int .u8 z] e)
  obtain ⟨g', cap', w1, hr, hb, hg, hat⟩ := run_append_bm (P := P) (W := W.alloc (.cells #[.int .u8 z] e)) t t o.type e ht (Or.inr ht) hinfo (.slice (some ⟨W.heap.size, 0, none⟩) 1 1) [z] (fun W' => by simp [Builtin.lenOf]) (fun W' hW => by
    have hc : W'.cell? ⟨W.heap.size, 0, none⟩ = some (.int .u8 z) := by
      unfold World.cell?
      rw [hW]
      simp [World.alloc, -World.alloc_eq]
    exact run_firstCells_some (P := P) W' 1 1 ⟨W.heap.size, 0, none⟩ 1 1 (nums .u8 [z]) (by simp [nums]) (fun j v hj => by
      cases j with
      | zero => rw [add0]; rw [hc]; simpa [nums] using hj
      | succ j => simp [nums] at hj)) H2.row (by simpa using hl)
  refine wpList_plain hgd fun K hK => ?_
  unfold Oper.wp execOp
  simp only [ho, resolve, invoke, builtin, Sem.run_bind, Sem.run_pure, Result.andThen_ok, List.map_toArray, List.map_cons, List.map_nil, hs, hx, hr]
  refine hK _ _ ?_
  have := h g' cap' w1 (H2.after hb (by have := hb.room; rw [List.length_append, List.length_singleton] at this; omega) hg hat)
  rwa [List.length_append] at this
theorem appendS_hs {w W : World} {n g cap : Nat} {l : List Int} (t u e : TypeId) (hgd : o.guard = none) (s x : Operand) (ho : o.op = .call { callee := .builtin .append, args := #[s, x], argTypes := #[t, u] })
    (ht : P.underlying t = some (.slice e)) (hu : P.underlying u = some .string) (hinfo : (P.info? e).map (fun i => (i.zero, i.size, i.bytes)) = some (some (.int .u8 0), 1, 1)) (y : ByteArray)
    (hs : a.eval s = .slice (some ⟨g, 0, none⟩) l.length cap) (hx : a.eval x = .string y) (hy : 0 < y.size) (HB : Hs w W n g cap l) (hl : l.length + y.size ≤ 140737488355328)
    (h : ∀ g' cap' w1, Hs w w1 n g' cap' (l ++ bytesOf y) → wpList P ops Q rest (a.put o.dst (.slice (some ⟨g', 0, none⟩) (l ++ bytesOf y).length cap')) w1) :
    wpList P ops Q (o :: rest) a W := by
  have hyl : (bytesOf y).length = y.size := bytesOf_length y
  obtain ⟨g', cap', w1, hr, hb, hg, hat⟩ := run_append_bm (P := P) (W := W) t u o.type e ht (Or.inl hu) hinfo (.string y) (bytesOf y) (fun W' => by simp [Builtin.lenOf, hyl]) (fun W' hW => by
    rw [hyl, Lib.run_firstCells_string (P := P) W' 1 y]
    congr 1
    simp [nums, bytesOf, Lib.strCells]) HB.row (by omega)
  refine wpList_plain hgd fun K hK => ?_
  unfold Oper.wp execOp
  simp only [ho, resolve, invoke, builtin, Sem.run_bind, Sem.run_pure, Result.andThen_ok, List.map_toArray, List.map_cons, List.map_nil, hs, hx, hr]
  refine hK _ _ ?_
  have := h g' cap' w1 (HB.after hb (by have := hb.room; rw [List.length_append] at this; omega) hg hat)
  rwa [List.length_append] at this
end
end Go.Proofs.YtlifdodphkimpaaDoorW.PrintWords
end

section
namespace Go.Proofs.YtlifdodphkimpaaDoorW.PrintWords
open Go.RowKit
section
variable {P : Program} {ops : Array Oper} {rest : List Oper} {o : Oper} {a : Act} {Q : Exit → Act → World → Prop}
theorem lit_at (w : World) (o : Obj) : (w.alloc o).heap[w.heap.size]? = some o := by simp [World.alloc, -World.alloc_eq]
theorem lit_old (w : World) (o : Obj) {k : Nat} (hk : k < w.heap.size) : (w.alloc o).heap[k]? = w.heap[k]? := by
  have : w.heap.size ≠ k := by omega
  simp [World.alloc, -World.alloc_eq, Array.getElem?_push, Ne.symm this]
theorem lit_size (w : World) (o : Obj) : (w.alloc o).heap.size = w.heap.size + 1 := by simp [World.alloc, -World.alloc_eq]
theorem lit_bm (w : World) (e : TypeId) (l : List Int) (p : Nat × Nat) (hp : l.length ≤ p.1) : Bm (w.alloc (.cells (nums .u8 l).toArray e p)) w.heap.size l.length l := by
  have hn : (nums .u8 l).length = l.length := nums_length _ _
  refine ⟨fun j hj => ?_, fun j hj => ?_, fun j hj => ?_, Nat.le_refl _⟩
  · unfold World.cell?
    rw [lit_at]
    simp [nums, List.getD, hj]
  · unfold World.cell?
    rw [lit_at]
    simp [nums, hj]
  · unfold World.frozen?
    rw [lit_at]
    obtain ⟨p1, p2⟩ := p
    simp
    intro h
    omega
theorem conv_lit {w : World} (t e : TypeId) {C : Array Value} {n : Nat} (hgd : o.guard = none) (x : Operand) (ho : o.op = .convert t t x)
    (ht : P.underlying t = some (.slice e)) (he : P.underlying e = some (.int .u8)) (hx : a.eval x = .slice (some ⟨w.heap.size, 0, none⟩) n n)
    (h : wpList P ops Q rest (a.put o.dst (.slice (some ⟨w.heap.size, 0, none⟩) n n)) (w.alloc (.cells C e (C.size, C.size + 1)))) : wpList P ops Q (o :: rest) a (w.alloc (.cells C e)) := by
  have hrun : (execOp a.eval o).run P (w.alloc (.cells C e)) = .ok (.value (.slice (some ⟨w.heap.size, 0, none⟩) n n)) (w.alloc (.cells C e (C.size, C.size + 1))) := by
    have h1 := Lib.run_convert_bytes_const (P := P) w t e C n n ht he
    simp only [execOp, ho, hx, Sem.run_bind, h1, Result.andThen_ok, Sem.run_pure]
  exact Kd.event_run hgd hrun h
theorem run_append_grow {W : World} {g cap : Nat} {l : List Int} (t u ty e : TypeId) (ht : P.underlying t = some (.slice e)) (hu : P.underlying u = some .string ∨ P.underlying u = some (.slice e)) (hinfo : (P.info? e).map (fun i => (i.zero, i.size, i.bytes)) = some (some (.int .u8 0), 1, 1))
    (x : Value) (ys : List Int) (hlen : ∀ W', (Builtin.lenOf x).run P W' = .ok ys.length W') (hf : ∀ W', W'.heap = W.heap → (Builtin.firstCells 1 ys.length x).run P W' = .ok (nums .u8 ys).toArray W')
    (HB : Bm W g cap l) (hroom : ¬ l.length + ys.length ≤ cap) (hl : l.length + ys.length ≤ 140737488355328) :
    (Builtin.append_ #[t, u] ty #[.slice (some ⟨g, 0, none⟩) l.length cap, x]).run P W = .ok (.slice (some ⟨W.heap.size, 0, none⟩) (l.length + ys.length) (grownCap W (l.length + ys.length) cap e))
        (W.drew.alloc (.cells ((nums .u8 l).toArray ++ (nums .u8 ys).toArray ++ Builtin.zeroCells #[.int .u8 0] (grownCap W (l.length + ys.length) cap e - (l.length + ys.length))) e)) := by
  obtain ⟨i, hi, hzz⟩ := Option.map_eq_some_iff.1 hinfo
  simp only [Prod.mk.injEq] at hzz
  obtain ⟨hz, hs1, hb1⟩ := hzz
  have hnl : (nums .u8 ys).length = ys.length := nums_length _ _
  have hnl2 : (nums .u8 l).length = l.length := nums_length _ _
  have h63' : ¬ (9223372036854775807 < ((l.length : Int) + (ys.length : Int))) := by omega
  have hrm := HB.room
  have hfit : Builtin.nextslicecap (l.length + ys.length) cap * i.bytes ≤ 281474976710656 := by rw [hb1]; exact growslice_fits (by omega) (by omega)
  have h48' : ¬ (281474976710656 < Builtin.nextslicecap (l.length + ys.length) cap * i.bytes) := by omega
  have hfo := run_firstCells_some (P := P) W.drew 1 l.length ⟨g, 0, none⟩ l.length cap (nums .u8 l) (by omega) (fun j v hj => by
    rw [add0]
    have hjl : j < l.length := by
      have := (List.getElem?_eq_some_iff.1 hj).1
      omega
    have := HB.cell j hjl
    simp only [nums, List.getElem?_map, List.getElem?_eq_getElem hjl, Option.map_some, Option.some.injEq] at hj
    subst hj
    simpa [List.getD, hjl] using this)
  have hfs := hf W.drew rfl
  rw [← hs1] at hfo hfs
  have hzc : (Value.int .u8 0).cells = #[.int .u8 0] := rfl
  rcases hu with hu | hu <;> simp [Builtin.append_, run_underlying ht, run_underlying hu, sizeOf, typeInfo, zeroValue, hi, hz, hlen, hroom, h63', h48', Question.forced, hfs, hfo, newRow, grownCap, hzc]
  all_goals (congr 2; apply Array.ext'; simp [List.append_assoc])
/-- append([]byte("lit"), z): a new row of the call's own. -/
theorem R_app_lit {W : World} (t e : TypeId) (l : List Int) (z : Int) (ys : List Int) (hys : ys = l ++ [z]) {C : Array Value} {p : Nat × Nat} {n : Nat} {A : Nat} (hgd : o.guard = none) (s x : Operand)
    (ho : o.op = .call { callee := .builtin .append, args := #[s, x], argTypes := #[t, t] })
    (ht : P.underlying t = some (.slice e)) (hinfo : (P.info? e).map (fun i => (i.zero, i.size, i.bytes)) = some (some (.int .u8 0), 1, 1))
    (hC : C = (nums .u8 l).toArray) (hn : n = l.length) (hp : l.length ≤ p.1) (hA : A = W.heap.size + 1) (hl : l.length + 1 ≤ 140737488355328)
    (hs : a.eval s = .slice (some ⟨W.heap.size, 0, none⟩) n n) (hx : a.eval x = .slice (some ⟨A, 0, none⟩) 1 1)
    (h : ∀ v1 w1, (Kd.int .u8).R e w1 W.heap.size (fun _ => True) v1 ys → Below W.heap.size W w1 → W.grownBy w1 none → (∃ b, v1.ownBlock = some b ∧ W.heap.size ≤ b) → wpList P ops Q rest (a.put o.dst v1) w1) :
    wpList P ops Q (o :: rest) a ((W.alloc (.cells C e p)).alloc (.cells #[.int .u8 z] e)) := by
  subst hC hn hA hys
  obtain ⟨W1, hW1⟩ : ∃ W1, W1 = W.alloc (.cells (nums .u8 l).toArray e p) := ⟨_, rfl⟩
  have z1 : W1.heap.size = W.heap.size + 1 := by rw [hW1, lit_size]
  have hb := lit_bm W e l p hp
  rw [← hW1] at hb
  have hb2 : Bm (W1.alloc (.cells #[.int .u8 z] e)) W.heap.size l.length l := hb.at (lit_old W1 _ (by omega))
  have hr := run_append_grow (P := P) (W := W1.alloc (.cells #[.int .u8 z] e)) t t o.type e ht (Or.inr ht) hinfo (.slice (some ⟨W1.heap.size, 0, none⟩) 1 1) [z] (fun W' => by simp [Builtin.lenOf]) (fun W' hW => by
    have hc : W'.cell? ⟨W1.heap.size, 0, none⟩ = some (.int .u8 z) := by
      unfold World.cell?
      rw [hW, lit_at]
      simp
    exact run_firstCells_some (P := P) W' 1 1 ⟨W1.heap.size, 0, none⟩ 1 1 (nums .u8 [z]) (by simp [nums]) (fun j v hj => by
      cases j with
      | zero => rw [add0]; rw [hc]; simpa [nums] using hj
      | succ j => simp [nums] at hj)) hb2 (by simp) (by simpa using hl)
  rw [z1] at hr
  rw [← hW1]
  refine wpList_plain hgd fun K hK => ?_
  unfold Oper.wp execOp
  simp only [ho, resolve, invoke, builtin, Sem.run_bind, Sem.run_pure, Result.andThen_ok, List.map_toArray, List.map_cons, List.map_nil, hs, hx, hr]
  refine hK _ _ ?_
  have hz2 : (W1.alloc (.cells #[.int .u8 z] e)).heap.size = W.heap.size + 2 := by rw [lit_size, z1]
  obtain ⟨W2, hW2⟩ : ∃ W2, W2 = W1.alloc (.cells #[.int .u8 z] e) := ⟨_, rfl⟩
  rw [← hW2] at hz2 ⊢
  obtain ⟨cp, hcp⟩ : ∃ cp, cp = grownCap W2 (l.length + [z].length) l.length e := ⟨_, rfl⟩
  rw [← hcp]
  have hge : l.length + 1 ≤ cp := by rw [hcp]; exact grownCap_ge _ _ _ _
  have hle : cp ≤ maxLen := by rw [hcp]; exact grownCap_le_maxLen _ _ _ _ (by simp [maxLen]; omega)
  have hd : W2.drew.heap.size = W2.heap.size := rfl
  have hold : ∀ k, k < W.heap.size → ∀ c : Obj, (W2.drew.alloc c).heap[k]? = W.heap[k]? := fun k hk c => by
    rw [lit_old W2.drew c (by omega)]
    show W2.heap[k]? = _
    rw [hW2, lit_old W1 _ (by omega), hW1, lit_old W _ hk]
  have hsz : ∀ c : Obj, (W2.drew.alloc c).heap.size = W.heap.size + 3 := fun c => by rw [lit_size, hd, hz2]
  have e1 : W2.os = W.os := by rw [hW2, hW1]; rfl
  have e2 : W2.tape = W.tape := by rw [hW2, hW1]; rfl
  have e3 : W2.output = W.output := by rw [hW2, hW1]; rfl
  refine h _ _ ?_ ⟨e1, e2, e3, by rw [hsz]; omega, fun k hk => hold k hk _⟩ ⟨e1, e2, e3, by rw [hsz]; omega, fun k hk _ => hold k hk _⟩ ⟨W2.heap.size, rfl, by omega⟩
  refine Kd.R_of_own (h1 := fun _ => rfl) ⟨?_, Or.inr ⟨W2.heap.size, cp, _, ?_, by omega, (lit_at W2.drew _), ?_, hle, ?_, ?_⟩⟩ (fun _ _ => trivial)
  · simp [encs]
  · rw [List.length_append]
  · rw [List.length_append]; exact hge
  · simp [Builtin.zeroCells, nums]; omega
  · rw [show (l ++ [z]).length * 1 = (nums .u8 l ++ nums .u8 [z]).length by simp [nums], Array.toList_append, Array.toList_append]
    show List.take _ ((nums .u8 l ++ nums .u8 [z]) ++ _) = _
    rw [List.take_left]
    simp [encs, nums]
end
end Go.Proofs.YtlifdodphkimpaaDoorW.PrintWords
end

section
namespace Go.Proofs.YtlifdodphkimpaaDoorW.PrintWords
open Go Go.RowKit Go.ChangeMaps Go.MapKept Go.ChangeShapes Go.Maps
open Go.WideElems (Fit rd rg pl rd_val entry_then_store findIdx_born findIdx_arr)
open Go.WideMaps (KeyLaw)
section
variable {H : Type} {P : Program} {w w' : World} {t k E e : TypeId} {q : IntKind} {base b n : Nat} {D : DataW H} {es : Array MapEntry} {clock : Nat}
theorem key_one {R : Value → Option (DataW H × List MemPlace)} (F : Fit P k R es clock) {x y : MapEntry} (hx : x ∈ es.toList) (hy : y ∈ es.toList) (h : x.key = y.key) : x = y := by
  have h3 := F.stamped.2.2
  obtain ⟨i, hi, rfl⟩ := List.mem_iff_getElem.1 hx
  obtain ⟨j, hj, rfl⟩ := List.mem_iff_getElem.1 hy
  have := (List.getElem_inj (h₀ := by simpa using hi) (h₁ := by simpa using hj) h3).1 (by simpa using h)
  subst this
  rfl
theorem key_at {R : Value → Option (DataW H × List MemPlace)} (F : Fit P k R es clock) {i j : Nat} {x y : MapEntry} (hx : es.toList[i]? = some x) (hy : es.toList[j]? = some y) (h : x.key = y.key) : i = j := by
  have h3 := F.stamped.2.2
  obtain ⟨hi, rfl⟩ := List.getElem?_eq_some_iff.1 hx
  obtain ⟨hj, rfl⟩ := List.getElem?_eq_some_iff.1 hy
  exact (List.getElem_inj (h₀ := by simpa using hi) (h₁ := by simpa using hj) h3).1 (by simpa using h)
theorem update_same {R : Value → Option (DataW H × List MemPlace)} (K : KeyLaw P k) (ht : P.underlying t = some (.map k E)) (hb : w.heap[b]? = some (.map es clock)) (hb' : w'.heap[b]? = some (.map es clock)) (F : Fit P k R es clock)
    {key : Value} {kl : Lit} (hkey : keyOf P k key = some kl) (val : Value) : ∃ es' clock', (Instr.mapUpdate t (.map (some b)) key val).run P w = .ok () (setBlock w b (.map es' clock')) ∧ (Instr.mapUpdate t (.map (some b)) key val).run P w' = .ok () (setBlock w' b (.map es' clock')) := by
  rcases K.find w hkey es.toList F.keys with ⟨h1, h2⟩ | ⟨j, e0, h1, h2, h3⟩ <;> rcases K.find w' hkey es.toList F.keys with ⟨h1', h2'⟩ | ⟨j', e0', h1', h2', h3'⟩
  · refine ⟨es.push ⟨key, val, clock⟩, clock + 1, ?_, ?_⟩
    · simp [Instr.mapUpdate, run_underlying ht, MapKept.run_getObj_map hb, K.check w false hkey, h1, MapKept.run_setObj_map _ hb, Result.andThen, setBlock]
    · simp [Instr.mapUpdate, run_underlying ht, MapKept.run_getObj_map hb', K.check w' false hkey, h1', MapKept.run_setObj_map _ hb', Result.andThen, setBlock]
  · exact absurd h3' (h2 e0' (List.mem_of_getElem? h2'))
  · exact absurd h3 (h2' e0 (List.mem_of_getElem? h2))
  · obtain rfl := key_at F h2 h2' (h3.trans h3'.symm)
    have hj : es[j]? = some e0 := by simpa using h2
    have hj' : es[j]? = some e0' := by simpa using h2'
    refine ⟨es.modify j (fun e' => { e' with key := key, val := val }), clock, ?_, ?_⟩
    · simp [Instr.mapUpdate, run_underlying ht, MapKept.run_getObj_map hb, K.check w false hkey, h1, hj, h3, K.stays w hkey, MapKept.run_setObj_map _ hb, Result.andThen, setBlock]
    · simp [Instr.mapUpdate, run_underlying ht, MapKept.run_getObj_map hb', K.check w' false hkey, h1', hj', h3', K.stays w' hkey, MapKept.run_setObj_map _ hb', Result.andThen, setBlock]
theorem set_set (W : World) (b : Nat) (o o' : Obj) : setBlock (setBlock W b o) b o' = setBlock W b o' := by simp [setBlock]
theorem set_inj {W : World} (hb : W.heap[b]? = some (.map es clock)) {x y : Array MapEntry} {c d : Nat} (h : setBlock W b (.map x c) = setBlock W b (.map y d)) : x = y ∧ c = d := by
  have h1 := heap_setBlock_same hb (.map x c)
  rw [h, heap_setBlock_same hb (.map y d)] at h1
  injection h1 with h1
  injection h1 with h1 h2
  exact ⟨h1.symm, h2.symm⟩
/-- The entry, and whatever comes between it and its store. -/
theorem entry_groups (K : KeyLaw P k) (ht : P.underlying t = some (.map k E)) (hz : ∀ u : World, (zeroValue E).run P u = .ok (.slice none 0 0) u) (hown : w.ownsGroups P k base e q b n D) (hn : n < maxLen)
    {key : Value} {kl : Lit} (hkey : keyOf P k key = some kl) :
    ∃ (v : Value) (zs : List Int) (st : Nat) (wE : World), (Instr.mapEntry t (.map (some b)) key).run P w = .ok (.tuple #[v, goInt st]) wE ∧ w.grownBy wE (some b) ∧ D.atKey kl .nil = rowDatum q v zs ∧ w.ownsInts base e q v zs ∧ wE.ownsInts base e q v zs ∧ zs.length ≤ n ∧ wE.heap.size = w.heap.size ∧
      ∀ (w1 : World) (v' : Value) (zs' : List Int), wE.grownBy w1 v.ownBlock → w1.ownsInts base e q v' zs' → zs'.length ≤ n + 1 → (v'.ownBlock = v.ownBlock ∨ ∃ g, v'.ownBlock = some g ∧ w.heap.size ≤ g) →
        ∃ w2, (Instr.entryStore t (.map (some b)) (goInt st) v').run P w1 = .ok () w2 ∧ w2.ownsGroups P k base e q b (n + 1) (D.put kl (rowDatum q v' zs')) ∧ w1.grownBy w2 (some b) := by
  obtain ⟨v, zs, hlook, hat, hoi, hzl, hback⟩ := hown.at (Keyed.of_law K) ht (hz w) hn hkey
  obtain ⟨es, clock, hb, F, hs, hD, hbb, hlen, hap⟩ := hown
  obtain ⟨v0, st, es1, clock1, hE, hcase, hS⟩ := entry_then_store (w := w) K ht hz hb F hkey
  have hv : v0 = v := by
    rcases Maps.fit_look false (Keyed.of_law K) ht (hz w) hb F hkey with ⟨hrun, hno, _⟩ | ⟨e1, y, hm1, hk1, hrun, _, _, _⟩
    · rw [hlook] at hrun
      have e2 : v = .slice none 0 0 := by injection hrun
      rcases hcase with ⟨e0, hm0, hk0, _⟩ | ⟨_, h0⟩
      · exact absurd hk0 (hno e0 hm0)
      · rw [h0, e2]
    · rw [hlook] at hrun
      have e2 : v = e1.val := by injection hrun
      rcases hcase with ⟨e0, hm0, hk0, h0⟩ | ⟨hno, _⟩
      · rw [h0, e2, key_one F hm0 hm1 (hk0.trans hk1.symm)]
      · exact absurd hk1 (hno e1 hm1)
  subst hv
  have hgE : w.grownBy (setBlock w b (.map es1 clock1)) (some b) := ⟨rfl, rfl, rfl, by simp [setBlock], fun i _ hi => heap_setBlock_other hb _ (fun e1 => hi (by rw [e1]))⟩
  have hsE : (setBlock w b (.map es1 clock1)).heap.size = w.heap.size := by simp [setBlock]
  have hvb : v0.ownBlock = none ∨ v0.ownBlock ≠ some b := by
    cases hu : v0.ownBlock with
    | none => exact Or.inl rfl
    | some g =>
      refine Or.inr (fun e1 => ?_)
      have := (hoi.1.lt g hu).1
      cases e1
      omega
  have hbE := heap_setBlock_same hb (.map es1 clock1)
  have hblt : b < w.heap.size := (Array.getElem?_eq_some_iff.1 hb).1
  refine ⟨v0, zs, st, _, hE, hgE, hat, hoi, hoi.kept hgE hvb, hzl, hsE, fun w1 v' zs' hg hown' hl' hloc => ?_⟩
  have hb1 : w1.heap[b]? = some (.map es1 clock1) := (hg.block b (by rw [hsE]; exact hblt) (fun e1 => Or.elim hvb (fun h => by rw [h] at e1; cases e1) (fun h => h e1.symm))).trans hbE
  -- the world with the elder map put back
  obtain ⟨wR, hwR⟩ : ∃ wR, wR = setBlock w1 b (.map es clock) := ⟨_, rfl⟩
  have hbR : wR.heap[b]? = some (.map es clock) := by rw [hwR]; exact heap_setBlock_same hb1 _
  have hg1R : w1.grownBy wR (some b) := by rw [hwR]; exact ⟨rfl, rfl, rfl, by simp [setBlock], fun i _ hi => heap_setBlock_other hb1 _ (fun e1 => hi (by rw [e1]))⟩
  have hgR : w.grownBy wR v0.ownBlock := by
    refine ⟨hg1R.os.trans (hg.os.trans hgE.os), hg1R.tape.trans (hg.tape.trans hgE.tape), hg1R.output.trans (hg.output.trans hgE.output), ?_, fun i hi hne => ?_⟩
    · have h1 := hg.size
      have h2 := hg1R.size
      omega
    · by_cases hib : i = b
      · subst hib
        rw [hbR, hb]
      · rw [hg1R.block i (by have := hg.size; omega) (fun e1 => hib (by cases e1; rfl)), hg.block i (by omega) hne]
        exact heap_setBlock_other hb _ hib
  have hv'b : v'.ownBlock = none ∨ v'.ownBlock ≠ some b := by
    cases hu : v'.ownBlock with
    | none => exact Or.inl rfl
    | some g =>
      refine Or.inr (fun e1 => ?_)
      have := (hown'.1.lt g hu).1
      cases e1
      omega
  obtain ⟨w2R, hrunR, hownR, hg2R⟩ := hback wR v' zs' hgR (hown'.kept hg1R hv'b) hl' hloc
  obtain ⟨es', clock', hst, hupd⟩ := hS w1 v' hb1
  obtain ⟨es2, clock2, u1, u2⟩ := update_same (w := w) (w' := wR) K ht hb hbR F hkey v'
  rw [hupd] at u1
  injection u1 with _ u1
  obtain ⟨rfl, rfl⟩ := set_inj hb u1
  rw [hrunR] at u2
  injection u2 with _ u2
  have e2 : w2R = setBlock w1 b (.map es' clock') := by rw [u2, hwR, set_set]
  refine ⟨_, hst, by rw [← e2]; exact hownR, ⟨rfl, rfl, rfl, by simp [setBlock], fun i _ hi => heap_setBlock_other hb1 _ (fun e1 => hi (by rw [e1]))⟩⟩
end
end Go.Proofs.YtlifdodphkimpaaDoorW.PrintWords
end

section
namespace Go.Proofs.YtlifdodphkimpaaDoor.B
open Go.RowKit Go.Proofs.YtlifdodphkimpaaDoorW.PrintWords Go.Proofs.YtlifdodphkimpaaDoorW.PrintLast Go.Proofs.YtlifdodphkimpaaDoorW.PrintMore
attribute [local go_sem] max2_int min2_int max_two min_two max_three min_three max_four min_four
end Go.Proofs.YtlifdodphkimpaaDoor.B
end

section
namespace Go.Proofs.YtlifdodphkimpaaDoorW.PrintWords
open Go.RowKit
theorem wrap_id {x : Int} (h0 : -9223372036854775808 ≤ x) (h1 : x ≤ 9223372036854775807) : wrap64 x = x := by unfold wrap64; omega
theorem wf8 {x : Int} (h : (Lit.int .u8 x).wf = true) : 0 ≤ x ∧ x ≤ 255 := by
  simp [Lit.wf, IntKind.min, IntKind.max, IntKind.signed, IntKind.bits] at h
  omega
def inB (n low high : Int) : Bool := decide (low ≤ n ∧ n ≤ high)
theorem strOf_size (l : List Int) : (strOfNums l).size = l.length := by
  show (strOfNums l).data.size = _
  simp [strOfNums]
end Go.Proofs.YtlifdodphkimpaaDoorW.PrintWords
end

section
namespace Go.Proofs.YtlifdodphkimpaaDoor.B
open Go.RowKit Go.Proofs.YtlifdodphkimpaaDoorW.PrintWords
def turnF (x n : Int) : Int := Go.bits .or .u32 (shr .u32 x n) (shl .u32 x (32 - n))
theorem u64_small (n : Int) (h0 : 0 ≤ n) (h1 : n < 18446744073709551616) : IntKind.u64.wrap n = n := by
  unfold IntKind.wrap
  simp [IntKind.bits, IntKind.signed]
  omega
theorem turn_v (x n : Int) (h0 : 0 ≤ n) (h1 : n ≤ 32) : spec_l01Turn.v x n = some (turnF x n) := by
  rw [spec_l01Turn.v_eq, if_pos h0, u64_small (32 - n) (by omega) (by omega), if_pos (by omega)]
  rfl
theorem block_l3 (v : List Int) (hv : v.length = 8) : ∀ (k i : Nat) (h : List Int), 8 - i = k → i ≤ 8 → h.length = 8 → ∃ r, spec_l01Block.lv3 h v i = some r ∧ r.length = 8
  | 0, i, h, hk, hi, hh => by
    rw [spec_l01Block.lv3_eq, if_neg (by omega)]
    exact ⟨h, rfl, hh⟩
  | k + 1, i, h, hk, hi, hh => by
    obtain ⟨r, e, hr⟩ := block_l3 v hv k (i + 1) (h.set (i : Int).toNat (((rd h i) + (rd v i)) % 4294967296)) (by omega) (by omega) (by rw [List.length_set]; exact hh)
    have w : wrap64 ((i : Int) + 1) = ((i + 1 : Nat) : Int) := by rw [wrap_id (by omega) (by omega)]; omega
    rw [spec_l01Block.lv3_eq, w, e]
    clear w
    rw [if_pos (by omega), if_pos (by omega), if_pos (by omega), if_pos (by omega)]
    exact ⟨r, rfl, hr⟩
theorem block_l2 (h ks ws : List Int) (hh : h.length = 8) (hk : ks.length = 64) (hw : ws.length = 64) : ∀ (k i : Nat) (v : List Int), 64 - i = k → i ≤ 64 → v.length = 8 → ∃ r, spec_l01Block.lv2 h ks ws v i = some r ∧ r.length = 8
  | 0, i, v, hi0, hi, hv => by
    rw [spec_l01Block.lv2_eq, if_neg (by omega)]
    exact block_l3 v hv 8 0 h rfl (by omega) hh
  | k + 1, i, v, hi0, hi, hv => by
    have ih := fun v' => block_l2 h ks ws hh hk hw k (i + 1) v' (by omega) (by omega)
    have w : wrap64 ((i : Int) + 1) = ((i + 1 : Nat) : Int) := by rw [wrap_id (by omega) (by omega)]; omega
    rw [spec_l01Block.lv2_eq, w]
    clear w
    have c1 : (i : Int) < 64 := by omega
    have c2 : (4 : Int) < (v.length : Int) := by omega
    have c3 : (0 : Int) < (v.length : Int) := by omega
    have c4 : (7 : Int) < (v.length : Int) := by omega
    have c5 : (5 : Int) < (v.length : Int) := by omega
    have c6 : (6 : Int) < (v.length : Int) := by omega
    have c7 : (0 : Int) ≤ (i : Int) := by omega
    have c8 : (i : Int) < (ks.length : Int) := by omega
    have c9 : (i : Int) < (ws.length : Int) := by omega
    have d1 : (1 : Int) < (v.length : Int) := by omega
    have d2 : (2 : Int) < (v.length : Int) := by omega
    have d3 : (3 : Int) < (v.length : Int) := by omega
    have t1 : ∀ x, spec_l01Turn.v x 6 = some (turnF x 6) := fun x => turn_v x 6 (by omega) (by omega)
    have t2 : ∀ x, spec_l01Turn.v x 11 = some (turnF x 11) := fun x => turn_v x 11 (by omega) (by omega)
    have t3 : ∀ x, spec_l01Turn.v x 25 = some (turnF x 25) := fun x => turn_v x 25 (by omega) (by omega)
    have t4 : ∀ x, spec_l01Turn.v x 2 = some (turnF x 2) := fun x => turn_v x 2 (by omega) (by omega)
    have t5 : ∀ x, spec_l01Turn.v x 13 = some (turnF x 13) := fun x => turn_v x 13 (by omega) (by omega)
    have t6 : ∀ x, spec_l01Turn.v x 22 = some (turnF x 22) := fun x => turn_v x 22 (by omega) (by omega)
    simp only [if_pos c1, if_pos c2, if_pos c3, if_pos c4, if_pos c5, if_pos c6, if_pos c7, if_pos c8, if_pos c9, if_pos d1, if_pos d2, if_pos d3, t1, t2, t3, t4, t5, t6, Option.bind_some]
    exact ih _ rfl
theorem block_l1 (h ks : List Int) (hh : h.length = 8) (hk : ks.length = 64) : ∀ (k i : Nat) (ws : List Int), 64 - i = k → 16 ≤ i → i ≤ 64 → ws.length = 64 → ∃ r, spec_l01Block.lv1 h ks ws i = some r ∧ r.length = 8
  | 0, i, ws, hi0, h16, hi, hw => by
    rw [spec_l01Block.lv1_eq, if_neg (by omega), Option.bind_some, if_pos (by simp; omega)]
    exact block_l2 h ks ws hh hk hw 64 0 _ rfl (by omega) (by simpa using hh)
  | k + 1, i, ws, hi0, h16, hi, hw => by
    have ih := fun ws' => block_l1 h ks hh hk k (i + 1) ws' (by omega) (by omega) (by omega)
    have c1 : (i : Int) < 64 := by omega
    have c2 : (0 : Int) ≤ (i : Int) - 15 := by omega
    have c3 : (i : Int) - 15 < (ws.length : Int) := by omega
    have c4 : (0 : Int) ≤ (i : Int) - 2 := by omega
    have c5 : (i : Int) - 2 < (ws.length : Int) := by omega
    have c6 : (0 : Int) ≤ (i : Int) - 16 := by omega
    have c7 : (i : Int) - 16 < (ws.length : Int) := by omega
    have c8 : (0 : Int) ≤ (i : Int) - 7 := by omega
    have c9 : (i : Int) - 7 < (ws.length : Int) := by omega
    have d1 : (0 : Int) ≤ (i : Int) := by omega
    have d2 : (i : Int) < (ws.length : Int) := by omega
    have t1 : ∀ x, spec_l01Turn.v x 7 = some (turnF x 7) := fun x => turn_v x 7 (by omega) (by omega)
    have t2 : ∀ x, spec_l01Turn.v x 18 = some (turnF x 18) := fun x => turn_v x 18 (by omega) (by omega)
    have t3 : ∀ x, spec_l01Turn.v x 17 = some (turnF x 17) := fun x => turn_v x 17 (by omega) (by omega)
    have t4 : ∀ x, spec_l01Turn.v x 19 = some (turnF x 19) := fun x => turn_v x 19 (by omega) (by omega)
    have w : wrap64 ((i : Int) + 1) = ((i + 1 : Nat) : Int) := by rw [wrap_id (by omega) (by omega)]; omega
    have w1 : wrap64 ((i : Int) - 15) = (i : Int) - 15 := wrap_id (by omega) (by omega)
    have w2 : wrap64 ((i : Int) - 2) = (i : Int) - 2 := wrap_id (by omega) (by omega)
    have w3 : wrap64 ((i : Int) - 16) = (i : Int) - 16 := wrap_id (by omega) (by omega)
    have w4 : wrap64 ((i : Int) - 7) = (i : Int) - 7 := wrap_id (by omega) (by omega)
    rw [spec_l01Block.lv1_eq]
    simp only [w, w1, w2, w3, w4, if_pos c1, if_pos c2, if_pos c3, if_pos c4, if_pos c5, if_pos c6, if_pos c7, if_pos c8, if_pos c9, if_pos d1, if_pos d2, t1, t2, t3, t4, Option.bind_some]
    clear w w1 w2 w3 w4
    exact ih _ (by rw [List.length_set]; exact hw)
theorem block_l0 (h b ks : List Int) (hh : h.length = 8) (hb : b.length = 64) (hk : ks.length = 64) : ∀ (k i : Nat) (ws : List Int), 16 - i = k → i ≤ 16 → ws.length = 64 → ∃ r, spec_l01Block.lv0 h b ks ws i = some r ∧ r.length = 8
  | 0, i, ws, hi0, hi, hw => by
    rw [spec_l01Block.lv0_eq, if_neg (by omega)]
    exact block_l1 h ks hh hk 48 16 ws rfl (by omega) (by omega) hw
  | k + 1, i, ws, hi0, hi, hw => by
    have ih := fun ws' => block_l0 h b ks hh hb hk k (i + 1) ws' (by omega) (by omega)
    have c1 : (i : Int) < 16 := by omega
    have c2 : (0 : Int) ≤ 4 * (i : Int) := by omega
    have c3 : 4 * (i : Int) < (b.length : Int) := by omega
    have c4 : (0 : Int) ≤ 4 * (i : Int) + 1 := by omega
    have c5 : 4 * (i : Int) + 1 < (b.length : Int) := by omega
    have c6 : (0 : Int) ≤ 4 * (i : Int) + 2 := by omega
    have c7 : 4 * (i : Int) + 2 < (b.length : Int) := by omega
    have c8 : (0 : Int) ≤ 4 * (i : Int) + 3 := by omega
    have c9 : 4 * (i : Int) + 3 < (b.length : Int) := by omega
    have d1 : (0 : Int) ≤ (i : Int) := by omega
    have d2 : (i : Int) < (ws.length : Int) := by omega
    have w : wrap64 ((i : Int) + 1) = ((i + 1 : Nat) : Int) := by rw [wrap_id (by omega) (by omega)]; omega
    have w0 : wrap64 (4 * (i : Int)) = 4 * (i : Int) := wrap_id (by omega) (by omega)
    have w1 : wrap64 (4 * (i : Int) + 1) = 4 * (i : Int) + 1 := wrap_id (by omega) (by omega)
    have w2 : wrap64 (4 * (i : Int) + 2) = 4 * (i : Int) + 2 := wrap_id (by omega) (by omega)
    have w3 : wrap64 (4 * (i : Int) + 3) = 4 * (i : Int) + 3 := wrap_id (by omega) (by omega)
    rw [spec_l01Block.lv0_eq]
    simp only [w, w0, w1, w2, w3, if_pos c1, if_pos c2, if_pos c3, if_pos c4, if_pos c5, if_pos c6, if_pos c7, if_pos c8, if_pos c9, if_pos d1, if_pos d2]
    clear w w0 w1 w2 w3
    exact ih _ (by rw [List.length_set]; exact hw)
theorem block_v (h b ks : List Int) (hh : h.length = 8) (hb : b.length = 64) (hk : ks.length = 64) : ∃ r, spec_l01Block.v h b ks = some r ∧ r.length = 8 := by
  rw [spec_l01Block.v_eq, if_pos ⟨hh, hb, hk⟩, if_pos (by omega)]
  exact block_l0 h b ks hh hb hk 16 0 _ rfl (by omega) (by simp)
theorem hash_l3 (h : List Int) (hh : h.length = 8) : ∀ (k i : Nat) (out : List Int), 8 - i = k → i ≤ 8 → out.length = 4 * i → ∃ t, spec_l01Hash.lv3 h out i = some t ∧ t.size = 32
  | 0, i, out, hi0, hi, ho => by
    rw [spec_l01Hash.lv3_eq, if_neg (by omega)]
    exact ⟨_, rfl, by rw [strOf_size]; omega⟩
  | k + 1, i, out, hi0, hi, ho => by
    have ih := fun out' => hash_l3 h hh k (i + 1) out' (by omega) (by omega)
    have w : wrap64 ((i : Int) + 1) = ((i + 1 : Nat) : Int) := by rw [wrap_id (by omega) (by omega)]; omega
    rw [spec_l01Hash.lv3_eq, w]
    clear w
    rw [if_pos (by omega), if_pos (by omega), if_pos (by omega), Option.bind_some, if_pos (by simp; omega)]
    exact ih _ (by simp; omega)
theorem hash_l2 (all ks : List Int) (hk : ks.length = 64) (n : Nat) (ha : all.length = 64 * n) (hn : n ≤ 1000000) : ∀ (k i : Nat) (h : List Int), n - i = k → i ≤ n → h.length = 8 → ∃ t, spec_l01Hash.lv2 h all ks ((64 * i : Nat) : Int) = some t ∧ t.size = 32
  | 0, i, h, hi0, hi, hh => by
    rw [spec_l01Hash.lv2_eq, if_neg (by omega)]
    exact hash_l3 h hh 8 0 [] rfl (by omega) rfl
  | k + 1, i, h, hi0, hi, hh => by
    have ih := fun h' => hash_l2 all ks hk n ha hn k (i + 1) h' (by omega) (by omega)
    obtain ⟨r, e, hr⟩ := block_v h ((all.take (64 * (i + 1))).drop (64 * i)) ks hh (by rw [List.length_drop, List.length_take]; omega) hk
    have w : wrap64 (((64 * i : Nat) : Int) + 64) = ((64 * (i + 1) : Nat) : Int) := by rw [wrap_id (by omega) (by omega)]; omega
    rw [spec_l01Hash.lv2_eq, w]
    clear w
    simp only [Int.toNat_natCast]
    rw [if_pos (by omega), if_pos (by omega), if_pos (by omega), if_pos (by omega), e, Option.bind_some]
    exact ih _ hr
theorem hash_l1 (x h : List Int) (hh : h.length = 8) : ∀ (k : Nat) (all : List Int), k ≤ 8 → all.length + k ≤ 60000000 → (all.length + k) % 64 = 0 → ∃ t, spec_l01Hash.lv1 x h all ((k : Int) - 1) = some t ∧ t.size = 32
  | 0, all, hk, ha, hm => by
    rw [spec_l01Hash.lv1_eq, if_neg (by omega), spec_l01Consts.v_eq, Option.bind_some]
    exact hash_l2 all _ rfl (all.length / 64) (by omega) (by omega) (all.length / 64) 0 h rfl (by omega) hh
  | k + 1, all, hk, ha, hm => by
    have ih := fun a => hash_l1 x h hh k (all ++ [a]) (by omega) (by simp; omega) (by simp; omega)
    have e : (((k + 1 : Nat) : Int) - 1) = (k : Int) := by omega
    have c1 : (k : Int) ≥ 0 := by omega
    have c2 : all.length < 140737488355328 := by omega
    have w : wrap64 ((k : Int) - 1) = (k : Int) - 1 := wrap_id (by omega) (by omega)
    have w1 : IntKind.u64.wrap (wrap64 (8 * (k : Int))) = 8 * (k : Int) := by
      rw [show wrap64 (8 * (k : Int)) = 8 * (k : Int) from wrap_id (by omega) (by omega), u64_small _ (by omega) (by omega)]
    have c3 : (0 : Int) ≤ 8 * (k : Int) := by clear w w1; omega
    rw [e, spec_l01Hash.lv1_eq, w, w1]
    clear w w1
    rw [if_pos c1, if_pos c3, if_pos c2]
    exact ih _
theorem hash_l0 (x h : List Int) (hh : h.length = 8) : ∀ (k : Nat) (all : List Int), (all.length + k) % 64 = 56 → k ≤ 64 → all.length + k ≤ 50000000 → ∃ t, spec_l01Hash.lv0 x h all = some t ∧ t.size = 32
  | 0, all, hm, hk, ha => by
    rw [spec_l01Hash.lv0_eq, if_pos (by omega)]
    exact hash_l1 x h hh 8 all (by omega) (by omega) (by omega)
  | k + 1, all, hm, hk, ha => by
    rw [spec_l01Hash.lv0_eq]
    by_cases c : ((all.length : Int) % 64) = 56
    · rw [if_pos c]
      exact hash_l1 x h hh 8 all (by omega) (by omega) (by omega)
    · rw [if_neg c, if_pos (by omega)]
      exact hash_l0 x h hh k (all ++ [0]) (by simp; omega) (by omega) (by simp; omega)
theorem hash_v (x : List Int) (hx : x.length ≤ 40000000) : ∃ t, spec_l01Hash.v x = some t ∧ t.size = 32 := by
  rw [spec_l01Hash.v_eq, Option.bind_some, if_pos (by simp; omega), Option.bind_some, if_pos (by simp; omega)]
  refine hash_l0 x _ rfl ((56 + 64 - (x.length + 1) % 64) % 64) _ ?_ (by omega) ?_
  · simp; omega
  · simp; omega
def byteL (l : List Int) : Prop := ∀ y ∈ l, 0 ≤ y ∧ y ≤ 255
theorem byteL_nil : byteL [] := fun y h => by cases h
theorem byteL_cons {a : Int} {l : List Int} (h0 : 0 ≤ a) (h1 : a ≤ 255) (h : byteL l) : byteL (a :: l) := by
  intro y hy
  rcases List.mem_cons.1 hy with rfl | hy
  · exact ⟨h0, h1⟩
  · exact h y hy
theorem byteL_append {a b : List Int} (ha : byteL a) (hb : byteL b) : byteL (a ++ b) := by
  intro y hy
  rcases List.mem_append.1 hy with hy | hy
  · exact ha y hy
  · exact hb y hy
theorem bytes_str (l : List Int) (h : byteL l) : bytesOf (strOfNums l) = l := by
  unfold bytesOf
  rw [strOfNums_data, List.map_map]
  conv => rhs; rw [← List.map_id l]
  apply List.map_congr_left
  intro y hy
  have := h y hy
  simp only [Function.comp, id]
  rw [UInt8.toNat_ofNat']
  omega
theorem bytes_append (a b : ByteArray) : bytesOf (a ++ b) = bytesOf a ++ bytesOf b := by
  unfold bytesOf
  rw [ByteArray.data_append, Array.toList_append, List.map_append]
/-- n in k bytes, the high one first. -/
def beL (n : Int) : Nat → List Int
  | 0 => []
  | k + 1 => beL (n / 256) k ++ [n % 256]
theorem beL_len (n : Int) (k : Nat) : (beL n k).length = k := by
  induction k generalizing n with
  | zero => rfl
  | succ k ih => simp [beL, ih]
theorem byteL_be (n : Int) (k : Nat) : byteL (beL n k) := by
  induction k generalizing n with
  | zero => exact byteL_nil
  | succ k ih => exact byteL_append (ih _) (byteL_cons (by omega) (by omega) byteL_nil)
theorem impl_number1 (n : Int) : impl_number.v n 1 = some (strOfNums (beL n 1)) := by
  have w0 : wrap64 (1 - 1) = 0 := by rw [wrap_id (by omega) (by omega)]; rfl
  have w1 : wrap64 (0 - 1) = -1 := by rw [wrap_id (by omega) (by omega)]; rfl
  rw [impl_number.v_eq, if_pos (by omega), if_pos (by simp), w0, impl_number.lv0_eq, if_pos (by omega), if_pos (by omega), if_pos (by simp), w1, impl_number.lv0_eq, if_neg (by omega)]
  rfl
theorem impl_number2 (n : Int) : impl_number.v n 2 = some (strOfNums (beL n 2)) := by
  have w2 : wrap64 (2 - 1) = 1 := by rw [wrap_id (by omega) (by omega)]; rfl
  have w0 : wrap64 (1 - 1) = 0 := by rw [wrap_id (by omega) (by omega)]; rfl
  have w1 : wrap64 (0 - 1) = -1 := by rw [wrap_id (by omega) (by omega)]; rfl
  rw [impl_number.v_eq, if_pos (by omega), if_pos (by simp), w2, impl_number.lv0_eq, if_pos (by omega), if_pos (by omega), if_pos (by simp), w0, impl_number.lv0_eq, if_pos (by omega), if_pos (by omega), if_pos (by simp), w1, impl_number.lv0_eq, if_neg (by omega)]
  rfl
theorem impl_number4 (n : Int) : impl_number.v n 4 = some (strOfNums (beL n 4)) := by
  have w4 : wrap64 (4 - 1) = 3 := by rw [wrap_id (by omega) (by omega)]; rfl
  have w3 : wrap64 (3 - 1) = 2 := by rw [wrap_id (by omega) (by omega)]; rfl
  have w2 : wrap64 (2 - 1) = 1 := by rw [wrap_id (by omega) (by omega)]; rfl
  have w0 : wrap64 (1 - 1) = 0 := by rw [wrap_id (by omega) (by omega)]; rfl
  have w1 : wrap64 (0 - 1) = -1 := by rw [wrap_id (by omega) (by omega)]; rfl
  rw [impl_number.v_eq, if_pos (by omega), if_pos (by simp), w4, impl_number.lv0_eq, if_pos (by omega), if_pos (by omega), if_pos (by simp), w3, impl_number.lv0_eq, if_pos (by omega), if_pos (by omega), if_pos (by simp), w2, impl_number.lv0_eq, if_pos (by omega), if_pos (by omega), if_pos (by simp), w0, impl_number.lv0_eq, if_pos (by omega), if_pos (by omega), if_pos (by simp), w1, impl_number.lv0_eq, if_neg (by omega)]
  rfl
theorem be_front (j : Nat) : ∀ n : Int, beL n (j + 1) = (n / 256 ^ j % 256) :: beL n j := by
  induction j with
  | zero => intro n; simp [beL]
  | succ j ih =>
    intro n
    have h : beL n (j + 1 + 1) = beL (n / 256) (j + 1) ++ [n % 256] := rfl
    have h2 : n / 256 / 256 ^ j = n / 256 ^ (j + 1) := by
      rw [Int.ediv_ediv_of_nonneg (by omega), Int.pow_succ, Int.mul_comm]
    rw [h, ih, h2]
    rfl
theorem shr_be (n : Int) (j : Nat) (hj : j ≤ 7) : shr .i64 n (IntKind.u64.wrap (wrap64 (8 * (j : Int)))) = n / 256 ^ j := by
  have w : wrap64 (8 * (j : Int)) = ((8 * j : Nat) : Int) := by rw [wrap_id (by omega) (by omega)]; omega
  have w2 : IntKind.u64.wrap ((8 * j : Nat) : Int) = ((8 * j : Nat) : Int) := by
    have : 8 * j < 18446744073709551616 := by omega
    unfold IntKind.wrap
    simp [IntKind.bits, IntKind.signed]
    omega
  rw [w, w2]
  clear w w2
  unfold shr
  rw [Int.toNat_natCast, Nat.min_eq_left (by show 8 * j ≤ 64; omega), Int.pow_mul]
  rfl
theorem spec_number_l (n : Int) : ∀ (j : Nat) (acc : List Int), j ≤ 8 → acc.length + j ≤ 1000000 → spec_l02Number.lv0 n acc ((j : Int) - 1) = some (acc ++ beL n j)
  | 0, acc, hj, ha => by rw [spec_l02Number.lv0_eq, if_neg (by omega)]; simp [beL]
  | j + 1, acc, hj, ha => by
    have ih := spec_number_l n j (acc ++ [n / 256 ^ j % 256]) (by omega) (by rw [List.length_append]; show acc.length + 1 + j ≤ _; omega)
    have e : (((j + 1 : Nat) : Int) - 1) = (j : Int) := by omega
    have hs := shr_be n j (by omega)
    have h0 : 0 ≤ IntKind.u64.wrap (wrap64 (8 * (j : Int))) := by
      have w : wrap64 (8 * (j : Int)) = ((8 * j : Nat) : Int) := by rw [wrap_id (by omega) (by omega)]; omega
      rw [w]
      clear w hs
      unfold IntKind.wrap
      simp [IntKind.bits, IntKind.signed]
      omega
    have w : wrap64 ((j : Int) - 1) = (j : Int) - 1 := wrap_id (by omega) (by omega)
    have c1 : (j : Int) ≥ 0 := by omega
    have c2 : acc.length < 140737488355328 := by omega
    rw [e, spec_l02Number.lv0_eq, if_pos c1, if_pos h0, if_pos c2, hs, w, ih, be_front, List.append_assoc]
    rfl
theorem spec_number_v (n : Int) (k : Nat) (hk : k ≤ 8) : spec_l02Number.v n k = some (beL n k) := by
  have w : wrap64 ((k : Int) - 1) = (k : Int) - 1 := wrap_id (by omega) (by omega)
  rw [spec_l02Number.v_eq, w, spec_number_l n k [] hk (by simp; omega)]
  rfl
theorem be1 (n : Int) : beL n 1 = [n % 256] := rfl
theorem secret_v (n : Int) : ∃ t, spec_l04Secret.v n = some t ∧ impl_hash.v ((⟨#[110, 111, 100, 101, 32, 107, 101, 121]⟩ : ByteArray) ++ strOfNums [n % 256]) = some t ∧ t.size = 32 := by
  have h1 : (strOfNums [n % 256]).size = 1 := by rw [strOf_size]; rfl
  have h8 : (⟨#[110, 111, 100, 101, 32, 107, 101, 121]⟩ : ByteArray).size = 8 := rfl
  obtain ⟨s, hs⟩ : ∃ s, s = (⟨#[110, 111, 100, 101, 32, 107, 101, 121]⟩ : ByteArray) ++ strOfNums [n % 256] := ⟨_, rfl⟩
  have hz : s.size = 9 := by rw [hs, ByteArray.size_append, h1, h8]
  obtain ⟨t, ht, h32⟩ := hash_v (bytesOf s) (by rw [bytesOf_length, hz]; decide)
  refine ⟨t, ?_, ?_, h32⟩
  · rw [spec_l04Secret.v_eq, Option.bind_some, ← hs, h1, hz, if_pos (by decide), if_pos (by decide), ht, Option.bind_some]
  · rw [← hs, impl_hash.v_eq, hz, if_pos (by decide), ht]
theorem mac_both (n : Int) (S : ByteArray) (hS : S.size ≤ 30000000) : ∃ t, spec_l04Mac.v n (bytesOf S) = some t ∧ impl_mark.v n S = some t ∧ t.size = 8 := by
  obtain ⟨t1, h1, h2, hz⟩ := secret_v n
  obtain ⟨t2, ht, h32⟩ := hash_v (bytesOf (t1 ++ S)) (by rw [bytesOf_length, ByteArray.size_append]; omega)
  have hb : bytesOf t1 ++ bytesOf S = bytesOf (t1 ++ S) := (bytes_append t1 S).symm
  have hn : (strOfNums (beL n 1)).size = 1 := by rw [strOf_size]; rfl
  have c1 : t1.size + (bytesOf S).length < 140737488355328 ∧ 0 < t1.size := by rw [bytesOf_length]; omega
  have c2 : t1.size + S.size ≤ 9223372036854775807 := by omega
  have c3 : (t1 ++ S).size ≤ 40000000 := by rw [ByteArray.size_append]; omega
  have c4 : (8 : Int) ≤ (t2.size : Int) := by omega
  refine ⟨t2.extract 0 8, ?_, ?_, by rw [ByteArray.size_extract]; omega⟩
  · rw [spec_l04Mac.v_eq, h1, Option.bind_some, if_pos c1, hb, ht, Option.bind_some, if_pos (by omega)]
  · rw [impl_mark.v_eq, impl_number1, Option.bind_some, hn, if_pos (by decide), be1, h2, Option.bind_some, if_pos c2, impl_hash.v_eq, if_pos c3, ht, Option.bind_some, if_pos (by decide), if_pos c4]
theorem in_one (a b c : Int) : ∃ r, spec_l01In.v a b c = some r ∧ impl_within.v a b c = some r := by
  rw [spec_l01In.v_eq, impl_within.v_eq]
  split <;> exact ⟨_, rfl, rfl⟩
theorem nodes_one (a : Int) : ∃ r, spec_l04Nodes.v a = some r ∧ impl_areNodes.v a = some r := by
  rw [spec_l04Nodes.v_eq, impl_areNodes.v_eq, impl_FaultsOf.v_eq]
  by_cases h1 : a = 1
  · rw [if_pos h1, if_pos h1, Option.bind_some]; exact ⟨_, rfl, rfl⟩
  by_cases h4 : a = 4
  · rw [if_neg h1, if_neg h1, if_pos h4, if_pos h4, Option.bind_some]; exact ⟨_, rfl, rfl⟩
  by_cases h7 : a = 7
  · rw [if_neg h1, if_neg h1, if_neg h4, if_neg h4, if_pos h7, Option.bind_some, h7]; exact ⟨_, rfl, rfl⟩
  · rw [if_neg h1, if_neg h1, if_neg h4, if_neg h4, if_neg h7, Option.bind_some]
    exact ⟨false, by simp [h7], rfl⟩
theorem impl_number3 (n : Int) : impl_number.v n 3 = some (strOfNums (beL n 3)) := by
  have w3 : wrap64 (3 - 1) = 2 := by rw [wrap_id (by omega) (by omega)]; rfl
  have w2 : wrap64 (2 - 1) = 1 := by rw [wrap_id (by omega) (by omega)]; rfl
  have w0 : wrap64 (1 - 1) = 0 := by rw [wrap_id (by omega) (by omega)]; rfl
  have w1 : wrap64 (0 - 1) = -1 := by rw [wrap_id (by omega) (by omega)]; rfl
  rw [impl_number.v_eq, if_pos (by omega), if_pos (by simp), w3, impl_number.lv0_eq, if_pos (by omega), if_pos (by omega), if_pos (by simp), w2, impl_number.lv0_eq, if_pos (by omega), if_pos (by omega), if_pos (by simp), w0, impl_number.lv0_eq, if_pos (by omega), if_pos (by omega), if_pos (by simp), w1, impl_number.lv0_eq, if_neg (by omega)]
  rfl
theorem reply_v (a0 a1 a2 a3 a4 a5 a6 : Int) (a7 : ByteArray) : ∃ t, spec_l11Mac.v a0 a1 a2 a3 a4 a5 a6 a7 = some t ∧ impl_replyMac.v a0 a1 a2 a3 a4 a5 a6 a7 = some t := by
  obtain ⟨h, hh⟩ : ∃ h, h = wrap64 (a5 + 1) := ⟨_, rfl⟩
  have zs : ∀ (n : Int) (k : Nat), (strOfNums (beL n k)).size = k := fun n k => by rw [strOf_size, beL_len]
  have z5 : (⟨#[114, 101, 112, 108, 121]⟩ : ByteArray).size = 5 := rfl
  obtain ⟨T, hT⟩ : ∃ T, T = ((strOfNums (beL a3 1) ++ strOfNums (beL a4 3)) ++ strOfNums (beL h 2)) ++ strOfNums (beL a6 4) := ⟨_, rfl⟩
  have t1 : (strOfNums (beL a3 1) ++ strOfNums (beL a4 3)).size = 4 := by rw [ByteArray.size_append, zs, zs]
  have t2 : ((strOfNums (beL a3 1) ++ strOfNums (beL a4 3)) ++ strOfNums (beL h 2)).size = 6 := by rw [ByteArray.size_append, t1, zs]
  have t3 : T.size = 10 := by rw [hT, ByteArray.size_append, t2, zs]
  have hat : impl_answerText.v a3 a4 a5 a6 = some T := by
    rw [impl_answerText.v_eq, impl_number1, Option.bind_some, impl_number3, Option.bind_some, zs, zs, if_pos (by decide), ← hh, impl_number2, Option.bind_some, t1, zs, if_pos (by decide), impl_number4, Option.bind_some, t2, zs, if_pos (by decide), ← hT]
  obtain ⟨S, hS⟩ : ∃ S, S = (((⟨#[114, 101, 112, 108, 121]⟩ : ByteArray) ++ strOfNums (beL a1 1)) ++ strOfNums (beL a2 2)) ++ T := ⟨_, rfl⟩
  have s1 : ((⟨#[114, 101, 112, 108, 121]⟩ : ByteArray) ++ strOfNums (beL a1 1)).size = 6 := by rw [ByteArray.size_append, z5, zs]
  have s2 : (((⟨#[114, 101, 112, 108, 121]⟩ : ByteArray) ++ strOfNums (beL a1 1)) ++ strOfNums (beL a2 2)).size = 8 := by rw [ByteArray.size_append, s1, zs]
  have s3 : S.size = 18 := by rw [hS, ByteArray.size_append, s2, t3]
  have hbS : bytesOf S = (((((([114, 101, 112, 108, 121, a1 % 256] : List Int) ++ beL a2 2) ++ [a3 % 256]) ++ beL a4 3) ++ beL h 2) ++ beL a6 4) := by
    rw [hS, hT]
    simp only [bytes_append, bytes_str _ (byteL_be _ _)]
    simp only [be1]
    rw [show bytesOf (⟨#[114, 101, 112, 108, 121]⟩ : ByteArray) = [114, 101, 112, 108, 121] by decide]
    simp only [List.append_assoc, List.cons_append, List.nil_append]
  obtain ⟨t, h1, h2, -⟩ := mac_both a0 S (by omega)
  have n2 : ∀ n, spec_l02Number.v n 2 = some (beL n 2) := fun n => spec_number_v n 2 (by decide)
  have n3 : ∀ n, spec_l02Number.v n 3 = some (beL n 3) := fun n => spec_number_v n 3 (by decide)
  have n4 : ∀ n, spec_l02Number.v n 4 = some (beL n 4) := fun n => spec_number_v n 4 (by decide)
  refine ⟨t, ?_, ?_⟩
  · have hp : spec_l11Plain.v a0 a1 a2 a3 a4 a5 a6 a7 = some (bytesOf S) := by
      rw [spec_l11Plain.v_eq, hbS, ← hh]
      simp only [Option.bind_some, n2, n3, n4]
      rw [if_pos (by simp [beL_len]), if_pos (by simp [beL_len]), if_pos (by simp [beL_len]), if_pos (by simp [beL_len]), if_pos (by simp [beL_len])]
    rw [spec_l11Mac.v_eq, hp, Option.bind_some, h1, Option.bind_some]
  · rw [impl_replyMac.v_eq, impl_number1, Option.bind_some, zs, if_pos (by decide), impl_number2, Option.bind_some, s1, zs, if_pos (by decide), hat, Option.bind_some, s2, t3, if_pos (by decide), ← hS, h2, Option.bind_some]
theorem answer_one (a0 a1 a2 a3 : Int) : ∃ r, spec_l05Answer.v a0 a1 a2 a3 = some r ∧ impl_isAnswer.v a0 a1 a2 a3 = some r := by
  obtain ⟨x, h1, h2⟩ := in_one a0 1 8
  obtain ⟨y, h3, h4⟩ := in_one a1 0 1000000
  obtain ⟨z, h5, h6⟩ := in_one a2 (-1) 255
  obtain ⟨u, h7, h8⟩ := in_one a3 0 2000000000
  rw [spec_l05Answer.v_eq, impl_isAnswer.v_eq]
  simp only [h1, h2, h3, h4, h5, h6, h7, h8, Option.bind_some]
  cases x <;> cases y <;> cases z <;> exact ⟨_, rfl, rfl⟩
theorem form_one (a0 a1 a2 a3 a4 a5 a6 : Int) (a7 : ByteArray) : ∃ r, spec_l11Form.v a0 a1 a2 a3 a4 a5 a6 a7 = some r ∧ impl_isReply.v a0 a1 a2 a3 a4 a5 a6 a7 = some r := by
  obtain ⟨x, h1, h2⟩ := in_one a0 0 6
  obtain ⟨y, h3, h4⟩ := in_one a1 0 255
  obtain ⟨z, h5, h6⟩ := in_one a2 1 65535
  obtain ⟨u, h7, h8⟩ := answer_one a3 a4 a5 a6
  rw [spec_l11Form.v_eq, impl_isReply.v_eq]
  simp only [h1, h2, h3, h4, h5, h6, h7, h8, Option.bind_some]
  cases x <;> cases y <;> cases z <;> exact ⟨_, rfl, rfl⟩
theorem spec_l01In_v (n low high : Int) : spec_l01In.v n low high = some (inB n low high) := by
  rw [spec_l01In.v_eq]; unfold inB; split <;> simp <;> omega
theorem rd_nat (l : List Int) (i : Nat) (h : i < l.length) : rd l (i : Int) = l[i] := by
  unfold rd
  rw [List.getD, Int.toNat_natCast, List.getElem?_eq_getElem h]; rfl
theorem rdr_nat (l : List S73) (i : Nat) (h : i < l.length) : rd_T73 l (i : Int) = l[i] := by
  unfold rd_T73
  rw [List.getD, Int.toNat_natCast, List.getElem?_eq_getElem h]; rfl
theorem wrap_nat (i : Nat) (h : i ≤ 1000000000) : wrap64 ((i : Int) + 1) = ((i + 1 : Nat) : Int) := by rw [wrap_id (by omega) (by omega)]; omega
theorem has_l (l : List Int) (x : Int) (hl : l.length ≤ 1000000000) : ∀ (d i : Nat), l.length - i = d → i ≤ l.length → spec_l08Has.lv0 l x i = some ((l.drop i).contains x)
  | 0, i, h, hi => by rw [spec_l08Has.lv0_eq, if_neg (by omega), List.drop_eq_nil_of_le (by omega)]; rfl
  | d + 1, i, h, hi => by
    have hlt : i < l.length := by omega
    rw [spec_l08Has.lv0_eq, if_pos (by omega), if_pos (by omega), rd_nat l i hlt, List.drop_eq_getElem_cons hlt, List.contains_cons]
    by_cases e : l[i] = x
    · rw [if_pos e, e]; simp
    · rw [if_neg e, wrap_nat i (by omega), has_l l x hl d (i + 1) (by omega) (by omega)]
      have : (x == l[i]) = false := beq_eq_false_iff_ne.2 (fun e' => e e'.symm)
      rw [this, Bool.false_or]
theorem has_v (l : List Int) (x : Int) (hl : l.length ≤ 1000000000) : spec_l08Has.v l x = some (l.contains x) := by
  rw [spec_l08Has.v_eq]
  simpa using has_l l x hl _ 0 rfl (by omega)
theorem index_l (l : List Int) (x : Int) (hl : l.length ≤ 1000000000) : ∀ (d i : Nat), l.length - i = d → i ≤ l.length → ∃ j, slices_Index_int_int.lv0 l x (l.length : Int) i = some j ∧ decide (j ≥ 0) = (l.drop i).contains x
  | 0, i, h, hi => ⟨-1, by rw [slices_Index_int_int.lv0_eq, if_neg (by omega)], by rw [List.drop_eq_nil_of_le (by omega)]; rfl⟩
  | d + 1, i, h, hi => by
    have hlt : i < l.length := by omega
    rw [slices_Index_int_int.lv0_eq, if_pos (by omega), if_pos (by omega), if_pos (by omega), rd_nat l i hlt, List.drop_eq_getElem_cons hlt, List.contains_cons]
    by_cases e : x = l[i]
    · refine ⟨(i : Int), by rw [if_pos e], ?_⟩
      rw [e]; simp
    · obtain ⟨j, h1, h2⟩ := index_l l x hl d (i + 1) (by omega) (by omega)
      refine ⟨j, by rw [if_neg e, wrap_nat i (by omega)]; exact h1, ?_⟩
      rw [h2, beq_eq_false_iff_ne.2 e, Bool.false_or]
theorem contains_v (l : List Int) (x : Int) (hl : l.length ≤ 1000000000) : slices_Contains_int_int.v l x = some (l.contains x) := by
  obtain ⟨j, h1, h2⟩ := index_l l x hl _ 0 rfl (by omega)
  rw [slices_Contains_int_int.v_eq, slices_Index_int_int.v_eq]
  have h1' : slices_Index_int_int.lv0 l x (l.length : Int) 0 = some j := by simpa using h1
  rw [h1', Option.bind_some, h2]
  simp
theorem inB_gb {x a b : Int} (h : inB x a b = true) (ha : -9223372036854775808 ≤ a) (hb : b ≤ 9223372036854775807) : gb64 x := by
  unfold inB at h
  unfold gb64
  simp at h
  omega
theorem form_bounds {a0 a1 a2 a3 a4 a5 a6 : Int} {a7 : ByteArray} (h : spec_l11Form.v a0 a1 a2 a3 a4 a5 a6 a7 = some true) : gb64 a0 ∧ gb64 a3 ∧ gb64 a4 ∧ gb64 a5 ∧ gb64 a6 := by
  rw [spec_l11Form.v_eq, spec_l05Answer.v_eq] at h
  simp only [spec_l01In_v, Option.bind_some] at h
  by_cases c0 : inB a0 0 6 = true
  · by_cases c1 : inB a1 0 255 = true
    · by_cases c2 : inB a2 1 65535 = true
      · by_cases c3 : inB a3 1 8 = true
        · by_cases c4 : inB a4 0 1000000 = true
          · by_cases c5 : inB a5 (-1) 255 = true
            · by_cases c6 : inB a6 0 2000000000 = true
              · exact ⟨inB_gb c0 (by decide) (by decide), inB_gb c3 (by decide) (by decide), inB_gb c4 (by decide) (by decide), inB_gb c5 (by decide) (by decide), inB_gb c6 (by decide) (by decide)⟩
              · simp [c0, c1, c2, c3, c4, c5, c6] at h
            · simp [c0, c1, c2, c3, c4, c5] at h
          · simp [c0, c1, c2, c3, c4] at h
        · simp [c0, c1, c2, c3] at h
      · simp [c0, c1, c2] at h
    · simp [c0, c1] at h
  · simp [c0] at h
theorem okr_ex (n : Int) (r : S73) : ∃ b, spec_l11OK.v n r.f0 r.f1 r.f2 r.f3.f0 r.f3.f1 r.f3.f2 r.f3.f3 r.f4 = some b ∧ (spec_l04Nodes.v n = some true → impl_ReplyOK.v n r.f0 r.f1 r.f2 r.f3.f0 r.f3.f1 r.f3.f2 r.f3.f3 r.f4 = some b) ∧
    (b = true → gb64 r.f0 ∧ gb64 r.f3.f0 ∧ gb64 r.f3.f1 ∧ gb64 r.f3.f2 ∧ gb64 r.f3.f3) := by
  obtain ⟨fb, f1, f2⟩ := form_one r.f0 r.f1 r.f2 r.f3.f0 r.f3.f1 r.f3.f2 r.f3.f3 r.f4
  obtain ⟨t, r1, r2⟩ := reply_v r.f0 r.f1 r.f2 r.f3.f0 r.f3.f1 r.f3.f2 r.f3.f3 r.f4
  obtain ⟨m, h1, h2⟩ := nodes_one n
  have hc : (t.toList == r.f4.toList) = (r.f4.toList == t.toList) := by rw [Bool.eq_iff_iff, beq_iff_eq, beq_iff_eq]; exact eq_comm
  have hx : ∃ b, spec_l11OK.v n r.f0 r.f1 r.f2 r.f3.f0 r.f3.f1 r.f3.f2 r.f3.f3 r.f4 = some b ∧ (m = true → impl_ReplyOK.v n r.f0 r.f1 r.f2 r.f3.f0 r.f3.f1 r.f3.f2 r.f3.f3 r.f4 = some b) ∧ (b = true → fb = true) := by
    rw [spec_l11OK.v_eq, impl_ReplyOK.v_eq]
    simp only [h2, f1, f2, r1, r2, Option.bind_some, hc]
    cases fb
    · exact ⟨false, by simp, fun hm => by simp [hm], fun h => h⟩
    · by_cases c : r.f0 < n
      · exact ⟨(r.f4.toList == t.toList), by simp [c], fun hm => by simp [hm, c], fun _ => rfl⟩
      · exact ⟨false, by simp [c], fun hm => by simp [hm, c], fun _ => rfl⟩
  obtain ⟨b, hb, hi, hf⟩ := hx
  refine ⟨b, hb, fun hn => hi (by rw [hn] at h1; exact (Option.some.inj h1).symm), fun e => ?_⟩
  have hfb := hf e
  rw [hfb] at f1
  exact form_bounds f1
noncomputable def okr (n : Int) (r : S73) : Bool := (okr_ex n r).choose
theorem okr_s (n : Int) (r : S73) : spec_l11OK.v n r.f0 r.f1 r.f2 r.f3.f0 r.f3.f1 r.f3.f2 r.f3.f3 r.f4 = some (okr n r) := (okr_ex n r).choose_spec.1
theorem okr_i (n : Int) (r : S73) (hn : spec_l04Nodes.v n = some true) : impl_ReplyOK.v n r.f0 r.f1 r.f2 r.f3.f0 r.f3.f1 r.f3.f2 r.f3.f3 r.f4 = some (okr n r) := (okr_ex n r).choose_spec.2.1 hn
theorem okr_b (n : Int) (r : S73) (h : okr n r = true) : gb64 r.f0 ∧ gb64 r.f3.f0 ∧ gb64 r.f3.f1 ∧ gb64 r.f3.f2 ∧ gb64 r.f3.f3 := (okr_ex n r).choose_spec.2.2 h
def rkey (r : S73) : Int × Int × Int × Int := (r.f3.f0, r.f3.f1, r.f3.f2, r.f3.f3)
open Classical in
noncomputable def rstep (n c s : Int) (a : Int × Int × Int × Int) (acc : List Int) (r : S73) : List Int :=
  if okr n r = true ∧ r.f1 = c ∧ r.f2 = s ∧ rkey r = a ∧ acc.contains r.f0 = false then acc ++ [r.f0] else acc
noncomputable def rP (n c s : Int) (l : List S73) (a : Int × Int × Int × Int) (i : Nat) : List Int := (l.take i).foldl (rstep n c s a) []
theorem rP_succ {n c s : Int} {l : List S73} {a : Int × Int × Int × Int} {i : Nat} (h : i < l.length) : rP n c s l a (i + 1) = rstep n c s a (rP n c s l a i) l[i] := by
  unfold rP
  rw [List.take_succ_eq_append_getElem h, List.foldl_append]
  rfl
theorem rstep_len (n c s : Int) (a : Int × Int × Int × Int) (acc : List Int) (r : S73) : (rstep n c s a acc r).length ≤ acc.length + 1 := by
  unfold rstep
  split <;> simp
theorem rP_len (n c s : Int) (l : List S73) (a : Int × Int × Int × Int) : ∀ i, i ≤ l.length → (rP n c s l a i).length ≤ i
  | 0, _ => by simp [rP]
  | i + 1, h => by
    rw [rP_succ (by omega)]
    have := rstep_len n c s a (rP n c s l a i) l[i]
    have := rP_len n c s l a i (by omega)
    omega
theorem key_beq (x y : S73) : ((x.f3.f0 == y.f3.f0 && (x.f3.f1 == y.f3.f1 && (x.f3.f2 == y.f3.f2 && (x.f3.f3 == y.f3.f3)))) = true) ↔ rkey x = rkey y := by
  simp [rkey, and_assoc]
theorem in_l (n c s : Int) (l : List S73) (hl : l.length ≤ 4096) (i : Nat) (hi : i < l.length) : ∀ (d j : Nat), i + 1 - j = d → j ≤ i + 1 →
    spec_l11Count.lv1 n c s l i (rP n c s l (rkey l[i]) j) j = (if ((rP n c s l (rkey l[i]) (i + 1)).length : Int) > wrap64 (Int.tdiv (wrap64 (n - 1)) 3) then some (l[i].f3.f0, l[i].f3.f1, l[i].f3.f2, l[i].f3.f3, true) else spec_l11Count.lv0 n c s l ((i + 1 : Nat) : Int))
  | 0, j, h, hj => by
    obtain rfl : j = i + 1 := by omega
    rw [spec_l11Count.lv1_eq, if_neg (by omega)]
    by_cases e : ((rP n c s l (rkey l[i]) (i + 1)).length : Int) > wrap64 (Int.tdiv (wrap64 (n - 1)) 3)
    · rw [if_pos e, if_pos e, if_pos (by omega), if_pos (by omega), rdr_nat l i hi]
    · rw [if_neg e, if_neg e, wrap_nat i (by omega)]
  | d + 1, j, h, hj => by
    have hjl : j < l.length := by omega
    have ih := in_l n c s l hl i hi d (j + 1) (by omega) (by omega)
    have hlen := rP_len n c s l (rkey l[i]) j (by omega)
    rw [← ih, rP_succ hjl, spec_l11Count.lv1_eq, if_pos (by omega), if_pos (by omega), if_pos (by omega), rdr_nat l j hjl, rdr_nat l i hi, okr_s, Option.bind_some, wrap_nat j (by omega)]
    by_cases c0 : okr n l[j] = true
    · rw [if_pos c0]
      by_cases c1 : l[j].f1 = c
      · rw [if_pos c1]
        by_cases c2 : l[j].f2 = s
        · rw [if_pos c2, if_pos (by omega), if_pos (by omega)]
          by_cases c3 : rkey l[j] = rkey l[i]
          · rw [if_pos ((key_beq _ _).2 c3), has_v _ _ (by omega), Option.bind_some]
            cases c4 : (rP n c s l (rkey l[i]) j).contains l[j].f0
            · rw [if_neg (by decide), if_pos (by omega)]
              unfold rstep
              rw [if_pos ⟨c0, c1, c2, c3, c4⟩]
            · rw [if_pos rfl]
              unfold rstep
              rw [if_neg (fun hh => by rw [c4] at hh; exact absurd hh.2.2.2.2 (by decide))]
          · rw [if_neg (fun hh => c3 ((key_beq _ _).1 hh))]
            unfold rstep
            rw [if_neg (fun hh => c3 hh.2.2.2.1)]
        · rw [if_neg c2]
          unfold rstep
          rw [if_neg (fun hh => c2 hh.2.2.1)]
      · rw [if_neg c1]
        unfold rstep
        rw [if_neg (fun hh => c1 hh.2.1)]
    · rw [if_neg c0]
      unfold rstep
      rw [if_neg (fun hh => c0 hh.1)]
theorem go_l (n c s : Int) (l : List S73) (hl : l.length ≤ 4096) (hn : spec_l04Nodes.v n = some true) : ∀ (d i : Nat) (m : GMap), l.length - i = d → i ≤ l.length → m.length ≤ i → (∀ a, gl m a = rP n c s l a i) → (∀ a, ((rP n c s l a i).length : Int) ≤ wrap64 (Int.tdiv (wrap64 (n - 1)) 3)) →
    ∃ r, spec_l11Count.lv0 n c s l i = some r ∧ impl_decided.lv0 n c s m l (l.length : Int) i = some r
  | 0, i, m, h, hi, hm, hg, hf => ⟨_, by rw [spec_l11Count.lv0_eq, if_neg (by omega)], by rw [impl_decided.lv0_eq, if_neg (by omega)]⟩
  | d + 1, i, m, h, hi, hm, hg, hf => by
    have hlt : i < l.length := by omega
    have h0 : rP n c s l (rkey l[i]) 0 = [] := rfl
    have hin := in_l n c s l hl i hlt (i + 1) 0 (by omega) (by omega)
    rw [h0] at hin
    have hsp : spec_l11Count.lv0 n c s l i = (if ((rP n c s l (rkey l[i]) (i + 1)).length : Int) > wrap64 (Int.tdiv (wrap64 (n - 1)) 3) then some (l[i].f3.f0, l[i].f3.f1, l[i].f3.f2, l[i].f3.f3, true) else spec_l11Count.lv0 n c s l ((i + 1 : Nat) : Int)) := by
      rw [spec_l11Count.lv0_eq, if_pos (by omega)]
      exact hin
    -- nothing is told
    have still : (∀ a, rP n c s l a (i + 1) = rP n c s l a i) → ∃ r, spec_l11Count.lv0 n c s l i = some r ∧ impl_decided.jv1 n c s m l (l.length : Int) i true l[i].f0 l[i].f1 l[i].f2 l[i].f3.f0 l[i].f3.f1 l[i].f3.f2 l[i].f3.f3 l[i].f4 = some r := fun hs => by
      obtain ⟨r, e1, e2⟩ := go_l n c s l hl hn d (i + 1) m (by omega) (by omega) (by omega) (fun a => by rw [hs a]; exact hg a) (fun a => by rw [hs a]; exact hf a)
      refine ⟨r, ?_, ?_⟩
      · rw [hsp, hs, if_neg (by have := hf (rkey l[i]); omega)]
        exact e1
      · rw [impl_decided.jv1_eq, if_pos rfl, wrap_nat i (by omega)]
        exact e2
    rw [impl_decided.lv0_eq, if_pos (by omega), if_pos (by omega), if_pos (by omega), rdr_nat l i hlt]
    by_cases c1 : l[i].f1 = c
    · rw [if_pos c1]
      by_cases c2 : l[i].f2 = s
      · rw [if_pos c2, okr_i n _ hn, Option.bind_some]
        by_cases c0 : okr n l[i] = true
        · obtain ⟨b0, b1, b2, b3, b4⟩ := okr_b n _ c0
          have hgk := hg (rkey l[i])
          have hlen := rP_len n c s l (rkey l[i]) i (by omega)
          have hhas : gm_has.v m l[i].f3.f0 l[i].f3.f1 l[i].f3.f2 l[i].f3.f3 l[i].f0 = some ((rP n c s l (rkey l[i]) i).contains l[i].f0) := by
            rw [gm_has.v_eq, if_pos ⟨b1, b2, b3, b4, by omega⟩]
            show slices_Contains_int_int.v (gl m (rkey l[i])) l[i].f0 = _
            rw [hgk, contains_v _ _ (by omega)]
          rw [if_pos c0, hhas, Option.bind_some]
          cases c4 : (rP n c s l (rkey l[i]) i).contains l[i].f0
          · -- a new one
            have hP : ∀ a, rP n c s l a (i + 1) = gl ((rkey l[i], gl m (rkey l[i]) ++ [l[i].f0]) :: m) a := fun a => by
              rw [rP_succ hlt]
              unfold rstep gl
              by_cases e : rkey l[i] = a
              · subst e
                rw [if_pos rfl, if_pos ⟨c0, c1, c2, rfl, c4⟩, hgk]
              · rw [if_neg (fun hh => e hh.2.2.2.1)]
                simp only [e, if_false]
                exact (hg a).symm
            have hput : gm_put.v m l[i].f3.f0 l[i].f3.f1 l[i].f3.f2 l[i].f3.f3 l[i].f0 = some ((rkey l[i], gl m (rkey l[i]) ++ [l[i].f0]) :: m) := by
              rw [gm_put.v_eq, if_pos ⟨⟨b1, b2, b3, b4⟩, b0, by omega⟩]
              rfl
            have hcnt : gm_len.v ((rkey l[i], gl m (rkey l[i]) ++ [l[i].f0]) :: m) l[i].f3.f0 l[i].f3.f1 l[i].f3.f2 l[i].f3.f3 = some ((rP n c s l (rkey l[i]) (i + 1)).length : Int) := by
              rw [gm_len.v_eq, if_pos ⟨b1, b2, b3, b4, by simp; omega⟩, hP (rkey l[i])]
              rfl
            rw [impl_decided.jv1_eq, if_neg (by decide), hput, Option.bind_some, hcnt, Option.bind_some]
            by_cases e : ((rP n c s l (rkey l[i]) (i + 1)).length : Int) > wrap64 (Int.tdiv (wrap64 (n - 1)) 3)
            · exact ⟨_, by rw [hsp, if_pos e], by rw [if_pos e]⟩
            · obtain ⟨r, e1, e2⟩ := go_l n c s l hl hn d (i + 1) ((rkey l[i], gl m (rkey l[i]) ++ [l[i].f0]) :: m) (by omega) (by omega) (by simp; omega) (fun a => (hP a).symm) (fun a => by
                by_cases e' : rkey l[i] = a
                · subst e'; omega
                · rw [rP_succ hlt]
                  unfold rstep
                  rw [if_neg (fun hh => e' hh.2.2.2.1)]
                  exact hf a)
              exact ⟨r, by rw [hsp, if_neg e]; exact e1, by rw [if_neg e, wrap_nat i (by omega)]; exact e2⟩
          · exact still (fun a => by
              rw [rP_succ hlt]
              unfold rstep
              rw [if_neg (fun hh => by
                have e := hh.2.2.2.1
                have hh5 := hh.2.2.2.2
                rw [← e, c4] at hh5
                exact absurd hh5 (by decide))])
        · rw [if_neg c0]
          exact still (fun a => by
            rw [rP_succ hlt]
            unfold rstep
            rw [if_neg (fun hh => c0 hh.1)])
      · rw [if_neg c2]
        exact still (fun a => by
          rw [rP_succ hlt]
          unfold rstep
          rw [if_neg (fun hh => c2 hh.2.2.1)])
    · rw [if_neg c1]
      exact still (fun a => by
        rw [rP_succ hlt]
        unfold rstep
        rw [if_neg (fun hh => c1 hh.2.1)])
theorem nodes_f {n : Int} (hn : spec_l04Nodes.v n = some true) : (0 : Int) ≤ wrap64 (Int.tdiv (wrap64 (n - 1)) 3) := by
  rw [spec_l04Nodes.v_eq] at hn
  by_cases e1 : n = 1
  · subst e1; simp [wrap64]
  · rw [if_neg e1] at hn
    by_cases e4 : n = 4
    · subst e4; simp [wrap64]
    · rw [if_neg e4] at hn
      have e7 : n = 7 := by simpa using hn
      subst e7; simp [wrap64]
theorem decided_one (n c s : Int) (l : List S73) (hl : l.length ≤ 4096) (hn : spec_l04Nodes.v n = some true) : ∃ r, spec_l11Count.v n c s l = some r ∧ impl_decided.v n c s l = some r := by
  obtain ⟨r, h1, h2⟩ := go_l n c s l hl hn _ 0 [] rfl (by omega) (by simp) (fun a => rfl) (fun a => by simpa [rP] using nodes_f hn)
  exact ⟨r, by rw [spec_l11Count.v_eq]; simpa using h1, by rw [impl_decided.v_eq]; simpa using h2⟩
theorem count_one (n c s : Int) (l : List S73) (hl : l.length ≤ 1048576) : ∃ r, spec_CountReplies.v n c s l = some r ∧ impl_CountReplies.v n c s l = some r := by
  obtain ⟨m, h1, h2⟩ := nodes_one n
  rw [spec_CountReplies.v_eq, impl_CountReplies.v_eq, impl_Reply.v_eq, Option.bind_some, h1, h2]
  by_cases c0 : (l.length : Int) > 4096
  · rw [decide_eq_true c0]
    exact ⟨_, by rw [if_pos c0], by rw [if_pos rfl]⟩
  rw [decide_eq_false c0, if_neg c0, if_neg (show ¬ (false = true) by decide), Option.bind_some, Option.bind_some]
  cases m
  · exact ⟨_, by rw [if_neg (by decide)], by rw [if_neg (by decide)]⟩
  rw [if_pos rfl, if_pos rfl]
  by_cases c1 : (l.length : Int) > 60
  · exact ⟨_, by rw [if_pos c1], by rw [if_pos c1]⟩
  obtain ⟨r, e1, e2⟩ := decided_one n c s l (by omega) h1
  rw [if_neg c1, if_neg c1, e1, e2, Option.bind_some]
  by_cases e : r.2.2.2.2 = true
  · exact ⟨_, by rw [if_pos e], by rw [if_pos e]⟩
  · exact ⟨_, by rw [if_neg e], by rw [if_neg e]⟩
/-- A place of at most m, a seed within its bounds. -/
def Src (m a s : Int) : Prop := 0 ≤ a ∧ a ≤ m ∧ 0 ≤ s ∧ s < 2147483648
theorem Src.mono {m m' a s : Int} (h : Src m a s) (hm : m ≤ m') : Src m' a s := ⟨h.1, Int.le_trans h.2.1 hm, h.2.2⟩
theorem rd_byte (l : List Int) (h : ∀ y ∈ l, (Lit.int .u8 y).wf = true) (i : Int) : 0 ≤ rd l i ∧ rd l i ≤ 255 := by
  unfold rd
  rw [List.getD]
  cases hq : l[i.toNat]? with
  | none => simp
  | some y => exact wf8 (h y (List.mem_of_getElem? hq))
theorem tmod_nn (x n : Int) (hx : 0 ≤ x) (hn : 0 < n) : 0 ≤ Int.tmod x n ∧ Int.tmod x n < n := by
  rw [Int.tmod_eq_emod_of_nonneg hx]
  exact ⟨Int.emod_nonneg _ (by omega), Int.emod_lt_of_pos _ hn⟩
theorem src_byte (code : List Int) (hc : ∀ y ∈ code, (Lit.int .u8 y).wf = true) (m a s : Int) (h : Src m a s) (hm : m ≤ 1000000000000) :
    ∃ r a' s', spec_l00Src_byte.v code a s = some (r, a', s') ∧ 0 ≤ r ∧ r ≤ 255 ∧ Src (m + 1) a' s' := by
  obtain ⟨h1, h2, h3, h4⟩ := h
  have w1 : wrap64 (a + 1) = a + 1 := wrap_id (by omega) (by omega)
  have w2 : wrap64 (a + 1 - 1) = a := by rw [wrap_id (by omega) (by omega)]; omega
  rw [spec_l00Src_byte.v_eq]
  simp only [w1, w2]
  clear w1 w2
  have hb := rd_byte code hc a
  by_cases hl : a + 1 ≤ (code.length : Int)
  · have c1 : a < (code.length : Int) := by omega
    rw [if_pos hl, if_pos h1, if_pos c1]
    have w3 : wrap64 (rd code a) = rd code a := wrap_id (by omega) (by omega)
    have w4 : wrap64 (s * 31) = s * 31 := wrap_id (by omega) (by omega)
    have w5 : wrap64 (s * 31 + rd code a) = s * 31 + rd code a := wrap_id (by omega) (by omega)
    have w6 : wrap64 (s * 31 + rd code a + 7) = s * 31 + rd code a + 7 := wrap_id (by omega) (by omega)
    simp only [w3, w4, w5, w6]
    clear w3 w4 w5 w6
    have ht := tmod_nn (s * 31 + rd code a + 7) 2147483648 (by omega) (by omega)
    exact ⟨_, _, _, rfl, hb.1, hb.2, by omega, by omega, ht.1, ht.2⟩
  · rw [if_neg hl]
    by_cases h5 : a + 1 > 3000
    · rw [if_pos h5]
      exact ⟨_, _, _, rfl, by omega, by omega, by omega, by omega, h3, h4⟩
    · rw [if_neg h5]
      have w3 : wrap64 (s * 1103515245) = s * 1103515245 := wrap_id (by omega) (by omega)
      have w4 : wrap64 (s * 1103515245 + 12345) = s * 1103515245 + 12345 := wrap_id (by omega) (by omega)
      simp only [w3, w4]
      clear w3 w4
      have ht := tmod_nn (s * 1103515245 + 12345) 2147483648 (by omega) (by omega)
      generalize Int.tmod (s * 1103515245 + 12345) 2147483648 = u at ht
      have hd : Int.tdiv u 65536 = u / 65536 := Int.tdiv_eq_ediv_of_nonneg ht.1
      have w5 : wrap64 (u / 65536) = u / 65536 := wrap_id (by omega) (by omega)
      rw [hd, w5]
      clear w5
      have h6 := tmod_nn (u / 65536) 256 (by omega) (by omega)
      exact ⟨_, _, _, rfl, h6.1, by omega, by omega, by omega, ht.1, ht.2⟩
theorem src_next (code : List Int) (hc : ∀ y ∈ code, (Lit.int .u8 y).wf = true) (m a s n : Int) (h : Src m a s) (hm : m ≤ 900000000000) (hn : 1 ≤ n) :
    ∃ r a' s', spec_l00Src_next.v code a s n = some (r, a', s') ∧ 0 ≤ r ∧ r < n ∧ Src (m + 3) a' s' := by
  rw [spec_l00Src_next.v_eq]
  by_cases h1 : n ≤ 1
  · rw [if_pos h1]
    obtain ⟨h2, h3, h4, h5⟩ := h
    exact ⟨_, _, _, rfl, by omega, by omega, h2, by omega, h4, h5⟩
  · rw [if_neg h1]
    obtain ⟨r, a1, s1, e1, r0, r1, i1⟩ := src_byte code hc m a s h (by omega)
    have n0 : ¬ n = 0 := by omega
    by_cases h2 : n ≤ 256
    · rw [if_pos h2, e1, Option.bind_some, if_neg n0]
      have := tmod_nn r n r0 (by omega)
      exact ⟨_, _, _, rfl, this.1, this.2, i1.mono (by omega)⟩
    · obtain ⟨q, a2, s2, e2, q0, q1, i2⟩ := src_byte code hc (m + 1) a1 s1 i1 (by omega)
      obtain ⟨p, a3, s3, e3, p0, p1, i3⟩ := src_byte code hc (m + 1 + 1) a2 s2 i2 (by omega)
      rw [if_neg h2, e1, Option.bind_some]
      simp only
      rw [e2, Option.bind_some]
      simp only
      rw [e3, Option.bind_some, if_neg n0]
      have w1 : wrap64 (r * 65536) = r * 65536 := wrap_id (by omega) (by omega)
      have w2 : wrap64 (q * 256) = q * 256 := wrap_id (by omega) (by omega)
      have w3 : wrap64 (r * 65536 + q * 256) = r * 65536 + q * 256 := wrap_id (by omega) (by omega)
      have w4 : wrap64 (r * 65536 + q * 256 + p) = r * 65536 + q * 256 + p := wrap_id (by omega) (by omega)
      simp only [w1, w2, w3, w4]
      clear w1 w2 w3 w4
      have := tmod_nn (r * 65536 + q * 256 + p) n (by omega) (by omega)
      exact ⟨_, _, _, rfl, this.1, this.2, i3.mono (by omega)⟩
theorem src_start (code : List Int) : ∃ s, spec_l00Source.v code = some (code, 0, s) ∧ Src 0 0 s := by
  rw [spec_l00Source.v_eq]
  refine ⟨_, rfl, by omega, by omega, ?_, ?_⟩ <;> omega
theorem at_n (l : List Int) (g : ∀ y ∈ l, (Lit.int .u8 y).wf = true) (hl : l.length ≤ 1048576) (i : Int) (h0 : 0 ≤ i) (h1 : i ≤ 1000) (n : Int) (n0 : 2 ≤ n) (n1 : n ≤ 300) : ∃ t, laws_at.v l i n = some t ∧ 0 ≤ t ∧ t < n := by
  rw [laws_at.v_eq, if_neg (by omega)]
  by_cases c : (l.length : Int) = 0
  · rw [if_pos c, if_neg (by omega)]
    have := tmod_nn (wrap64 (i * 7)) n (by rw [wrap_id (by omega) (by omega)]; omega) (by omega)
    exact ⟨_, rfl, this.1, this.2⟩
  · have m1 := tmod_nn i l.length h0 (by omega)
    have m2 := tmod_nn (wrap64 (i + 1)) l.length (by rw [wrap_id (by omega) (by omega)]; omega) (by omega)
    rw [if_neg c, if_pos m1.1, if_pos m1.2, if_pos m2.1, if_pos m2.2, if_neg (by omega)]
    obtain ⟨a, ha⟩ : ∃ a, a = rd l (Int.tmod i l.length) := ⟨_, rfl⟩
    obtain ⟨b, hb⟩ : ∃ b, b = rd l (Int.tmod (wrap64 (i + 1)) l.length) := ⟨_, rfl⟩
    have ra := rd_byte l g (Int.tmod i l.length)
    have rb := rd_byte l g (Int.tmod (wrap64 (i + 1)) l.length)
    rw [← ha] at ra
    rw [← hb] at rb
    rw [← ha, ← hb]
    obtain ⟨e, he⟩ : ∃ e, e = Int.tdiv i l.length := ⟨_, rfl⟩
    have re : 0 ≤ e ∧ e ≤ 1000 := by
      rw [he, Int.tdiv_eq_ediv_of_nonneg h0]
      exact ⟨Int.ediv_nonneg h0 (by omega), Int.le_trans (Int.ediv_le_self _ h0) h1⟩
    rw [← he]
    clear ha hb he m1 m2
    have w1 : wrap64 a = a := wrap_id (by omega) (by omega)
    have w2 : wrap64 b = b := wrap_id (by omega) (by omega)
    have w3 : wrap64 e = e := wrap_id (by omega) (by omega)
    have w4 : wrap64 (a * 31) = a * 31 := wrap_id (by omega) (by omega)
    have w5 : wrap64 (a * 31 + b) = a * 31 + b := wrap_id (by omega) (by omega)
    have w6 : wrap64 (a * 31 + b + e) = a * 31 + b + e := wrap_id (by omega) (by omega)
    rw [w1, w2, w3, w4, w5, w6]
    have := tmod_nn (a * 31 + b + e) n (by omega) (by omega)
    exact ⟨_, rfl, this.1, this.2⟩
def ansOK (a b c d : Int) : Prop := (1 ≤ a ∧ a ≤ 8) ∧ (0 ≤ b ∧ b ≤ 1000000) ∧ (-1 ≤ c ∧ c ≤ 255) ∧ 0 ≤ d ∧ d ≤ 2000000000
theorem answerOf_v (code : List Int) (hc : ∀ y ∈ code, (Lit.int .u8 y).wf = true) : ∃ a b c d, spec_AnswerOf.v code = some (a, b, c, d) ∧ ansOK a b c d := by
  obtain ⟨s, e0, S0⟩ := src_start code
  obtain ⟨r1, x1, s1, e1, a1, b1, S1⟩ := src_next code hc 0 0 s 8 S0 (by omega) (by omega)
  obtain ⟨r2, x2, s2, e2, a2, b2, S2⟩ := src_next code hc _ x1 s1 3 S1 (by omega) (by omega)
  obtain ⟨r3, x3, s3, e3, a3, b3, S3⟩ := src_next code hc _ x2 s2 3 S2 (by omega) (by omega)
  obtain ⟨r4, x4, s4, e4, a4, b4, S4⟩ := src_next code hc _ x3 s3 3 S3 (by omega) (by omega)
  refine ⟨1 + r1, r2, r3 - 1, r4 * 10, ?_, by omega, by omega, by omega, by omega, by omega⟩
  rw [spec_AnswerOf.v_eq, e0, Option.bind_some, spec_l00Src_answer.v_eq, e1, Option.bind_some, e2, Option.bind_some, e3, Option.bind_some, e4, Option.bind_some, Option.bind_some]
  rw [wrap_id (x := 1 + r1) (by omega) (by omega), wrap_id (x := r3 - 1) (by omega) (by omega), wrap_id (x := r4 * 10) (by omega) (by omega)]
theorem inB_true {x a b : Int} (h0 : a ≤ x) (h1 : x ≤ b) : inB x a b = true := by unfold inB; simp [h0, h1]
theorem form_true (k a b c d : Int) (x : ByteArray) (hk : 0 ≤ k ∧ k ≤ 6) (h : ansOK a b c d) : spec_l11Form.v k 1 2 a b c d x = some true := by
  obtain ⟨h1, h2, h3, h4⟩ := h
  rw [spec_l11Form.v_eq, spec_l05Answer.v_eq]
  simp only [spec_l01In_v, inB_true hk.1 hk.2, inB_true h1.1 h1.2, inB_true h2.1 h2.2, inB_true h3.1 h3.2, inB_true h4.1 h4.2, inB_true (show (0 : Int) ≤ 1 by decide) (show (1 : Int) ≤ 255 by decide), inB_true (show (1 : Int) ≤ 2 by decide) (show (2 : Int) ≤ 65535 by decide), Option.bind_some, if_true]
theorem jv2_step (more : List Int) (N F : Int) (L : List S73) (i k q0 q1 q2 q3 p0 p1 p2 p3 a b c d : Int) (h : ansOK a b c d) (hN : spec_l04Nodes.v N = some true) (hk : 0 ≤ k ∧ k ≤ 6 ∧ k < N) (hL : L.length < 1000) :
    ∃ t, laws_FnReplies.jv2 more N F L i k q0 q1 q2 q3 p0 p1 p2 p3 a b c d = laws_FnReplies.lv0 more N F (L ++ [⟨k, 1, 2, ⟨a, b, c, d⟩, t⟩]) (wrap64 (i + 1)) q0 q1 q2 q3 p0 p1 p2 p3 := by
  have hf : ∀ x, spec_l11Form.v k 1 2 a b c d x = some true := fun x => form_true k a b c d x ⟨hk.1, hk.2.1⟩ h
  have hi : ∀ x, impl_isReply.v k 1 2 a b c d x = some true := fun x => by
    obtain ⟨r, f1, f2⟩ := form_one k 1 2 a b c d x
    rw [hf x] at f1
    rw [f2, ← f1]
  obtain ⟨t, r1, r2⟩ := reply_v k 1 2 a b c d ⟨#[]⟩
  have m : ∀ x, impl_replyMac.v k 1 2 a b c d x = some t := fun x => by
    rw [← r2, impl_replyMac.v_eq, impl_replyMac.v_eq]
  obtain ⟨z, z1, z2⟩ := nodes_one N
  rw [hN] at z1
  obtain rfl := Option.some.inj z1
  have hok : impl_ReplyOK.v N k 1 2 a b c d t = some true := by
    rw [impl_ReplyOK.v_eq]
    simp [z2, hi, m, hk.2.2]
  refine ⟨t, ?_⟩
  rw [laws_FnReplies.jv2_eq, impl_MakeReply.v_eq, hi, Option.bind_some, if_pos rfl, m, Option.bind_some, Option.bind_some, spec_MakeReply.v_eq, hf, Option.bind_some, if_pos rfl, spec_l11Make.v_eq, r1, Option.bind_some, Option.bind_some, Option.bind_some, impl_ReplyMac.v_eq, hi, Option.bind_some, if_pos rfl, m, Option.bind_some, Option.bind_some]
  simp only [if_true, beq_self_eq_true, Bool.not_true, Bool.or_self, Bool.false_eq_true, if_false, hok, Option.bind_some]
  rw [if_pos (by omega)]
theorem rP_mem (n c s : Int) (l : List S73) (a : Int × Int × Int × Int) : ∀ i, i ≤ l.length → (rP n c s l a i).Nodup ∧ ∀ x ∈ rP n c s l a i, ∃ r ∈ l, r.f0 = x ∧ rkey r = a ∧ r.f2 = s
  | 0, _ => by simp [rP]
  | i + 1, h => by
    obtain ⟨h1, h2⟩ := rP_mem n c s l a i (by omega)
    rw [rP_succ (by omega)]
    unfold rstep
    split
    · rename_i hc
      obtain ⟨_, _, c2, c3, c4⟩ := hc
      have hni : l[i].f0 ∉ rP n c s l a i := fun hm => by rw [List.contains_iff_mem.2 hm] at c4; cases c4
      refine ⟨List.nodup_append.2 ⟨h1, by simp, fun x hx y hy => ?_⟩, fun x hx => ?_⟩
      · simp at hy
        subst hy
        exact fun e => hni (e ▸ hx)
      · rcases List.mem_append.1 hx with hx | hx
        · exact h2 x hx
        · simp at hx
          subst hx
          exact ⟨l[i], List.getElem_mem _, rfl, c3, c2⟩
    · exact ⟨h1, h2⟩
theorem few (f : Int) (hf : f = 1 ∨ f = 2) (xs : List Int) (hn : xs.Nodup) (hx : ∀ x ∈ xs, 0 ≤ x ∧ x < f) : (xs.length : Int) ≤ f := by
  match xs, hn, hx with
  | [], _, _ => simp; omega
  | [a], _, _ => simp; omega
  | [a, b], hn, hx =>
    have ha := hx a (by simp)
    have hb := hx b (by simp)
    have hab : a ≠ b := by simp at hn; exact hn
    simp; omega
  | a :: b :: c :: r, hn, hx =>
    have ha := hx a (by simp)
    have hb := hx b (by simp)
    have hc := hx c (by simp)
    simp only [List.nodup_cons, List.mem_cons, not_or] at hn
    have h1 := hn.1.1
    have h2 := hn.1.2.1
    have h3 := hn.2.1.1
    omega
theorem src_l (n c s : Int) (l : List S73) (hl : l.length ≤ 4096) : ∀ (d i : Nat), l.length - i = d → i ≤ l.length →
    ∃ r, spec_l11Count.lv0 n c s l i = some r ∧ (r.2.2.2.2 = true → ∃ (j : Nat) (hj : j < l.length), (r.1, r.2.1, r.2.2.1, r.2.2.2.1) = rkey l[j] ∧ ((rP n c s l (rkey l[j]) (j + 1)).length : Int) > wrap64 (Int.tdiv (wrap64 (n - 1)) 3))
  | 0, i, h, hi => ⟨_, by rw [spec_l11Count.lv0_eq, if_neg (by omega)], fun e => by cases e⟩
  | d + 1, i, h, hi => by
    have hlt : i < l.length := by omega
    have h0 : rP n c s l (rkey l[i]) 0 = [] := rfl
    have hin := in_l n c s l hl i hlt (i + 1) 0 (by omega) (by omega)
    rw [h0] at hin
    rw [spec_l11Count.lv0_eq, if_pos (by omega)]
    by_cases e : ((rP n c s l (rkey l[i]) (i + 1)).length : Int) > wrap64 (Int.tdiv (wrap64 (n - 1)) 3)
    · rw [if_pos e] at hin
      exact ⟨_, hin, fun _ => ⟨i, hlt, rfl, e⟩⟩
    · rw [if_neg e] at hin
      obtain ⟨r, e1, e2⟩ := src_l n c s l hl d (i + 1) (by omega) (by omega)
      exact ⟨r, hin.trans e1, e2⟩
theorem count_val (n c s : Int) (l : List S73) (hl : l.length ≤ 60) (hn : spec_l04Nodes.v n = some true) : ∃ r : Int × Int × Int × Int × Bool,
    (r.2.2.2.2 = true → ∃ (j : Nat) (hj : j < l.length), (r.1, r.2.1, r.2.2.1, r.2.2.2.1) = rkey l[j] ∧ ((rP n c s l (rkey l[j]) (j + 1)).length : Int) > wrap64 (Int.tdiv (wrap64 (n - 1)) 3)) ∧
    spec_CountReplies.v n c s l = some (if r.2.2.2.2 = true then (r.1, r.2.1, r.2.2.1, r.2.2.2.1, 0) else (0, 0, 0, 0, 19)) ∧ impl_CountReplies.v n c s l = some (if r.2.2.2.2 = true then (r.1, r.2.1, r.2.2.1, r.2.2.2.1, 0) else (0, 0, 0, 0, 19)) := by
  obtain ⟨r, h1, h2⟩ := src_l n c s l (by omega) _ 0 rfl (by omega)
  obtain ⟨q, q1, q2⟩ := count_one n c s l (by omega)
  have hs : spec_CountReplies.v n c s l = some (if r.2.2.2.2 = true then (r.1, r.2.1, r.2.2.1, r.2.2.2.1, 0) else (0, 0, 0, 0, 19)) := by
    have h1' : spec_l11Count.lv0 n c s l 0 = some r := by simpa using h1
    rw [spec_CountReplies.v_eq, if_neg (by omega), hn, Option.bind_some, if_pos rfl, if_neg (by omega), spec_l11Count.v_eq, h1', Option.bind_some]
    split <;> rfl
  exact ⟨r, h2, hs, by rw [q2, ← q1, hs]⟩
theorem loop_l (more : List Int) (g : ∀ y ∈ more, (Lit.int .u8 y).wf = true) (hm : more.length ≤ 1048576) (N F : Int) (hN : spec_l04Nodes.v N = some true) (hNF : (N = 4 ∧ F = 1) ∨ (N = 7 ∧ F = 2)) (hF : F = wrap64 (Int.tdiv (wrap64 (N - 1)) 3)) (q0 q1 q2 q3 p0 p1 p2 p3 : Int) (hq : ansOK q0 q1 q2 q3) (hp : ansOK p0 p1 p2 p3) :
    ∀ (d i : Nat) (L : List S73), 12 - i = d → i ≤ 12 → L.length = i → (∀ r ∈ L, r.f2 = 2 ∧ 0 ≤ r.f0 ∧ (F ≤ r.f0 → rkey r = (q0, q1, q2, q3))) → laws_FnReplies.lv0 more N F L i q0 q1 q2 q3 p0 p1 p2 p3 = some true
  | 0, i, L, h, hi, hL, hr => by
    obtain ⟨r, a1, a2, a3⟩ := count_val N 1 2 L (by omega) hN
    obtain ⟨u, b1, b2, b3⟩ := count_val N 1 3 L (by omega) hN
    have hu : ¬ u.2.2.2.2 = true := fun e => by
      obtain ⟨j, hj, _, hc⟩ := b1 e
      obtain ⟨_, hm2⟩ := rP_mem N 1 3 L (rkey L[j]) (j + 1) (by omega)
      have : rP N 1 3 L (rkey L[j]) (j + 1) = [] := by
        apply List.eq_nil_iff_forall_not_mem.2
        intro x hx
        obtain ⟨r', hr', _, _, h2⟩ := hm2 x hx
        have := (hr r' hr').1
        omega
      rw [this, ← hF] at hc
      simp at hc
      omega
    have hv : r.2.2.2.2 = true → (r.1, r.2.1, r.2.2.1, r.2.2.2.1) = (q0, q1, q2, q3) := fun e => by
      obtain ⟨j, hj, hk, hc⟩ := a1 e
      obtain ⟨hn, hm2⟩ := rP_mem N 1 2 L (rkey L[j]) (j + 1) (by omega)
      rw [hk]
      apply Decidable.byContradiction
      intro hne
      have hle := few F (by omega) _ hn (fun x hx => by
        obtain ⟨r', hr', e0, e1, _⟩ := hm2 x hx
        have h3 := hr r' hr'
        rw [← e0]
        refine ⟨h3.2.1, ?_⟩
        apply Decidable.byContradiction
        intro h4
        exact hne (e1.symm.trans (h3.2.2 (by omega))))
      rw [← hF] at hc
      omega
    rw [laws_FnReplies.lv0_eq, if_neg (by omega), a3, Option.bind_some, a2, Option.bind_some, b3, Option.bind_some, if_neg hu]
    by_cases e : r.2.2.2.2 = true
    · have := hv e
      simp only [Prod.mk.injEq] at this
      obtain ⟨e0, e1, e2, e3⟩ := this
      rw [if_pos e, e0, e1, e2, e3]
      simp
    · rw [if_neg e]
      simp
  | d + 1, i, L, h, hi, hL, hr => by
    obtain ⟨k, hk, k0, k1⟩ := at_n more g hm (wrap64 ((i : Int) + 1)) (by rw [wrap_nat i (by omega)]; omega) (by rw [wrap_nat i (by omega)]; omega) N (by omega) (by omega)
    rw [laws_FnReplies.lv0_eq, if_pos (by omega), hk, Option.bind_some]
    by_cases c : k < F
    · obtain ⟨t, ht⟩ := jv2_step more N F L i k q0 q1 q2 q3 p0 p1 p2 p3 p0 p1 p2 p3 hp hN ⟨k0, by omega, k1⟩ (by omega)
      rw [if_pos c, ht, wrap_nat i (by omega)]
      exact loop_l more g hm N F hN hNF hF q0 q1 q2 q3 p0 p1 p2 p3 hq hp d (i + 1) _ (by omega) (by omega) (by simp; omega) (fun r hr' => by
        rcases List.mem_append.1 hr' with h' | h'
        · exact hr r h'
        · simp at h'
          subst h'
          exact ⟨rfl, k0, fun hh => by simp at hh; omega⟩)
    · obtain ⟨t, ht⟩ := jv2_step more N F L i k q0 q1 q2 q3 p0 p1 p2 p3 q0 q1 q2 q3 hq hN ⟨k0, by omega, k1⟩ (by omega)
      rw [if_neg c, ht, wrap_nat i (by omega)]
      exact loop_l more g hm N F hN hNF hF q0 q1 q2 q3 p0 p1 p2 p3 hq hp d (i + 1) _ (by omega) (by omega) (by simp; omega) (fun r hr' => by
        rcases List.mem_append.1 hr' with h' | h'
        · exact hr r h'
        · simp at h'
          subst h'
          exact ⟨rfl, k0, fun _ => rfl⟩)
theorem FnReplies_pure (y0 : List Int) (y1 : List Int) : (y0.length ≤ 9223372036854775807 ∧ ∀ y ∈ y0, (Lit.int .u8 y).wf = true) → (y1.length ≤ 9223372036854775807 ∧ ∀ y ∈ y1, (Lit.int .u8 y).wf = true) → laws_FnReplies.v y0 y1 = some true := by
  intro g0 g1
  rw [laws_FnReplies.v_eq]
  by_cases c0 : (y0.length : Int) > 1048576
  · rw [if_pos c0, laws_FnReplies.jv0_eq, if_pos rfl]
  rw [if_neg c0, laws_FnReplies.jv0_eq]
  by_cases c1 : (y1.length : Int) > 1048576
  · rw [if_pos (by simpa using c1)]
  obtain ⟨k, hk, k0, k1⟩ := at_n y1 g1.2 (by omega) 0 (by omega) (by omega) 2 (by omega) (by omega)
  obtain ⟨q0, q1, q2, q3, eq, hq⟩ := answerOf_v y0 g0.2
  obtain ⟨p0, p1, p2, p3, ep, hp⟩ := answerOf_v y1 g1.2
  rw [if_neg (by simpa using c1), Option.bind_some, hk, Option.bind_some, if_pos k0, if_pos (by simpa using k1), eq, Option.bind_some, ep, Option.bind_some]
  have hcase : k = 0 ∨ k = 1 := by omega
  rcases hcase with rfl | rfl
  · exact loop_l y1 g1.2 (by omega) 4 _ (by rw [spec_l04Nodes.v_eq]; simp) (Or.inl ⟨rfl, by simp [wrap64]⟩) rfl q0 q1 q2 q3 p0 p1 p2 p3 hq hp 12 0 [] rfl (by omega) rfl (by simp)
  · exact loop_l y1 g1.2 (by omega) 7 _ (by rw [spec_l04Nodes.v_eq]; simp) (Or.inr ⟨rfl, by simp [wrap64]⟩) rfl q0 q1 q2 q3 p0 p1 p2 p3 hq hp 12 0 [] rfl (by omega) rfl (by simp)
end Go.Proofs.YtlifdodphkimpaaDoor.B
end
