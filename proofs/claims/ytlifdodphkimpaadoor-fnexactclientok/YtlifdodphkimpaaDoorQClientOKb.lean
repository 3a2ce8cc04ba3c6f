/- A part of the proof that FnExactClientOK returns true at every input: plain functions, contracts and lemmas. No conditions. -/
import Derived.Test.YtlifdodphkimpaaDoorQClientOKa
set_option linter.unusedVariables false
set_option linter.unusedSimpArgs false
set_option linter.unusedSectionVars false
section
namespace Go.Proofs.YtlifdodphkimpaaDoor.B
open Go.RowKit Go.Proofs.YtlifdodphkimpaaDoorW.PrintWords Go.Proofs.YtlifdodphkimpaaDoorW.PrintLast Go.Proofs.YtlifdodphkimpaaDoorW.PrintMore
attribute [local go_sem] max2_int min2_int max_two min_two max_three min_three max_four min_four
def laws_szReply.f (a0_0 : Int) (a0_1 : Int) (a0_2 : Int) (a0_3 : Int) (a0_4 : Int) (a0_5 : Int) (a0_6 : Int) (a0_7 : ByteArray) (a1 : Int) : Option (Int) := if (wrap64 (a1 - (a0_7.size : Int))) < 0 then (some (-1)) else (some (wrap64 (a1 - (a0_7.size : Int))))
def laws_szReply.v (a0_0 : Int) (a0_1 : Int) (a0_2 : Int) (a0_3 : Int) (a0_4 : Int) (a0_5 : Int) (a0_6 : Int) (a0_7 : ByteArray) (a1 : Int) : Option (Int) := laws_szReply.f a0_0 a0_1 a0_2 a0_3 a0_4 a0_5 a0_6 a0_7 a1
theorem laws_szReply.v_lim (a0_0 : Int) (a0_1 : Int) (a0_2 : Int) (a0_3 : Int) (a0_4 : Int) (a0_5 : Int) (a0_6 : Int) (a0_7 : ByteArray) (a1 : Int) : LimIs (fun _ => laws_szReply.f a0_0 a0_1 a0_2 a0_3 a0_4 a0_5 a0_6 a0_7 a1) (laws_szReply.v a0_0 a0_1 a0_2 a0_3 a0_4 a0_5 a0_6 a0_7 a1) := LimIs.const _
theorem laws_szReply.v_eq (a0_0 : Int) (a0_1 : Int) (a0_2 : Int) (a0_3 : Int) (a0_4 : Int) (a0_5 : Int) (a0_6 : Int) (a0_7 : ByteArray) (a1 : Int) : laws_szReply.v a0_0 a0_1 a0_2 a0_3 a0_4 a0_5 a0_6 a0_7 a1 = (if (wrap64 (a1 - (a0_7.size : Int))) < 0 then (some (-1)) else (some (wrap64 (a1 - (a0_7.size : Int)))) : Option (Int)) := rfl
def laws_szReplyS.l0 : Nat → List (S117) → Int → Int → Option (Int)
  | 0, _, _, _ => none
  | k + 1, x0, x1, x5 => if x5 < (x0.length : Int) then (if 0 ≤ x5 then ((laws_szReply.f ((rd_T117 x0 x5).f0) ((rd_T117 x0 x5).f1) ((rd_T117 x0 x5).f2) ((rd_T117 x0 x5).f3.f0) ((rd_T117 x0 x5).f3.f1) ((rd_T117 x0 x5).f3.f2) ((rd_T117 x0 x5).f3.f3) ((rd_T117 x0 x5).f4) x1).bind fun t865 => (if t865 < 0 then (some (-1)) else (laws_szReplyS.l0 k x0 t865 (wrap64 (x5 + 1))))) else (none)) else (some x1)
def laws_szReplyS.f (k : Nat) (l0 : List (S117)) (a1 : Int) : Option (Int) := if (wrap64 (a1 - (l0.length : Int))) < 0 then (some (-1)) else (laws_szReplyS.l0 k l0 (wrap64 (a1 - (l0.length : Int))) 0)
theorem laws_szReplyS.mono_l : ∀ k, (∀ y0 y1 y2, LeO (laws_szReplyS.l0 k y0 y1 y2) (laws_szReplyS.l0 (k + 1) y0 y1 y2))
  | 0 => fun _ _ _ r h => by simp [laws_szReplyS.l0] at h
  | k + 1 => by
    have ih0 := laws_szReplyS.mono_l k
    · intro y0 y1 y2
      unfold laws_szReplyS.l0
      repeat' first
      | (with_reducible exact ih0 _ _ _)
      | (with_reducible exact LeO.refl _)
      | (with_reducible exact LeO.none _)
      | (with_reducible refine LeO.ite ?_ ?_)
      | (with_reducible refine LeO.bind ?_ (fun _ => ?_))
      | exact ih0 _ _ _
      | exact LeO.none _
      | refine LeO.ite ?_ ?_
      | refine LeO.bind ?_ (fun _ => ?_)
theorem laws_szReplyS.mono : ∀ a0 a1 k, LeO (laws_szReplyS.f k a0 a1) (laws_szReplyS.f (k + 1) a0 a1) := by
  intro a0 a1 k
  have ih0 := laws_szReplyS.mono_l k
  unfold laws_szReplyS.f
  repeat' first
      | (with_reducible exact ih0 _ _ _)
      | (with_reducible exact LeO.refl _)
      | (with_reducible exact LeO.none _)
      | (with_reducible refine LeO.ite ?_ ?_)
      | (with_reducible refine LeO.bind ?_ (fun _ => ?_))
      | exact ih0 _ _ _
      | exact LeO.none _
      | refine LeO.ite ?_ ?_
      | refine LeO.bind ?_ (fun _ => ?_)
noncomputable def laws_szReplyS.lv0 (x0 : List (S117)) (x1 : Int) (x5 : Int) : Option (Int) := lim (fun k_ => laws_szReplyS.l0 k_ x0 x1 x5)
noncomputable def laws_szReplyS.v (l0 : List (S117)) (a1 : Int) : Option (Int) := lim (fun k_ => laws_szReplyS.f k_ l0 a1)
theorem laws_szReplyS.lv0_lim (x0 : List (S117)) (x1 : Int) (x5 : Int) : LimIs (fun k_ => laws_szReplyS.l0 k_ x0 x1 x5) (laws_szReplyS.lv0 x0 x1 x5) := lim_is (fun k_ => (laws_szReplyS.mono_l k_) x0 x1 x5)
theorem laws_szReplyS.v_lim (l0 : List (S117)) (a1 : Int) : LimIs (fun k_ => laws_szReplyS.f k_ l0 a1) (laws_szReplyS.v l0 a1) := lim_is (fun k_ => laws_szReplyS.mono l0 a1 k_)
theorem laws_szReplyS.lv0_eq (x0 : List (S117)) (x1 : Int) (x5 : Int) : laws_szReplyS.lv0 x0 x1 x5 = (if x5 < (x0.length : Int) then (if 0 ≤ x5 then ((laws_szReply.v ((rd_T117 x0 x5).f0) ((rd_T117 x0 x5).f1) ((rd_T117 x0 x5).f2) ((rd_T117 x0 x5).f3.f0) ((rd_T117 x0 x5).f3.f1) ((rd_T117 x0 x5).f3.f2) ((rd_T117 x0 x5).f3.f3) ((rd_T117 x0 x5).f4) x1).bind fun t865 => (if t865 < 0 then (some (-1)) else (laws_szReplyS.lv0 x0 t865 (wrap64 (x5 + 1))))) else (none)) else (some x1) : Option (Int)) := by
  refine LimIs.eq (laws_szReplyS.lv0_lim x0 x1 x5) ?_
  refine LimIs.step (fun k_ => (laws_szReplyS.mono_l k_) x0 x1 x5) ?_
  simp only [laws_szReplyS.l0]
  repeat' (with_reducible first | exact laws_szReply.v_lim _ _ _ _ _ _ _ _ _ | exact laws_szReplyS.lv0_lim _ _ _ | exact LimIs.const _ | refine LimIs.ite ?_ ?_ | refine LimIs.bind ?_ (fun _ => ?_))
theorem laws_szReplyS.v_eq (l0 : List (S117)) (a1 : Int) : laws_szReplyS.v l0 a1 = (if (wrap64 (a1 - (l0.length : Int))) < 0 then (some (-1)) else (laws_szReplyS.lv0 l0 (wrap64 (a1 - (l0.length : Int))) 0) : Option (Int)) := by
  refine LimIs.eq (laws_szReplyS.v_lim l0 a1) ?_
  simp only [laws_szReplyS.f]
  repeat' (with_reducible first | exact laws_szReplyS.lv0_lim _ _ _ | exact LimIs.const _ | refine LimIs.ite ?_ ?_ | refine LimIs.bind ?_ (fun _ => ?_))
def spec_l05Answer.f (a0_0 : Int) (a0_1 : Int) (a0_2 : Int) (a0_3 : Int) : Option (Bool) := (spec_l01In.f a0_0 1 8).bind fun t867 => (if t867 = true then ((spec_l01In.f a0_1 0 1000000).bind fun t868 => (if t868 = true then ((spec_l01In.f a0_2 (-1) 255).bind fun t869 => (if t869 = true then ((spec_l01In.f a0_3 0 2000000000).bind fun t870 => (some t870)) else (some false))) else (some false))) else (some false))
def spec_l05Answer.v (a0_0 : Int) (a0_1 : Int) (a0_2 : Int) (a0_3 : Int) : Option (Bool) := spec_l05Answer.f a0_0 a0_1 a0_2 a0_3
theorem spec_l05Answer.v_lim (a0_0 : Int) (a0_1 : Int) (a0_2 : Int) (a0_3 : Int) : LimIs (fun _ => spec_l05Answer.f a0_0 a0_1 a0_2 a0_3) (spec_l05Answer.v a0_0 a0_1 a0_2 a0_3) := LimIs.const _
theorem spec_l05Answer.v_eq (a0_0 : Int) (a0_1 : Int) (a0_2 : Int) (a0_3 : Int) : spec_l05Answer.v a0_0 a0_1 a0_2 a0_3 = ((spec_l01In.v a0_0 1 8).bind fun t867 => (if t867 = true then ((spec_l01In.v a0_1 0 1000000).bind fun t868 => (if t868 = true then ((spec_l01In.v a0_2 (-1) 255).bind fun t869 => (if t869 = true then ((spec_l01In.v a0_3 0 2000000000).bind fun t870 => (some t870)) else (some false))) else (some false))) else (some false)) : Option (Bool)) := rfl
def spec_l11Form.f (a0_0 : Int) (a0_1 : Int) (a0_2 : Int) (a0_3 : Int) (a0_4 : Int) (a0_5 : Int) (a0_6 : Int) (a0_7 : ByteArray) : Option (Bool) := (spec_l01In.f a0_0 0 6).bind fun t872 => (if t872 = true then ((spec_l01In.f a0_1 0 255).bind fun t873 => (if t873 = true then ((spec_l01In.f a0_2 1 65535).bind fun t874 => (if t874 = true then ((spec_l05Answer.f a0_3 a0_4 a0_5 a0_6).bind fun t875 => (some t875)) else (some false))) else (some false))) else (some false))
def spec_l11Form.v (a0_0 : Int) (a0_1 : Int) (a0_2 : Int) (a0_3 : Int) (a0_4 : Int) (a0_5 : Int) (a0_6 : Int) (a0_7 : ByteArray) : Option (Bool) := spec_l11Form.f a0_0 a0_1 a0_2 a0_3 a0_4 a0_5 a0_6 a0_7
theorem spec_l11Form.v_lim (a0_0 : Int) (a0_1 : Int) (a0_2 : Int) (a0_3 : Int) (a0_4 : Int) (a0_5 : Int) (a0_6 : Int) (a0_7 : ByteArray) : LimIs (fun _ => spec_l11Form.f a0_0 a0_1 a0_2 a0_3 a0_4 a0_5 a0_6 a0_7) (spec_l11Form.v a0_0 a0_1 a0_2 a0_3 a0_4 a0_5 a0_6 a0_7) := LimIs.const _
theorem spec_l11Form.v_eq (a0_0 : Int) (a0_1 : Int) (a0_2 : Int) (a0_3 : Int) (a0_4 : Int) (a0_5 : Int) (a0_6 : Int) (a0_7 : ByteArray) : spec_l11Form.v a0_0 a0_1 a0_2 a0_3 a0_4 a0_5 a0_6 a0_7 = ((spec_l01In.v a0_0 0 6).bind fun t872 => (if t872 = true then ((spec_l01In.v a0_1 0 255).bind fun t873 => (if t873 = true then ((spec_l01In.v a0_2 1 65535).bind fun t874 => (if t874 = true then ((spec_l05Answer.v a0_3 a0_4 a0_5 a0_6).bind fun t875 => (some t875)) else (some false))) else (some false))) else (some false)) : Option (Bool)) := rfl
def spec_l04Secret.f (k : Nat) (a0 : Int) : Option (ByteArray) := (some (([(a0) % 256] : List Int) : List Int)).bind fun y876 => (if 8 + (strOfNums y876).size ≤ 9223372036854775807 then (if ((⟨#[110, 111, 100, 101, 32, 107, 101, 121]⟩ : ByteArray) ++ (strOfNums y876)).size ≤ 140737488355328 then ((spec_l01Hash.f k (bytesOf ((⟨#[110, 111, 100, 101, 32, 107, 101, 121]⟩ : ByteArray) ++ (strOfNums y876)))).bind fun t882 => (some t882)) else (none)) else (none))
theorem spec_l04Secret.mono : ∀ a0 k, LeO (spec_l04Secret.f k a0) (spec_l04Secret.f (k + 1) a0) := by
  intro a0 k
  unfold spec_l04Secret.f
  repeat' first
      | (with_reducible exact spec_l01Hash.mono _ _)
      | (with_reducible exact LeO.refl _)
      | (with_reducible exact LeO.none _)
      | (with_reducible refine LeO.ite ?_ ?_)
      | (with_reducible refine LeO.bind ?_ (fun _ => ?_))
      | exact spec_l01Hash.mono _ _
      | exact LeO.none _
      | refine LeO.ite ?_ ?_
      | refine LeO.bind ?_ (fun _ => ?_)
noncomputable def spec_l04Secret.v (a0 : Int) : Option (ByteArray) := lim (fun k_ => spec_l04Secret.f k_ a0)
theorem spec_l04Secret.v_lim (a0 : Int) : LimIs (fun k_ => spec_l04Secret.f k_ a0) (spec_l04Secret.v a0) := lim_is (fun k_ => spec_l04Secret.mono a0 k_)
theorem spec_l04Secret.v_eq (a0 : Int) : spec_l04Secret.v a0 = ((some (([(a0) % 256] : List Int) : List Int)).bind fun y876 => (if 8 + (strOfNums y876).size ≤ 9223372036854775807 then (if ((⟨#[110, 111, 100, 101, 32, 107, 101, 121]⟩ : ByteArray) ++ (strOfNums y876)).size ≤ 140737488355328 then ((spec_l01Hash.v (bytesOf ((⟨#[110, 111, 100, 101, 32, 107, 101, 121]⟩ : ByteArray) ++ (strOfNums y876)))).bind fun t882 => (some t882)) else (none)) else (none)) : Option (ByteArray)) := by
  refine LimIs.eq (spec_l04Secret.v_lim a0) ?_
  simp only [spec_l04Secret.f]
  repeat' (with_reducible first | exact spec_l01Hash.v_lim _ | exact LimIs.const _ | refine LimIs.ite ?_ ?_ | refine LimIs.bind ?_ (fun _ => ?_))
def spec_l04Mac.f (k : Nat) (a0 : Int) (l1 : List Int) : Option (ByteArray) := (spec_l04Secret.f k a0).bind fun t1 => (if t1.size + l1.length < 140737488355328 ∧ 0 < t1.size then ((spec_l01Hash.f k (bytesOf t1 ++ l1)).bind fun t2 => (if 8 ≤ t2.size then (some (t2.extract 0 8)) else (none))) else (none))
theorem spec_l04Mac.mono : ∀ a0 l1 k, LeO (spec_l04Mac.f k a0 l1) (spec_l04Mac.f (k + 1) a0 l1) := by
  intro a0 l1 k
  unfold spec_l04Mac.f
  repeat' first
      | (with_reducible exact spec_l04Secret.mono _ _)
      | (with_reducible exact spec_l01Hash.mono _ _)
      | (with_reducible exact LeO.refl _)
      | refine LeO.ite ?_ ?_
      | refine LeO.bind ?_ (fun _ => ?_)
noncomputable def spec_l04Mac.v (a0 : Int) (l1 : List Int) : Option (ByteArray) := lim (fun k_ => spec_l04Mac.f k_ a0 l1)
theorem spec_l04Mac.v_lim (a0 : Int) (l1 : List Int) : LimIs (fun k_ => spec_l04Mac.f k_ a0 l1) (spec_l04Mac.v a0 l1) := lim_is (fun k_ => spec_l04Mac.mono a0 l1 k_)
theorem spec_l04Mac.v_eq (a0 : Int) (l1 : List Int) : spec_l04Mac.v a0 l1 = ((spec_l04Secret.v a0).bind fun t1 => (if t1.size + l1.length < 140737488355328 ∧ 0 < t1.size then ((spec_l01Hash.v (bytesOf t1 ++ l1)).bind fun t2 => (if 8 ≤ t2.size then (some (t2.extract 0 8)) else (none))) else (none)) : Option (ByteArray)) := by
  refine LimIs.eq (spec_l04Mac.v_lim a0 l1) ?_
  simp only [spec_l04Mac.f]
  repeat' (with_reducible first | exact spec_l01Hash.v_lim _ | exact spec_l04Secret.v_lim _ | exact LimIs.const _ | refine LimIs.ite ?_ ?_ | refine LimIs.bind ?_ (fun _ => ?_))
def spec_l02Number.l0 : Nat → Int → List Int → Int → Option (List Int)
  | 0, _, _, _ => none
  | k + 1, x0, x5, x6 => if x6 ≥ 0 then (if 0 ≤ (IntKind.u64.wrap (wrap64 (8 * x6))) then (if x5.length < 140737488355328 then (spec_l02Number.l0 k x0 (x5 ++ [(shr .i64 x0 (IntKind.u64.wrap (wrap64 (8 * x6)))) % 256]) (wrap64 (x6 - 1))) else (none)) else (none)) else (some x5)
def spec_l02Number.f (k : Nat) (a0 : Int) (a1 : Int) : Option (List Int) := spec_l02Number.l0 k a0 (([] : List Int)) (wrap64 (a1 - 1))
theorem spec_l02Number.mono_l : ∀ k, (∀ y0 y1 y2, LeO (spec_l02Number.l0 k y0 y1 y2) (spec_l02Number.l0 (k + 1) y0 y1 y2))
  | 0 => fun _ _ _ r h => by simp [spec_l02Number.l0] at h
  | k + 1 => by
    have ih0 := spec_l02Number.mono_l k
    · intro y0 y1 y2
      unfold spec_l02Number.l0
      repeat' first
      | (with_reducible exact ih0 _ _ _)
      | (with_reducible exact LeO.refl _)
      | (with_reducible exact LeO.none _)
      | (with_reducible refine LeO.ite ?_ ?_)
      | (with_reducible refine LeO.bind ?_ (fun _ => ?_))
      | exact ih0 _ _ _
      | exact LeO.none _
      | refine LeO.ite ?_ ?_
      | refine LeO.bind ?_ (fun _ => ?_)
theorem spec_l02Number.mono : ∀ a0 a1 k, LeO (spec_l02Number.f k a0 a1) (spec_l02Number.f (k + 1) a0 a1) := by
  intro a0 a1 k
  have ih0 := spec_l02Number.mono_l k
  unfold spec_l02Number.f
  repeat' first
      | (with_reducible exact ih0 _ _ _)
      | (with_reducible exact LeO.refl _)
      | (with_reducible exact LeO.none _)
      | (with_reducible refine LeO.ite ?_ ?_)
      | (with_reducible refine LeO.bind ?_ (fun _ => ?_))
      | exact ih0 _ _ _
      | exact LeO.none _
      | refine LeO.ite ?_ ?_
      | refine LeO.bind ?_ (fun _ => ?_)
noncomputable def spec_l02Number.lv0 (x0 : Int) (x5 : List Int) (x6 : Int) : Option (List Int) := lim (fun k_ => spec_l02Number.l0 k_ x0 x5 x6)
noncomputable def spec_l02Number.v (a0 : Int) (a1 : Int) : Option (List Int) := lim (fun k_ => spec_l02Number.f k_ a0 a1)
theorem spec_l02Number.lv0_lim (x0 : Int) (x5 : List Int) (x6 : Int) : LimIs (fun k_ => spec_l02Number.l0 k_ x0 x5 x6) (spec_l02Number.lv0 x0 x5 x6) := lim_is (fun k_ => (spec_l02Number.mono_l k_) x0 x5 x6)
theorem spec_l02Number.v_lim (a0 : Int) (a1 : Int) : LimIs (fun k_ => spec_l02Number.f k_ a0 a1) (spec_l02Number.v a0 a1) := lim_is (fun k_ => spec_l02Number.mono a0 a1 k_)
theorem spec_l02Number.lv0_eq (x0 : Int) (x5 : List Int) (x6 : Int) : spec_l02Number.lv0 x0 x5 x6 = (if x6 ≥ 0 then (if 0 ≤ (IntKind.u64.wrap (wrap64 (8 * x6))) then (if x5.length < 140737488355328 then (spec_l02Number.lv0 x0 (x5 ++ [(shr .i64 x0 (IntKind.u64.wrap (wrap64 (8 * x6)))) % 256]) (wrap64 (x6 - 1))) else (none)) else (none)) else (some x5) : Option (List Int)) := by
  refine LimIs.eq (spec_l02Number.lv0_lim x0 x5 x6) ?_
  refine LimIs.step (fun k_ => (spec_l02Number.mono_l k_) x0 x5 x6) ?_
  simp only [spec_l02Number.l0]
  repeat' (with_reducible first | exact spec_l02Number.lv0_lim _ _ _ | exact LimIs.const _ | refine LimIs.ite ?_ ?_ | refine LimIs.bind ?_ (fun _ => ?_))
theorem spec_l02Number.v_eq (a0 : Int) (a1 : Int) : spec_l02Number.v a0 a1 = (spec_l02Number.lv0 a0 (([] : List Int)) (wrap64 (a1 - 1)) : Option (List Int)) := by
  refine LimIs.eq (spec_l02Number.v_lim a0 a1) ?_
  simp only [spec_l02Number.f]
  repeat' (with_reducible first | exact spec_l02Number.lv0_lim _ _ _ | exact LimIs.const _ | refine LimIs.ite ?_ ?_ | refine LimIs.bind ?_ (fun _ => ?_))
def spec_l11Plain.f (k : Nat) (a0_0 : Int) (a0_1 : Int) (a0_2 : Int) (a0_3 : Int) (a0_4 : Int) (a0_5 : Int) (a0_6 : Int) (a0_7 : ByteArray) : Option (List Int) := (some (([114, 101, 112, 108, 121, (a0_1) % 256] : List Int) : List Int)).bind fun y890 => ((spec_l02Number.f k a0_2 2).bind fun t893 => (if y890.length + t893.length < 140737488355328 then ((some (y890 ++ t893 : List Int)).bind fun y896 => ((some (([(a0_3) % 256] : List Int) : List Int)).bind fun y899 => (if y896.length + y899.length < 140737488355328 then ((some (y896 ++ y899 : List Int)).bind fun y902 => ((spec_l02Number.f k a0_4 3).bind fun t905 => (if y902.length + t905.length < 140737488355328 then ((some (y902 ++ t905 : List Int)).bind fun y908 => ((spec_l02Number.f k (wrap64 (a0_5 + 1)) 2).bind fun t911 => (if y908.length + t911.length < 140737488355328 then ((some (y908 ++ t911 : List Int)).bind fun y914 => ((spec_l02Number.f k a0_6 4).bind fun t917 => (if y914.length + t917.length < 140737488355328 then (some (y914 ++ t917)) else (none)))) else (none)))) else (none)))) else (none)))) else (none)))
theorem spec_l11Plain.mono : ∀ a0 a1 a2 a3 a4 a5 a6 a7 k, LeO (spec_l11Plain.f k a0 a1 a2 a3 a4 a5 a6 a7) (spec_l11Plain.f (k + 1) a0 a1 a2 a3 a4 a5 a6 a7) := by
  intro a0 a1 a2 a3 a4 a5 a6 a7 k
  unfold spec_l11Plain.f
  repeat' first
      | (with_reducible exact spec_l02Number.mono _ _ _)
      | (with_reducible exact LeO.refl _)
      | (with_reducible exact LeO.none _)
      | (with_reducible refine LeO.ite ?_ ?_)
      | (with_reducible refine LeO.bind ?_ (fun _ => ?_))
      | exact spec_l02Number.mono _ _ _
      | exact LeO.none _
      | refine LeO.ite ?_ ?_
      | refine LeO.bind ?_ (fun _ => ?_)
noncomputable def spec_l11Plain.v (a0_0 : Int) (a0_1 : Int) (a0_2 : Int) (a0_3 : Int) (a0_4 : Int) (a0_5 : Int) (a0_6 : Int) (a0_7 : ByteArray) : Option (List Int) := lim (fun k_ => spec_l11Plain.f k_ a0_0 a0_1 a0_2 a0_3 a0_4 a0_5 a0_6 a0_7)
theorem spec_l11Plain.v_lim (a0_0 : Int) (a0_1 : Int) (a0_2 : Int) (a0_3 : Int) (a0_4 : Int) (a0_5 : Int) (a0_6 : Int) (a0_7 : ByteArray) : LimIs (fun k_ => spec_l11Plain.f k_ a0_0 a0_1 a0_2 a0_3 a0_4 a0_5 a0_6 a0_7) (spec_l11Plain.v a0_0 a0_1 a0_2 a0_3 a0_4 a0_5 a0_6 a0_7) := lim_is (fun k_ => spec_l11Plain.mono a0_0 a0_1 a0_2 a0_3 a0_4 a0_5 a0_6 a0_7 k_)
theorem spec_l11Plain.v_eq (a0_0 : Int) (a0_1 : Int) (a0_2 : Int) (a0_3 : Int) (a0_4 : Int) (a0_5 : Int) (a0_6 : Int) (a0_7 : ByteArray) : spec_l11Plain.v a0_0 a0_1 a0_2 a0_3 a0_4 a0_5 a0_6 a0_7 = ((some (([114, 101, 112, 108, 121, (a0_1) % 256] : List Int) : List Int)).bind fun y890 => ((spec_l02Number.v a0_2 2).bind fun t893 => (if y890.length + t893.length < 140737488355328 then ((some (y890 ++ t893 : List Int)).bind fun y896 => ((some (([(a0_3) % 256] : List Int) : List Int)).bind fun y899 => (if y896.length + y899.length < 140737488355328 then ((some (y896 ++ y899 : List Int)).bind fun y902 => ((spec_l02Number.v a0_4 3).bind fun t905 => (if y902.length + t905.length < 140737488355328 then ((some (y902 ++ t905 : List Int)).bind fun y908 => ((spec_l02Number.v (wrap64 (a0_5 + 1)) 2).bind fun t911 => (if y908.length + t911.length < 140737488355328 then ((some (y908 ++ t911 : List Int)).bind fun y914 => ((spec_l02Number.v a0_6 4).bind fun t917 => (if y914.length + t917.length < 140737488355328 then (some (y914 ++ t917)) else (none)))) else (none)))) else (none)))) else (none)))) else (none))) : Option (List Int)) := by
  refine LimIs.eq (spec_l11Plain.v_lim a0_0 a0_1 a0_2 a0_3 a0_4 a0_5 a0_6 a0_7) ?_
  simp only [spec_l11Plain.f]
  repeat' (with_reducible first | exact spec_l02Number.v_lim _ _ | exact LimIs.const _ | refine LimIs.ite ?_ ?_ | refine LimIs.bind ?_ (fun _ => ?_))
def spec_l11Mac.f (k : Nat) (a0_0 : Int) (a0_1 : Int) (a0_2 : Int) (a0_3 : Int) (a0_4 : Int) (a0_5 : Int) (a0_6 : Int) (a0_7 : ByteArray) : Option (ByteArray) := (spec_l11Plain.f k a0_0 a0_1 a0_2 a0_3 a0_4 a0_5 a0_6 a0_7).bind fun t924 => ((spec_l04Mac.f k a0_0 t924).bind fun t927 => (some t927))
theorem spec_l11Mac.mono : ∀ a0 a1 a2 a3 a4 a5 a6 a7 k, LeO (spec_l11Mac.f k a0 a1 a2 a3 a4 a5 a6 a7) (spec_l11Mac.f (k + 1) a0 a1 a2 a3 a4 a5 a6 a7) := by
  intro a0 a1 a2 a3 a4 a5 a6 a7 k
  unfold spec_l11Mac.f
  repeat' first
      | (with_reducible exact spec_l04Mac.mono _ _ _)
      | (with_reducible exact spec_l11Plain.mono _ _ _ _ _ _ _ _ _)
      | (with_reducible exact LeO.refl _)
      | (with_reducible exact LeO.none _)
      | (with_reducible refine LeO.ite ?_ ?_)
      | (with_reducible refine LeO.bind ?_ (fun _ => ?_))
      | exact spec_l04Mac.mono _ _ _
      | exact spec_l11Plain.mono _ _ _ _ _ _ _ _ _
      | exact LeO.none _
      | refine LeO.ite ?_ ?_
      | refine LeO.bind ?_ (fun _ => ?_)
noncomputable def spec_l11Mac.v (a0_0 : Int) (a0_1 : Int) (a0_2 : Int) (a0_3 : Int) (a0_4 : Int) (a0_5 : Int) (a0_6 : Int) (a0_7 : ByteArray) : Option (ByteArray) := lim (fun k_ => spec_l11Mac.f k_ a0_0 a0_1 a0_2 a0_3 a0_4 a0_5 a0_6 a0_7)
theorem spec_l11Mac.v_lim (a0_0 : Int) (a0_1 : Int) (a0_2 : Int) (a0_3 : Int) (a0_4 : Int) (a0_5 : Int) (a0_6 : Int) (a0_7 : ByteArray) : LimIs (fun k_ => spec_l11Mac.f k_ a0_0 a0_1 a0_2 a0_3 a0_4 a0_5 a0_6 a0_7) (spec_l11Mac.v a0_0 a0_1 a0_2 a0_3 a0_4 a0_5 a0_6 a0_7) := lim_is (fun k_ => spec_l11Mac.mono a0_0 a0_1 a0_2 a0_3 a0_4 a0_5 a0_6 a0_7 k_)
theorem spec_l11Mac.v_eq (a0_0 : Int) (a0_1 : Int) (a0_2 : Int) (a0_3 : Int) (a0_4 : Int) (a0_5 : Int) (a0_6 : Int) (a0_7 : ByteArray) : spec_l11Mac.v a0_0 a0_1 a0_2 a0_3 a0_4 a0_5 a0_6 a0_7 = ((spec_l11Plain.v a0_0 a0_1 a0_2 a0_3 a0_4 a0_5 a0_6 a0_7).bind fun t924 => ((spec_l04Mac.v a0_0 t924).bind fun t927 => (some t927)) : Option (ByteArray)) := by
  refine LimIs.eq (spec_l11Mac.v_lim a0_0 a0_1 a0_2 a0_3 a0_4 a0_5 a0_6 a0_7) ?_
  simp only [spec_l11Mac.f]
  repeat' (with_reducible first | exact spec_l04Mac.v_lim _ _ | exact spec_l11Plain.v_lim _ _ _ _ _ _ _ _ | exact LimIs.const _ | refine LimIs.ite ?_ ?_ | refine LimIs.bind ?_ (fun _ => ?_))
def spec_l11OK.f (k : Nat) (a0 : Int) (a1_0 : Int) (a1_1 : Int) (a1_2 : Int) (a1_3 : Int) (a1_4 : Int) (a1_5 : Int) (a1_6 : Int) (a1_7 : ByteArray) : Option (Bool) := (spec_l11Form.f a1_0 a1_1 a1_2 a1_3 a1_4 a1_5 a1_6 a1_7).bind fun t929 => (if t929 = true then (if a1_0 < a0 then ((spec_l11Mac.f k a1_0 a1_1 a1_2 a1_3 a1_4 a1_5 a1_6 a1_7).bind fun t930 => (some (t930.toList == a1_7.toList))) else (some false)) else (some false))
theorem spec_l11OK.mono : ∀ a0 a1 a2 a3 a4 a5 a6 a7 a8 k, LeO (spec_l11OK.f k a0 a1 a2 a3 a4 a5 a6 a7 a8) (spec_l11OK.f (k + 1) a0 a1 a2 a3 a4 a5 a6 a7 a8) := by
  intro a0 a1 a2 a3 a4 a5 a6 a7 a8 k
  unfold spec_l11OK.f
  repeat' first
      | (with_reducible exact spec_l11Mac.mono _ _ _ _ _ _ _ _ _)
      | (with_reducible exact LeO.refl _)
      | (with_reducible exact LeO.none _)
      | (with_reducible refine LeO.ite ?_ ?_)
      | (with_reducible refine LeO.bind ?_ (fun _ => ?_))
      | exact spec_l11Mac.mono _ _ _ _ _ _ _ _ _
      | exact LeO.none _
      | refine LeO.ite ?_ ?_
      | refine LeO.bind ?_ (fun _ => ?_)
noncomputable def spec_l11OK.v (a0 : Int) (a1_0 : Int) (a1_1 : Int) (a1_2 : Int) (a1_3 : Int) (a1_4 : Int) (a1_5 : Int) (a1_6 : Int) (a1_7 : ByteArray) : Option (Bool) := lim (fun k_ => spec_l11OK.f k_ a0 a1_0 a1_1 a1_2 a1_3 a1_4 a1_5 a1_6 a1_7)
theorem spec_l11OK.v_lim (a0 : Int) (a1_0 : Int) (a1_1 : Int) (a1_2 : Int) (a1_3 : Int) (a1_4 : Int) (a1_5 : Int) (a1_6 : Int) (a1_7 : ByteArray) : LimIs (fun k_ => spec_l11OK.f k_ a0 a1_0 a1_1 a1_2 a1_3 a1_4 a1_5 a1_6 a1_7) (spec_l11OK.v a0 a1_0 a1_1 a1_2 a1_3 a1_4 a1_5 a1_6 a1_7) := lim_is (fun k_ => spec_l11OK.mono a0 a1_0 a1_1 a1_2 a1_3 a1_4 a1_5 a1_6 a1_7 k_)
theorem spec_l11OK.v_eq (a0 : Int) (a1_0 : Int) (a1_1 : Int) (a1_2 : Int) (a1_3 : Int) (a1_4 : Int) (a1_5 : Int) (a1_6 : Int) (a1_7 : ByteArray) : spec_l11OK.v a0 a1_0 a1_1 a1_2 a1_3 a1_4 a1_5 a1_6 a1_7 = ((spec_l11Form.v a1_0 a1_1 a1_2 a1_3 a1_4 a1_5 a1_6 a1_7).bind fun t929 => (if t929 = true then (if a1_0 < a0 then ((spec_l11Mac.v a1_0 a1_1 a1_2 a1_3 a1_4 a1_5 a1_6 a1_7).bind fun t930 => (some (t930.toList == a1_7.toList))) else (some false)) else (some false)) : Option (Bool)) := by
  refine LimIs.eq (spec_l11OK.v_lim a0 a1_0 a1_1 a1_2 a1_3 a1_4 a1_5 a1_6 a1_7) ?_
  simp only [spec_l11OK.f]
  repeat' (with_reducible first | exact spec_l11Form.v_lim _ _ _ _ _ _ _ _ | exact spec_l11Mac.v_lim _ _ _ _ _ _ _ _ | exact LimIs.const _ | refine LimIs.ite ?_ ?_ | refine LimIs.bind ?_ (fun _ => ?_))
def spec_l08Has.l0 : Nat → List Int → Int → Int → Option (Bool)
  | 0, _, _, _ => none
  | k + 1, x0, x1, x5 => if x5 < (x0.length : Int) then (if 0 ≤ x5 then (if (rd x0 x5) = x1 then (some true) else (spec_l08Has.l0 k x0 x1 (wrap64 (x5 + 1)))) else (none)) else (some false)
def spec_l08Has.f (k : Nat) (l0 : List Int) (a1 : Int) : Option (Bool) := spec_l08Has.l0 k l0 a1 0
theorem spec_l08Has.mono_l : ∀ k, (∀ y0 y1 y2, LeO (spec_l08Has.l0 k y0 y1 y2) (spec_l08Has.l0 (k + 1) y0 y1 y2))
  | 0 => fun _ _ _ r h => by simp [spec_l08Has.l0] at h
  | k + 1 => by
    have ih0 := spec_l08Has.mono_l k
    · intro y0 y1 y2
      unfold spec_l08Has.l0
      repeat' first
      | (with_reducible exact ih0 _ _ _)
      | (with_reducible exact LeO.refl _)
      | (with_reducible exact LeO.none _)
      | (with_reducible refine LeO.ite ?_ ?_)
      | (with_reducible refine LeO.bind ?_ (fun _ => ?_))
      | exact ih0 _ _ _
      | exact LeO.none _
      | refine LeO.ite ?_ ?_
      | refine LeO.bind ?_ (fun _ => ?_)
theorem spec_l08Has.mono : ∀ a0 a1 k, LeO (spec_l08Has.f k a0 a1) (spec_l08Has.f (k + 1) a0 a1) := by
  intro a0 a1 k
  have ih0 := spec_l08Has.mono_l k
  unfold spec_l08Has.f
  repeat' first
      | (with_reducible exact ih0 _ _ _)
      | (with_reducible exact LeO.refl _)
      | (with_reducible exact LeO.none _)
      | (with_reducible refine LeO.ite ?_ ?_)
      | (with_reducible refine LeO.bind ?_ (fun _ => ?_))
      | exact ih0 _ _ _
      | exact LeO.none _
      | refine LeO.ite ?_ ?_
      | refine LeO.bind ?_ (fun _ => ?_)
noncomputable def spec_l08Has.lv0 (x0 : List Int) (x1 : Int) (x5 : Int) : Option (Bool) := lim (fun k_ => spec_l08Has.l0 k_ x0 x1 x5)
noncomputable def spec_l08Has.v (l0 : List Int) (a1 : Int) : Option (Bool) := lim (fun k_ => spec_l08Has.f k_ l0 a1)
theorem spec_l08Has.lv0_lim (x0 : List Int) (x1 : Int) (x5 : Int) : LimIs (fun k_ => spec_l08Has.l0 k_ x0 x1 x5) (spec_l08Has.lv0 x0 x1 x5) := lim_is (fun k_ => (spec_l08Has.mono_l k_) x0 x1 x5)
theorem spec_l08Has.v_lim (l0 : List Int) (a1 : Int) : LimIs (fun k_ => spec_l08Has.f k_ l0 a1) (spec_l08Has.v l0 a1) := lim_is (fun k_ => spec_l08Has.mono l0 a1 k_)
theorem spec_l08Has.lv0_eq (x0 : List Int) (x1 : Int) (x5 : Int) : spec_l08Has.lv0 x0 x1 x5 = (if x5 < (x0.length : Int) then (if 0 ≤ x5 then (if (rd x0 x5) = x1 then (some true) else (spec_l08Has.lv0 x0 x1 (wrap64 (x5 + 1)))) else (none)) else (some false) : Option (Bool)) := by
  refine LimIs.eq (spec_l08Has.lv0_lim x0 x1 x5) ?_
  refine LimIs.step (fun k_ => (spec_l08Has.mono_l k_) x0 x1 x5) ?_
  simp only [spec_l08Has.l0]
  repeat' (with_reducible first | exact spec_l08Has.lv0_lim _ _ _ | exact LimIs.const _ | refine LimIs.ite ?_ ?_ | refine LimIs.bind ?_ (fun _ => ?_))
theorem spec_l08Has.v_eq (l0 : List Int) (a1 : Int) : spec_l08Has.v l0 a1 = (spec_l08Has.lv0 l0 a1 0 : Option (Bool)) := by
  refine LimIs.eq (spec_l08Has.v_lim l0 a1) ?_
  simp only [spec_l08Has.f]
  repeat' (with_reducible first | exact spec_l08Has.lv0_lim _ _ _ | exact LimIs.const _ | refine LimIs.ite ?_ ?_ | refine LimIs.bind ?_ (fun _ => ?_))
mutual
def spec_l11Count.l0 : Nat → Int → Int → Int → List (S73) → Int → Option (Int × Int × Int × Int × Bool)
  | 0, _, _, _, _, _ => none
  | k + 1, x0, x1, x2, x3, x10 => if x10 < (x3.length : Int) then (spec_l11Count.l1 k x0 x1 x2 x3 x10 (([] : List Int)) 0) else (some (0, 0, 0, 0, false))
def spec_l11Count.l1 : Nat → Int → Int → Int → List (S73) → Int → List Int → Int → Option (Int × Int × Int × Int × Bool)
  | 0, _, _, _, _, _, _, _ => none
  | k + 1, x0, x1, x2, x3, x10, x11, x12 => if x12 ≤ x10 then (if 0 ≤ x12 then (if x12 < (x3.length : Int) then ((spec_l11OK.f k x0 ((rd_T73 x3 x12).f0) ((rd_T73 x3 x12).f1) ((rd_T73 x3 x12).f2) ((rd_T73 x3 x12).f3.f0) ((rd_T73 x3 x12).f3.f1) ((rd_T73 x3 x12).f3.f2) ((rd_T73 x3 x12).f3.f3) ((rd_T73 x3 x12).f4)).bind fun t939 => (if t939 = true then (if ((rd_T73 x3 x12).f1) = x1 then (if ((rd_T73 x3 x12).f2) = x2 then (if 0 ≤ x10 then (if x10 < (x3.length : Int) then (if (((rd_T73 x3 x12).f3.f0) == ((rd_T73 x3 x10).f3.f0) && (((rd_T73 x3 x12).f3.f1) == ((rd_T73 x3 x10).f3.f1) && (((rd_T73 x3 x12).f3.f2) == ((rd_T73 x3 x10).f3.f2) && (((rd_T73 x3 x12).f3.f3) == ((rd_T73 x3 x10).f3.f3))))) = true then ((spec_l08Has.f k x11 ((rd_T73 x3 x12).f0)).bind fun t941 => (if t941 = true then (spec_l11Count.l1 k x0 x1 x2 x3 x10 x11 (wrap64 (x12 + 1))) else (if x11.length < 17592186044416 then (spec_l11Count.l1 k x0 x1 x2 x3 x10 (x11 ++ [(rd_T73 x3 x12).f0]) (wrap64 (x12 + 1))) else (none)))) else (spec_l11Count.l1 k x0 x1 x2 x3 x10 x11 (wrap64 (x12 + 1)))) else (none)) else (none)) else (spec_l11Count.l1 k x0 x1 x2 x3 x10 x11 (wrap64 (x12 + 1)))) else (spec_l11Count.l1 k x0 x1 x2 x3 x10 x11 (wrap64 (x12 + 1)))) else (spec_l11Count.l1 k x0 x1 x2 x3 x10 x11 (wrap64 (x12 + 1))))) else (none)) else (none)) else (if (x11.length : Int) > (wrap64 (Int.tdiv (wrap64 (x0 - 1)) 3)) then (if 0 ≤ x10 then (if x10 < (x3.length : Int) then (some ((rd_T73 x3 x10).f3.f0, (rd_T73 x3 x10).f3.f1, (rd_T73 x3 x10).f3.f2, (rd_T73 x3 x10).f3.f3, true)) else (none)) else (none)) else (spec_l11Count.l0 k x0 x1 x2 x3 (wrap64 (x10 + 1))))
end
def spec_l11Count.f (k : Nat) (a0 : Int) (a1 : Int) (a2 : Int) (l3 : List (S73)) : Option (Int × Int × Int × Int × Bool) := spec_l11Count.l0 k a0 a1 a2 l3 0
theorem spec_l11Count.mono_l : ∀ k, (∀ y0 y1 y2 y3 y4, LeO (spec_l11Count.l0 k y0 y1 y2 y3 y4) (spec_l11Count.l0 (k + 1) y0 y1 y2 y3 y4)) ∧ (∀ y0 y1 y2 y3 y4 y5 y6, LeO (spec_l11Count.l1 k y0 y1 y2 y3 y4 y5 y6) (spec_l11Count.l1 (k + 1) y0 y1 y2 y3 y4 y5 y6))
  | 0 => ⟨fun _ _ _ _ _ r h => by simp [spec_l11Count.l0] at h, fun _ _ _ _ _ _ _ r h => by simp [spec_l11Count.l1] at h⟩
  | k + 1 => by
    obtain ⟨ih0, ih1⟩ := spec_l11Count.mono_l k
    refine ⟨?_, ?_⟩
    · intro y0 y1 y2 y3 y4
      unfold spec_l11Count.l0
      repeat' first
      | (with_reducible exact ih0 _ _ _ _ _)
      | (with_reducible exact ih1 _ _ _ _ _ _ _)
      | (with_reducible exact spec_l08Has.mono _ _ _)
      | (with_reducible exact spec_l11OK.mono _ _ _ _ _ _ _ _ _ _)
      | (with_reducible exact LeO.refl _)
      | (with_reducible exact LeO.none _)
      | (with_reducible refine LeO.ite ?_ ?_)
      | (with_reducible refine LeO.bind ?_ (fun _ => ?_))
      | exact ih0 _ _ _ _ _
      | exact ih1 _ _ _ _ _ _ _
      | exact spec_l08Has.mono _ _ _
      | exact spec_l11OK.mono _ _ _ _ _ _ _ _ _ _
      | exact LeO.none _
      | refine LeO.ite ?_ ?_
      | refine LeO.bind ?_ (fun _ => ?_)
    · intro y0 y1 y2 y3 y4 y5 y6
      unfold spec_l11Count.l1
      repeat' first
      | (with_reducible exact ih0 _ _ _ _ _)
      | (with_reducible exact ih1 _ _ _ _ _ _ _)
      | (with_reducible exact spec_l08Has.mono _ _ _)
      | (with_reducible exact spec_l11OK.mono _ _ _ _ _ _ _ _ _ _)
      | (with_reducible exact LeO.refl _)
      | (with_reducible exact LeO.none _)
      | (with_reducible refine LeO.ite ?_ ?_)
      | (with_reducible refine LeO.bind ?_ (fun _ => ?_))
      | exact ih0 _ _ _ _ _
      | exact ih1 _ _ _ _ _ _ _
      | exact spec_l08Has.mono _ _ _
      | exact spec_l11OK.mono _ _ _ _ _ _ _ _ _ _
      | exact LeO.none _
      | refine LeO.ite ?_ ?_
      | refine LeO.bind ?_ (fun _ => ?_)
theorem spec_l11Count.mono : ∀ a0 a1 a2 a3 k, LeO (spec_l11Count.f k a0 a1 a2 a3) (spec_l11Count.f (k + 1) a0 a1 a2 a3) := by
  intro a0 a1 a2 a3 k
  obtain ⟨ih0, ih1⟩ := spec_l11Count.mono_l k
  unfold spec_l11Count.f
  repeat' first
      | (with_reducible exact ih0 _ _ _ _ _)
      | (with_reducible exact ih1 _ _ _ _ _ _ _)
      | (with_reducible exact spec_l08Has.mono _ _ _)
      | (with_reducible exact spec_l11OK.mono _ _ _ _ _ _ _ _ _ _)
      | (with_reducible exact LeO.refl _)
      | (with_reducible exact LeO.none _)
      | (with_reducible refine LeO.ite ?_ ?_)
      | (with_reducible refine LeO.bind ?_ (fun _ => ?_))
      | exact ih0 _ _ _ _ _
      | exact ih1 _ _ _ _ _ _ _
      | exact spec_l08Has.mono _ _ _
      | exact spec_l11OK.mono _ _ _ _ _ _ _ _ _ _
      | exact LeO.none _
      | refine LeO.ite ?_ ?_
      | refine LeO.bind ?_ (fun _ => ?_)
noncomputable def spec_l11Count.lv0 (x0 : Int) (x1 : Int) (x2 : Int) (x3 : List (S73)) (x10 : Int) : Option (Int × Int × Int × Int × Bool) := lim (fun k_ => spec_l11Count.l0 k_ x0 x1 x2 x3 x10)
noncomputable def spec_l11Count.lv1 (x0 : Int) (x1 : Int) (x2 : Int) (x3 : List (S73)) (x10 : Int) (x11 : List Int) (x12 : Int) : Option (Int × Int × Int × Int × Bool) := lim (fun k_ => spec_l11Count.l1 k_ x0 x1 x2 x3 x10 x11 x12)
noncomputable def spec_l11Count.v (a0 : Int) (a1 : Int) (a2 : Int) (l3 : List (S73)) : Option (Int × Int × Int × Int × Bool) := lim (fun k_ => spec_l11Count.f k_ a0 a1 a2 l3)
theorem spec_l11Count.lv0_lim (x0 : Int) (x1 : Int) (x2 : Int) (x3 : List (S73)) (x10 : Int) : LimIs (fun k_ => spec_l11Count.l0 k_ x0 x1 x2 x3 x10) (spec_l11Count.lv0 x0 x1 x2 x3 x10) := lim_is (fun k_ => (spec_l11Count.mono_l k_).1 x0 x1 x2 x3 x10)
theorem spec_l11Count.lv1_lim (x0 : Int) (x1 : Int) (x2 : Int) (x3 : List (S73)) (x10 : Int) (x11 : List Int) (x12 : Int) : LimIs (fun k_ => spec_l11Count.l1 k_ x0 x1 x2 x3 x10 x11 x12) (spec_l11Count.lv1 x0 x1 x2 x3 x10 x11 x12) := lim_is (fun k_ => (spec_l11Count.mono_l k_).2 x0 x1 x2 x3 x10 x11 x12)
theorem spec_l11Count.v_lim (a0 : Int) (a1 : Int) (a2 : Int) (l3 : List (S73)) : LimIs (fun k_ => spec_l11Count.f k_ a0 a1 a2 l3) (spec_l11Count.v a0 a1 a2 l3) := lim_is (fun k_ => spec_l11Count.mono a0 a1 a2 l3 k_)
theorem spec_l11Count.lv0_eq (x0 : Int) (x1 : Int) (x2 : Int) (x3 : List (S73)) (x10 : Int) : spec_l11Count.lv0 x0 x1 x2 x3 x10 = (if x10 < (x3.length : Int) then (spec_l11Count.lv1 x0 x1 x2 x3 x10 (([] : List Int)) 0) else (some (0, 0, 0, 0, false)) : Option (Int × Int × Int × Int × Bool)) := by
  refine LimIs.eq (spec_l11Count.lv0_lim x0 x1 x2 x3 x10) ?_
  refine LimIs.step (fun k_ => (spec_l11Count.mono_l k_).1 x0 x1 x2 x3 x10) ?_
  simp only [spec_l11Count.l0]
  repeat' (with_reducible first | exact spec_l11Count.lv1_lim _ _ _ _ _ _ _ | exact LimIs.const _ | refine LimIs.ite ?_ ?_ | refine LimIs.bind ?_ (fun _ => ?_))
theorem spec_l11Count.lv1_eq (x0 : Int) (x1 : Int) (x2 : Int) (x3 : List (S73)) (x10 : Int) (x11 : List Int) (x12 : Int) : spec_l11Count.lv1 x0 x1 x2 x3 x10 x11 x12 = (if x12 ≤ x10 then (if 0 ≤ x12 then (if x12 < (x3.length : Int) then ((spec_l11OK.v x0 ((rd_T73 x3 x12).f0) ((rd_T73 x3 x12).f1) ((rd_T73 x3 x12).f2) ((rd_T73 x3 x12).f3.f0) ((rd_T73 x3 x12).f3.f1) ((rd_T73 x3 x12).f3.f2) ((rd_T73 x3 x12).f3.f3) ((rd_T73 x3 x12).f4)).bind fun t939 => (if t939 = true then (if ((rd_T73 x3 x12).f1) = x1 then (if ((rd_T73 x3 x12).f2) = x2 then (if 0 ≤ x10 then (if x10 < (x3.length : Int) then (if (((rd_T73 x3 x12).f3.f0) == ((rd_T73 x3 x10).f3.f0) && (((rd_T73 x3 x12).f3.f1) == ((rd_T73 x3 x10).f3.f1) && (((rd_T73 x3 x12).f3.f2) == ((rd_T73 x3 x10).f3.f2) && (((rd_T73 x3 x12).f3.f3) == ((rd_T73 x3 x10).f3.f3))))) = true then ((spec_l08Has.v x11 ((rd_T73 x3 x12).f0)).bind fun t941 => (if t941 = true then (spec_l11Count.lv1 x0 x1 x2 x3 x10 x11 (wrap64 (x12 + 1))) else (if x11.length < 17592186044416 then (spec_l11Count.lv1 x0 x1 x2 x3 x10 (x11 ++ [(rd_T73 x3 x12).f0]) (wrap64 (x12 + 1))) else (none)))) else (spec_l11Count.lv1 x0 x1 x2 x3 x10 x11 (wrap64 (x12 + 1)))) else (none)) else (none)) else (spec_l11Count.lv1 x0 x1 x2 x3 x10 x11 (wrap64 (x12 + 1)))) else (spec_l11Count.lv1 x0 x1 x2 x3 x10 x11 (wrap64 (x12 + 1)))) else (spec_l11Count.lv1 x0 x1 x2 x3 x10 x11 (wrap64 (x12 + 1))))) else (none)) else (none)) else (if (x11.length : Int) > (wrap64 (Int.tdiv (wrap64 (x0 - 1)) 3)) then (if 0 ≤ x10 then (if x10 < (x3.length : Int) then (some ((rd_T73 x3 x10).f3.f0, (rd_T73 x3 x10).f3.f1, (rd_T73 x3 x10).f3.f2, (rd_T73 x3 x10).f3.f3, true)) else (none)) else (none)) else (spec_l11Count.lv0 x0 x1 x2 x3 (wrap64 (x10 + 1)))) : Option (Int × Int × Int × Int × Bool)) := by
  refine LimIs.eq (spec_l11Count.lv1_lim x0 x1 x2 x3 x10 x11 x12) ?_
  refine LimIs.step (fun k_ => (spec_l11Count.mono_l k_).2 x0 x1 x2 x3 x10 x11 x12) ?_
  simp only [spec_l11Count.l1]
  repeat' (with_reducible first | exact spec_l08Has.v_lim _ _ | exact spec_l11Count.lv0_lim _ _ _ _ _ | exact spec_l11Count.lv1_lim _ _ _ _ _ _ _ | exact spec_l11OK.v_lim _ _ _ _ _ _ _ _ _ | exact LimIs.const _ | refine LimIs.ite ?_ ?_ | refine LimIs.bind ?_ (fun _ => ?_))
theorem spec_l11Count.v_eq (a0 : Int) (a1 : Int) (a2 : Int) (l3 : List (S73)) : spec_l11Count.v a0 a1 a2 l3 = (spec_l11Count.lv0 a0 a1 a2 l3 0 : Option (Int × Int × Int × Int × Bool)) := by
  refine LimIs.eq (spec_l11Count.v_lim a0 a1 a2 l3) ?_
  simp only [spec_l11Count.f]
  repeat' (with_reducible first | exact spec_l11Count.lv0_lim _ _ _ _ _ | exact LimIs.const _ | refine LimIs.ite ?_ ?_ | refine LimIs.bind ?_ (fun _ => ?_))
def laws_toAnswer.f (a0_0 : Int) (a0_1 : Int) (a0_2 : Int) (a0_3 : Int) : Option (Int × Int × Int × Int) := some (a0_0, a0_1, a0_2, a0_3)
def laws_toAnswer.v (a0_0 : Int) (a0_1 : Int) (a0_2 : Int) (a0_3 : Int) : Option (Int × Int × Int × Int) := laws_toAnswer.f a0_0 a0_1 a0_2 a0_3
theorem laws_toAnswer.v_lim (a0_0 : Int) (a0_1 : Int) (a0_2 : Int) (a0_3 : Int) : LimIs (fun _ => laws_toAnswer.f a0_0 a0_1 a0_2 a0_3) (laws_toAnswer.v a0_0 a0_1 a0_2 a0_3) := LimIs.const _
theorem laws_toAnswer.v_eq (a0_0 : Int) (a0_1 : Int) (a0_2 : Int) (a0_3 : Int) : laws_toAnswer.v a0_0 a0_1 a0_2 a0_3 = (some (a0_0, a0_1, a0_2, a0_3) : Option (Int × Int × Int × Int)) := rfl
def laws_toReply.f (a0_0 : Int) (a0_1 : Int) (a0_2 : Int) (a0_3 : Int) (a0_4 : Int) (a0_5 : Int) (a0_6 : Int) (a0_7 : ByteArray) : Option (Int × Int × Int × Int × Int × Int × Int × ByteArray) := (laws_toAnswer.f a0_3 a0_4 a0_5 a0_6).bind fun bt959 => (some (a0_0, a0_1, a0_2, bt959.1, bt959.2.1, bt959.2.2.1, bt959.2.2.2, a0_7))
def laws_toReply.v (a0_0 : Int) (a0_1 : Int) (a0_2 : Int) (a0_3 : Int) (a0_4 : Int) (a0_5 : Int) (a0_6 : Int) (a0_7 : ByteArray) : Option (Int × Int × Int × Int × Int × Int × Int × ByteArray) := laws_toReply.f a0_0 a0_1 a0_2 a0_3 a0_4 a0_5 a0_6 a0_7
theorem laws_toReply.v_lim (a0_0 : Int) (a0_1 : Int) (a0_2 : Int) (a0_3 : Int) (a0_4 : Int) (a0_5 : Int) (a0_6 : Int) (a0_7 : ByteArray) : LimIs (fun _ => laws_toReply.f a0_0 a0_1 a0_2 a0_3 a0_4 a0_5 a0_6 a0_7) (laws_toReply.v a0_0 a0_1 a0_2 a0_3 a0_4 a0_5 a0_6 a0_7) := LimIs.const _
theorem laws_toReply.v_eq (a0_0 : Int) (a0_1 : Int) (a0_2 : Int) (a0_3 : Int) (a0_4 : Int) (a0_5 : Int) (a0_6 : Int) (a0_7 : ByteArray) : laws_toReply.v a0_0 a0_1 a0_2 a0_3 a0_4 a0_5 a0_6 a0_7 = ((laws_toAnswer.v a0_3 a0_4 a0_5 a0_6).bind fun bt959 => (some (a0_0, a0_1, a0_2, bt959.1, bt959.2.1, bt959.2.2.1, bt959.2.2.2, a0_7)) : Option (Int × Int × Int × Int × Int × Int × Int × ByteArray)) := rfl
def laws_toReplyS.l0 : Nat → List (S117) → List (S73) → Int → Option ((List (S73)))
  | 0, _, _, _ => none
  | k + 1, x0, x3, x4 => if x4 < (x0.length : Int) then (if 0 ≤ x4 then ((laws_toReply.f ((rd_T117 x0 x4).f0) ((rd_T117 x0 x4).f1) ((rd_T117 x0 x4).f2) ((rd_T117 x0 x4).f3.f0) ((rd_T117 x0 x4).f3.f1) ((rd_T117 x0 x4).f3.f2) ((rd_T117 x0 x4).f3.f3) ((rd_T117 x0 x4).f4)).bind fun bt967 => (if x4 < (x3.length : Int) then (laws_toReplyS.l0 k x0 (x3.set (x4 : Int).toNat (⟨bt967.1, bt967.2.1, bt967.2.2.1, (⟨bt967.2.2.2.1, bt967.2.2.2.2.1, bt967.2.2.2.2.2.1, bt967.2.2.2.2.2.2.1⟩ : S63), bt967.2.2.2.2.2.2.2⟩ : S73)) (wrap64 (x4 + 1))) else (none))) else (none)) else (some x3)
def laws_toReplyS.f (k : Nat) (l0 : List (S117)) : Option ((List (S73))) := if 0 ≤ (l0.length : Int) then (if ((l0.length : Int) : Int).toNat ≤ 3909374676536 then (laws_toReplyS.l0 k l0 (List.replicate ((l0.length : Int) : Int).toNat z73) 0) else (none)) else (none)
theorem laws_toReplyS.mono_l : ∀ k, (∀ y0 y1 y2, LeO (laws_toReplyS.l0 k y0 y1 y2) (laws_toReplyS.l0 (k + 1) y0 y1 y2))
  | 0 => fun _ _ _ r h => by simp [laws_toReplyS.l0] at h
  | k + 1 => by
    have ih0 := laws_toReplyS.mono_l k
    · intro y0 y1 y2
      unfold laws_toReplyS.l0
      repeat' first
      | (with_reducible exact ih0 _ _ _)
      | (with_reducible exact LeO.refl _)
      | (with_reducible exact LeO.none _)
      | (with_reducible refine LeO.ite ?_ ?_)
      | (with_reducible refine LeO.bind ?_ (fun _ => ?_))
      | exact ih0 _ _ _
      | exact LeO.none _
      | refine LeO.ite ?_ ?_
      | refine LeO.bind ?_ (fun _ => ?_)
theorem laws_toReplyS.mono : ∀ a0 k, LeO (laws_toReplyS.f k a0) (laws_toReplyS.f (k + 1) a0) := by
  intro a0 k
  have ih0 := laws_toReplyS.mono_l k
  unfold laws_toReplyS.f
  repeat' first
      | (with_reducible exact ih0 _ _ _)
      | (with_reducible exact LeO.refl _)
      | (with_reducible exact LeO.none _)
      | (with_reducible refine LeO.ite ?_ ?_)
      | (with_reducible refine LeO.bind ?_ (fun _ => ?_))
      | exact ih0 _ _ _
      | exact LeO.none _
      | refine LeO.ite ?_ ?_
      | refine LeO.bind ?_ (fun _ => ?_)
noncomputable def laws_toReplyS.lv0 (x0 : List (S117)) (x3 : List (S73)) (x4 : Int) : Option ((List (S73))) := lim (fun k_ => laws_toReplyS.l0 k_ x0 x3 x4)
noncomputable def laws_toReplyS.v (l0 : List (S117)) : Option ((List (S73))) := lim (fun k_ => laws_toReplyS.f k_ l0)
theorem laws_toReplyS.lv0_lim (x0 : List (S117)) (x3 : List (S73)) (x4 : Int) : LimIs (fun k_ => laws_toReplyS.l0 k_ x0 x3 x4) (laws_toReplyS.lv0 x0 x3 x4) := lim_is (fun k_ => (laws_toReplyS.mono_l k_) x0 x3 x4)
theorem laws_toReplyS.v_lim (l0 : List (S117)) : LimIs (fun k_ => laws_toReplyS.f k_ l0) (laws_toReplyS.v l0) := lim_is (fun k_ => laws_toReplyS.mono l0 k_)
theorem laws_toReplyS.lv0_eq (x0 : List (S117)) (x3 : List (S73)) (x4 : Int) : laws_toReplyS.lv0 x0 x3 x4 = (if x4 < (x0.length : Int) then (if 0 ≤ x4 then ((laws_toReply.v ((rd_T117 x0 x4).f0) ((rd_T117 x0 x4).f1) ((rd_T117 x0 x4).f2) ((rd_T117 x0 x4).f3.f0) ((rd_T117 x0 x4).f3.f1) ((rd_T117 x0 x4).f3.f2) ((rd_T117 x0 x4).f3.f3) ((rd_T117 x0 x4).f4)).bind fun bt967 => (if x4 < (x3.length : Int) then (laws_toReplyS.lv0 x0 (x3.set (x4 : Int).toNat (⟨bt967.1, bt967.2.1, bt967.2.2.1, (⟨bt967.2.2.2.1, bt967.2.2.2.2.1, bt967.2.2.2.2.2.1, bt967.2.2.2.2.2.2.1⟩ : S63), bt967.2.2.2.2.2.2.2⟩ : S73)) (wrap64 (x4 + 1))) else (none))) else (none)) else (some x3) : Option ((List (S73)))) := by
  refine LimIs.eq (laws_toReplyS.lv0_lim x0 x3 x4) ?_
  refine LimIs.step (fun k_ => (laws_toReplyS.mono_l k_) x0 x3 x4) ?_
  simp only [laws_toReplyS.l0]
  repeat' (with_reducible first | exact laws_toReply.v_lim _ _ _ _ _ _ _ _ | exact laws_toReplyS.lv0_lim _ _ _ | exact LimIs.const _ | refine LimIs.ite ?_ ?_ | refine LimIs.bind ?_ (fun _ => ?_))
theorem laws_toReplyS.v_eq (l0 : List (S117)) : laws_toReplyS.v l0 = (if 0 ≤ (l0.length : Int) then (if ((l0.length : Int) : Int).toNat ≤ 3909374676536 then (laws_toReplyS.lv0 l0 (List.replicate ((l0.length : Int) : Int).toNat z73) 0) else (none)) else (none) : Option ((List (S73)))) := by
  refine LimIs.eq (laws_toReplyS.v_lim l0) ?_
  simp only [laws_toReplyS.f]
  repeat' (with_reducible first | exact laws_toReplyS.lv0_lim _ _ _ | exact LimIs.const _ | refine LimIs.ite ?_ ?_ | refine LimIs.bind ?_ (fun _ => ?_))
def impl_isAnswer.f (a0_0 : Int) (a0_1 : Int) (a0_2 : Int) (a0_3 : Int) : Option (Bool) := (impl_within.f a0_0 1 8).bind fun t977 => (if t977 = true then ((impl_within.f a0_1 0 1000000).bind fun t978 => (if t978 = true then ((impl_within.f a0_2 (-1) 255).bind fun t979 => (if t979 = true then ((impl_within.f a0_3 0 2000000000).bind fun t980 => (some t980)) else (some false))) else (some false))) else (some false))
def impl_isAnswer.v (a0_0 : Int) (a0_1 : Int) (a0_2 : Int) (a0_3 : Int) : Option (Bool) := impl_isAnswer.f a0_0 a0_1 a0_2 a0_3
theorem impl_isAnswer.v_eq (a0_0 : Int) (a0_1 : Int) (a0_2 : Int) (a0_3 : Int) : impl_isAnswer.v a0_0 a0_1 a0_2 a0_3 = ((impl_within.v a0_0 1 8).bind fun t977 => (if t977 = true then ((impl_within.v a0_1 0 1000000).bind fun t978 => (if t978 = true then ((impl_within.v a0_2 (-1) 255).bind fun t979 => (if t979 = true then ((impl_within.v a0_3 0 2000000000).bind fun t980 => (some t980)) else (some false))) else (some false))) else (some false)) : Option (Bool)) := rfl
def impl_isReply.f (a0_0 : Int) (a0_1 : Int) (a0_2 : Int) (a0_3 : Int) (a0_4 : Int) (a0_5 : Int) (a0_6 : Int) (a0_7 : ByteArray) : Option (Bool) := (impl_within.f a0_0 0 6).bind fun t982 => (if t982 = true then ((impl_within.f a0_1 0 255).bind fun t983 => (if t983 = true then ((impl_within.f a0_2 1 65535).bind fun t984 => (if t984 = true then ((impl_isAnswer.f a0_3 a0_4 a0_5 a0_6).bind fun t985 => (some t985)) else (some false))) else (some false))) else (some false))
def impl_isReply.v (a0_0 : Int) (a0_1 : Int) (a0_2 : Int) (a0_3 : Int) (a0_4 : Int) (a0_5 : Int) (a0_6 : Int) (a0_7 : ByteArray) : Option (Bool) := impl_isReply.f a0_0 a0_1 a0_2 a0_3 a0_4 a0_5 a0_6 a0_7
theorem impl_isReply.v_lim (a0_0 : Int) (a0_1 : Int) (a0_2 : Int) (a0_3 : Int) (a0_4 : Int) (a0_5 : Int) (a0_6 : Int) (a0_7 : ByteArray) : LimIs (fun _ => impl_isReply.f a0_0 a0_1 a0_2 a0_3 a0_4 a0_5 a0_6 a0_7) (impl_isReply.v a0_0 a0_1 a0_2 a0_3 a0_4 a0_5 a0_6 a0_7) := LimIs.const _
theorem impl_isReply.v_eq (a0_0 : Int) (a0_1 : Int) (a0_2 : Int) (a0_3 : Int) (a0_4 : Int) (a0_5 : Int) (a0_6 : Int) (a0_7 : ByteArray) : impl_isReply.v a0_0 a0_1 a0_2 a0_3 a0_4 a0_5 a0_6 a0_7 = ((impl_within.v a0_0 0 6).bind fun t982 => (if t982 = true then ((impl_within.v a0_1 0 255).bind fun t983 => (if t983 = true then ((impl_within.v a0_2 1 65535).bind fun t984 => (if t984 = true then ((impl_isAnswer.v a0_3 a0_4 a0_5 a0_6).bind fun t985 => (some t985)) else (some false))) else (some false))) else (some false)) : Option (Bool)) := rfl
def impl_mark.f (k : Nat) (a0 : Int) (a1 : ByteArray) : Option (ByteArray) := (impl_number.f k a0 1).bind fun t986 => (if 8 + t986.size ≤ 9223372036854775807 then ((impl_hash.f k ((⟨#[110, 111, 100, 101, 32, 107, 101, 121]⟩ : ByteArray) ++ t986)).bind fun t987 => (if t987.size + a1.size ≤ 9223372036854775807 then ((impl_hash.f k (t987 ++ a1)).bind fun t988 => (if 0 ≤ 8 then (if 8 ≤ (t988.size : Int) then (some (t988.extract 0 8)) else (none)) else (none))) else (none))) else (none))
theorem impl_mark.mono : ∀ a0 a1 k, LeO (impl_mark.f k a0 a1) (impl_mark.f (k + 1) a0 a1) := by
  intro a0 a1 k
  unfold impl_mark.f
  repeat' first
      | (with_reducible exact impl_hash.mono _ _)
      | (with_reducible exact impl_number.mono _ _ _)
      | (with_reducible exact LeO.refl _)
      | (with_reducible exact LeO.none _)
      | (with_reducible refine LeO.ite ?_ ?_)
      | (with_reducible refine LeO.bind ?_ (fun _ => ?_))
      | exact impl_hash.mono _ _
      | exact impl_number.mono _ _ _
      | exact LeO.none _
      | refine LeO.ite ?_ ?_
      | refine LeO.bind ?_ (fun _ => ?_)
noncomputable def impl_mark.v (a0 : Int) (a1 : ByteArray) : Option (ByteArray) := lim (fun k_ => impl_mark.f k_ a0 a1)
theorem impl_mark.v_lim (a0 : Int) (a1 : ByteArray) : LimIs (fun k_ => impl_mark.f k_ a0 a1) (impl_mark.v a0 a1) := lim_is (fun k_ => impl_mark.mono a0 a1 k_)
theorem impl_mark.v_eq (a0 : Int) (a1 : ByteArray) : impl_mark.v a0 a1 = ((impl_number.v a0 1).bind fun t986 => (if 8 + t986.size ≤ 9223372036854775807 then ((impl_hash.v ((⟨#[110, 111, 100, 101, 32, 107, 101, 121]⟩ : ByteArray) ++ t986)).bind fun t987 => (if t987.size + a1.size ≤ 9223372036854775807 then ((impl_hash.v (t987 ++ a1)).bind fun t988 => (if 0 ≤ 8 then (if 8 ≤ (t988.size : Int) then (some (t988.extract 0 8)) else (none)) else (none))) else (none))) else (none)) : Option (ByteArray)) := by
  refine LimIs.eq (impl_mark.v_lim a0 a1) ?_
  simp only [impl_mark.f]
  repeat' (with_reducible first | exact impl_hash.v_lim _ | exact impl_number.v_lim _ _ | exact LimIs.const _ | refine LimIs.ite ?_ ?_ | refine LimIs.bind ?_ (fun _ => ?_))
def impl_answerText.f (k : Nat) (a0_0 : Int) (a0_1 : Int) (a0_2 : Int) (a0_3 : Int) : Option (ByteArray) := (impl_number.f k a0_0 1).bind fun t990 => ((impl_number.f k a0_1 3).bind fun t991 => (if t990.size + t991.size ≤ 9223372036854775807 then ((impl_number.f k (wrap64 (a0_2 + 1)) 2).bind fun t992 => (if (t990 ++ t991).size + t992.size ≤ 9223372036854775807 then ((impl_number.f k a0_3 4).bind fun t993 => (if ((t990 ++ t991) ++ t992).size + t993.size ≤ 9223372036854775807 then (some (((t990 ++ t991) ++ t992) ++ t993)) else (none))) else (none))) else (none)))
theorem impl_answerText.mono : ∀ a0 a1 a2 a3 k, LeO (impl_answerText.f k a0 a1 a2 a3) (impl_answerText.f (k + 1) a0 a1 a2 a3) := by
  intro a0 a1 a2 a3 k
  unfold impl_answerText.f
  repeat' first
      | (with_reducible exact impl_number.mono _ _ _)
      | (with_reducible exact LeO.refl _)
      | (with_reducible exact LeO.none _)
      | (with_reducible refine LeO.ite ?_ ?_)
      | (with_reducible refine LeO.bind ?_ (fun _ => ?_))
      | exact impl_number.mono _ _ _
      | exact LeO.none _
      | refine LeO.ite ?_ ?_
      | refine LeO.bind ?_ (fun _ => ?_)
noncomputable def impl_answerText.v (a0_0 : Int) (a0_1 : Int) (a0_2 : Int) (a0_3 : Int) : Option (ByteArray) := lim (fun k_ => impl_answerText.f k_ a0_0 a0_1 a0_2 a0_3)
theorem impl_answerText.v_lim (a0_0 : Int) (a0_1 : Int) (a0_2 : Int) (a0_3 : Int) : LimIs (fun k_ => impl_answerText.f k_ a0_0 a0_1 a0_2 a0_3) (impl_answerText.v a0_0 a0_1 a0_2 a0_3) := lim_is (fun k_ => impl_answerText.mono a0_0 a0_1 a0_2 a0_3 k_)
theorem impl_answerText.v_eq (a0_0 : Int) (a0_1 : Int) (a0_2 : Int) (a0_3 : Int) : impl_answerText.v a0_0 a0_1 a0_2 a0_3 = ((impl_number.v a0_0 1).bind fun t990 => ((impl_number.v a0_1 3).bind fun t991 => (if t990.size + t991.size ≤ 9223372036854775807 then ((impl_number.v (wrap64 (a0_2 + 1)) 2).bind fun t992 => (if (t990 ++ t991).size + t992.size ≤ 9223372036854775807 then ((impl_number.v a0_3 4).bind fun t993 => (if ((t990 ++ t991) ++ t992).size + t993.size ≤ 9223372036854775807 then (some (((t990 ++ t991) ++ t992) ++ t993)) else (none))) else (none))) else (none))) : Option (ByteArray)) := by
  refine LimIs.eq (impl_answerText.v_lim a0_0 a0_1 a0_2 a0_3) ?_
  simp only [impl_answerText.f]
  repeat' (with_reducible first | exact impl_number.v_lim _ _ | exact LimIs.const _ | refine LimIs.ite ?_ ?_ | refine LimIs.bind ?_ (fun _ => ?_))
def impl_replyMac.f (k : Nat) (a0_0 : Int) (a0_1 : Int) (a0_2 : Int) (a0_3 : Int) (a0_4 : Int) (a0_5 : Int) (a0_6 : Int) (a0_7 : ByteArray) : Option (ByteArray) := (impl_number.f k a0_1 1).bind fun t995 => (if 5 + t995.size ≤ 9223372036854775807 then ((impl_number.f k a0_2 2).bind fun t996 => (if ((⟨#[114, 101, 112, 108, 121]⟩ : ByteArray) ++ t995).size + t996.size ≤ 9223372036854775807 then ((impl_answerText.f k a0_3 a0_4 a0_5 a0_6).bind fun t997 => (if (((⟨#[114, 101, 112, 108, 121]⟩ : ByteArray) ++ t995) ++ t996).size + t997.size ≤ 9223372036854775807 then ((impl_mark.f k a0_0 ((((⟨#[114, 101, 112, 108, 121]⟩ : ByteArray) ++ t995) ++ t996) ++ t997)).bind fun t998 => (some t998)) else (none))) else (none))) else (none))
theorem impl_replyMac.mono : ∀ a0 a1 a2 a3 a4 a5 a6 a7 k, LeO (impl_replyMac.f k a0 a1 a2 a3 a4 a5 a6 a7) (impl_replyMac.f (k + 1) a0 a1 a2 a3 a4 a5 a6 a7) := by
  intro a0 a1 a2 a3 a4 a5 a6 a7 k
  unfold impl_replyMac.f
  repeat' first
      | (with_reducible exact impl_answerText.mono _ _ _ _ _)
      | (with_reducible exact impl_mark.mono _ _ _)
      | (with_reducible exact impl_number.mono _ _ _)
      | (with_reducible exact LeO.refl _)
      | (with_reducible exact LeO.none _)
      | (with_reducible refine LeO.ite ?_ ?_)
      | (with_reducible refine LeO.bind ?_ (fun _ => ?_))
      | exact impl_answerText.mono _ _ _ _ _
      | exact impl_mark.mono _ _ _
      | exact impl_number.mono _ _ _
      | exact LeO.none _
      | refine LeO.ite ?_ ?_
      | refine LeO.bind ?_ (fun _ => ?_)
noncomputable def impl_replyMac.v (a0_0 : Int) (a0_1 : Int) (a0_2 : Int) (a0_3 : Int) (a0_4 : Int) (a0_5 : Int) (a0_6 : Int) (a0_7 : ByteArray) : Option (ByteArray) := lim (fun k_ => impl_replyMac.f k_ a0_0 a0_1 a0_2 a0_3 a0_4 a0_5 a0_6 a0_7)
theorem impl_replyMac.v_lim (a0_0 : Int) (a0_1 : Int) (a0_2 : Int) (a0_3 : Int) (a0_4 : Int) (a0_5 : Int) (a0_6 : Int) (a0_7 : ByteArray) : LimIs (fun k_ => impl_replyMac.f k_ a0_0 a0_1 a0_2 a0_3 a0_4 a0_5 a0_6 a0_7) (impl_replyMac.v a0_0 a0_1 a0_2 a0_3 a0_4 a0_5 a0_6 a0_7) := lim_is (fun k_ => impl_replyMac.mono a0_0 a0_1 a0_2 a0_3 a0_4 a0_5 a0_6 a0_7 k_)
theorem impl_replyMac.v_eq (a0_0 : Int) (a0_1 : Int) (a0_2 : Int) (a0_3 : Int) (a0_4 : Int) (a0_5 : Int) (a0_6 : Int) (a0_7 : ByteArray) : impl_replyMac.v a0_0 a0_1 a0_2 a0_3 a0_4 a0_5 a0_6 a0_7 = ((impl_number.v a0_1 1).bind fun t995 => (if 5 + t995.size ≤ 9223372036854775807 then ((impl_number.v a0_2 2).bind fun t996 => (if ((⟨#[114, 101, 112, 108, 121]⟩ : ByteArray) ++ t995).size + t996.size ≤ 9223372036854775807 then ((impl_answerText.v a0_3 a0_4 a0_5 a0_6).bind fun t997 => (if (((⟨#[114, 101, 112, 108, 121]⟩ : ByteArray) ++ t995) ++ t996).size + t997.size ≤ 9223372036854775807 then ((impl_mark.v a0_0 ((((⟨#[114, 101, 112, 108, 121]⟩ : ByteArray) ++ t995) ++ t996) ++ t997)).bind fun t998 => (some t998)) else (none))) else (none))) else (none)) : Option (ByteArray)) := by
  refine LimIs.eq (impl_replyMac.v_lim a0_0 a0_1 a0_2 a0_3 a0_4 a0_5 a0_6 a0_7) ?_
  simp only [impl_replyMac.f]
  repeat' (with_reducible first | exact impl_answerText.v_lim _ _ _ _ | exact impl_mark.v_lim _ _ | exact impl_number.v_lim _ _ | exact LimIs.const _ | refine LimIs.ite ?_ ?_ | refine LimIs.bind ?_ (fun _ => ?_))
def impl_ReplyOK.f (k : Nat) (a0 : Int) (a1_0 : Int) (a1_1 : Int) (a1_2 : Int) (a1_3 : Int) (a1_4 : Int) (a1_5 : Int) (a1_6 : Int) (a1_7 : ByteArray) : Option (Bool) := (impl_areNodes.f a0).bind fun t1000 => (if t1000 = true then ((impl_isReply.f a1_0 a1_1 a1_2 a1_3 a1_4 a1_5 a1_6 a1_7).bind fun t1001 => (if t1001 = true then (if a1_0 < a0 then ((impl_replyMac.f k a1_0 a1_1 a1_2 a1_3 a1_4 a1_5 a1_6 a1_7).bind fun t1002 => (some (a1_7.toList == t1002.toList))) else (some false)) else (some false))) else (some false))
theorem impl_ReplyOK.mono : ∀ a0 a1 a2 a3 a4 a5 a6 a7 a8 k, LeO (impl_ReplyOK.f k a0 a1 a2 a3 a4 a5 a6 a7 a8) (impl_ReplyOK.f (k + 1) a0 a1 a2 a3 a4 a5 a6 a7 a8) := by
  intro a0 a1 a2 a3 a4 a5 a6 a7 a8 k
  unfold impl_ReplyOK.f
  repeat' first
      | (with_reducible exact impl_replyMac.mono _ _ _ _ _ _ _ _ _)
      | (with_reducible exact LeO.refl _)
      | (with_reducible exact LeO.none _)
      | (with_reducible refine LeO.ite ?_ ?_)
      | (with_reducible refine LeO.bind ?_ (fun _ => ?_))
      | exact impl_replyMac.mono _ _ _ _ _ _ _ _ _
      | exact LeO.none _
      | refine LeO.ite ?_ ?_
      | refine LeO.bind ?_ (fun _ => ?_)
noncomputable def impl_ReplyOK.v (a0 : Int) (a1_0 : Int) (a1_1 : Int) (a1_2 : Int) (a1_3 : Int) (a1_4 : Int) (a1_5 : Int) (a1_6 : Int) (a1_7 : ByteArray) : Option (Bool) := lim (fun k_ => impl_ReplyOK.f k_ a0 a1_0 a1_1 a1_2 a1_3 a1_4 a1_5 a1_6 a1_7)
theorem impl_ReplyOK.v_lim (a0 : Int) (a1_0 : Int) (a1_1 : Int) (a1_2 : Int) (a1_3 : Int) (a1_4 : Int) (a1_5 : Int) (a1_6 : Int) (a1_7 : ByteArray) : LimIs (fun k_ => impl_ReplyOK.f k_ a0 a1_0 a1_1 a1_2 a1_3 a1_4 a1_5 a1_6 a1_7) (impl_ReplyOK.v a0 a1_0 a1_1 a1_2 a1_3 a1_4 a1_5 a1_6 a1_7) := lim_is (fun k_ => impl_ReplyOK.mono a0 a1_0 a1_1 a1_2 a1_3 a1_4 a1_5 a1_6 a1_7 k_)
theorem impl_ReplyOK.v_eq (a0 : Int) (a1_0 : Int) (a1_1 : Int) (a1_2 : Int) (a1_3 : Int) (a1_4 : Int) (a1_5 : Int) (a1_6 : Int) (a1_7 : ByteArray) : impl_ReplyOK.v a0 a1_0 a1_1 a1_2 a1_3 a1_4 a1_5 a1_6 a1_7 = ((impl_areNodes.v a0).bind fun t1000 => (if t1000 = true then ((impl_isReply.v a1_0 a1_1 a1_2 a1_3 a1_4 a1_5 a1_6 a1_7).bind fun t1001 => (if t1001 = true then (if a1_0 < a0 then ((impl_replyMac.v a1_0 a1_1 a1_2 a1_3 a1_4 a1_5 a1_6 a1_7).bind fun t1002 => (some (a1_7.toList == t1002.toList))) else (some false)) else (some false))) else (some false)) : Option (Bool)) := by
  refine LimIs.eq (impl_ReplyOK.v_lim a0 a1_0 a1_1 a1_2 a1_3 a1_4 a1_5 a1_6 a1_7) ?_
  simp only [impl_ReplyOK.f]
  repeat' (with_reducible first | exact impl_areNodes.v_lim _ | exact impl_isReply.v_lim _ _ _ _ _ _ _ _ | exact impl_replyMac.v_lim _ _ _ _ _ _ _ _ | exact LimIs.const _ | refine LimIs.ite ?_ ?_ | refine LimIs.bind ?_ (fun _ => ?_))
def slices_Index_int_int.l0 : Nat → List Int → Int → Int → Int → Option (Int)
  | 0, _, _, _, _ => none
  | k + 1, x0, x1, x7, x8 => if x8 < x7 then (if 0 ≤ x8 then (if x8 < (x0.length : Int) then (if x1 = (rd x0 x8) then (some x8) else (slices_Index_int_int.l0 k x0 x1 x7 (wrap64 (x8 + 1)))) else (none)) else (none)) else (some (-1))
def slices_Index_int_int.f (k : Nat) (l0 : List Int) (a1 : Int) : Option (Int) := slices_Index_int_int.l0 k l0 a1 (l0.length : Int) 0
theorem slices_Index_int_int.mono_l : ∀ k, (∀ y0 y1 y2 y3, LeO (slices_Index_int_int.l0 k y0 y1 y2 y3) (slices_Index_int_int.l0 (k + 1) y0 y1 y2 y3))
  | 0 => fun _ _ _ _ r h => by simp [slices_Index_int_int.l0] at h
  | k + 1 => by
    have ih0 := slices_Index_int_int.mono_l k
    · intro y0 y1 y2 y3
      unfold slices_Index_int_int.l0
      repeat' first
      | (with_reducible exact ih0 _ _ _ _)
      | (with_reducible exact LeO.refl _)
      | (with_reducible exact LeO.none _)
      | (with_reducible refine LeO.ite ?_ ?_)
      | (with_reducible refine LeO.bind ?_ (fun _ => ?_))
      | exact ih0 _ _ _ _
      | exact LeO.none _
      | refine LeO.ite ?_ ?_
      | refine LeO.bind ?_ (fun _ => ?_)
theorem slices_Index_int_int.mono : ∀ a0 a1 k, LeO (slices_Index_int_int.f k a0 a1) (slices_Index_int_int.f (k + 1) a0 a1) := by
  intro a0 a1 k
  have ih0 := slices_Index_int_int.mono_l k
  unfold slices_Index_int_int.f
  repeat' first
      | (with_reducible exact ih0 _ _ _ _)
      | (with_reducible exact LeO.refl _)
      | (with_reducible exact LeO.none _)
      | (with_reducible refine LeO.ite ?_ ?_)
      | (with_reducible refine LeO.bind ?_ (fun _ => ?_))
      | exact ih0 _ _ _ _
      | exact LeO.none _
      | refine LeO.ite ?_ ?_
      | refine LeO.bind ?_ (fun _ => ?_)
noncomputable def slices_Index_int_int.lv0 (x0 : List Int) (x1 : Int) (x7 : Int) (x8 : Int) : Option (Int) := lim (fun k_ => slices_Index_int_int.l0 k_ x0 x1 x7 x8)
noncomputable def slices_Index_int_int.v (l0 : List Int) (a1 : Int) : Option (Int) := lim (fun k_ => slices_Index_int_int.f k_ l0 a1)
theorem slices_Index_int_int.lv0_lim (x0 : List Int) (x1 : Int) (x7 : Int) (x8 : Int) : LimIs (fun k_ => slices_Index_int_int.l0 k_ x0 x1 x7 x8) (slices_Index_int_int.lv0 x0 x1 x7 x8) := lim_is (fun k_ => (slices_Index_int_int.mono_l k_) x0 x1 x7 x8)
theorem slices_Index_int_int.v_lim (l0 : List Int) (a1 : Int) : LimIs (fun k_ => slices_Index_int_int.f k_ l0 a1) (slices_Index_int_int.v l0 a1) := lim_is (fun k_ => slices_Index_int_int.mono l0 a1 k_)
theorem slices_Index_int_int.lv0_eq (x0 : List Int) (x1 : Int) (x7 : Int) (x8 : Int) : slices_Index_int_int.lv0 x0 x1 x7 x8 = (if x8 < x7 then (if 0 ≤ x8 then (if x8 < (x0.length : Int) then (if x1 = (rd x0 x8) then (some x8) else (slices_Index_int_int.lv0 x0 x1 x7 (wrap64 (x8 + 1)))) else (none)) else (none)) else (some (-1)) : Option (Int)) := by
  refine LimIs.eq (slices_Index_int_int.lv0_lim x0 x1 x7 x8) ?_
  refine LimIs.step (fun k_ => (slices_Index_int_int.mono_l k_) x0 x1 x7 x8) ?_
  simp only [slices_Index_int_int.l0]
  repeat' (with_reducible first | exact slices_Index_int_int.lv0_lim _ _ _ _ | exact LimIs.const _ | refine LimIs.ite ?_ ?_ | refine LimIs.bind ?_ (fun _ => ?_))
theorem slices_Index_int_int.v_eq (l0 : List Int) (a1 : Int) : slices_Index_int_int.v l0 a1 = (slices_Index_int_int.lv0 l0 a1 (l0.length : Int) 0 : Option (Int)) := by
  refine LimIs.eq (slices_Index_int_int.v_lim l0 a1) ?_
  simp only [slices_Index_int_int.f]
  repeat' (with_reducible first | exact slices_Index_int_int.lv0_lim _ _ _ _ | exact LimIs.const _ | refine LimIs.ite ?_ ?_ | refine LimIs.bind ?_ (fun _ => ?_))
def slices_Contains_int_int.f (k : Nat) (l0 : List Int) (a1 : Int) : Option (Bool) := (slices_Index_int_int.f k l0 a1).bind fun t1004 => (some (decide (t1004 ≥ 0)))
theorem slices_Contains_int_int.mono : ∀ a0 a1 k, LeO (slices_Contains_int_int.f k a0 a1) (slices_Contains_int_int.f (k + 1) a0 a1) := by
  intro a0 a1 k
  unfold slices_Contains_int_int.f
  repeat' first
      | (with_reducible exact slices_Index_int_int.mono _ _ _)
      | (with_reducible exact LeO.refl _)
      | (with_reducible exact LeO.none _)
      | (with_reducible refine LeO.ite ?_ ?_)
      | (with_reducible refine LeO.bind ?_ (fun _ => ?_))
      | exact slices_Index_int_int.mono _ _ _
      | exact LeO.none _
      | refine LeO.ite ?_ ?_
      | refine LeO.bind ?_ (fun _ => ?_)
noncomputable def slices_Contains_int_int.v (l0 : List Int) (a1 : Int) : Option (Bool) := lim (fun k_ => slices_Contains_int_int.f k_ l0 a1)
theorem slices_Contains_int_int.v_lim (l0 : List Int) (a1 : Int) : LimIs (fun k_ => slices_Contains_int_int.f k_ l0 a1) (slices_Contains_int_int.v l0 a1) := lim_is (fun k_ => slices_Contains_int_int.mono l0 a1 k_)
theorem slices_Contains_int_int.v_eq (l0 : List Int) (a1 : Int) : slices_Contains_int_int.v l0 a1 = ((slices_Index_int_int.v l0 a1).bind fun t1004 => (some (decide (t1004 ≥ 0))) : Option (Bool)) := by
  refine LimIs.eq (slices_Contains_int_int.v_lim l0 a1) ?_
  simp only [slices_Contains_int_int.f]
  repeat' (with_reducible first | exact slices_Index_int_int.v_lim _ _ | exact LimIs.const _ | refine LimIs.ite ?_ ?_ | refine LimIs.bind ?_ (fun _ => ?_))
def gm_has.f (k : Nat) (l0 : GMap) (a1_0 : Int) (a1_1 : Int) (a1_2 : Int) (a1_3 : Int) (a2 : Int) : Option (Bool) := if gb64 a1_0 ∧ gb64 a1_1 ∧ gb64 a1_2 ∧ gb64 a1_3 ∧ l0.length < 1000000000 then (slices_Contains_int_int.f k (gl l0 (a1_0, a1_1, a1_2, a1_3)) a2) else (none)
theorem gm_has.mono : ∀ l0 a1_0 a1_1 a1_2 a1_3 a2 k, LeO (gm_has.f k l0 a1_0 a1_1 a1_2 a1_3 a2) (gm_has.f (k + 1) l0 a1_0 a1_1 a1_2 a1_3 a2) := by
  intro l0 a1_0 a1_1 a1_2 a1_3 a2 k
  unfold gm_has.f
  repeat' first
      | (with_reducible exact slices_Contains_int_int.mono _ _ _)
      | (with_reducible exact LeO.refl _)
      | refine LeO.ite ?_ ?_
noncomputable def gm_has.v (l0 : GMap) (a1_0 : Int) (a1_1 : Int) (a1_2 : Int) (a1_3 : Int) (a2 : Int) : Option (Bool) := lim (fun k_ => gm_has.f k_ l0 a1_0 a1_1 a1_2 a1_3 a2)
theorem gm_has.v_lim (l0 : GMap) (a1_0 : Int) (a1_1 : Int) (a1_2 : Int) (a1_3 : Int) (a2 : Int) : LimIs (fun k_ => gm_has.f k_ l0 a1_0 a1_1 a1_2 a1_3 a2) (gm_has.v l0 a1_0 a1_1 a1_2 a1_3 a2) := lim_is (fun k_ => gm_has.mono l0 a1_0 a1_1 a1_2 a1_3 a2 k_)
theorem gm_has.v_eq (l0 : GMap) (a1_0 : Int) (a1_1 : Int) (a1_2 : Int) (a1_3 : Int) (a2 : Int) : gm_has.v l0 a1_0 a1_1 a1_2 a1_3 a2 = (if gb64 a1_0 ∧ gb64 a1_1 ∧ gb64 a1_2 ∧ gb64 a1_3 ∧ l0.length < 1000000000 then (slices_Contains_int_int.v (gl l0 (a1_0, a1_1, a1_2, a1_3)) a2) else (none) : Option (Bool)) := by
  refine LimIs.eq (gm_has.v_lim l0 a1_0 a1_1 a1_2 a1_3 a2) ?_
  simp only [gm_has.f]
  repeat' (with_reducible first | exact slices_Contains_int_int.v_lim _ _ | exact LimIs.const _ | refine LimIs.ite ?_ ?_ | refine LimIs.bind ?_ (fun _ => ?_))
def gm_len.f (l0 : GMap) (a1_0 : Int) (a1_1 : Int) (a1_2 : Int) (a1_3 : Int) : Option (Int) := if gb64 a1_0 ∧ gb64 a1_1 ∧ gb64 a1_2 ∧ gb64 a1_3 ∧ l0.length < 1000000000 then (some ((gl l0 (a1_0, a1_1, a1_2, a1_3)).length : Int)) else (none)
def gm_len.v (l0 : GMap) (a1_0 : Int) (a1_1 : Int) (a1_2 : Int) (a1_3 : Int) : Option (Int) := gm_len.f l0 a1_0 a1_1 a1_2 a1_3
theorem gm_len.v_lim (l0 : GMap) (a1_0 : Int) (a1_1 : Int) (a1_2 : Int) (a1_3 : Int) : LimIs (fun _ => gm_len.f l0 a1_0 a1_1 a1_2 a1_3) (gm_len.v l0 a1_0 a1_1 a1_2 a1_3) := LimIs.const _
theorem gm_len.v_eq (l0 : GMap) (a1_0 : Int) (a1_1 : Int) (a1_2 : Int) (a1_3 : Int) : gm_len.v l0 a1_0 a1_1 a1_2 a1_3 = (if gb64 a1_0 ∧ gb64 a1_1 ∧ gb64 a1_2 ∧ gb64 a1_3 ∧ l0.length < 1000000000 then (some ((gl l0 (a1_0, a1_1, a1_2, a1_3)).length : Int)) else (none) : Option (Int)) := rfl
def gm_put.f (l0 : GMap) (a1_0 : Int) (a1_1 : Int) (a1_2 : Int) (a1_3 : Int) (a2 : Int) : Option (GMap) := if (gb64 a1_0 ∧ gb64 a1_1 ∧ gb64 a1_2 ∧ gb64 a1_3) ∧ gb64 a2 ∧ l0.length < 1000000000 then (some (((a1_0, a1_1, a1_2, a1_3), gl l0 (a1_0, a1_1, a1_2, a1_3) ++ [a2]) :: l0)) else (none)
def gm_put.v (l0 : GMap) (a1_0 : Int) (a1_1 : Int) (a1_2 : Int) (a1_3 : Int) (a2 : Int) : Option (GMap) := gm_put.f l0 a1_0 a1_1 a1_2 a1_3 a2
theorem gm_put.v_lim (l0 : GMap) (a1_0 : Int) (a1_1 : Int) (a1_2 : Int) (a1_3 : Int) (a2 : Int) : LimIs (fun _ => gm_put.f l0 a1_0 a1_1 a1_2 a1_3 a2) (gm_put.v l0 a1_0 a1_1 a1_2 a1_3 a2) := LimIs.const _
theorem gm_put.v_eq (l0 : GMap) (a1_0 : Int) (a1_1 : Int) (a1_2 : Int) (a1_3 : Int) (a2 : Int) : gm_put.v l0 a1_0 a1_1 a1_2 a1_3 a2 = (if (gb64 a1_0 ∧ gb64 a1_1 ∧ gb64 a1_2 ∧ gb64 a1_3) ∧ gb64 a2 ∧ l0.length < 1000000000 then (some (((a1_0, a1_1, a1_2, a1_3), gl l0 (a1_0, a1_1, a1_2, a1_3) ++ [a2]) :: l0)) else (none) : Option (GMap)) := rfl
mutual
def impl_decided.l0 : Nat → Int → Int → Int → GMap → List (S73) → Int → Int → Option (Int × Int × Int × Int × Bool)
  | 0, _, _, _, _, _, _, _ => none
  | k + 1, x0, x1, x2, x10, x14, x15, x16 => if x16 < x15 then (if 0 ≤ x16 then (if x16 < (x14.length : Int) then (if ((rd_T73 x14 x16).f1) = x1 then (if ((rd_T73 x14 x16).f2) = x2 then ((impl_ReplyOK.f k x0 ((rd_T73 x14 x16).f0) ((rd_T73 x14 x16).f1) ((rd_T73 x14 x16).f2) ((rd_T73 x14 x16).f3.f0) ((rd_T73 x14 x16).f3.f1) ((rd_T73 x14 x16).f3.f2) ((rd_T73 x14 x16).f3.f3) ((rd_T73 x14 x16).f4)).bind fun t1011 => (if t1011 = true then ((gm_has.f k x10 ((rd_T73 x14 x16).f3.f0) ((rd_T73 x14 x16).f3.f1) ((rd_T73 x14 x16).f3.f2) ((rd_T73 x14 x16).f3.f3) ((rd_T73 x14 x16).f0)).bind fun t1012 => (impl_decided.j1 k x0 x1 x2 x10 x14 x15 x16 t1012 ((rd_T73 x14 x16).f0) ((rd_T73 x14 x16).f1) ((rd_T73 x14 x16).f2) ((rd_T73 x14 x16).f3.f0) ((rd_T73 x14 x16).f3.f1) ((rd_T73 x14 x16).f3.f2) ((rd_T73 x14 x16).f3.f3) ((rd_T73 x14 x16).f4))) else (impl_decided.j1 k x0 x1 x2 x10 x14 x15 x16 true ((rd_T73 x14 x16).f0) ((rd_T73 x14 x16).f1) ((rd_T73 x14 x16).f2) ((rd_T73 x14 x16).f3.f0) ((rd_T73 x14 x16).f3.f1) ((rd_T73 x14 x16).f3.f2) ((rd_T73 x14 x16).f3.f3) ((rd_T73 x14 x16).f4)))) else (impl_decided.j1 k x0 x1 x2 x10 x14 x15 x16 true ((rd_T73 x14 x16).f0) ((rd_T73 x14 x16).f1) ((rd_T73 x14 x16).f2) ((rd_T73 x14 x16).f3.f0) ((rd_T73 x14 x16).f3.f1) ((rd_T73 x14 x16).f3.f2) ((rd_T73 x14 x16).f3.f3) ((rd_T73 x14 x16).f4))) else (impl_decided.j1 k x0 x1 x2 x10 x14 x15 x16 true ((rd_T73 x14 x16).f0) ((rd_T73 x14 x16).f1) ((rd_T73 x14 x16).f2) ((rd_T73 x14 x16).f3.f0) ((rd_T73 x14 x16).f3.f1) ((rd_T73 x14 x16).f3.f2) ((rd_T73 x14 x16).f3.f3) ((rd_T73 x14 x16).f4))) else (none)) else (none)) else (some (0, 0, 0, 0, false))
def impl_decided.j1 : Nat → Int → Int → Int → GMap → List (S73) → Int → Int → Bool → Int → Int → Int → Int → Int → Int → Int → ByteArray → Option (Int × Int × Int × Int × Bool)
  | 0, _, _, _, _, _, _, _, _, _, _, _, _, _, _, _, _ => none
  | k + 1, x0, x1, x2, x10, x14, x15, x16, x44, x1011000, x1011001, x1011002, x1011003, x1011004, x1011005, x1011006, x1011007 => if x44 = true then (impl_decided.l0 k x0 x1 x2 x10 x14 x15 (wrap64 (x16 + 1))) else ((gm_put.f x10 x1011003 x1011004 x1011005 x1011006 x1011000).bind fun t1013 => ((gm_len.f t1013 x1011003 x1011004 x1011005 x1011006).bind fun t1016 => (if t1016 > (wrap64 (Int.tdiv (wrap64 (x0 - 1)) 3)) then (some (x1011003, x1011004, x1011005, x1011006, true)) else (impl_decided.l0 k x0 x1 x2 t1013 x14 x15 (wrap64 (x16 + 1))))))
end
def impl_decided.f (k : Nat) (a0 : Int) (a1 : Int) (a2 : Int) (l3 : List (S73)) : Option (Int × Int × Int × Int × Bool) := impl_decided.l0 k a0 a1 a2 (([] : GMap)) l3 (l3.length : Int) 0
theorem impl_decided.mono_l : ∀ k, (∀ y0 y1 y2 y3 y4 y5 y6, LeO (impl_decided.l0 k y0 y1 y2 y3 y4 y5 y6) (impl_decided.l0 (k + 1) y0 y1 y2 y3 y4 y5 y6)) ∧ (∀ y0 y1 y2 y3 y4 y5 y6 y7 y8 y9 y10 y11 y12 y13 y14 y15, LeO (impl_decided.j1 k y0 y1 y2 y3 y4 y5 y6 y7 y8 y9 y10 y11 y12 y13 y14 y15) (impl_decided.j1 (k + 1) y0 y1 y2 y3 y4 y5 y6 y7 y8 y9 y10 y11 y12 y13 y14 y15))
  | 0 => ⟨fun _ _ _ _ _ _ _ r h => by simp [impl_decided.l0] at h, fun _ _ _ _ _ _ _ _ _ _ _ _ _ _ _ _ r h => by simp [impl_decided.j1] at h⟩
  | k + 1 => by
    obtain ⟨ih0, ih1⟩ := impl_decided.mono_l k
    refine ⟨?_, ?_⟩
    · intro y0 y1 y2 y3 y4 y5 y6
      unfold impl_decided.l0
      repeat' first
      | (with_reducible exact ih0 _ _ _ _ _ _ _)
      | (with_reducible exact ih1 _ _ _ _ _ _ _ _ _ _ _ _ _ _ _ _)
      | (with_reducible exact gm_has.mono _ _ _ _ _ _ _)
      | (with_reducible exact impl_ReplyOK.mono _ _ _ _ _ _ _ _ _ _)
      | (with_reducible exact LeO.refl _)
      | (with_reducible exact LeO.none _)
      | (with_reducible refine LeO.ite ?_ ?_)
      | (with_reducible refine LeO.bind ?_ (fun _ => ?_))
      | exact ih0 _ _ _ _ _ _ _
      | exact ih1 _ _ _ _ _ _ _ _ _ _ _ _ _ _ _ _
      | exact gm_has.mono _ _ _ _ _ _ _
      | exact impl_ReplyOK.mono _ _ _ _ _ _ _ _ _ _
      | exact LeO.none _
      | refine LeO.ite ?_ ?_
      | refine LeO.bind ?_ (fun _ => ?_)
    · intro y0 y1 y2 y3 y4 y5 y6 y7 y8 y9 y10 y11 y12 y13 y14 y15
      unfold impl_decided.j1
      repeat' first
      | (with_reducible exact ih0 _ _ _ _ _ _ _)
      | (with_reducible exact ih1 _ _ _ _ _ _ _ _ _ _ _ _ _ _ _ _)
      | (with_reducible exact gm_has.mono _ _ _ _ _ _ _)
      | (with_reducible exact impl_ReplyOK.mono _ _ _ _ _ _ _ _ _ _)
      | (with_reducible exact LeO.refl _)
      | (with_reducible exact LeO.none _)
      | (with_reducible refine LeO.ite ?_ ?_)
      | (with_reducible refine LeO.bind ?_ (fun _ => ?_))
      | exact ih0 _ _ _ _ _ _ _
      | exact ih1 _ _ _ _ _ _ _ _ _ _ _ _ _ _ _ _
      | exact gm_has.mono _ _ _ _ _ _ _
      | exact impl_ReplyOK.mono _ _ _ _ _ _ _ _ _ _
      | exact LeO.none _
      | refine LeO.ite ?_ ?_
      | refine LeO.bind ?_ (fun _ => ?_)
theorem impl_decided.mono : ∀ a0 a1 a2 a3 k, LeO (impl_decided.f k a0 a1 a2 a3) (impl_decided.f (k + 1) a0 a1 a2 a3) := by
  intro a0 a1 a2 a3 k
  obtain ⟨ih0, ih1⟩ := impl_decided.mono_l k
  unfold impl_decided.f
  repeat' first
      | (with_reducible exact ih0 _ _ _ _ _ _ _)
      | (with_reducible exact ih1 _ _ _ _ _ _ _ _ _ _ _ _ _ _ _ _)
      | (with_reducible exact gm_has.mono _ _ _ _ _ _ _)
      | (with_reducible exact impl_ReplyOK.mono _ _ _ _ _ _ _ _ _ _)
      | (with_reducible exact LeO.refl _)
      | (with_reducible exact LeO.none _)
      | (with_reducible refine LeO.ite ?_ ?_)
      | (with_reducible refine LeO.bind ?_ (fun _ => ?_))
      | exact ih0 _ _ _ _ _ _ _
      | exact ih1 _ _ _ _ _ _ _ _ _ _ _ _ _ _ _ _
      | exact gm_has.mono _ _ _ _ _ _ _
      | exact impl_ReplyOK.mono _ _ _ _ _ _ _ _ _ _
      | exact LeO.none _
      | refine LeO.ite ?_ ?_
      | refine LeO.bind ?_ (fun _ => ?_)
noncomputable def impl_decided.lv0 (x0 : Int) (x1 : Int) (x2 : Int) (x10 : GMap) (x14 : List (S73)) (x15 : Int) (x16 : Int) : Option (Int × Int × Int × Int × Bool) := lim (fun k_ => impl_decided.l0 k_ x0 x1 x2 x10 x14 x15 x16)
noncomputable def impl_decided.jv1 (x0 : Int) (x1 : Int) (x2 : Int) (x10 : GMap) (x14 : List (S73)) (x15 : Int) (x16 : Int) (x44 : Bool) (x1011000 : Int) (x1011001 : Int) (x1011002 : Int) (x1011003 : Int) (x1011004 : Int) (x1011005 : Int) (x1011006 : Int) (x1011007 : ByteArray) : Option (Int × Int × Int × Int × Bool) := lim (fun k_ => impl_decided.j1 k_ x0 x1 x2 x10 x14 x15 x16 x44 x1011000 x1011001 x1011002 x1011003 x1011004 x1011005 x1011006 x1011007)
noncomputable def impl_decided.v (a0 : Int) (a1 : Int) (a2 : Int) (l3 : List (S73)) : Option (Int × Int × Int × Int × Bool) := lim (fun k_ => impl_decided.f k_ a0 a1 a2 l3)
theorem impl_decided.lv0_lim (x0 : Int) (x1 : Int) (x2 : Int) (x10 : GMap) (x14 : List (S73)) (x15 : Int) (x16 : Int) : LimIs (fun k_ => impl_decided.l0 k_ x0 x1 x2 x10 x14 x15 x16) (impl_decided.lv0 x0 x1 x2 x10 x14 x15 x16) := lim_is (fun k_ => (impl_decided.mono_l k_).1 x0 x1 x2 x10 x14 x15 x16)
theorem impl_decided.jv1_lim (x0 : Int) (x1 : Int) (x2 : Int) (x10 : GMap) (x14 : List (S73)) (x15 : Int) (x16 : Int) (x44 : Bool) (x1011000 : Int) (x1011001 : Int) (x1011002 : Int) (x1011003 : Int) (x1011004 : Int) (x1011005 : Int) (x1011006 : Int) (x1011007 : ByteArray) : LimIs (fun k_ => impl_decided.j1 k_ x0 x1 x2 x10 x14 x15 x16 x44 x1011000 x1011001 x1011002 x1011003 x1011004 x1011005 x1011006 x1011007) (impl_decided.jv1 x0 x1 x2 x10 x14 x15 x16 x44 x1011000 x1011001 x1011002 x1011003 x1011004 x1011005 x1011006 x1011007) := lim_is (fun k_ => (impl_decided.mono_l k_).2 x0 x1 x2 x10 x14 x15 x16 x44 x1011000 x1011001 x1011002 x1011003 x1011004 x1011005 x1011006 x1011007)
theorem impl_decided.v_lim (a0 : Int) (a1 : Int) (a2 : Int) (l3 : List (S73)) : LimIs (fun k_ => impl_decided.f k_ a0 a1 a2 l3) (impl_decided.v a0 a1 a2 l3) := lim_is (fun k_ => impl_decided.mono a0 a1 a2 l3 k_)
theorem impl_decided.lv0_eq (x0 : Int) (x1 : Int) (x2 : Int) (x10 : GMap) (x14 : List (S73)) (x15 : Int) (x16 : Int) : impl_decided.lv0 x0 x1 x2 x10 x14 x15 x16 = (if x16 < x15 then (if 0 ≤ x16 then (if x16 < (x14.length : Int) then (if ((rd_T73 x14 x16).f1) = x1 then (if ((rd_T73 x14 x16).f2) = x2 then ((impl_ReplyOK.v x0 ((rd_T73 x14 x16).f0) ((rd_T73 x14 x16).f1) ((rd_T73 x14 x16).f2) ((rd_T73 x14 x16).f3.f0) ((rd_T73 x14 x16).f3.f1) ((rd_T73 x14 x16).f3.f2) ((rd_T73 x14 x16).f3.f3) ((rd_T73 x14 x16).f4)).bind fun t1011 => (if t1011 = true then ((gm_has.v x10 ((rd_T73 x14 x16).f3.f0) ((rd_T73 x14 x16).f3.f1) ((rd_T73 x14 x16).f3.f2) ((rd_T73 x14 x16).f3.f3) ((rd_T73 x14 x16).f0)).bind fun t1012 => (impl_decided.jv1 x0 x1 x2 x10 x14 x15 x16 t1012 ((rd_T73 x14 x16).f0) ((rd_T73 x14 x16).f1) ((rd_T73 x14 x16).f2) ((rd_T73 x14 x16).f3.f0) ((rd_T73 x14 x16).f3.f1) ((rd_T73 x14 x16).f3.f2) ((rd_T73 x14 x16).f3.f3) ((rd_T73 x14 x16).f4))) else (impl_decided.jv1 x0 x1 x2 x10 x14 x15 x16 true ((rd_T73 x14 x16).f0) ((rd_T73 x14 x16).f1) ((rd_T73 x14 x16).f2) ((rd_T73 x14 x16).f3.f0) ((rd_T73 x14 x16).f3.f1) ((rd_T73 x14 x16).f3.f2) ((rd_T73 x14 x16).f3.f3) ((rd_T73 x14 x16).f4)))) else (impl_decided.jv1 x0 x1 x2 x10 x14 x15 x16 true ((rd_T73 x14 x16).f0) ((rd_T73 x14 x16).f1) ((rd_T73 x14 x16).f2) ((rd_T73 x14 x16).f3.f0) ((rd_T73 x14 x16).f3.f1) ((rd_T73 x14 x16).f3.f2) ((rd_T73 x14 x16).f3.f3) ((rd_T73 x14 x16).f4))) else (impl_decided.jv1 x0 x1 x2 x10 x14 x15 x16 true ((rd_T73 x14 x16).f0) ((rd_T73 x14 x16).f1) ((rd_T73 x14 x16).f2) ((rd_T73 x14 x16).f3.f0) ((rd_T73 x14 x16).f3.f1) ((rd_T73 x14 x16).f3.f2) ((rd_T73 x14 x16).f3.f3) ((rd_T73 x14 x16).f4))) else (none)) else (none)) else (some (0, 0, 0, 0, false)) : Option (Int × Int × Int × Int × Bool)) := by
  refine LimIs.eq (impl_decided.lv0_lim x0 x1 x2 x10 x14 x15 x16) ?_
  refine LimIs.step (fun k_ => (impl_decided.mono_l k_).1 x0 x1 x2 x10 x14 x15 x16) ?_
  simp only [impl_decided.l0]
  repeat' (with_reducible first | exact gm_has.v_lim _ _ _ _ _ _ | exact impl_ReplyOK.v_lim _ _ _ _ _ _ _ _ _ | exact impl_decided.jv1_lim _ _ _ _ _ _ _ _ _ _ _ _ _ _ _ _ | exact LimIs.const _ | refine LimIs.ite ?_ ?_ | refine LimIs.bind ?_ (fun _ => ?_))
theorem impl_decided.jv1_eq (x0 : Int) (x1 : Int) (x2 : Int) (x10 : GMap) (x14 : List (S73)) (x15 : Int) (x16 : Int) (x44 : Bool) (x1011000 : Int) (x1011001 : Int) (x1011002 : Int) (x1011003 : Int) (x1011004 : Int) (x1011005 : Int) (x1011006 : Int) (x1011007 : ByteArray) : impl_decided.jv1 x0 x1 x2 x10 x14 x15 x16 x44 x1011000 x1011001 x1011002 x1011003 x1011004 x1011005 x1011006 x1011007 = (if x44 = true then (impl_decided.lv0 x0 x1 x2 x10 x14 x15 (wrap64 (x16 + 1))) else ((gm_put.v x10 x1011003 x1011004 x1011005 x1011006 x1011000).bind fun t1013 => ((gm_len.v t1013 x1011003 x1011004 x1011005 x1011006).bind fun t1016 => (if t1016 > (wrap64 (Int.tdiv (wrap64 (x0 - 1)) 3)) then (some (x1011003, x1011004, x1011005, x1011006, true)) else (impl_decided.lv0 x0 x1 x2 t1013 x14 x15 (wrap64 (x16 + 1)))))) : Option (Int × Int × Int × Int × Bool)) := by
  refine LimIs.eq (impl_decided.jv1_lim x0 x1 x2 x10 x14 x15 x16 x44 x1011000 x1011001 x1011002 x1011003 x1011004 x1011005 x1011006 x1011007) ?_
  refine LimIs.step (fun k_ => (impl_decided.mono_l k_).2 x0 x1 x2 x10 x14 x15 x16 x44 x1011000 x1011001 x1011002 x1011003 x1011004 x1011005 x1011006 x1011007) ?_
  simp only [impl_decided.j1]
  repeat' (with_reducible first | exact gm_len.v_lim _ _ _ _ _ | exact gm_put.v_lim _ _ _ _ _ _ | exact impl_decided.lv0_lim _ _ _ _ _ _ _ | exact LimIs.const _ | refine LimIs.ite ?_ ?_ | refine LimIs.bind ?_ (fun _ => ?_))
theorem impl_decided.v_eq (a0 : Int) (a1 : Int) (a2 : Int) (l3 : List (S73)) : impl_decided.v a0 a1 a2 l3 = (impl_decided.lv0 a0 a1 a2 (([] : GMap)) l3 (l3.length : Int) 0 : Option (Int × Int × Int × Int × Bool)) := by
  refine LimIs.eq (impl_decided.v_lim a0 a1 a2 l3) ?_
  simp only [impl_decided.f]
  repeat' (with_reducible first | exact impl_decided.lv0_lim _ _ _ _ _ _ _ | exact LimIs.const _ | refine LimIs.ite ?_ ?_ | refine LimIs.bind ?_ (fun _ => ?_))
def laws_eqAnswer.f (a0_0 : Int) (a0_1 : Int) (a0_2 : Int) (a0_3 : Int) (a1_0 : Int) (a1_1 : Int) (a1_2 : Int) (a1_3 : Int) : Option (Bool) := if a0_0 = a1_0 then (if a0_1 = a1_1 then (if a0_2 = a1_2 then (if a0_3 = a1_3 then (some true) else (some false)) else (some false)) else (some false)) else (some false)
def laws_eqAnswer.v (a0_0 : Int) (a0_1 : Int) (a0_2 : Int) (a0_3 : Int) (a1_0 : Int) (a1_1 : Int) (a1_2 : Int) (a1_3 : Int) : Option (Bool) := laws_eqAnswer.f a0_0 a0_1 a0_2 a0_3 a1_0 a1_1 a1_2 a1_3
theorem laws_eqAnswer.v_lim (a0_0 : Int) (a0_1 : Int) (a0_2 : Int) (a0_3 : Int) (a1_0 : Int) (a1_1 : Int) (a1_2 : Int) (a1_3 : Int) : LimIs (fun _ => laws_eqAnswer.f a0_0 a0_1 a0_2 a0_3 a1_0 a1_1 a1_2 a1_3) (laws_eqAnswer.v a0_0 a0_1 a0_2 a0_3 a1_0 a1_1 a1_2 a1_3) := LimIs.const _
theorem laws_eqAnswer.v_eq (a0_0 : Int) (a0_1 : Int) (a0_2 : Int) (a0_3 : Int) (a1_0 : Int) (a1_1 : Int) (a1_2 : Int) (a1_3 : Int) : laws_eqAnswer.v a0_0 a0_1 a0_2 a0_3 a1_0 a1_1 a1_2 a1_3 = (if a0_0 = a1_0 then (if a0_1 = a1_1 then (if a0_2 = a1_2 then (if a0_3 = a1_3 then (some true) else (some false)) else (some false)) else (some false)) else (some false) : Option (Bool)) := rfl
def laws_eqReply.f (a0_0 : Int) (a0_1 : Int) (a0_2 : Int) (a0_3 : Int) (a0_4 : Int) (a0_5 : Int) (a0_6 : Int) (a0_7 : ByteArray) (a1_0 : Int) (a1_1 : Int) (a1_2 : Int) (a1_3 : Int) (a1_4 : Int) (a1_5 : Int) (a1_6 : Int) (a1_7 : ByteArray) : Option (Bool) := if a0_0 = a1_0 then (if a0_1 = a1_1 then (if a0_2 = a1_2 then ((laws_eqAnswer.f a0_3 a0_4 a0_5 a0_6 a1_3 a1_4 a1_5 a1_6).bind fun t1030 => (if t1030 = true then (if a0_7.toList = a1_7.toList then (some true) else (some false)) else (some false))) else (some false)) else (some false)) else (some false)
def laws_eqReply.v (a0_0 : Int) (a0_1 : Int) (a0_2 : Int) (a0_3 : Int) (a0_4 : Int) (a0_5 : Int) (a0_6 : Int) (a0_7 : ByteArray) (a1_0 : Int) (a1_1 : Int) (a1_2 : Int) (a1_3 : Int) (a1_4 : Int) (a1_5 : Int) (a1_6 : Int) (a1_7 : ByteArray) : Option (Bool) := laws_eqReply.f a0_0 a0_1 a0_2 a0_3 a0_4 a0_5 a0_6 a0_7 a1_0 a1_1 a1_2 a1_3 a1_4 a1_5 a1_6 a1_7
theorem laws_eqReply.v_lim (a0_0 : Int) (a0_1 : Int) (a0_2 : Int) (a0_3 : Int) (a0_4 : Int) (a0_5 : Int) (a0_6 : Int) (a0_7 : ByteArray) (a1_0 : Int) (a1_1 : Int) (a1_2 : Int) (a1_3 : Int) (a1_4 : Int) (a1_5 : Int) (a1_6 : Int) (a1_7 : ByteArray) : LimIs (fun _ => laws_eqReply.f a0_0 a0_1 a0_2 a0_3 a0_4 a0_5 a0_6 a0_7 a1_0 a1_1 a1_2 a1_3 a1_4 a1_5 a1_6 a1_7) (laws_eqReply.v a0_0 a0_1 a0_2 a0_3 a0_4 a0_5 a0_6 a0_7 a1_0 a1_1 a1_2 a1_3 a1_4 a1_5 a1_6 a1_7) := LimIs.const _
theorem laws_eqReply.v_eq (a0_0 : Int) (a0_1 : Int) (a0_2 : Int) (a0_3 : Int) (a0_4 : Int) (a0_5 : Int) (a0_6 : Int) (a0_7 : ByteArray) (a1_0 : Int) (a1_1 : Int) (a1_2 : Int) (a1_3 : Int) (a1_4 : Int) (a1_5 : Int) (a1_6 : Int) (a1_7 : ByteArray) : laws_eqReply.v a0_0 a0_1 a0_2 a0_3 a0_4 a0_5 a0_6 a0_7 a1_0 a1_1 a1_2 a1_3 a1_4 a1_5 a1_6 a1_7 = (if a0_0 = a1_0 then (if a0_1 = a1_1 then (if a0_2 = a1_2 then ((laws_eqAnswer.v a0_3 a0_4 a0_5 a0_6 a1_3 a1_4 a1_5 a1_6).bind fun t1030 => (if t1030 = true then (if a0_7.toList = a1_7.toList then (some true) else (some false)) else (some false))) else (some false)) else (some false)) else (some false) : Option (Bool)) := rfl
def laws_eqReplyS.l0 : Nat → List (S73) → List (S73) → Int → Option (Bool)
  | 0, _, _, _ => none
  | k + 1, x0, x1, x5 => if x5 < (x0.length : Int) then (if 0 ≤ x5 then (if x5 < (x1.length : Int) then ((laws_eqReply.f ((rd_T73 x0 x5).f0) ((rd_T73 x0 x5).f1) ((rd_T73 x0 x5).f2) ((rd_T73 x0 x5).f3.f0) ((rd_T73 x0 x5).f3.f1) ((rd_T73 x0 x5).f3.f2) ((rd_T73 x0 x5).f3.f3) ((rd_T73 x0 x5).f4) ((rd_T73 x1 x5).f0) ((rd_T73 x1 x5).f1) ((rd_T73 x1 x5).f2) ((rd_T73 x1 x5).f3.f0) ((rd_T73 x1 x5).f3.f1) ((rd_T73 x1 x5).f3.f2) ((rd_T73 x1 x5).f3.f3) ((rd_T73 x1 x5).f4)).bind fun t1033 => (if t1033 = true then (laws_eqReplyS.l0 k x0 x1 (wrap64 (x5 + 1))) else (some false))) else (none)) else (none)) else (some true)
def laws_eqReplyS.f (k : Nat) (l0 : List (S73)) (l1 : List (S73)) : Option (Bool) := if (l0.length : Int) = (l1.length : Int) then (laws_eqReplyS.l0 k l0 l1 0) else (some false)
theorem laws_eqReplyS.mono_l : ∀ k, (∀ y0 y1 y2, LeO (laws_eqReplyS.l0 k y0 y1 y2) (laws_eqReplyS.l0 (k + 1) y0 y1 y2))
  | 0 => fun _ _ _ r h => by simp [laws_eqReplyS.l0] at h
  | k + 1 => by
    have ih0 := laws_eqReplyS.mono_l k
    · intro y0 y1 y2
      unfold laws_eqReplyS.l0
      repeat' first
      | (with_reducible exact ih0 _ _ _)
      | (with_reducible exact LeO.refl _)
      | (with_reducible exact LeO.none _)
      | (with_reducible refine LeO.ite ?_ ?_)
      | (with_reducible refine LeO.bind ?_ (fun _ => ?_))
      | exact ih0 _ _ _
      | exact LeO.none _
      | refine LeO.ite ?_ ?_
      | refine LeO.bind ?_ (fun _ => ?_)
theorem laws_eqReplyS.mono : ∀ a0 a1 k, LeO (laws_eqReplyS.f k a0 a1) (laws_eqReplyS.f (k + 1) a0 a1) := by
  intro a0 a1 k
  have ih0 := laws_eqReplyS.mono_l k
  unfold laws_eqReplyS.f
  repeat' first
      | (with_reducible exact ih0 _ _ _)
      | (with_reducible exact LeO.refl _)
      | (with_reducible exact LeO.none _)
      | (with_reducible refine LeO.ite ?_ ?_)
      | (with_reducible refine LeO.bind ?_ (fun _ => ?_))
      | exact ih0 _ _ _
      | exact LeO.none _
      | refine LeO.ite ?_ ?_
      | refine LeO.bind ?_ (fun _ => ?_)
noncomputable def laws_eqReplyS.lv0 (x0 : List (S73)) (x1 : List (S73)) (x5 : Int) : Option (Bool) := lim (fun k_ => laws_eqReplyS.l0 k_ x0 x1 x5)
noncomputable def laws_eqReplyS.v (l0 : List (S73)) (l1 : List (S73)) : Option (Bool) := lim (fun k_ => laws_eqReplyS.f k_ l0 l1)
theorem laws_eqReplyS.lv0_lim (x0 : List (S73)) (x1 : List (S73)) (x5 : Int) : LimIs (fun k_ => laws_eqReplyS.l0 k_ x0 x1 x5) (laws_eqReplyS.lv0 x0 x1 x5) := lim_is (fun k_ => (laws_eqReplyS.mono_l k_) x0 x1 x5)
theorem laws_eqReplyS.v_lim (l0 : List (S73)) (l1 : List (S73)) : LimIs (fun k_ => laws_eqReplyS.f k_ l0 l1) (laws_eqReplyS.v l0 l1) := lim_is (fun k_ => laws_eqReplyS.mono l0 l1 k_)
theorem laws_eqReplyS.lv0_eq (x0 : List (S73)) (x1 : List (S73)) (x5 : Int) : laws_eqReplyS.lv0 x0 x1 x5 = (if x5 < (x0.length : Int) then (if 0 ≤ x5 then (if x5 < (x1.length : Int) then ((laws_eqReply.v ((rd_T73 x0 x5).f0) ((rd_T73 x0 x5).f1) ((rd_T73 x0 x5).f2) ((rd_T73 x0 x5).f3.f0) ((rd_T73 x0 x5).f3.f1) ((rd_T73 x0 x5).f3.f2) ((rd_T73 x0 x5).f3.f3) ((rd_T73 x0 x5).f4) ((rd_T73 x1 x5).f0) ((rd_T73 x1 x5).f1) ((rd_T73 x1 x5).f2) ((rd_T73 x1 x5).f3.f0) ((rd_T73 x1 x5).f3.f1) ((rd_T73 x1 x5).f3.f2) ((rd_T73 x1 x5).f3.f3) ((rd_T73 x1 x5).f4)).bind fun t1033 => (if t1033 = true then (laws_eqReplyS.lv0 x0 x1 (wrap64 (x5 + 1))) else (some false))) else (none)) else (none)) else (some true) : Option (Bool)) := by
  refine LimIs.eq (laws_eqReplyS.lv0_lim x0 x1 x5) ?_
  refine LimIs.step (fun k_ => (laws_eqReplyS.mono_l k_) x0 x1 x5) ?_
  simp only [laws_eqReplyS.l0]
  repeat' (with_reducible first | exact laws_eqReply.v_lim _ _ _ _ _ _ _ _ _ _ _ _ _ _ _ _ | exact laws_eqReplyS.lv0_lim _ _ _ | exact LimIs.const _ | refine LimIs.ite ?_ ?_ | refine LimIs.bind ?_ (fun _ => ?_))
theorem laws_eqReplyS.v_eq (l0 : List (S73)) (l1 : List (S73)) : laws_eqReplyS.v l0 l1 = (if (l0.length : Int) = (l1.length : Int) then (laws_eqReplyS.lv0 l0 l1 0) else (some false) : Option (Bool)) := by
  refine LimIs.eq (laws_eqReplyS.v_lim l0 l1) ?_
  simp only [laws_eqReplyS.f]
  repeat' (with_reducible first | exact laws_eqReplyS.lv0_lim _ _ _ | exact LimIs.const _ | refine LimIs.ite ?_ ?_ | refine LimIs.bind ?_ (fun _ => ?_))
def laws_szRequest.f (a0_0 : Int) (a0_1 : Int) (a0_2 : Int) (a0_3 : Int) (a0_4 : ByteArray) (a1 : Int) : Option (Int) := if (wrap64 (a1 - (a0_4.size : Int))) < 0 then (some (-1)) else (some (wrap64 (a1 - (a0_4.size : Int))))
def laws_szRequest.v (a0_0 : Int) (a0_1 : Int) (a0_2 : Int) (a0_3 : Int) (a0_4 : ByteArray) (a1 : Int) : Option (Int) := laws_szRequest.f a0_0 a0_1 a0_2 a0_3 a0_4 a1
theorem laws_szRequest.v_lim (a0_0 : Int) (a0_1 : Int) (a0_2 : Int) (a0_3 : Int) (a0_4 : ByteArray) (a1 : Int) : LimIs (fun _ => laws_szRequest.f a0_0 a0_1 a0_2 a0_3 a0_4 a1) (laws_szRequest.v a0_0 a0_1 a0_2 a0_3 a0_4 a1) := LimIs.const _
theorem laws_szRequest.v_eq (a0_0 : Int) (a0_1 : Int) (a0_2 : Int) (a0_3 : Int) (a0_4 : ByteArray) (a1 : Int) : laws_szRequest.v a0_0 a0_1 a0_2 a0_3 a0_4 a1 = (if (wrap64 (a1 - (a0_4.size : Int))) < 0 then (some (-1)) else (some (wrap64 (a1 - (a0_4.size : Int)))) : Option (Int)) := rfl
def laws_szAnswerS.f (l0 : List (S115)) (a1 : Int) : Option (Int) := if (wrap64 (a1 - (l0.length : Int))) < 0 then (some (-1)) else (some (wrap64 (a1 - (l0.length : Int))))
def laws_szAnswerS.v (l0 : List (S115)) (a1 : Int) : Option (Int) := laws_szAnswerS.f l0 a1
theorem laws_szAnswerS.v_lim (l0 : List (S115)) (a1 : Int) : LimIs (fun _ => laws_szAnswerS.f l0 a1) (laws_szAnswerS.v l0 a1) := LimIs.const _
theorem laws_szAnswerS.v_eq (l0 : List (S115)) (a1 : Int) : laws_szAnswerS.v l0 a1 = (if (wrap64 (a1 - (l0.length : Int))) < 0 then (some (-1)) else (some (wrap64 (a1 - (l0.length : Int)))) : Option (Int)) := rfl
def laws_szClient.f (k : Nat) (a0_0 : Int) (a0_1 : Int) (a0_2 : Bool) (a0_3 : Int) (a0_4 : Int) (a0_5 : Int) (a0_6 : Int) (a0_7 : ByteArray) (l0_8 : List (S117)) (l0_9 : List (S115)) (a1 : Int) : Option (Int) := (laws_szRequest.f a0_3 a0_4 a0_5 a0_6 a0_7 a1).bind fun t1171 => (if t1171 < 0 then (some (-1)) else ((laws_szReplyS.f k l0_8 t1171).bind fun t1172 => (if t1172 < 0 then (some (-1)) else ((laws_szAnswerS.f l0_9 t1172).bind fun t1173 => (if t1173 < 0 then (some (-1)) else (some t1173))))))
theorem laws_szClient.mono : ∀ a0 a1 a2 a3 a4 a5 a6 a7 a8 a9 a10 k, LeO (laws_szClient.f k a0 a1 a2 a3 a4 a5 a6 a7 a8 a9 a10) (laws_szClient.f (k + 1) a0 a1 a2 a3 a4 a5 a6 a7 a8 a9 a10) := by
  intro a0 a1 a2 a3 a4 a5 a6 a7 a8 a9 a10 k
  unfold laws_szClient.f
  repeat' first
      | (with_reducible exact laws_szReplyS.mono _ _ _)
      | (with_reducible exact LeO.refl _)
      | (with_reducible exact LeO.none _)
      | (with_reducible refine LeO.ite ?_ ?_)
      | (with_reducible refine LeO.bind ?_ (fun _ => ?_))
      | exact laws_szReplyS.mono _ _ _
      | exact LeO.none _
      | refine LeO.ite ?_ ?_
      | refine LeO.bind ?_ (fun _ => ?_)
noncomputable def laws_szClient.v (a0_0 : Int) (a0_1 : Int) (a0_2 : Bool) (a0_3 : Int) (a0_4 : Int) (a0_5 : Int) (a0_6 : Int) (a0_7 : ByteArray) (l0_8 : List (S117)) (l0_9 : List (S115)) (a1 : Int) : Option (Int) := lim (fun k_ => laws_szClient.f k_ a0_0 a0_1 a0_2 a0_3 a0_4 a0_5 a0_6 a0_7 l0_8 l0_9 a1)
theorem laws_szClient.v_lim (a0_0 : Int) (a0_1 : Int) (a0_2 : Bool) (a0_3 : Int) (a0_4 : Int) (a0_5 : Int) (a0_6 : Int) (a0_7 : ByteArray) (l0_8 : List (S117)) (l0_9 : List (S115)) (a1 : Int) : LimIs (fun k_ => laws_szClient.f k_ a0_0 a0_1 a0_2 a0_3 a0_4 a0_5 a0_6 a0_7 l0_8 l0_9 a1) (laws_szClient.v a0_0 a0_1 a0_2 a0_3 a0_4 a0_5 a0_6 a0_7 l0_8 l0_9 a1) := lim_is (fun k_ => laws_szClient.mono a0_0 a0_1 a0_2 a0_3 a0_4 a0_5 a0_6 a0_7 l0_8 l0_9 a1 k_)
theorem laws_szClient.v_eq (a0_0 : Int) (a0_1 : Int) (a0_2 : Bool) (a0_3 : Int) (a0_4 : Int) (a0_5 : Int) (a0_6 : Int) (a0_7 : ByteArray) (l0_8 : List (S117)) (l0_9 : List (S115)) (a1 : Int) : laws_szClient.v a0_0 a0_1 a0_2 a0_3 a0_4 a0_5 a0_6 a0_7 l0_8 l0_9 a1 = ((laws_szRequest.v a0_3 a0_4 a0_5 a0_6 a0_7 a1).bind fun t1171 => (if t1171 < 0 then (some (-1)) else ((laws_szReplyS.v l0_8 t1171).bind fun t1172 => (if t1172 < 0 then (some (-1)) else ((laws_szAnswerS.v l0_9 t1172).bind fun t1173 => (if t1173 < 0 then (some (-1)) else (some t1173)))))) : Option (Int)) := by
  refine LimIs.eq (laws_szClient.v_lim a0_0 a0_1 a0_2 a0_3 a0_4 a0_5 a0_6 a0_7 l0_8 l0_9 a1) ?_
  simp only [laws_szClient.f]
  repeat' (with_reducible first | exact laws_szAnswerS.v_lim _ _ | exact laws_szReplyS.v_lim _ _ | exact laws_szRequest.v_lim _ _ _ _ _ _ | exact LimIs.const _ | refine LimIs.ite ?_ ?_ | refine LimIs.bind ?_ (fun _ => ?_))
def spec_RequestOK.f (k : Nat) (a0_0 : Int) (a0_1 : Int) (a0_2 : Int) (a0_3 : Int) (a0_4 : ByteArray) : Option (Bool) := (spec_l01In.f a0_0 0 255).bind fun t1175 => (if t1175 = true then ((spec_l01In.f a0_1 1 65535).bind fun t1176 => (if t1176 = true then ((spec_l01In.f a0_2 1 4).bind fun t1177 => (if t1177 = true then ((spec_l01In.f a0_3 0 1000).bind fun t1178 => (if t1178 = true then ((spec_l02Text.f k a0_4 12).bind fun t1179 => (if t1179 = true then (if a0_2 = 1 then (some ((decide (a0_3 > 0)) == true)) else (some ((decide (a0_3 > 0)) == (a0_2 == 3)))) else (some false))) else (some false))) else (some false))) else (some false))) else (some false))
theorem spec_RequestOK.mono : ∀ a0 a1 a2 a3 a4 k, LeO (spec_RequestOK.f k a0 a1 a2 a3 a4) (spec_RequestOK.f (k + 1) a0 a1 a2 a3 a4) := by
  intro a0 a1 a2 a3 a4 k
  unfold spec_RequestOK.f
  repeat' first
      | (with_reducible exact spec_l02Text.mono _ _ _)
      | (with_reducible exact LeO.refl _)
      | (with_reducible exact LeO.none _)
      | (with_reducible refine LeO.ite ?_ ?_)
      | (with_reducible refine LeO.bind ?_ (fun _ => ?_))
      | exact spec_l02Text.mono _ _ _
      | exact LeO.none _
      | refine LeO.ite ?_ ?_
      | refine LeO.bind ?_ (fun _ => ?_)
noncomputable def spec_RequestOK.v (a0_0 : Int) (a0_1 : Int) (a0_2 : Int) (a0_3 : Int) (a0_4 : ByteArray) : Option (Bool) := lim (fun k_ => spec_RequestOK.f k_ a0_0 a0_1 a0_2 a0_3 a0_4)
theorem spec_RequestOK.v_lim (a0_0 : Int) (a0_1 : Int) (a0_2 : Int) (a0_3 : Int) (a0_4 : ByteArray) : LimIs (fun k_ => spec_RequestOK.f k_ a0_0 a0_1 a0_2 a0_3 a0_4) (spec_RequestOK.v a0_0 a0_1 a0_2 a0_3 a0_4) := lim_is (fun k_ => spec_RequestOK.mono a0_0 a0_1 a0_2 a0_3 a0_4 k_)
theorem spec_RequestOK.v_eq (a0_0 : Int) (a0_1 : Int) (a0_2 : Int) (a0_3 : Int) (a0_4 : ByteArray) : spec_RequestOK.v a0_0 a0_1 a0_2 a0_3 a0_4 = ((spec_l01In.v a0_0 0 255).bind fun t1175 => (if t1175 = true then ((spec_l01In.v a0_1 1 65535).bind fun t1176 => (if t1176 = true then ((spec_l01In.v a0_2 1 4).bind fun t1177 => (if t1177 = true then ((spec_l01In.v a0_3 0 1000).bind fun t1178 => (if t1178 = true then ((spec_l02Text.v a0_4 12).bind fun t1179 => (if t1179 = true then (if a0_2 = 1 then (some ((decide (a0_3 > 0)) == true)) else (some ((decide (a0_3 > 0)) == (a0_2 == 3)))) else (some false))) else (some false))) else (some false))) else (some false))) else (some false)) : Option (Bool)) := by
  refine LimIs.eq (spec_RequestOK.v_lim a0_0 a0_1 a0_2 a0_3 a0_4) ?_
  simp only [spec_RequestOK.f]
  repeat' (with_reducible first | exact spec_l01In.v_lim _ _ _ | exact spec_l02Text.v_lim _ _ | exact LimIs.const _ | refine LimIs.ite ?_ ?_ | refine LimIs.bind ?_ (fun _ => ?_))
mutual
def spec_ClientOK.j0 : Nat → Int → Bool → Int → Int → Bool → Int → Int → Int → Int → ByteArray → List (S73) → List (S63) → Option (Bool)
  | 0, _, _, _, _, _, _, _, _, _, _, _, _ => none
  | k + 1, x0, x30, x1181000, x1181001, x1181002, x1181003, x1181004, x1181005, x1181006, x1181007, x1181008, x1181009 => if x30 = true then (some false) else (spec_ClientOK.l0 k x0 0 x1181000 x1181001 x1181002 x1181003 x1181004 x1181005 x1181006 x1181007 x1181008 x1181009)
def spec_ClientOK.l0 : Nat → Int → Int → Int → Int → Bool → Int → Int → Int → Int → ByteArray → List (S73) → List (S63) → Option (Bool)
  | 0, _, _, _, _, _, _, _, _, _, _, _, _ => none
  | k + 1, x0, x5, x1181000, x1181001, x1181002, x1181003, x1181004, x1181005, x1181006, x1181007, x1181008, x1181009 => if x5 < (x1181009.length : Int) then (if 0 ≤ x5 then ((spec_l05Answer.f ((rd_T63 x1181009 x5).f0) ((rd_T63 x1181009 x5).f1) ((rd_T63 x1181009 x5).f2) ((rd_T63 x1181009 x5).f3)).bind fun t1185 => (if t1185 = true then (spec_ClientOK.l0 k x0 (wrap64 (x5 + 1)) x1181000 x1181001 x1181002 x1181003 x1181004 x1181005 x1181006 x1181007 x1181008 x1181009) else (some false))) else (none)) else (if x1181002 = true then ((spec_RequestOK.f k x1181003 x1181004 x1181005 x1181006 x1181007).bind fun t1186 => (if t1186 = true then (if x1181003 = x1181000 then (if x1181004 = x1181001 then (spec_ClientOK.j2 k x0 ((x1181009.length : Int) != (wrap64 (x1181001 - 1))) x1181000 x1181001 x1181002 x1181003 x1181004 x1181005 x1181006 x1181007 x1181008 x1181009) else (spec_ClientOK.j2 k x0 true x1181000 x1181001 x1181002 x1181003 x1181004 x1181005 x1181006 x1181007 x1181008 x1181009)) else (spec_ClientOK.j2 k x0 true x1181000 x1181001 x1181002 x1181003 x1181004 x1181005 x1181006 x1181007 x1181008 x1181009)) else (spec_ClientOK.j2 k x0 true x1181000 x1181001 x1181002 x1181003 x1181004 x1181005 x1181006 x1181007 x1181008 x1181009))) else (if (x1181003 == 0 && (x1181004 == 0 && (x1181005 == 0 && (x1181006 == 0 && (x1181007.toList == ([] : List UInt8)))))) = true then (if (x1181008.length : Int) = 0 then (some ((x1181009.length : Int) == x1181001)) else (some false)) else (some false)))
def spec_ClientOK.j2 : Nat → Int → Bool → Int → Int → Bool → Int → Int → Int → Int → ByteArray → List (S73) → List (S63) → Option (Bool)
  | 0, _, _, _, _, _, _, _, _, _, _, _, _ => none
  | k + 1, x0, x94, x1181000, x1181001, x1181002, x1181003, x1181004, x1181005, x1181006, x1181007, x1181008, x1181009 => if x94 = true then (some false) else (spec_ClientOK.l1 k x0 0 x1181000 x1181001 x1181002 x1181003 x1181004 x1181005 x1181006 x1181007 x1181008 x1181009)
def spec_ClientOK.l1 : Nat → Int → Int → Int → Int → Bool → Int → Int → Int → Int → ByteArray → List (S73) → List (S63) → Option (Bool)
  | 0, _, _, _, _, _, _, _, _, _, _, _, _ => none
  | k + 1, x0, x6, x1181000, x1181001, x1181002, x1181003, x1181004, x1181005, x1181006, x1181007, x1181008, x1181009 => if x6 < (x1181008.length : Int) then (if 0 ≤ x6 then ((spec_l11OK.f k x0 ((rd_T73 x1181008 x6).f0) ((rd_T73 x1181008 x6).f1) ((rd_T73 x1181008 x6).f2) ((rd_T73 x1181008 x6).f3.f0) ((rd_T73 x1181008 x6).f3.f1) ((rd_T73 x1181008 x6).f3.f2) ((rd_T73 x1181008 x6).f3.f3) ((rd_T73 x1181008 x6).f4)).bind fun t1189 => (if t1189 = true then (if ((rd_T73 x1181008 x6).f1) = x1181000 then (if ((rd_T73 x1181008 x6).f2) = x1181001 then (spec_ClientOK.l1 k x0 (wrap64 (x6 + 1)) x1181000 x1181001 x1181002 x1181003 x1181004 x1181005 x1181006 x1181007 x1181008 x1181009) else (some false)) else (some false)) else (some false))) else (none)) else ((spec_l11Count.f k x0 x1181000 x1181001 x1181008).bind fun bt1190 => (some (!bt1190.2.2.2.2)))
end
def spec_ClientOK.f (k : Nat) (a0 : Int) (a1_0 : Int) (a1_1 : Int) (a1_2 : Bool) (a1_3 : Int) (a1_4 : Int) (a1_5 : Int) (a1_6 : Int) (a1_7 : ByteArray) (l1_8 : List (S73)) (l1_9 : List (S63)) : Option (Bool) := (spec_l04Nodes.f a0).bind fun t1181 => (if t1181 = true then ((spec_l01In.f a1_0 0 255).bind fun t1182 => (if t1182 = true then ((spec_l01In.f a1_1 0 65535).bind fun t1183 => (if t1183 = true then (spec_ClientOK.j0 k a0 (decide ((l1_8.length : Int) > 40)) a1_0 a1_1 a1_2 a1_3 a1_4 a1_5 a1_6 a1_7 l1_8 l1_9) else (spec_ClientOK.j0 k a0 true a1_0 a1_1 a1_2 a1_3 a1_4 a1_5 a1_6 a1_7 l1_8 l1_9))) else (spec_ClientOK.j0 k a0 true a1_0 a1_1 a1_2 a1_3 a1_4 a1_5 a1_6 a1_7 l1_8 l1_9))) else (spec_ClientOK.j0 k a0 true a1_0 a1_1 a1_2 a1_3 a1_4 a1_5 a1_6 a1_7 l1_8 l1_9))
theorem spec_ClientOK.mono_l : ∀ k, (∀ y0 y1 y2 y3 y4 y5 y6 y7 y8 y9 y10 y11, LeO (spec_ClientOK.j0 k y0 y1 y2 y3 y4 y5 y6 y7 y8 y9 y10 y11) (spec_ClientOK.j0 (k + 1) y0 y1 y2 y3 y4 y5 y6 y7 y8 y9 y10 y11)) ∧ (∀ y0 y1 y2 y3 y4 y5 y6 y7 y8 y9 y10 y11, LeO (spec_ClientOK.l0 k y0 y1 y2 y3 y4 y5 y6 y7 y8 y9 y10 y11) (spec_ClientOK.l0 (k + 1) y0 y1 y2 y3 y4 y5 y6 y7 y8 y9 y10 y11)) ∧ (∀ y0 y1 y2 y3 y4 y5 y6 y7 y8 y9 y10 y11, LeO (spec_ClientOK.j2 k y0 y1 y2 y3 y4 y5 y6 y7 y8 y9 y10 y11) (spec_ClientOK.j2 (k + 1) y0 y1 y2 y3 y4 y5 y6 y7 y8 y9 y10 y11)) ∧ (∀ y0 y1 y2 y3 y4 y5 y6 y7 y8 y9 y10 y11, LeO (spec_ClientOK.l1 k y0 y1 y2 y3 y4 y5 y6 y7 y8 y9 y10 y11) (spec_ClientOK.l1 (k + 1) y0 y1 y2 y3 y4 y5 y6 y7 y8 y9 y10 y11))
  | 0 => ⟨fun _ _ _ _ _ _ _ _ _ _ _ _ r h => by simp [spec_ClientOK.j0] at h, fun _ _ _ _ _ _ _ _ _ _ _ _ r h => by simp [spec_ClientOK.l0] at h, fun _ _ _ _ _ _ _ _ _ _ _ _ r h => by simp [spec_ClientOK.j2] at h, fun _ _ _ _ _ _ _ _ _ _ _ _ r h => by simp [spec_ClientOK.l1] at h⟩
  | k + 1 => by
    obtain ⟨ih0, ih1, ih2, ih3⟩ := spec_ClientOK.mono_l k
    refine ⟨?_, ?_, ?_, ?_⟩
    · intro y0 y1 y2 y3 y4 y5 y6 y7 y8 y9 y10 y11
      unfold spec_ClientOK.j0
      repeat' first
      | (with_reducible exact ih0 _ _ _ _ _ _ _ _ _ _ _ _)
      | (with_reducible exact ih1 _ _ _ _ _ _ _ _ _ _ _ _)
      | (with_reducible exact ih2 _ _ _ _ _ _ _ _ _ _ _ _)
      | (with_reducible exact ih3 _ _ _ _ _ _ _ _ _ _ _ _)
      | (with_reducible exact spec_RequestOK.mono _ _ _ _ _ _)
      | (with_reducible exact spec_l11Count.mono _ _ _ _ _)
      | (with_reducible exact spec_l11OK.mono _ _ _ _ _ _ _ _ _ _)
      | (with_reducible exact LeO.refl _)
      | (with_reducible exact LeO.none _)
      | (with_reducible refine LeO.ite ?_ ?_)
      | (with_reducible refine LeO.bind ?_ (fun _ => ?_))
      | exact ih0 _ _ _ _ _ _ _ _ _ _ _ _
      | exact ih1 _ _ _ _ _ _ _ _ _ _ _ _
      | exact ih2 _ _ _ _ _ _ _ _ _ _ _ _
      | exact ih3 _ _ _ _ _ _ _ _ _ _ _ _
      | exact spec_RequestOK.mono _ _ _ _ _ _
      | exact spec_l11Count.mono _ _ _ _ _
      | exact spec_l11OK.mono _ _ _ _ _ _ _ _ _ _
      | exact LeO.none _
      | refine LeO.ite ?_ ?_
      | refine LeO.bind ?_ (fun _ => ?_)
    · intro y0 y1 y2 y3 y4 y5 y6 y7 y8 y9 y10 y11
      unfold spec_ClientOK.l0
      repeat' first
      | (with_reducible exact ih0 _ _ _ _ _ _ _ _ _ _ _ _)
      | (with_reducible exact ih1 _ _ _ _ _ _ _ _ _ _ _ _)
      | (with_reducible exact ih2 _ _ _ _ _ _ _ _ _ _ _ _)
      | (with_reducible exact ih3 _ _ _ _ _ _ _ _ _ _ _ _)
      | (with_reducible exact spec_RequestOK.mono _ _ _ _ _ _)
      | (with_reducible exact spec_l11Count.mono _ _ _ _ _)
      | (with_reducible exact spec_l11OK.mono _ _ _ _ _ _ _ _ _ _)
      | (with_reducible exact LeO.refl _)
      | (with_reducible exact LeO.none _)
      | (with_reducible refine LeO.ite ?_ ?_)
      | (with_reducible refine LeO.bind ?_ (fun _ => ?_))
      | exact ih0 _ _ _ _ _ _ _ _ _ _ _ _
      | exact ih1 _ _ _ _ _ _ _ _ _ _ _ _
      | exact ih2 _ _ _ _ _ _ _ _ _ _ _ _
      | exact ih3 _ _ _ _ _ _ _ _ _ _ _ _
      | exact spec_RequestOK.mono _ _ _ _ _ _
      | exact spec_l11Count.mono _ _ _ _ _
      | exact spec_l11OK.mono _ _ _ _ _ _ _ _ _ _
      | exact LeO.none _
      | refine LeO.ite ?_ ?_
      | refine LeO.bind ?_ (fun _ => ?_)
    · intro y0 y1 y2 y3 y4 y5 y6 y7 y8 y9 y10 y11
      unfold spec_ClientOK.j2
      repeat' first
      | (with_reducible exact ih0 _ _ _ _ _ _ _ _ _ _ _ _)
      | (with_reducible exact ih1 _ _ _ _ _ _ _ _ _ _ _ _)
      | (with_reducible exact ih2 _ _ _ _ _ _ _ _ _ _ _ _)
      | (with_reducible exact ih3 _ _ _ _ _ _ _ _ _ _ _ _)
      | (with_reducible exact spec_RequestOK.mono _ _ _ _ _ _)
      | (with_reducible exact spec_l11Count.mono _ _ _ _ _)
      | (with_reducible exact spec_l11OK.mono _ _ _ _ _ _ _ _ _ _)
      | (with_reducible exact LeO.refl _)
      | (with_reducible exact LeO.none _)
      | (with_reducible refine LeO.ite ?_ ?_)
      | (with_reducible refine LeO.bind ?_ (fun _ => ?_))
      | exact ih0 _ _ _ _ _ _ _ _ _ _ _ _
      | exact ih1 _ _ _ _ _ _ _ _ _ _ _ _
      | exact ih2 _ _ _ _ _ _ _ _ _ _ _ _
      | exact ih3 _ _ _ _ _ _ _ _ _ _ _ _
      | exact spec_RequestOK.mono _ _ _ _ _ _
      | exact spec_l11Count.mono _ _ _ _ _
      | exact spec_l11OK.mono _ _ _ _ _ _ _ _ _ _
      | exact LeO.none _
      | refine LeO.ite ?_ ?_
      | refine LeO.bind ?_ (fun _ => ?_)
    · intro y0 y1 y2 y3 y4 y5 y6 y7 y8 y9 y10 y11
      unfold spec_ClientOK.l1
      repeat' first
      | (with_reducible exact ih0 _ _ _ _ _ _ _ _ _ _ _ _)
      | (with_reducible exact ih1 _ _ _ _ _ _ _ _ _ _ _ _)
      | (with_reducible exact ih2 _ _ _ _ _ _ _ _ _ _ _ _)
      | (with_reducible exact ih3 _ _ _ _ _ _ _ _ _ _ _ _)
      | (with_reducible exact spec_RequestOK.mono _ _ _ _ _ _)
      | (with_reducible exact spec_l11Count.mono _ _ _ _ _)
      | (with_reducible exact spec_l11OK.mono _ _ _ _ _ _ _ _ _ _)
      | (with_reducible exact LeO.refl _)
      | (with_reducible exact LeO.none _)
      | (with_reducible refine LeO.ite ?_ ?_)
      | (with_reducible refine LeO.bind ?_ (fun _ => ?_))
      | exact ih0 _ _ _ _ _ _ _ _ _ _ _ _
      | exact ih1 _ _ _ _ _ _ _ _ _ _ _ _
      | exact ih2 _ _ _ _ _ _ _ _ _ _ _ _
      | exact ih3 _ _ _ _ _ _ _ _ _ _ _ _
      | exact spec_RequestOK.mono _ _ _ _ _ _
      | exact spec_l11Count.mono _ _ _ _ _
      | exact spec_l11OK.mono _ _ _ _ _ _ _ _ _ _
      | exact LeO.none _
      | refine LeO.ite ?_ ?_
      | refine LeO.bind ?_ (fun _ => ?_)
theorem spec_ClientOK.mono : ∀ a0 a1 a2 a3 a4 a5 a6 a7 a8 a9 a10 k, LeO (spec_ClientOK.f k a0 a1 a2 a3 a4 a5 a6 a7 a8 a9 a10) (spec_ClientOK.f (k + 1) a0 a1 a2 a3 a4 a5 a6 a7 a8 a9 a10) := by
  intro a0 a1 a2 a3 a4 a5 a6 a7 a8 a9 a10 k
  obtain ⟨ih0, ih1, ih2, ih3⟩ := spec_ClientOK.mono_l k
  unfold spec_ClientOK.f
  repeat' first
      | (with_reducible exact ih0 _ _ _ _ _ _ _ _ _ _ _ _)
      | (with_reducible exact ih1 _ _ _ _ _ _ _ _ _ _ _ _)
      | (with_reducible exact ih2 _ _ _ _ _ _ _ _ _ _ _ _)
      | (with_reducible exact ih3 _ _ _ _ _ _ _ _ _ _ _ _)
      | (with_reducible exact spec_RequestOK.mono _ _ _ _ _ _)
      | (with_reducible exact spec_l11Count.mono _ _ _ _ _)
      | (with_reducible exact spec_l11OK.mono _ _ _ _ _ _ _ _ _ _)
      | (with_reducible exact LeO.refl _)
      | (with_reducible exact LeO.none _)
      | (with_reducible refine LeO.ite ?_ ?_)
      | (with_reducible refine LeO.bind ?_ (fun _ => ?_))
      | exact ih0 _ _ _ _ _ _ _ _ _ _ _ _
      | exact ih1 _ _ _ _ _ _ _ _ _ _ _ _
      | exact ih2 _ _ _ _ _ _ _ _ _ _ _ _
      | exact ih3 _ _ _ _ _ _ _ _ _ _ _ _
      | exact spec_RequestOK.mono _ _ _ _ _ _
      | exact spec_l11Count.mono _ _ _ _ _
      | exact spec_l11OK.mono _ _ _ _ _ _ _ _ _ _
      | exact LeO.none _
      | refine LeO.ite ?_ ?_
      | refine LeO.bind ?_ (fun _ => ?_)
noncomputable def spec_ClientOK.jv0 (x0 : Int) (x30 : Bool) (x1181000 : Int) (x1181001 : Int) (x1181002 : Bool) (x1181003 : Int) (x1181004 : Int) (x1181005 : Int) (x1181006 : Int) (x1181007 : ByteArray) (x1181008 : List (S73)) (x1181009 : List (S63)) : Option (Bool) := lim (fun k_ => spec_ClientOK.j0 k_ x0 x30 x1181000 x1181001 x1181002 x1181003 x1181004 x1181005 x1181006 x1181007 x1181008 x1181009)
noncomputable def spec_ClientOK.lv0 (x0 : Int) (x5 : Int) (x1181000 : Int) (x1181001 : Int) (x1181002 : Bool) (x1181003 : Int) (x1181004 : Int) (x1181005 : Int) (x1181006 : Int) (x1181007 : ByteArray) (x1181008 : List (S73)) (x1181009 : List (S63)) : Option (Bool) := lim (fun k_ => spec_ClientOK.l0 k_ x0 x5 x1181000 x1181001 x1181002 x1181003 x1181004 x1181005 x1181006 x1181007 x1181008 x1181009)
noncomputable def spec_ClientOK.jv2 (x0 : Int) (x94 : Bool) (x1181000 : Int) (x1181001 : Int) (x1181002 : Bool) (x1181003 : Int) (x1181004 : Int) (x1181005 : Int) (x1181006 : Int) (x1181007 : ByteArray) (x1181008 : List (S73)) (x1181009 : List (S63)) : Option (Bool) := lim (fun k_ => spec_ClientOK.j2 k_ x0 x94 x1181000 x1181001 x1181002 x1181003 x1181004 x1181005 x1181006 x1181007 x1181008 x1181009)
noncomputable def spec_ClientOK.lv1 (x0 : Int) (x6 : Int) (x1181000 : Int) (x1181001 : Int) (x1181002 : Bool) (x1181003 : Int) (x1181004 : Int) (x1181005 : Int) (x1181006 : Int) (x1181007 : ByteArray) (x1181008 : List (S73)) (x1181009 : List (S63)) : Option (Bool) := lim (fun k_ => spec_ClientOK.l1 k_ x0 x6 x1181000 x1181001 x1181002 x1181003 x1181004 x1181005 x1181006 x1181007 x1181008 x1181009)
noncomputable def spec_ClientOK.v (a0 : Int) (a1_0 : Int) (a1_1 : Int) (a1_2 : Bool) (a1_3 : Int) (a1_4 : Int) (a1_5 : Int) (a1_6 : Int) (a1_7 : ByteArray) (l1_8 : List (S73)) (l1_9 : List (S63)) : Option (Bool) := lim (fun k_ => spec_ClientOK.f k_ a0 a1_0 a1_1 a1_2 a1_3 a1_4 a1_5 a1_6 a1_7 l1_8 l1_9)
theorem spec_ClientOK.jv0_lim (x0 : Int) (x30 : Bool) (x1181000 : Int) (x1181001 : Int) (x1181002 : Bool) (x1181003 : Int) (x1181004 : Int) (x1181005 : Int) (x1181006 : Int) (x1181007 : ByteArray) (x1181008 : List (S73)) (x1181009 : List (S63)) : LimIs (fun k_ => spec_ClientOK.j0 k_ x0 x30 x1181000 x1181001 x1181002 x1181003 x1181004 x1181005 x1181006 x1181007 x1181008 x1181009) (spec_ClientOK.jv0 x0 x30 x1181000 x1181001 x1181002 x1181003 x1181004 x1181005 x1181006 x1181007 x1181008 x1181009) := lim_is (fun k_ => (spec_ClientOK.mono_l k_).1 x0 x30 x1181000 x1181001 x1181002 x1181003 x1181004 x1181005 x1181006 x1181007 x1181008 x1181009)
theorem spec_ClientOK.lv0_lim (x0 : Int) (x5 : Int) (x1181000 : Int) (x1181001 : Int) (x1181002 : Bool) (x1181003 : Int) (x1181004 : Int) (x1181005 : Int) (x1181006 : Int) (x1181007 : ByteArray) (x1181008 : List (S73)) (x1181009 : List (S63)) : LimIs (fun k_ => spec_ClientOK.l0 k_ x0 x5 x1181000 x1181001 x1181002 x1181003 x1181004 x1181005 x1181006 x1181007 x1181008 x1181009) (spec_ClientOK.lv0 x0 x5 x1181000 x1181001 x1181002 x1181003 x1181004 x1181005 x1181006 x1181007 x1181008 x1181009) := lim_is (fun k_ => (spec_ClientOK.mono_l k_).2.1 x0 x5 x1181000 x1181001 x1181002 x1181003 x1181004 x1181005 x1181006 x1181007 x1181008 x1181009)
theorem spec_ClientOK.jv2_lim (x0 : Int) (x94 : Bool) (x1181000 : Int) (x1181001 : Int) (x1181002 : Bool) (x1181003 : Int) (x1181004 : Int) (x1181005 : Int) (x1181006 : Int) (x1181007 : ByteArray) (x1181008 : List (S73)) (x1181009 : List (S63)) : LimIs (fun k_ => spec_ClientOK.j2 k_ x0 x94 x1181000 x1181001 x1181002 x1181003 x1181004 x1181005 x1181006 x1181007 x1181008 x1181009) (spec_ClientOK.jv2 x0 x94 x1181000 x1181001 x1181002 x1181003 x1181004 x1181005 x1181006 x1181007 x1181008 x1181009) := lim_is (fun k_ => (spec_ClientOK.mono_l k_).2.2.1 x0 x94 x1181000 x1181001 x1181002 x1181003 x1181004 x1181005 x1181006 x1181007 x1181008 x1181009)
theorem spec_ClientOK.lv1_lim (x0 : Int) (x6 : Int) (x1181000 : Int) (x1181001 : Int) (x1181002 : Bool) (x1181003 : Int) (x1181004 : Int) (x1181005 : Int) (x1181006 : Int) (x1181007 : ByteArray) (x1181008 : List (S73)) (x1181009 : List (S63)) : LimIs (fun k_ => spec_ClientOK.l1 k_ x0 x6 x1181000 x1181001 x1181002 x1181003 x1181004 x1181005 x1181006 x1181007 x1181008 x1181009) (spec_ClientOK.lv1 x0 x6 x1181000 x1181001 x1181002 x1181003 x1181004 x1181005 x1181006 x1181007 x1181008 x1181009) := lim_is (fun k_ => (spec_ClientOK.mono_l k_).2.2.2 x0 x6 x1181000 x1181001 x1181002 x1181003 x1181004 x1181005 x1181006 x1181007 x1181008 x1181009)
theorem spec_ClientOK.v_lim (a0 : Int) (a1_0 : Int) (a1_1 : Int) (a1_2 : Bool) (a1_3 : Int) (a1_4 : Int) (a1_5 : Int) (a1_6 : Int) (a1_7 : ByteArray) (l1_8 : List (S73)) (l1_9 : List (S63)) : LimIs (fun k_ => spec_ClientOK.f k_ a0 a1_0 a1_1 a1_2 a1_3 a1_4 a1_5 a1_6 a1_7 l1_8 l1_9) (spec_ClientOK.v a0 a1_0 a1_1 a1_2 a1_3 a1_4 a1_5 a1_6 a1_7 l1_8 l1_9) := lim_is (fun k_ => spec_ClientOK.mono a0 a1_0 a1_1 a1_2 a1_3 a1_4 a1_5 a1_6 a1_7 l1_8 l1_9 k_)
theorem spec_ClientOK.jv0_eq (x0 : Int) (x30 : Bool) (x1181000 : Int) (x1181001 : Int) (x1181002 : Bool) (x1181003 : Int) (x1181004 : Int) (x1181005 : Int) (x1181006 : Int) (x1181007 : ByteArray) (x1181008 : List (S73)) (x1181009 : List (S63)) : spec_ClientOK.jv0 x0 x30 x1181000 x1181001 x1181002 x1181003 x1181004 x1181005 x1181006 x1181007 x1181008 x1181009 = (if x30 = true then (some false) else (spec_ClientOK.lv0 x0 0 x1181000 x1181001 x1181002 x1181003 x1181004 x1181005 x1181006 x1181007 x1181008 x1181009) : Option (Bool)) := by
  refine LimIs.eq (spec_ClientOK.jv0_lim x0 x30 x1181000 x1181001 x1181002 x1181003 x1181004 x1181005 x1181006 x1181007 x1181008 x1181009) ?_
  refine LimIs.step (fun k_ => (spec_ClientOK.mono_l k_).1 x0 x30 x1181000 x1181001 x1181002 x1181003 x1181004 x1181005 x1181006 x1181007 x1181008 x1181009) ?_
  simp only [spec_ClientOK.j0]
  repeat' (with_reducible first | exact spec_ClientOK.lv0_lim _ _ _ _ _ _ _ _ _ _ _ _ | exact LimIs.const _ | refine LimIs.ite ?_ ?_ | refine LimIs.bind ?_ (fun _ => ?_))
theorem spec_ClientOK.lv0_eq (x0 : Int) (x5 : Int) (x1181000 : Int) (x1181001 : Int) (x1181002 : Bool) (x1181003 : Int) (x1181004 : Int) (x1181005 : Int) (x1181006 : Int) (x1181007 : ByteArray) (x1181008 : List (S73)) (x1181009 : List (S63)) : spec_ClientOK.lv0 x0 x5 x1181000 x1181001 x1181002 x1181003 x1181004 x1181005 x1181006 x1181007 x1181008 x1181009 = (if x5 < (x1181009.length : Int) then (if 0 ≤ x5 then ((spec_l05Answer.v ((rd_T63 x1181009 x5).f0) ((rd_T63 x1181009 x5).f1) ((rd_T63 x1181009 x5).f2) ((rd_T63 x1181009 x5).f3)).bind fun t1185 => (if t1185 = true then (spec_ClientOK.lv0 x0 (wrap64 (x5 + 1)) x1181000 x1181001 x1181002 x1181003 x1181004 x1181005 x1181006 x1181007 x1181008 x1181009) else (some false))) else (none)) else (if x1181002 = true then ((spec_RequestOK.v x1181003 x1181004 x1181005 x1181006 x1181007).bind fun t1186 => (if t1186 = true then (if x1181003 = x1181000 then (if x1181004 = x1181001 then (spec_ClientOK.jv2 x0 ((x1181009.length : Int) != (wrap64 (x1181001 - 1))) x1181000 x1181001 x1181002 x1181003 x1181004 x1181005 x1181006 x1181007 x1181008 x1181009) else (spec_ClientOK.jv2 x0 true x1181000 x1181001 x1181002 x1181003 x1181004 x1181005 x1181006 x1181007 x1181008 x1181009)) else (spec_ClientOK.jv2 x0 true x1181000 x1181001 x1181002 x1181003 x1181004 x1181005 x1181006 x1181007 x1181008 x1181009)) else (spec_ClientOK.jv2 x0 true x1181000 x1181001 x1181002 x1181003 x1181004 x1181005 x1181006 x1181007 x1181008 x1181009))) else (if (x1181003 == 0 && (x1181004 == 0 && (x1181005 == 0 && (x1181006 == 0 && (x1181007.toList == ([] : List UInt8)))))) = true then (if (x1181008.length : Int) = 0 then (some ((x1181009.length : Int) == x1181001)) else (some false)) else (some false))) : Option (Bool)) := by
  refine LimIs.eq (spec_ClientOK.lv0_lim x0 x5 x1181000 x1181001 x1181002 x1181003 x1181004 x1181005 x1181006 x1181007 x1181008 x1181009) ?_
  refine LimIs.step (fun k_ => (spec_ClientOK.mono_l k_).2.1 x0 x5 x1181000 x1181001 x1181002 x1181003 x1181004 x1181005 x1181006 x1181007 x1181008 x1181009) ?_
  simp only [spec_ClientOK.l0]
  repeat' (with_reducible first | exact spec_ClientOK.jv2_lim _ _ _ _ _ _ _ _ _ _ _ _ | exact spec_ClientOK.lv0_lim _ _ _ _ _ _ _ _ _ _ _ _ | exact spec_RequestOK.v_lim _ _ _ _ _ | exact spec_l05Answer.v_lim _ _ _ _ | exact LimIs.const _ | refine LimIs.ite ?_ ?_ | refine LimIs.bind ?_ (fun _ => ?_))
theorem spec_ClientOK.jv2_eq (x0 : Int) (x94 : Bool) (x1181000 : Int) (x1181001 : Int) (x1181002 : Bool) (x1181003 : Int) (x1181004 : Int) (x1181005 : Int) (x1181006 : Int) (x1181007 : ByteArray) (x1181008 : List (S73)) (x1181009 : List (S63)) : spec_ClientOK.jv2 x0 x94 x1181000 x1181001 x1181002 x1181003 x1181004 x1181005 x1181006 x1181007 x1181008 x1181009 = (if x94 = true then (some false) else (spec_ClientOK.lv1 x0 0 x1181000 x1181001 x1181002 x1181003 x1181004 x1181005 x1181006 x1181007 x1181008 x1181009) : Option (Bool)) := by
  refine LimIs.eq (spec_ClientOK.jv2_lim x0 x94 x1181000 x1181001 x1181002 x1181003 x1181004 x1181005 x1181006 x1181007 x1181008 x1181009) ?_
  refine LimIs.step (fun k_ => (spec_ClientOK.mono_l k_).2.2.1 x0 x94 x1181000 x1181001 x1181002 x1181003 x1181004 x1181005 x1181006 x1181007 x1181008 x1181009) ?_
  simp only [spec_ClientOK.j2]
  repeat' (with_reducible first | exact spec_ClientOK.lv1_lim _ _ _ _ _ _ _ _ _ _ _ _ | exact LimIs.const _ | refine LimIs.ite ?_ ?_ | refine LimIs.bind ?_ (fun _ => ?_))
theorem spec_ClientOK.lv1_eq (x0 : Int) (x6 : Int) (x1181000 : Int) (x1181001 : Int) (x1181002 : Bool) (x1181003 : Int) (x1181004 : Int) (x1181005 : Int) (x1181006 : Int) (x1181007 : ByteArray) (x1181008 : List (S73)) (x1181009 : List (S63)) : spec_ClientOK.lv1 x0 x6 x1181000 x1181001 x1181002 x1181003 x1181004 x1181005 x1181006 x1181007 x1181008 x1181009 = (if x6 < (x1181008.length : Int) then (if 0 ≤ x6 then ((spec_l11OK.v x0 ((rd_T73 x1181008 x6).f0) ((rd_T73 x1181008 x6).f1) ((rd_T73 x1181008 x6).f2) ((rd_T73 x1181008 x6).f3.f0) ((rd_T73 x1181008 x6).f3.f1) ((rd_T73 x1181008 x6).f3.f2) ((rd_T73 x1181008 x6).f3.f3) ((rd_T73 x1181008 x6).f4)).bind fun t1189 => (if t1189 = true then (if ((rd_T73 x1181008 x6).f1) = x1181000 then (if ((rd_T73 x1181008 x6).f2) = x1181001 then (spec_ClientOK.lv1 x0 (wrap64 (x6 + 1)) x1181000 x1181001 x1181002 x1181003 x1181004 x1181005 x1181006 x1181007 x1181008 x1181009) else (some false)) else (some false)) else (some false))) else (none)) else ((spec_l11Count.v x0 x1181000 x1181001 x1181008).bind fun bt1190 => (some (!bt1190.2.2.2.2))) : Option (Bool)) := by
  refine LimIs.eq (spec_ClientOK.lv1_lim x0 x6 x1181000 x1181001 x1181002 x1181003 x1181004 x1181005 x1181006 x1181007 x1181008 x1181009) ?_
  refine LimIs.step (fun k_ => (spec_ClientOK.mono_l k_).2.2.2 x0 x6 x1181000 x1181001 x1181002 x1181003 x1181004 x1181005 x1181006 x1181007 x1181008 x1181009) ?_
  simp only [spec_ClientOK.l1]
  repeat' (with_reducible first | exact spec_ClientOK.lv1_lim _ _ _ _ _ _ _ _ _ _ _ _ | exact spec_l11Count.v_lim _ _ _ _ | exact spec_l11OK.v_lim _ _ _ _ _ _ _ _ _ | exact LimIs.const _ | refine LimIs.ite ?_ ?_ | refine LimIs.bind ?_ (fun _ => ?_))
theorem spec_ClientOK.v_eq (a0 : Int) (a1_0 : Int) (a1_1 : Int) (a1_2 : Bool) (a1_3 : Int) (a1_4 : Int) (a1_5 : Int) (a1_6 : Int) (a1_7 : ByteArray) (l1_8 : List (S73)) (l1_9 : List (S63)) : spec_ClientOK.v a0 a1_0 a1_1 a1_2 a1_3 a1_4 a1_5 a1_6 a1_7 l1_8 l1_9 = ((spec_l04Nodes.v a0).bind fun t1181 => (if t1181 = true then ((spec_l01In.v a1_0 0 255).bind fun t1182 => (if t1182 = true then ((spec_l01In.v a1_1 0 65535).bind fun t1183 => (if t1183 = true then (spec_ClientOK.jv0 a0 (decide ((l1_8.length : Int) > 40)) a1_0 a1_1 a1_2 a1_3 a1_4 a1_5 a1_6 a1_7 l1_8 l1_9) else (spec_ClientOK.jv0 a0 true a1_0 a1_1 a1_2 a1_3 a1_4 a1_5 a1_6 a1_7 l1_8 l1_9))) else (spec_ClientOK.jv0 a0 true a1_0 a1_1 a1_2 a1_3 a1_4 a1_5 a1_6 a1_7 l1_8 l1_9))) else (spec_ClientOK.jv0 a0 true a1_0 a1_1 a1_2 a1_3 a1_4 a1_5 a1_6 a1_7 l1_8 l1_9)) : Option (Bool)) := by
  refine LimIs.eq (spec_ClientOK.v_lim a0 a1_0 a1_1 a1_2 a1_3 a1_4 a1_5 a1_6 a1_7 l1_8 l1_9) ?_
  simp only [spec_ClientOK.f]
  repeat' (with_reducible first | exact spec_ClientOK.jv0_lim _ _ _ _ _ _ _ _ _ _ _ _ | exact spec_l01In.v_lim _ _ _ | exact spec_l04Nodes.v_lim _ | exact LimIs.const _ | refine LimIs.ite ?_ ?_ | refine LimIs.bind ?_ (fun _ => ?_))
def laws_toRequest.f (a0_0 : Int) (a0_1 : Int) (a0_2 : Int) (a0_3 : Int) (a0_4 : ByteArray) : Option (Int × Int × Int × Int × ByteArray) := some (a0_0, a0_1, a0_2, a0_3, a0_4)
def laws_toRequest.v (a0_0 : Int) (a0_1 : Int) (a0_2 : Int) (a0_3 : Int) (a0_4 : ByteArray) : Option (Int × Int × Int × Int × ByteArray) := laws_toRequest.f a0_0 a0_1 a0_2 a0_3 a0_4
theorem laws_toRequest.v_lim (a0_0 : Int) (a0_1 : Int) (a0_2 : Int) (a0_3 : Int) (a0_4 : ByteArray) : LimIs (fun _ => laws_toRequest.f a0_0 a0_1 a0_2 a0_3 a0_4) (laws_toRequest.v a0_0 a0_1 a0_2 a0_3 a0_4) := LimIs.const _
theorem laws_toRequest.v_eq (a0_0 : Int) (a0_1 : Int) (a0_2 : Int) (a0_3 : Int) (a0_4 : ByteArray) : laws_toRequest.v a0_0 a0_1 a0_2 a0_3 a0_4 = (some (a0_0, a0_1, a0_2, a0_3, a0_4) : Option (Int × Int × Int × Int × ByteArray)) := rfl
def laws_toAnswerS.l0 : Nat → List (S115) → List (S63) → Int → Option ((List (S63)))
  | 0, _, _, _ => none
  | k + 1, x0, x3, x4 => if x4 < (x0.length : Int) then (if 0 ≤ x4 then ((laws_toAnswer.f ((rd_T115 x0 x4).f0) ((rd_T115 x0 x4).f1) ((rd_T115 x0 x4).f2) ((rd_T115 x0 x4).f3)).bind fun bt1203 => (if x4 < (x3.length : Int) then (laws_toAnswerS.l0 k x0 (x3.set (x4 : Int).toNat (⟨bt1203.1, bt1203.2.1, bt1203.2.2.1, bt1203.2.2.2⟩ : S63)) (wrap64 (x4 + 1))) else (none))) else (none)) else (some x3)
def laws_toAnswerS.f (k : Nat) (l0 : List (S115)) : Option ((List (S63))) := if 0 ≤ (l0.length : Int) then (if ((l0.length : Int) : Int).toNat ≤ 8796093022208 then (laws_toAnswerS.l0 k l0 (List.replicate ((l0.length : Int) : Int).toNat z63) 0) else (none)) else (none)
theorem laws_toAnswerS.mono_l : ∀ k, (∀ y0 y1 y2, LeO (laws_toAnswerS.l0 k y0 y1 y2) (laws_toAnswerS.l0 (k + 1) y0 y1 y2))
  | 0 => fun _ _ _ r h => by simp [laws_toAnswerS.l0] at h
  | k + 1 => by
    have ih0 := laws_toAnswerS.mono_l k
    · intro y0 y1 y2
      unfold laws_toAnswerS.l0
      repeat' first
      | (with_reducible exact ih0 _ _ _)
      | (with_reducible exact LeO.refl _)
      | (with_reducible exact LeO.none _)
      | (with_reducible refine LeO.ite ?_ ?_)
      | (with_reducible refine LeO.bind ?_ (fun _ => ?_))
      | exact ih0 _ _ _
      | exact LeO.none _
      | refine LeO.ite ?_ ?_
      | refine LeO.bind ?_ (fun _ => ?_)
theorem laws_toAnswerS.mono : ∀ a0 k, LeO (laws_toAnswerS.f k a0) (laws_toAnswerS.f (k + 1) a0) := by
  intro a0 k
  have ih0 := laws_toAnswerS.mono_l k
  unfold laws_toAnswerS.f
  repeat' first
      | (with_reducible exact ih0 _ _ _)
      | (with_reducible exact LeO.refl _)
      | (with_reducible exact LeO.none _)
      | (with_reducible refine LeO.ite ?_ ?_)
      | (with_reducible refine LeO.bind ?_ (fun _ => ?_))
      | exact ih0 _ _ _
      | exact LeO.none _
      | refine LeO.ite ?_ ?_
      | refine LeO.bind ?_ (fun _ => ?_)
noncomputable def laws_toAnswerS.lv0 (x0 : List (S115)) (x3 : List (S63)) (x4 : Int) : Option ((List (S63))) := lim (fun k_ => laws_toAnswerS.l0 k_ x0 x3 x4)
noncomputable def laws_toAnswerS.v (l0 : List (S115)) : Option ((List (S63))) := lim (fun k_ => laws_toAnswerS.f k_ l0)
theorem laws_toAnswerS.lv0_lim (x0 : List (S115)) (x3 : List (S63)) (x4 : Int) : LimIs (fun k_ => laws_toAnswerS.l0 k_ x0 x3 x4) (laws_toAnswerS.lv0 x0 x3 x4) := lim_is (fun k_ => (laws_toAnswerS.mono_l k_) x0 x3 x4)
theorem laws_toAnswerS.v_lim (l0 : List (S115)) : LimIs (fun k_ => laws_toAnswerS.f k_ l0) (laws_toAnswerS.v l0) := lim_is (fun k_ => laws_toAnswerS.mono l0 k_)
theorem laws_toAnswerS.lv0_eq (x0 : List (S115)) (x3 : List (S63)) (x4 : Int) : laws_toAnswerS.lv0 x0 x3 x4 = (if x4 < (x0.length : Int) then (if 0 ≤ x4 then ((laws_toAnswer.v ((rd_T115 x0 x4).f0) ((rd_T115 x0 x4).f1) ((rd_T115 x0 x4).f2) ((rd_T115 x0 x4).f3)).bind fun bt1203 => (if x4 < (x3.length : Int) then (laws_toAnswerS.lv0 x0 (x3.set (x4 : Int).toNat (⟨bt1203.1, bt1203.2.1, bt1203.2.2.1, bt1203.2.2.2⟩ : S63)) (wrap64 (x4 + 1))) else (none))) else (none)) else (some x3) : Option ((List (S63)))) := by
  refine LimIs.eq (laws_toAnswerS.lv0_lim x0 x3 x4) ?_
  refine LimIs.step (fun k_ => (laws_toAnswerS.mono_l k_) x0 x3 x4) ?_
  simp only [laws_toAnswerS.l0]
  repeat' (with_reducible first | exact laws_toAnswer.v_lim _ _ _ _ | exact laws_toAnswerS.lv0_lim _ _ _ | exact LimIs.const _ | refine LimIs.ite ?_ ?_ | refine LimIs.bind ?_ (fun _ => ?_))
theorem laws_toAnswerS.v_eq (l0 : List (S115)) : laws_toAnswerS.v l0 = (if 0 ≤ (l0.length : Int) then (if ((l0.length : Int) : Int).toNat ≤ 8796093022208 then (laws_toAnswerS.lv0 l0 (List.replicate ((l0.length : Int) : Int).toNat z63) 0) else (none)) else (none) : Option ((List (S63)))) := by
  refine LimIs.eq (laws_toAnswerS.v_lim l0) ?_
  simp only [laws_toAnswerS.f]
  repeat' (with_reducible first | exact laws_toAnswerS.lv0_lim _ _ _ | exact LimIs.const _ | refine LimIs.ite ?_ ?_ | refine LimIs.bind ?_ (fun _ => ?_))
def laws_toClient.f (k : Nat) (a0_0 : Int) (a0_1 : Int) (a0_2 : Bool) (a0_3 : Int) (a0_4 : Int) (a0_5 : Int) (a0_6 : Int) (a0_7 : ByteArray) (l0_8 : List (S117)) (l0_9 : List (S115)) : Option (Int × Int × Bool × Int × Int × Int × Int × ByteArray × (List (S73)) × (List (S63))) := (laws_toRequest.f a0_3 a0_4 a0_5 a0_6 a0_7).bind fun bt1211 => ((laws_toReplyS.f k l0_8).bind fun t1216 => ((laws_toAnswerS.f k l0_9).bind fun t1219 => (some (a0_0, a0_1, a0_2, bt1211.1, bt1211.2.1, bt1211.2.2.1, bt1211.2.2.2.1, bt1211.2.2.2.2, t1216, t1219))))
theorem laws_toClient.mono : ∀ a0 a1 a2 a3 a4 a5 a6 a7 a8 a9 k, LeO (laws_toClient.f k a0 a1 a2 a3 a4 a5 a6 a7 a8 a9) (laws_toClient.f (k + 1) a0 a1 a2 a3 a4 a5 a6 a7 a8 a9) := by
  intro a0 a1 a2 a3 a4 a5 a6 a7 a8 a9 k
  unfold laws_toClient.f
  repeat' first
      | (with_reducible exact laws_toAnswerS.mono _ _)
      | (with_reducible exact laws_toReplyS.mono _ _)
      | (with_reducible exact LeO.refl _)
      | (with_reducible exact LeO.none _)
      | (with_reducible refine LeO.ite ?_ ?_)
      | (with_reducible refine LeO.bind ?_ (fun _ => ?_))
      | exact laws_toAnswerS.mono _ _
      | exact laws_toReplyS.mono _ _
      | exact LeO.none _
      | refine LeO.ite ?_ ?_
      | refine LeO.bind ?_ (fun _ => ?_)
noncomputable def laws_toClient.v (a0_0 : Int) (a0_1 : Int) (a0_2 : Bool) (a0_3 : Int) (a0_4 : Int) (a0_5 : Int) (a0_6 : Int) (a0_7 : ByteArray) (l0_8 : List (S117)) (l0_9 : List (S115)) : Option (Int × Int × Bool × Int × Int × Int × Int × ByteArray × (List (S73)) × (List (S63))) := lim (fun k_ => laws_toClient.f k_ a0_0 a0_1 a0_2 a0_3 a0_4 a0_5 a0_6 a0_7 l0_8 l0_9)
theorem laws_toClient.v_lim (a0_0 : Int) (a0_1 : Int) (a0_2 : Bool) (a0_3 : Int) (a0_4 : Int) (a0_5 : Int) (a0_6 : Int) (a0_7 : ByteArray) (l0_8 : List (S117)) (l0_9 : List (S115)) : LimIs (fun k_ => laws_toClient.f k_ a0_0 a0_1 a0_2 a0_3 a0_4 a0_5 a0_6 a0_7 l0_8 l0_9) (laws_toClient.v a0_0 a0_1 a0_2 a0_3 a0_4 a0_5 a0_6 a0_7 l0_8 l0_9) := lim_is (fun k_ => laws_toClient.mono a0_0 a0_1 a0_2 a0_3 a0_4 a0_5 a0_6 a0_7 l0_8 l0_9 k_)
theorem laws_toClient.v_eq (a0_0 : Int) (a0_1 : Int) (a0_2 : Bool) (a0_3 : Int) (a0_4 : Int) (a0_5 : Int) (a0_6 : Int) (a0_7 : ByteArray) (l0_8 : List (S117)) (l0_9 : List (S115)) : laws_toClient.v a0_0 a0_1 a0_2 a0_3 a0_4 a0_5 a0_6 a0_7 l0_8 l0_9 = ((laws_toRequest.v a0_3 a0_4 a0_5 a0_6 a0_7).bind fun bt1211 => ((laws_toReplyS.v l0_8).bind fun t1216 => ((laws_toAnswerS.v l0_9).bind fun t1219 => (some (a0_0, a0_1, a0_2, bt1211.1, bt1211.2.1, bt1211.2.2.1, bt1211.2.2.2.1, bt1211.2.2.2.2, t1216, t1219)))) : Option (Int × Int × Bool × Int × Int × Int × Int × ByteArray × (List (S73)) × (List (S63)))) := by
  refine LimIs.eq (laws_toClient.v_lim a0_0 a0_1 a0_2 a0_3 a0_4 a0_5 a0_6 a0_7 l0_8 l0_9) ?_
  simp only [laws_toClient.f]
  repeat' (with_reducible first | exact laws_toAnswerS.v_lim _ | exact laws_toReplyS.v_lim _ | exact laws_toRequest.v_lim _ _ _ _ _ | exact LimIs.const _ | refine LimIs.ite ?_ ?_ | refine LimIs.bind ?_ (fun _ => ?_))
def impl_ClientOK_1.f (a0_0 : Int) (a0_1 : Int) (a0_2 : Int) (a0_3 : Int) : Option (Bool) := (impl_isAnswer.f a0_0 a0_1 a0_2 a0_3).bind fun t1223 => (some (!t1223))
def impl_ClientOK_1.v (a0_0 : Int) (a0_1 : Int) (a0_2 : Int) (a0_3 : Int) : Option (Bool) := impl_ClientOK_1.f a0_0 a0_1 a0_2 a0_3
theorem impl_ClientOK_1.v_eq (a0_0 : Int) (a0_1 : Int) (a0_2 : Int) (a0_3 : Int) : impl_ClientOK_1.v a0_0 a0_1 a0_2 a0_3 = ((impl_isAnswer.v a0_0 a0_1 a0_2 a0_3).bind fun t1223 => (some (!t1223)) : Option (Bool)) := rfl
mutual
def impl_RequestOK.j0 : Nat → Int → Int → Bool → Int → Int → Int → Int → ByteArray → Option (Bool)
  | 0, _, _, _, _, _, _, _, _ => none
  | k + 1, x3, x4, x12, x1225000, x1225001, x1225002, x1225003, x1225004 => if x12 = true then (impl_RequestOK.j1 k 1 1000 x1225000 x1225001 x1225002 x1225003 x1225004) else (impl_RequestOK.j1 k x3 x4 x1225000 x1225001 x1225002 x1225003 x1225004)
def impl_RequestOK.j1 : Nat → Int → Int → Int → Int → Int → Int → ByteArray → Option (Bool)
  | 0, _, _, _, _, _, _, _ => none
  | k + 1, x3, x4, x1225000, x1225001, x1225002, x1225003, x1225004 => (impl_within.f x1225000 0 255).bind fun t1225 => (if t1225 = true then ((impl_within.f x1225001 1 65535).bind fun t1226 => (if t1226 = true then ((impl_within.f x1225002 1 4).bind fun t1227 => (if t1227 = true then ((impl_within.f x1225003 x3 x4).bind fun t1228 => (if t1228 = true then ((impl_isOpName.f k x1225004).bind fun t1229 => (some t1229)) else (some false))) else (some false))) else (some false))) else (some false))
end
def impl_RequestOK.f (k : Nat) (a0_0 : Int) (a0_1 : Int) (a0_2 : Int) (a0_3 : Int) (a0_4 : ByteArray) : Option (Bool) := if a0_2 = 1 then (impl_RequestOK.j0 k 0 0 true a0_0 a0_1 a0_2 a0_3 a0_4) else (impl_RequestOK.j0 k 0 0 (a0_2 == 3) a0_0 a0_1 a0_2 a0_3 a0_4)
theorem impl_RequestOK.mono_l : ∀ k, (∀ y0 y1 y2 y3 y4 y5 y6 y7, LeO (impl_RequestOK.j0 k y0 y1 y2 y3 y4 y5 y6 y7) (impl_RequestOK.j0 (k + 1) y0 y1 y2 y3 y4 y5 y6 y7)) ∧ (∀ y0 y1 y2 y3 y4 y5 y6, LeO (impl_RequestOK.j1 k y0 y1 y2 y3 y4 y5 y6) (impl_RequestOK.j1 (k + 1) y0 y1 y2 y3 y4 y5 y6))
  | 0 => ⟨fun _ _ _ _ _ _ _ _ r h => by simp [impl_RequestOK.j0] at h, fun _ _ _ _ _ _ _ r h => by simp [impl_RequestOK.j1] at h⟩
  | k + 1 => by
    obtain ⟨ih0, ih1⟩ := impl_RequestOK.mono_l k
    refine ⟨?_, ?_⟩
    · intro y0 y1 y2 y3 y4 y5 y6 y7
      unfold impl_RequestOK.j0
      repeat' first
      | (with_reducible exact ih0 _ _ _ _ _ _ _ _)
      | (with_reducible exact ih1 _ _ _ _ _ _ _)
      | (with_reducible exact impl_isOpName.mono _ _)
      | (with_reducible exact LeO.refl _)
      | (with_reducible exact LeO.none _)
      | (with_reducible refine LeO.ite ?_ ?_)
      | (with_reducible refine LeO.bind ?_ (fun _ => ?_))
      | exact ih0 _ _ _ _ _ _ _ _
      | exact ih1 _ _ _ _ _ _ _
      | exact impl_isOpName.mono _ _
      | exact LeO.none _
      | refine LeO.ite ?_ ?_
      | refine LeO.bind ?_ (fun _ => ?_)
    · intro y0 y1 y2 y3 y4 y5 y6
      unfold impl_RequestOK.j1
      repeat' first
      | (with_reducible exact ih0 _ _ _ _ _ _ _ _)
      | (with_reducible exact ih1 _ _ _ _ _ _ _)
      | (with_reducible exact impl_isOpName.mono _ _)
      | (with_reducible exact LeO.refl _)
      | (with_reducible exact LeO.none _)
      | (with_reducible refine LeO.ite ?_ ?_)
      | (with_reducible refine LeO.bind ?_ (fun _ => ?_))
      | exact ih0 _ _ _ _ _ _ _ _
      | exact ih1 _ _ _ _ _ _ _
      | exact impl_isOpName.mono _ _
      | exact LeO.none _
      | refine LeO.ite ?_ ?_
      | refine LeO.bind ?_ (fun _ => ?_)
theorem impl_RequestOK.mono : ∀ a0 a1 a2 a3 a4 k, LeO (impl_RequestOK.f k a0 a1 a2 a3 a4) (impl_RequestOK.f (k + 1) a0 a1 a2 a3 a4) := by
  intro a0 a1 a2 a3 a4 k
  obtain ⟨ih0, ih1⟩ := impl_RequestOK.mono_l k
  unfold impl_RequestOK.f
  repeat' first
      | (with_reducible exact ih0 _ _ _ _ _ _ _ _)
      | (with_reducible exact ih1 _ _ _ _ _ _ _)
      | (with_reducible exact impl_isOpName.mono _ _)
      | (with_reducible exact LeO.refl _)
      | (with_reducible exact LeO.none _)
      | (with_reducible refine LeO.ite ?_ ?_)
      | (with_reducible refine LeO.bind ?_ (fun _ => ?_))
      | exact ih0 _ _ _ _ _ _ _ _
      | exact ih1 _ _ _ _ _ _ _
      | exact impl_isOpName.mono _ _
      | exact LeO.none _
      | refine LeO.ite ?_ ?_
      | refine LeO.bind ?_ (fun _ => ?_)
noncomputable def impl_RequestOK.jv0 (x3 : Int) (x4 : Int) (x12 : Bool) (x1225000 : Int) (x1225001 : Int) (x1225002 : Int) (x1225003 : Int) (x1225004 : ByteArray) : Option (Bool) := lim (fun k_ => impl_RequestOK.j0 k_ x3 x4 x12 x1225000 x1225001 x1225002 x1225003 x1225004)
noncomputable def impl_RequestOK.jv1 (x3 : Int) (x4 : Int) (x1225000 : Int) (x1225001 : Int) (x1225002 : Int) (x1225003 : Int) (x1225004 : ByteArray) : Option (Bool) := lim (fun k_ => impl_RequestOK.j1 k_ x3 x4 x1225000 x1225001 x1225002 x1225003 x1225004)
noncomputable def impl_RequestOK.v (a0_0 : Int) (a0_1 : Int) (a0_2 : Int) (a0_3 : Int) (a0_4 : ByteArray) : Option (Bool) := lim (fun k_ => impl_RequestOK.f k_ a0_0 a0_1 a0_2 a0_3 a0_4)
theorem impl_RequestOK.jv0_lim (x3 : Int) (x4 : Int) (x12 : Bool) (x1225000 : Int) (x1225001 : Int) (x1225002 : Int) (x1225003 : Int) (x1225004 : ByteArray) : LimIs (fun k_ => impl_RequestOK.j0 k_ x3 x4 x12 x1225000 x1225001 x1225002 x1225003 x1225004) (impl_RequestOK.jv0 x3 x4 x12 x1225000 x1225001 x1225002 x1225003 x1225004) := lim_is (fun k_ => (impl_RequestOK.mono_l k_).1 x3 x4 x12 x1225000 x1225001 x1225002 x1225003 x1225004)
theorem impl_RequestOK.jv1_lim (x3 : Int) (x4 : Int) (x1225000 : Int) (x1225001 : Int) (x1225002 : Int) (x1225003 : Int) (x1225004 : ByteArray) : LimIs (fun k_ => impl_RequestOK.j1 k_ x3 x4 x1225000 x1225001 x1225002 x1225003 x1225004) (impl_RequestOK.jv1 x3 x4 x1225000 x1225001 x1225002 x1225003 x1225004) := lim_is (fun k_ => (impl_RequestOK.mono_l k_).2 x3 x4 x1225000 x1225001 x1225002 x1225003 x1225004)
theorem impl_RequestOK.v_lim (a0_0 : Int) (a0_1 : Int) (a0_2 : Int) (a0_3 : Int) (a0_4 : ByteArray) : LimIs (fun k_ => impl_RequestOK.f k_ a0_0 a0_1 a0_2 a0_3 a0_4) (impl_RequestOK.v a0_0 a0_1 a0_2 a0_3 a0_4) := lim_is (fun k_ => impl_RequestOK.mono a0_0 a0_1 a0_2 a0_3 a0_4 k_)
theorem impl_RequestOK.jv0_eq (x3 : Int) (x4 : Int) (x12 : Bool) (x1225000 : Int) (x1225001 : Int) (x1225002 : Int) (x1225003 : Int) (x1225004 : ByteArray) : impl_RequestOK.jv0 x3 x4 x12 x1225000 x1225001 x1225002 x1225003 x1225004 = (if x12 = true then (impl_RequestOK.jv1 1 1000 x1225000 x1225001 x1225002 x1225003 x1225004) else (impl_RequestOK.jv1 x3 x4 x1225000 x1225001 x1225002 x1225003 x1225004) : Option (Bool)) := by
  refine LimIs.eq (impl_RequestOK.jv0_lim x3 x4 x12 x1225000 x1225001 x1225002 x1225003 x1225004) ?_
  refine LimIs.step (fun k_ => (impl_RequestOK.mono_l k_).1 x3 x4 x12 x1225000 x1225001 x1225002 x1225003 x1225004) ?_
  simp only [impl_RequestOK.j0]
  repeat' (with_reducible first | exact impl_RequestOK.jv1_lim _ _ _ _ _ _ _ | exact LimIs.const _ | refine LimIs.ite ?_ ?_ | refine LimIs.bind ?_ (fun _ => ?_))
theorem impl_RequestOK.jv1_eq (x3 : Int) (x4 : Int) (x1225000 : Int) (x1225001 : Int) (x1225002 : Int) (x1225003 : Int) (x1225004 : ByteArray) : impl_RequestOK.jv1 x3 x4 x1225000 x1225001 x1225002 x1225003 x1225004 = ((impl_within.v x1225000 0 255).bind fun t1225 => (if t1225 = true then ((impl_within.v x1225001 1 65535).bind fun t1226 => (if t1226 = true then ((impl_within.v x1225002 1 4).bind fun t1227 => (if t1227 = true then ((impl_within.v x1225003 x3 x4).bind fun t1228 => (if t1228 = true then ((impl_isOpName.v x1225004).bind fun t1229 => (some t1229)) else (some false))) else (some false))) else (some false))) else (some false)) : Option (Bool)) := by
  refine LimIs.eq (impl_RequestOK.jv1_lim x3 x4 x1225000 x1225001 x1225002 x1225003 x1225004) ?_
  refine LimIs.step (fun k_ => (impl_RequestOK.mono_l k_).2 x3 x4 x1225000 x1225001 x1225002 x1225003 x1225004) ?_
  simp only [impl_RequestOK.j1]
  repeat' (with_reducible first | exact impl_isOpName.v_lim _ | exact impl_within.v_lim _ _ _ | exact LimIs.const _ | refine LimIs.ite ?_ ?_ | refine LimIs.bind ?_ (fun _ => ?_))
theorem impl_RequestOK.v_eq (a0_0 : Int) (a0_1 : Int) (a0_2 : Int) (a0_3 : Int) (a0_4 : ByteArray) : impl_RequestOK.v a0_0 a0_1 a0_2 a0_3 a0_4 = (if a0_2 = 1 then (impl_RequestOK.jv0 0 0 true a0_0 a0_1 a0_2 a0_3 a0_4) else (impl_RequestOK.jv0 0 0 (a0_2 == 3) a0_0 a0_1 a0_2 a0_3 a0_4) : Option (Bool)) := by
  refine LimIs.eq (impl_RequestOK.v_lim a0_0 a0_1 a0_2 a0_3 a0_4) ?_
  simp only [impl_RequestOK.f]
  repeat' (with_reducible first | exact impl_RequestOK.jv0_lim _ _ _ _ _ _ _ _ | exact LimIs.const _ | refine LimIs.ite ?_ ?_ | refine LimIs.bind ?_ (fun _ => ?_))
def impl_isCall.f (k : Nat) (a0_0 : Int) (a0_1 : Int) (a0_2 : Int) (a0_3 : Int) (a0_4 : ByteArray) (a1 : Int) (a2 : Int) : Option (Bool) := (impl_RequestOK.f k a0_0 a0_1 a0_2 a0_3 a0_4).bind fun t1231 => (if t1231 = true then (if a0_0 = a1 then (some (a0_1 == a2)) else (some false)) else (some false))
theorem impl_isCall.mono : ∀ a0 a1 a2 a3 a4 a5 a6 k, LeO (impl_isCall.f k a0 a1 a2 a3 a4 a5 a6) (impl_isCall.f (k + 1) a0 a1 a2 a3 a4 a5 a6) := by
  intro a0 a1 a2 a3 a4 a5 a6 k
  unfold impl_isCall.f
  repeat' first
      | (with_reducible exact impl_RequestOK.mono _ _ _ _ _ _)
      | (with_reducible exact LeO.refl _)
      | (with_reducible exact LeO.none _)
      | (with_reducible refine LeO.ite ?_ ?_)
      | (with_reducible refine LeO.bind ?_ (fun _ => ?_))
      | exact impl_RequestOK.mono _ _ _ _ _ _
      | exact LeO.none _
      | refine LeO.ite ?_ ?_
      | refine LeO.bind ?_ (fun _ => ?_)
noncomputable def impl_isCall.v (a0_0 : Int) (a0_1 : Int) (a0_2 : Int) (a0_3 : Int) (a0_4 : ByteArray) (a1 : Int) (a2 : Int) : Option (Bool) := lim (fun k_ => impl_isCall.f k_ a0_0 a0_1 a0_2 a0_3 a0_4 a1 a2)
theorem impl_isCall.v_lim (a0_0 : Int) (a0_1 : Int) (a0_2 : Int) (a0_3 : Int) (a0_4 : ByteArray) (a1 : Int) (a2 : Int) : LimIs (fun k_ => impl_isCall.f k_ a0_0 a0_1 a0_2 a0_3 a0_4 a1 a2) (impl_isCall.v a0_0 a0_1 a0_2 a0_3 a0_4 a1 a2) := lim_is (fun k_ => impl_isCall.mono a0_0 a0_1 a0_2 a0_3 a0_4 a1 a2 k_)
theorem impl_isCall.v_eq (a0_0 : Int) (a0_1 : Int) (a0_2 : Int) (a0_3 : Int) (a0_4 : ByteArray) (a1 : Int) (a2 : Int) : impl_isCall.v a0_0 a0_1 a0_2 a0_3 a0_4 a1 a2 = ((impl_RequestOK.v a0_0 a0_1 a0_2 a0_3 a0_4).bind fun t1231 => (if t1231 = true then (if a0_0 = a1 then (some (a0_1 == a2)) else (some false)) else (some false)) : Option (Bool)) := by
  refine LimIs.eq (impl_isCall.v_lim a0_0 a0_1 a0_2 a0_3 a0_4 a1 a2) ?_
  simp only [impl_isCall.f]
  repeat' (with_reducible first | exact impl_RequestOK.v_lim _ _ _ _ _ | exact LimIs.const _ | refine LimIs.ite ?_ ?_ | refine LimIs.bind ?_ (fun _ => ?_))
def contains_impl_ClientOK_1.f (l0 : List S63) : Option (Bool) := some (l0.any fun y => (impl_ClientOK_1.f y.f0 y.f1 y.f2 y.f3).getD false)
def contains_impl_ClientOK_1.v (l0 : List S63) : Option (Bool) := contains_impl_ClientOK_1.f l0
theorem contains_impl_ClientOK_1.v_lim (l0 : List S63) : LimIs (fun _ => contains_impl_ClientOK_1.f l0) (contains_impl_ClientOK_1.v l0) := LimIs.const _
theorem contains_impl_ClientOK_1.v_eq (l0 : List S63) : contains_impl_ClientOK_1.v l0 = (some (l0.any fun y => (impl_ClientOK_1.v y.f0 y.f1 y.f2 y.f3).getD false) : Option (Bool)) := rfl
mutual
def impl_ClientOK.j0 : Nat → Int → Bool → Int → Int → Bool → Int → Int → Int → Int → ByteArray → List (S73) → List (S63) → Option (Bool)
  | 0, _, _, _, _, _, _, _, _, _, _, _, _ => none
  | k + 1, x0, x28, x1233000, x1233001, x1233002, x1233003, x1233004, x1233005, x1233006, x1233007, x1233008, x1233009 => if x28 = true then (some false) else (if x1233002 = true then (if (x1233009.length : Int) = (wrap64 (x1233001 - 1)) then ((impl_isCall.f k x1233003 x1233004 x1233005 x1233006 x1233007 x1233000 x1233001).bind fun t1237 => (if t1237 = true then (impl_ClientOK.j1 k x0 (decide ((x1233008.length : Int) > 40)) x1233000 x1233001 x1233002 x1233003 x1233004 x1233005 x1233006 x1233007 x1233008 x1233009) else (impl_ClientOK.j1 k x0 true x1233000 x1233001 x1233002 x1233003 x1233004 x1233005 x1233006 x1233007 x1233008 x1233009))) else (impl_ClientOK.j1 k x0 true x1233000 x1233001 x1233002 x1233003 x1233004 x1233005 x1233006 x1233007 x1233008 x1233009)) else (if (x1233009.length : Int) = x1233001 then (if (x1233003 == 0 && (x1233004 == 0 && (x1233005 == 0 && (x1233006 == 0 && (x1233007.toList == ([] : List UInt8)))))) = true then (some ((x1233008.length : Int) == 0)) else (some false)) else (some false)))
def impl_ClientOK.j1 : Nat → Int → Bool → Int → Int → Bool → Int → Int → Int → Int → ByteArray → List (S73) → List (S63) → Option (Bool)
  | 0, _, _, _, _, _, _, _, _, _, _, _, _ => none
  | k + 1, x0, x72, x1233000, x1233001, x1233002, x1233003, x1233004, x1233005, x1233006, x1233007, x1233008, x1233009 => if x72 = true then (some false) else (impl_ClientOK.l0 k x0 x1233008 (x1233008.length : Int) 0 x1233000 x1233001 x1233002 x1233003 x1233004 x1233005 x1233006 x1233007 x1233008 x1233009)
def impl_ClientOK.l0 : Nat → Int → List (S73) → Int → Int → Int → Int → Bool → Int → Int → Int → Int → ByteArray → List (S73) → List (S63) → Option (Bool)
  | 0, _, _, _, _, _, _, _, _, _, _, _, _, _, _ => none
  | k + 1, x0, x74, x75, x76, x1233000, x1233001, x1233002, x1233003, x1233004, x1233005, x1233006, x1233007, x1233008, x1233009 => if x76 < x75 then (if 0 ≤ x76 then (if x76 < (x74.length : Int) then ((impl_ReplyOK.f k x0 ((rd_T73 x74 x76).f0) ((rd_T73 x74 x76).f1) ((rd_T73 x74 x76).f2) ((rd_T73 x74 x76).f3.f0) ((rd_T73 x74 x76).f3.f1) ((rd_T73 x74 x76).f3.f2) ((rd_T73 x74 x76).f3.f3) ((rd_T73 x74 x76).f4)).bind fun t1240 => (if t1240 = true then (if ((rd_T73 x74 x76).f1) = x1233000 then (if ((rd_T73 x74 x76).f2) = x1233001 then (impl_ClientOK.l0 k x0 x74 x75 (wrap64 (x76 + 1)) x1233000 x1233001 x1233002 x1233003 x1233004 x1233005 x1233006 x1233007 x1233008 x1233009) else (some false)) else (some false)) else (some false))) else (none)) else (none)) else ((impl_decided.f k x0 x1233000 x1233001 x1233008).bind fun bt1241 => (some (!bt1241.2.2.2.2)))
end
def impl_ClientOK.f (k : Nat) (a0 : Int) (a1_0 : Int) (a1_1 : Int) (a1_2 : Bool) (a1_3 : Int) (a1_4 : Int) (a1_5 : Int) (a1_6 : Int) (a1_7 : ByteArray) (l1_8 : List (S73)) (l1_9 : List (S63)) : Option (Bool) := (impl_areNodes.f a0).bind fun t1233 => (if t1233 = true then ((impl_within.f a1_0 0 255).bind fun t1234 => (if t1234 = true then ((impl_within.f a1_1 0 65535).bind fun t1235 => (if t1235 = true then ((contains_impl_ClientOK_1.f l1_9).bind fun t1236 => (impl_ClientOK.j0 k a0 t1236 a1_0 a1_1 a1_2 a1_3 a1_4 a1_5 a1_6 a1_7 l1_8 l1_9)) else (impl_ClientOK.j0 k a0 true a1_0 a1_1 a1_2 a1_3 a1_4 a1_5 a1_6 a1_7 l1_8 l1_9))) else (impl_ClientOK.j0 k a0 true a1_0 a1_1 a1_2 a1_3 a1_4 a1_5 a1_6 a1_7 l1_8 l1_9))) else (impl_ClientOK.j0 k a0 true a1_0 a1_1 a1_2 a1_3 a1_4 a1_5 a1_6 a1_7 l1_8 l1_9))
theorem impl_ClientOK.mono_l : ∀ k, (∀ y0 y1 y2 y3 y4 y5 y6 y7 y8 y9 y10 y11, LeO (impl_ClientOK.j0 k y0 y1 y2 y3 y4 y5 y6 y7 y8 y9 y10 y11) (impl_ClientOK.j0 (k + 1) y0 y1 y2 y3 y4 y5 y6 y7 y8 y9 y10 y11)) ∧ (∀ y0 y1 y2 y3 y4 y5 y6 y7 y8 y9 y10 y11, LeO (impl_ClientOK.j1 k y0 y1 y2 y3 y4 y5 y6 y7 y8 y9 y10 y11) (impl_ClientOK.j1 (k + 1) y0 y1 y2 y3 y4 y5 y6 y7 y8 y9 y10 y11)) ∧ (∀ y0 y1 y2 y3 y4 y5 y6 y7 y8 y9 y10 y11 y12 y13, LeO (impl_ClientOK.l0 k y0 y1 y2 y3 y4 y5 y6 y7 y8 y9 y10 y11 y12 y13) (impl_ClientOK.l0 (k + 1) y0 y1 y2 y3 y4 y5 y6 y7 y8 y9 y10 y11 y12 y13))
  | 0 => ⟨fun _ _ _ _ _ _ _ _ _ _ _ _ r h => by simp [impl_ClientOK.j0] at h, fun _ _ _ _ _ _ _ _ _ _ _ _ r h => by simp [impl_ClientOK.j1] at h, fun _ _ _ _ _ _ _ _ _ _ _ _ _ _ r h => by simp [impl_ClientOK.l0] at h⟩
  | k + 1 => by
    obtain ⟨ih0, ih1, ih2⟩ := impl_ClientOK.mono_l k
    refine ⟨?_, ?_, ?_⟩
    · intro y0 y1 y2 y3 y4 y5 y6 y7 y8 y9 y10 y11
      unfold impl_ClientOK.j0
      repeat' first
      | (with_reducible exact ih0 _ _ _ _ _ _ _ _ _ _ _ _)
      | (with_reducible exact ih1 _ _ _ _ _ _ _ _ _ _ _ _)
      | (with_reducible exact ih2 _ _ _ _ _ _ _ _ _ _ _ _ _ _)
      | (with_reducible exact impl_ReplyOK.mono _ _ _ _ _ _ _ _ _ _)
      | (with_reducible exact impl_decided.mono _ _ _ _ _)
      | (with_reducible exact impl_isCall.mono _ _ _ _ _ _ _ _)
      | (with_reducible exact LeO.refl _)
      | (with_reducible exact LeO.none _)
      | (with_reducible refine LeO.ite ?_ ?_)
      | (with_reducible refine LeO.bind ?_ (fun _ => ?_))
      | exact ih0 _ _ _ _ _ _ _ _ _ _ _ _
      | exact ih1 _ _ _ _ _ _ _ _ _ _ _ _
      | exact ih2 _ _ _ _ _ _ _ _ _ _ _ _ _ _
      | exact impl_ReplyOK.mono _ _ _ _ _ _ _ _ _ _
      | exact impl_decided.mono _ _ _ _ _
      | exact impl_isCall.mono _ _ _ _ _ _ _ _
      | exact LeO.none _
      | refine LeO.ite ?_ ?_
      | refine LeO.bind ?_ (fun _ => ?_)
    · intro y0 y1 y2 y3 y4 y5 y6 y7 y8 y9 y10 y11
      unfold impl_ClientOK.j1
      repeat' first
      | (with_reducible exact ih0 _ _ _ _ _ _ _ _ _ _ _ _)
      | (with_reducible exact ih1 _ _ _ _ _ _ _ _ _ _ _ _)
      | (with_reducible exact ih2 _ _ _ _ _ _ _ _ _ _ _ _ _ _)
      | (with_reducible exact impl_ReplyOK.mono _ _ _ _ _ _ _ _ _ _)
      | (with_reducible exact impl_decided.mono _ _ _ _ _)
      | (with_reducible exact impl_isCall.mono _ _ _ _ _ _ _ _)
      | (with_reducible exact LeO.refl _)
      | (with_reducible exact LeO.none _)
      | (with_reducible refine LeO.ite ?_ ?_)
      | (with_reducible refine LeO.bind ?_ (fun _ => ?_))
      | exact ih0 _ _ _ _ _ _ _ _ _ _ _ _
      | exact ih1 _ _ _ _ _ _ _ _ _ _ _ _
      | exact ih2 _ _ _ _ _ _ _ _ _ _ _ _ _ _
      | exact impl_ReplyOK.mono _ _ _ _ _ _ _ _ _ _
      | exact impl_decided.mono _ _ _ _ _
      | exact impl_isCall.mono _ _ _ _ _ _ _ _
      | exact LeO.none _
      | refine LeO.ite ?_ ?_
      | refine LeO.bind ?_ (fun _ => ?_)
    · intro y0 y1 y2 y3 y4 y5 y6 y7 y8 y9 y10 y11 y12 y13
      unfold impl_ClientOK.l0
      repeat' first
      | (with_reducible exact ih0 _ _ _ _ _ _ _ _ _ _ _ _)
      | (with_reducible exact ih1 _ _ _ _ _ _ _ _ _ _ _ _)
      | (with_reducible exact ih2 _ _ _ _ _ _ _ _ _ _ _ _ _ _)
      | (with_reducible exact impl_ReplyOK.mono _ _ _ _ _ _ _ _ _ _)
      | (with_reducible exact impl_decided.mono _ _ _ _ _)
      | (with_reducible exact impl_isCall.mono _ _ _ _ _ _ _ _)
      | (with_reducible exact LeO.refl _)
      | (with_reducible exact LeO.none _)
      | (with_reducible refine LeO.ite ?_ ?_)
      | (with_reducible refine LeO.bind ?_ (fun _ => ?_))
      | exact ih0 _ _ _ _ _ _ _ _ _ _ _ _
      | exact ih1 _ _ _ _ _ _ _ _ _ _ _ _
      | exact ih2 _ _ _ _ _ _ _ _ _ _ _ _ _ _
      | exact impl_ReplyOK.mono _ _ _ _ _ _ _ _ _ _
      | exact impl_decided.mono _ _ _ _ _
      | exact impl_isCall.mono _ _ _ _ _ _ _ _
      | exact LeO.none _
      | refine LeO.ite ?_ ?_
      | refine LeO.bind ?_ (fun _ => ?_)
theorem impl_ClientOK.mono : ∀ a0 a1 a2 a3 a4 a5 a6 a7 a8 a9 a10 k, LeO (impl_ClientOK.f k a0 a1 a2 a3 a4 a5 a6 a7 a8 a9 a10) (impl_ClientOK.f (k + 1) a0 a1 a2 a3 a4 a5 a6 a7 a8 a9 a10) := by
  intro a0 a1 a2 a3 a4 a5 a6 a7 a8 a9 a10 k
  obtain ⟨ih0, ih1, ih2⟩ := impl_ClientOK.mono_l k
  unfold impl_ClientOK.f
  repeat' first
      | (with_reducible exact ih0 _ _ _ _ _ _ _ _ _ _ _ _)
      | (with_reducible exact ih1 _ _ _ _ _ _ _ _ _ _ _ _)
      | (with_reducible exact ih2 _ _ _ _ _ _ _ _ _ _ _ _ _ _)
      | (with_reducible exact impl_ReplyOK.mono _ _ _ _ _ _ _ _ _ _)
      | (with_reducible exact impl_decided.mono _ _ _ _ _)
      | (with_reducible exact impl_isCall.mono _ _ _ _ _ _ _ _)
      | (with_reducible exact LeO.refl _)
      | (with_reducible exact LeO.none _)
      | (with_reducible refine LeO.ite ?_ ?_)
      | (with_reducible refine LeO.bind ?_ (fun _ => ?_))
      | exact ih0 _ _ _ _ _ _ _ _ _ _ _ _
      | exact ih1 _ _ _ _ _ _ _ _ _ _ _ _
      | exact ih2 _ _ _ _ _ _ _ _ _ _ _ _ _ _
      | exact impl_ReplyOK.mono _ _ _ _ _ _ _ _ _ _
      | exact impl_decided.mono _ _ _ _ _
      | exact impl_isCall.mono _ _ _ _ _ _ _ _
      | exact LeO.none _
      | refine LeO.ite ?_ ?_
      | refine LeO.bind ?_ (fun _ => ?_)
noncomputable def impl_ClientOK.jv0 (x0 : Int) (x28 : Bool) (x1233000 : Int) (x1233001 : Int) (x1233002 : Bool) (x1233003 : Int) (x1233004 : Int) (x1233005 : Int) (x1233006 : Int) (x1233007 : ByteArray) (x1233008 : List (S73)) (x1233009 : List (S63)) : Option (Bool) := lim (fun k_ => impl_ClientOK.j0 k_ x0 x28 x1233000 x1233001 x1233002 x1233003 x1233004 x1233005 x1233006 x1233007 x1233008 x1233009)
noncomputable def impl_ClientOK.jv1 (x0 : Int) (x72 : Bool) (x1233000 : Int) (x1233001 : Int) (x1233002 : Bool) (x1233003 : Int) (x1233004 : Int) (x1233005 : Int) (x1233006 : Int) (x1233007 : ByteArray) (x1233008 : List (S73)) (x1233009 : List (S63)) : Option (Bool) := lim (fun k_ => impl_ClientOK.j1 k_ x0 x72 x1233000 x1233001 x1233002 x1233003 x1233004 x1233005 x1233006 x1233007 x1233008 x1233009)
noncomputable def impl_ClientOK.lv0 (x0 : Int) (x74 : List (S73)) (x75 : Int) (x76 : Int) (x1233000 : Int) (x1233001 : Int) (x1233002 : Bool) (x1233003 : Int) (x1233004 : Int) (x1233005 : Int) (x1233006 : Int) (x1233007 : ByteArray) (x1233008 : List (S73)) (x1233009 : List (S63)) : Option (Bool) := lim (fun k_ => impl_ClientOK.l0 k_ x0 x74 x75 x76 x1233000 x1233001 x1233002 x1233003 x1233004 x1233005 x1233006 x1233007 x1233008 x1233009)
noncomputable def impl_ClientOK.v (a0 : Int) (a1_0 : Int) (a1_1 : Int) (a1_2 : Bool) (a1_3 : Int) (a1_4 : Int) (a1_5 : Int) (a1_6 : Int) (a1_7 : ByteArray) (l1_8 : List (S73)) (l1_9 : List (S63)) : Option (Bool) := lim (fun k_ => impl_ClientOK.f k_ a0 a1_0 a1_1 a1_2 a1_3 a1_4 a1_5 a1_6 a1_7 l1_8 l1_9)
theorem impl_ClientOK.jv0_lim (x0 : Int) (x28 : Bool) (x1233000 : Int) (x1233001 : Int) (x1233002 : Bool) (x1233003 : Int) (x1233004 : Int) (x1233005 : Int) (x1233006 : Int) (x1233007 : ByteArray) (x1233008 : List (S73)) (x1233009 : List (S63)) : LimIs (fun k_ => impl_ClientOK.j0 k_ x0 x28 x1233000 x1233001 x1233002 x1233003 x1233004 x1233005 x1233006 x1233007 x1233008 x1233009) (impl_ClientOK.jv0 x0 x28 x1233000 x1233001 x1233002 x1233003 x1233004 x1233005 x1233006 x1233007 x1233008 x1233009) := lim_is (fun k_ => (impl_ClientOK.mono_l k_).1 x0 x28 x1233000 x1233001 x1233002 x1233003 x1233004 x1233005 x1233006 x1233007 x1233008 x1233009)
theorem impl_ClientOK.jv1_lim (x0 : Int) (x72 : Bool) (x1233000 : Int) (x1233001 : Int) (x1233002 : Bool) (x1233003 : Int) (x1233004 : Int) (x1233005 : Int) (x1233006 : Int) (x1233007 : ByteArray) (x1233008 : List (S73)) (x1233009 : List (S63)) : LimIs (fun k_ => impl_ClientOK.j1 k_ x0 x72 x1233000 x1233001 x1233002 x1233003 x1233004 x1233005 x1233006 x1233007 x1233008 x1233009) (impl_ClientOK.jv1 x0 x72 x1233000 x1233001 x1233002 x1233003 x1233004 x1233005 x1233006 x1233007 x1233008 x1233009) := lim_is (fun k_ => (impl_ClientOK.mono_l k_).2.1 x0 x72 x1233000 x1233001 x1233002 x1233003 x1233004 x1233005 x1233006 x1233007 x1233008 x1233009)
theorem impl_ClientOK.lv0_lim (x0 : Int) (x74 : List (S73)) (x75 : Int) (x76 : Int) (x1233000 : Int) (x1233001 : Int) (x1233002 : Bool) (x1233003 : Int) (x1233004 : Int) (x1233005 : Int) (x1233006 : Int) (x1233007 : ByteArray) (x1233008 : List (S73)) (x1233009 : List (S63)) : LimIs (fun k_ => impl_ClientOK.l0 k_ x0 x74 x75 x76 x1233000 x1233001 x1233002 x1233003 x1233004 x1233005 x1233006 x1233007 x1233008 x1233009) (impl_ClientOK.lv0 x0 x74 x75 x76 x1233000 x1233001 x1233002 x1233003 x1233004 x1233005 x1233006 x1233007 x1233008 x1233009) := lim_is (fun k_ => (impl_ClientOK.mono_l k_).2.2 x0 x74 x75 x76 x1233000 x1233001 x1233002 x1233003 x1233004 x1233005 x1233006 x1233007 x1233008 x1233009)
theorem impl_ClientOK.v_lim (a0 : Int) (a1_0 : Int) (a1_1 : Int) (a1_2 : Bool) (a1_3 : Int) (a1_4 : Int) (a1_5 : Int) (a1_6 : Int) (a1_7 : ByteArray) (l1_8 : List (S73)) (l1_9 : List (S63)) : LimIs (fun k_ => impl_ClientOK.f k_ a0 a1_0 a1_1 a1_2 a1_3 a1_4 a1_5 a1_6 a1_7 l1_8 l1_9) (impl_ClientOK.v a0 a1_0 a1_1 a1_2 a1_3 a1_4 a1_5 a1_6 a1_7 l1_8 l1_9) := lim_is (fun k_ => impl_ClientOK.mono a0 a1_0 a1_1 a1_2 a1_3 a1_4 a1_5 a1_6 a1_7 l1_8 l1_9 k_)
theorem impl_ClientOK.jv0_eq (x0 : Int) (x28 : Bool) (x1233000 : Int) (x1233001 : Int) (x1233002 : Bool) (x1233003 : Int) (x1233004 : Int) (x1233005 : Int) (x1233006 : Int) (x1233007 : ByteArray) (x1233008 : List (S73)) (x1233009 : List (S63)) : impl_ClientOK.jv0 x0 x28 x1233000 x1233001 x1233002 x1233003 x1233004 x1233005 x1233006 x1233007 x1233008 x1233009 = (if x28 = true then (some false) else (if x1233002 = true then (if (x1233009.length : Int) = (wrap64 (x1233001 - 1)) then ((impl_isCall.v x1233003 x1233004 x1233005 x1233006 x1233007 x1233000 x1233001).bind fun t1237 => (if t1237 = true then (impl_ClientOK.jv1 x0 (decide ((x1233008.length : Int) > 40)) x1233000 x1233001 x1233002 x1233003 x1233004 x1233005 x1233006 x1233007 x1233008 x1233009) else (impl_ClientOK.jv1 x0 true x1233000 x1233001 x1233002 x1233003 x1233004 x1233005 x1233006 x1233007 x1233008 x1233009))) else (impl_ClientOK.jv1 x0 true x1233000 x1233001 x1233002 x1233003 x1233004 x1233005 x1233006 x1233007 x1233008 x1233009)) else (if (x1233009.length : Int) = x1233001 then (if (x1233003 == 0 && (x1233004 == 0 && (x1233005 == 0 && (x1233006 == 0 && (x1233007.toList == ([] : List UInt8)))))) = true then (some ((x1233008.length : Int) == 0)) else (some false)) else (some false))) : Option (Bool)) := by
  refine LimIs.eq (impl_ClientOK.jv0_lim x0 x28 x1233000 x1233001 x1233002 x1233003 x1233004 x1233005 x1233006 x1233007 x1233008 x1233009) ?_
  refine LimIs.step (fun k_ => (impl_ClientOK.mono_l k_).1 x0 x28 x1233000 x1233001 x1233002 x1233003 x1233004 x1233005 x1233006 x1233007 x1233008 x1233009) ?_
  simp only [impl_ClientOK.j0]
  repeat' (with_reducible first | exact impl_ClientOK.jv1_lim _ _ _ _ _ _ _ _ _ _ _ _ | exact impl_isCall.v_lim _ _ _ _ _ _ _ | exact LimIs.const _ | refine LimIs.ite ?_ ?_ | refine LimIs.bind ?_ (fun _ => ?_))
theorem impl_ClientOK.jv1_eq (x0 : Int) (x72 : Bool) (x1233000 : Int) (x1233001 : Int) (x1233002 : Bool) (x1233003 : Int) (x1233004 : Int) (x1233005 : Int) (x1233006 : Int) (x1233007 : ByteArray) (x1233008 : List (S73)) (x1233009 : List (S63)) : impl_ClientOK.jv1 x0 x72 x1233000 x1233001 x1233002 x1233003 x1233004 x1233005 x1233006 x1233007 x1233008 x1233009 = (if x72 = true then (some false) else (impl_ClientOK.lv0 x0 x1233008 (x1233008.length : Int) 0 x1233000 x1233001 x1233002 x1233003 x1233004 x1233005 x1233006 x1233007 x1233008 x1233009) : Option (Bool)) := by
  refine LimIs.eq (impl_ClientOK.jv1_lim x0 x72 x1233000 x1233001 x1233002 x1233003 x1233004 x1233005 x1233006 x1233007 x1233008 x1233009) ?_
  refine LimIs.step (fun k_ => (impl_ClientOK.mono_l k_).2.1 x0 x72 x1233000 x1233001 x1233002 x1233003 x1233004 x1233005 x1233006 x1233007 x1233008 x1233009) ?_
  simp only [impl_ClientOK.j1]
  repeat' (with_reducible first | exact impl_ClientOK.lv0_lim _ _ _ _ _ _ _ _ _ _ _ _ _ _ | exact LimIs.const _ | refine LimIs.ite ?_ ?_ | refine LimIs.bind ?_ (fun _ => ?_))
theorem impl_ClientOK.lv0_eq (x0 : Int) (x74 : List (S73)) (x75 : Int) (x76 : Int) (x1233000 : Int) (x1233001 : Int) (x1233002 : Bool) (x1233003 : Int) (x1233004 : Int) (x1233005 : Int) (x1233006 : Int) (x1233007 : ByteArray) (x1233008 : List (S73)) (x1233009 : List (S63)) : impl_ClientOK.lv0 x0 x74 x75 x76 x1233000 x1233001 x1233002 x1233003 x1233004 x1233005 x1233006 x1233007 x1233008 x1233009 = (if x76 < x75 then (if 0 ≤ x76 then (if x76 < (x74.length : Int) then ((impl_ReplyOK.v x0 ((rd_T73 x74 x76).f0) ((rd_T73 x74 x76).f1) ((rd_T73 x74 x76).f2) ((rd_T73 x74 x76).f3.f0) ((rd_T73 x74 x76).f3.f1) ((rd_T73 x74 x76).f3.f2) ((rd_T73 x74 x76).f3.f3) ((rd_T73 x74 x76).f4)).bind fun t1240 => (if t1240 = true then (if ((rd_T73 x74 x76).f1) = x1233000 then (if ((rd_T73 x74 x76).f2) = x1233001 then (impl_ClientOK.lv0 x0 x74 x75 (wrap64 (x76 + 1)) x1233000 x1233001 x1233002 x1233003 x1233004 x1233005 x1233006 x1233007 x1233008 x1233009) else (some false)) else (some false)) else (some false))) else (none)) else (none)) else ((impl_decided.v x0 x1233000 x1233001 x1233008).bind fun bt1241 => (some (!bt1241.2.2.2.2))) : Option (Bool)) := by
  refine LimIs.eq (impl_ClientOK.lv0_lim x0 x74 x75 x76 x1233000 x1233001 x1233002 x1233003 x1233004 x1233005 x1233006 x1233007 x1233008 x1233009) ?_
  refine LimIs.step (fun k_ => (impl_ClientOK.mono_l k_).2.2 x0 x74 x75 x76 x1233000 x1233001 x1233002 x1233003 x1233004 x1233005 x1233006 x1233007 x1233008 x1233009) ?_
  simp only [impl_ClientOK.l0]
  repeat' (with_reducible first | exact impl_ClientOK.lv0_lim _ _ _ _ _ _ _ _ _ _ _ _ _ _ | exact impl_ReplyOK.v_lim _ _ _ _ _ _ _ _ _ | exact impl_decided.v_lim _ _ _ _ | exact LimIs.const _ | refine LimIs.ite ?_ ?_ | refine LimIs.bind ?_ (fun _ => ?_))
theorem impl_ClientOK.v_eq (a0 : Int) (a1_0 : Int) (a1_1 : Int) (a1_2 : Bool) (a1_3 : Int) (a1_4 : Int) (a1_5 : Int) (a1_6 : Int) (a1_7 : ByteArray) (l1_8 : List (S73)) (l1_9 : List (S63)) : impl_ClientOK.v a0 a1_0 a1_1 a1_2 a1_3 a1_4 a1_5 a1_6 a1_7 l1_8 l1_9 = ((impl_areNodes.v a0).bind fun t1233 => (if t1233 = true then ((impl_within.v a1_0 0 255).bind fun t1234 => (if t1234 = true then ((impl_within.v a1_1 0 65535).bind fun t1235 => (if t1235 = true then ((contains_impl_ClientOK_1.v l1_9).bind fun t1236 => (impl_ClientOK.jv0 a0 t1236 a1_0 a1_1 a1_2 a1_3 a1_4 a1_5 a1_6 a1_7 l1_8 l1_9)) else (impl_ClientOK.jv0 a0 true a1_0 a1_1 a1_2 a1_3 a1_4 a1_5 a1_6 a1_7 l1_8 l1_9))) else (impl_ClientOK.jv0 a0 true a1_0 a1_1 a1_2 a1_3 a1_4 a1_5 a1_6 a1_7 l1_8 l1_9))) else (impl_ClientOK.jv0 a0 true a1_0 a1_1 a1_2 a1_3 a1_4 a1_5 a1_6 a1_7 l1_8 l1_9)) : Option (Bool)) := by
  refine LimIs.eq (impl_ClientOK.v_lim a0 a1_0 a1_1 a1_2 a1_3 a1_4 a1_5 a1_6 a1_7 l1_8 l1_9) ?_
  simp only [impl_ClientOK.f]
  repeat' (with_reducible first | exact contains_impl_ClientOK_1.v_lim _ | exact impl_ClientOK.jv0_lim _ _ _ _ _ _ _ _ _ _ _ _ | exact impl_areNodes.v_lim _ | exact impl_within.v_lim _ _ _ | exact LimIs.const _ | refine LimIs.ite ?_ ?_ | refine LimIs.bind ?_ (fun _ => ?_))
def laws_eqRequest.f (a0_0 : Int) (a0_1 : Int) (a0_2 : Int) (a0_3 : Int) (a0_4 : ByteArray) (a1_0 : Int) (a1_1 : Int) (a1_2 : Int) (a1_3 : Int) (a1_4 : ByteArray) : Option (Bool) := if a0_0 = a1_0 then (if a0_1 = a1_1 then (if a0_2 = a1_2 then (if a0_3 = a1_3 then (if a0_4.toList = a1_4.toList then (some true) else (some false)) else (some false)) else (some false)) else (some false)) else (some false)
def laws_eqRequest.v (a0_0 : Int) (a0_1 : Int) (a0_2 : Int) (a0_3 : Int) (a0_4 : ByteArray) (a1_0 : Int) (a1_1 : Int) (a1_2 : Int) (a1_3 : Int) (a1_4 : ByteArray) : Option (Bool) := laws_eqRequest.f a0_0 a0_1 a0_2 a0_3 a0_4 a1_0 a1_1 a1_2 a1_3 a1_4
theorem laws_eqRequest.v_lim (a0_0 : Int) (a0_1 : Int) (a0_2 : Int) (a0_3 : Int) (a0_4 : ByteArray) (a1_0 : Int) (a1_1 : Int) (a1_2 : Int) (a1_3 : Int) (a1_4 : ByteArray) : LimIs (fun _ => laws_eqRequest.f a0_0 a0_1 a0_2 a0_3 a0_4 a1_0 a1_1 a1_2 a1_3 a1_4) (laws_eqRequest.v a0_0 a0_1 a0_2 a0_3 a0_4 a1_0 a1_1 a1_2 a1_3 a1_4) := LimIs.const _
theorem laws_eqRequest.v_eq (a0_0 : Int) (a0_1 : Int) (a0_2 : Int) (a0_3 : Int) (a0_4 : ByteArray) (a1_0 : Int) (a1_1 : Int) (a1_2 : Int) (a1_3 : Int) (a1_4 : ByteArray) : laws_eqRequest.v a0_0 a0_1 a0_2 a0_3 a0_4 a1_0 a1_1 a1_2 a1_3 a1_4 = (if a0_0 = a1_0 then (if a0_1 = a1_1 then (if a0_2 = a1_2 then (if a0_3 = a1_3 then (if a0_4.toList = a1_4.toList then (some true) else (some false)) else (some false)) else (some false)) else (some false)) else (some false) : Option (Bool)) := rfl
def laws_eqAnswerS.l0 : Nat → List (S63) → List (S63) → Int → Option (Bool)
  | 0, _, _, _ => none
  | k + 1, x0, x1, x5 => if x5 < (x0.length : Int) then (if 0 ≤ x5 then (if x5 < (x1.length : Int) then ((laws_eqAnswer.f ((rd_T63 x0 x5).f0) ((rd_T63 x0 x5).f1) ((rd_T63 x0 x5).f2) ((rd_T63 x0 x5).f3) ((rd_T63 x1 x5).f0) ((rd_T63 x1 x5).f1) ((rd_T63 x1 x5).f2) ((rd_T63 x1 x5).f3)).bind fun t1251 => (if t1251 = true then (laws_eqAnswerS.l0 k x0 x1 (wrap64 (x5 + 1))) else (some false))) else (none)) else (none)) else (some true)
def laws_eqAnswerS.f (k : Nat) (l0 : List (S63)) (l1 : List (S63)) : Option (Bool) := if (l0.length : Int) = (l1.length : Int) then (laws_eqAnswerS.l0 k l0 l1 0) else (some false)
theorem laws_eqAnswerS.mono_l : ∀ k, (∀ y0 y1 y2, LeO (laws_eqAnswerS.l0 k y0 y1 y2) (laws_eqAnswerS.l0 (k + 1) y0 y1 y2))
  | 0 => fun _ _ _ r h => by simp [laws_eqAnswerS.l0] at h
  | k + 1 => by
    have ih0 := laws_eqAnswerS.mono_l k
    · intro y0 y1 y2
      unfold laws_eqAnswerS.l0
      repeat' first
      | (with_reducible exact ih0 _ _ _)
      | (with_reducible exact LeO.refl _)
      | (with_reducible exact LeO.none _)
      | (with_reducible refine LeO.ite ?_ ?_)
      | (with_reducible refine LeO.bind ?_ (fun _ => ?_))
      | exact ih0 _ _ _
      | exact LeO.none _
      | refine LeO.ite ?_ ?_
      | refine LeO.bind ?_ (fun _ => ?_)
theorem laws_eqAnswerS.mono : ∀ a0 a1 k, LeO (laws_eqAnswerS.f k a0 a1) (laws_eqAnswerS.f (k + 1) a0 a1) := by
  intro a0 a1 k
  have ih0 := laws_eqAnswerS.mono_l k
  unfold laws_eqAnswerS.f
  repeat' first
      | (with_reducible exact ih0 _ _ _)
      | (with_reducible exact LeO.refl _)
      | (with_reducible exact LeO.none _)
      | (with_reducible refine LeO.ite ?_ ?_)
      | (with_reducible refine LeO.bind ?_ (fun _ => ?_))
      | exact ih0 _ _ _
      | exact LeO.none _
      | refine LeO.ite ?_ ?_
      | refine LeO.bind ?_ (fun _ => ?_)
noncomputable def laws_eqAnswerS.lv0 (x0 : List (S63)) (x1 : List (S63)) (x5 : Int) : Option (Bool) := lim (fun k_ => laws_eqAnswerS.l0 k_ x0 x1 x5)
noncomputable def laws_eqAnswerS.v (l0 : List (S63)) (l1 : List (S63)) : Option (Bool) := lim (fun k_ => laws_eqAnswerS.f k_ l0 l1)
theorem laws_eqAnswerS.lv0_lim (x0 : List (S63)) (x1 : List (S63)) (x5 : Int) : LimIs (fun k_ => laws_eqAnswerS.l0 k_ x0 x1 x5) (laws_eqAnswerS.lv0 x0 x1 x5) := lim_is (fun k_ => (laws_eqAnswerS.mono_l k_) x0 x1 x5)
theorem laws_eqAnswerS.v_lim (l0 : List (S63)) (l1 : List (S63)) : LimIs (fun k_ => laws_eqAnswerS.f k_ l0 l1) (laws_eqAnswerS.v l0 l1) := lim_is (fun k_ => laws_eqAnswerS.mono l0 l1 k_)
theorem laws_eqAnswerS.lv0_eq (x0 : List (S63)) (x1 : List (S63)) (x5 : Int) : laws_eqAnswerS.lv0 x0 x1 x5 = (if x5 < (x0.length : Int) then (if 0 ≤ x5 then (if x5 < (x1.length : Int) then ((laws_eqAnswer.v ((rd_T63 x0 x5).f0) ((rd_T63 x0 x5).f1) ((rd_T63 x0 x5).f2) ((rd_T63 x0 x5).f3) ((rd_T63 x1 x5).f0) ((rd_T63 x1 x5).f1) ((rd_T63 x1 x5).f2) ((rd_T63 x1 x5).f3)).bind fun t1251 => (if t1251 = true then (laws_eqAnswerS.lv0 x0 x1 (wrap64 (x5 + 1))) else (some false))) else (none)) else (none)) else (some true) : Option (Bool)) := by
  refine LimIs.eq (laws_eqAnswerS.lv0_lim x0 x1 x5) ?_
  refine LimIs.step (fun k_ => (laws_eqAnswerS.mono_l k_) x0 x1 x5) ?_
  simp only [laws_eqAnswerS.l0]
  repeat' (with_reducible first | exact laws_eqAnswer.v_lim _ _ _ _ _ _ _ _ | exact laws_eqAnswerS.lv0_lim _ _ _ | exact LimIs.const _ | refine LimIs.ite ?_ ?_ | refine LimIs.bind ?_ (fun _ => ?_))
theorem laws_eqAnswerS.v_eq (l0 : List (S63)) (l1 : List (S63)) : laws_eqAnswerS.v l0 l1 = (if (l0.length : Int) = (l1.length : Int) then (laws_eqAnswerS.lv0 l0 l1 0) else (some false) : Option (Bool)) := by
  refine LimIs.eq (laws_eqAnswerS.v_lim l0 l1) ?_
  simp only [laws_eqAnswerS.f]
  repeat' (with_reducible first | exact laws_eqAnswerS.lv0_lim _ _ _ | exact LimIs.const _ | refine LimIs.ite ?_ ?_ | refine LimIs.bind ?_ (fun _ => ?_))
def laws_eqClient.f (k : Nat) (a0_0 : Int) (a0_1 : Int) (a0_2 : Bool) (a0_3 : Int) (a0_4 : Int) (a0_5 : Int) (a0_6 : Int) (a0_7 : ByteArray) (l0_8 : List (S73)) (l0_9 : List (S63)) (a1_0 : Int) (a1_1 : Int) (a1_2 : Bool) (a1_3 : Int) (a1_4 : Int) (a1_5 : Int) (a1_6 : Int) (a1_7 : ByteArray) (l1_8 : List (S73)) (l1_9 : List (S63)) : Option (Bool) := if a0_0 = a1_0 then (if a0_1 = a1_1 then (if (a0_2 != a1_2) = true then (some false) else ((laws_eqRequest.f a0_3 a0_4 a0_5 a0_6 a0_7 a1_3 a1_4 a1_5 a1_6 a1_7).bind fun t1254 => (if t1254 = true then ((laws_eqReplyS.f k l0_8 l1_8).bind fun t1255 => (if t1255 = true then ((laws_eqAnswerS.f k l0_9 l1_9).bind fun t1256 => (if t1256 = true then (some true) else (some false))) else (some false))) else (some false)))) else (some false)) else (some false)
theorem laws_eqClient.mono : ∀ a0 a1 a2 a3 a4 a5 a6 a7 a8 a9 a10 a11 a12 a13 a14 a15 a16 a17 a18 a19 k, LeO (laws_eqClient.f k a0 a1 a2 a3 a4 a5 a6 a7 a8 a9 a10 a11 a12 a13 a14 a15 a16 a17 a18 a19) (laws_eqClient.f (k + 1) a0 a1 a2 a3 a4 a5 a6 a7 a8 a9 a10 a11 a12 a13 a14 a15 a16 a17 a18 a19) := by
  intro a0 a1 a2 a3 a4 a5 a6 a7 a8 a9 a10 a11 a12 a13 a14 a15 a16 a17 a18 a19 k
  unfold laws_eqClient.f
  repeat' first
      | (with_reducible exact laws_eqAnswerS.mono _ _ _)
      | (with_reducible exact laws_eqReplyS.mono _ _ _)
      | (with_reducible exact LeO.refl _)
      | (with_reducible exact LeO.none _)
      | (with_reducible refine LeO.ite ?_ ?_)
      | (with_reducible refine LeO.bind ?_ (fun _ => ?_))
      | exact laws_eqAnswerS.mono _ _ _
      | exact laws_eqReplyS.mono _ _ _
      | exact LeO.none _
      | refine LeO.ite ?_ ?_
      | refine LeO.bind ?_ (fun _ => ?_)
noncomputable def laws_eqClient.v (a0_0 : Int) (a0_1 : Int) (a0_2 : Bool) (a0_3 : Int) (a0_4 : Int) (a0_5 : Int) (a0_6 : Int) (a0_7 : ByteArray) (l0_8 : List (S73)) (l0_9 : List (S63)) (a1_0 : Int) (a1_1 : Int) (a1_2 : Bool) (a1_3 : Int) (a1_4 : Int) (a1_5 : Int) (a1_6 : Int) (a1_7 : ByteArray) (l1_8 : List (S73)) (l1_9 : List (S63)) : Option (Bool) := lim (fun k_ => laws_eqClient.f k_ a0_0 a0_1 a0_2 a0_3 a0_4 a0_5 a0_6 a0_7 l0_8 l0_9 a1_0 a1_1 a1_2 a1_3 a1_4 a1_5 a1_6 a1_7 l1_8 l1_9)
theorem laws_eqClient.v_lim (a0_0 : Int) (a0_1 : Int) (a0_2 : Bool) (a0_3 : Int) (a0_4 : Int) (a0_5 : Int) (a0_6 : Int) (a0_7 : ByteArray) (l0_8 : List (S73)) (l0_9 : List (S63)) (a1_0 : Int) (a1_1 : Int) (a1_2 : Bool) (a1_3 : Int) (a1_4 : Int) (a1_5 : Int) (a1_6 : Int) (a1_7 : ByteArray) (l1_8 : List (S73)) (l1_9 : List (S63)) : LimIs (fun k_ => laws_eqClient.f k_ a0_0 a0_1 a0_2 a0_3 a0_4 a0_5 a0_6 a0_7 l0_8 l0_9 a1_0 a1_1 a1_2 a1_3 a1_4 a1_5 a1_6 a1_7 l1_8 l1_9) (laws_eqClient.v a0_0 a0_1 a0_2 a0_3 a0_4 a0_5 a0_6 a0_7 l0_8 l0_9 a1_0 a1_1 a1_2 a1_3 a1_4 a1_5 a1_6 a1_7 l1_8 l1_9) := lim_is (fun k_ => laws_eqClient.mono a0_0 a0_1 a0_2 a0_3 a0_4 a0_5 a0_6 a0_7 l0_8 l0_9 a1_0 a1_1 a1_2 a1_3 a1_4 a1_5 a1_6 a1_7 l1_8 l1_9 k_)
theorem laws_eqClient.v_eq (a0_0 : Int) (a0_1 : Int) (a0_2 : Bool) (a0_3 : Int) (a0_4 : Int) (a0_5 : Int) (a0_6 : Int) (a0_7 : ByteArray) (l0_8 : List (S73)) (l0_9 : List (S63)) (a1_0 : Int) (a1_1 : Int) (a1_2 : Bool) (a1_3 : Int) (a1_4 : Int) (a1_5 : Int) (a1_6 : Int) (a1_7 : ByteArray) (l1_8 : List (S73)) (l1_9 : List (S63)) : laws_eqClient.v a0_0 a0_1 a0_2 a0_3 a0_4 a0_5 a0_6 a0_7 l0_8 l0_9 a1_0 a1_1 a1_2 a1_3 a1_4 a1_5 a1_6 a1_7 l1_8 l1_9 = (if a0_0 = a1_0 then (if a0_1 = a1_1 then (if (a0_2 != a1_2) = true then (some false) else ((laws_eqRequest.v a0_3 a0_4 a0_5 a0_6 a0_7 a1_3 a1_4 a1_5 a1_6 a1_7).bind fun t1254 => (if t1254 = true then ((laws_eqReplyS.v l0_8 l1_8).bind fun t1255 => (if t1255 = true then ((laws_eqAnswerS.v l0_9 l1_9).bind fun t1256 => (if t1256 = true then (some true) else (some false))) else (some false))) else (some false)))) else (some false)) else (some false) : Option (Bool)) := by
  refine LimIs.eq (laws_eqClient.v_lim a0_0 a0_1 a0_2 a0_3 a0_4 a0_5 a0_6 a0_7 l0_8 l0_9 a1_0 a1_1 a1_2 a1_3 a1_4 a1_5 a1_6 a1_7 l1_8 l1_9) ?_
  simp only [laws_eqClient.f]
  repeat' (with_reducible first | exact laws_eqAnswerS.v_lim _ _ | exact laws_eqReplyS.v_lim _ _ | exact laws_eqRequest.v_lim _ _ _ _ _ _ _ _ _ _ | exact LimIs.const _ | refine LimIs.ite ?_ ?_ | refine LimIs.bind ?_ (fun _ => ?_))
def laws_FnExactClientOK.f (k : Nat) (a0 : Int) (a1_0 : Int) (a1_1 : Int) (a1_2 : Bool) (a1_3 : Int) (a1_4 : Int) (a1_5 : Int) (a1_6 : Int) (a1_7 : ByteArray) (l1_8 : List (S117)) (l1_9 : List (S115)) : Option (Bool) := (laws_szClient.f k a1_0 a1_1 a1_2 a1_3 a1_4 a1_5 a1_6 a1_7 l1_8 l1_9 1048576).bind fun t1258 => (if t1258 < 0 then (some true) else ((laws_toClient.f k a1_0 a1_1 a1_2 a1_3 a1_4 a1_5 a1_6 a1_7 l1_8 l1_9).bind fun bt1259 => ((spec_ClientOK.f k a0 bt1259.1 bt1259.2.1 bt1259.2.2.1 bt1259.2.2.2.1 bt1259.2.2.2.2.1 bt1259.2.2.2.2.2.1 bt1259.2.2.2.2.2.2.1 bt1259.2.2.2.2.2.2.2.1 bt1259.2.2.2.2.2.2.2.2.1 bt1259.2.2.2.2.2.2.2.2.2).bind fun t1273 => ((laws_toClient.f k a1_0 a1_1 a1_2 a1_3 a1_4 a1_5 a1_6 a1_7 l1_8 l1_9).bind fun bt1274 => ((impl_ClientOK.f k a0 bt1274.1 bt1274.2.1 bt1274.2.2.1 bt1274.2.2.2.1 bt1274.2.2.2.2.1 bt1274.2.2.2.2.2.1 bt1274.2.2.2.2.2.2.1 bt1274.2.2.2.2.2.2.2.1 bt1274.2.2.2.2.2.2.2.2.1 bt1274.2.2.2.2.2.2.2.2.2).bind fun t1289 => (if (t1289 != t1273) = true then (some false) else ((laws_toClient.f k a1_0 a1_1 a1_2 a1_3 a1_4 a1_5 a1_6 a1_7 l1_8 l1_9).bind fun bt1290 => ((laws_eqClient.f k bt1274.1 bt1274.2.1 bt1274.2.2.1 bt1274.2.2.2.1 bt1274.2.2.2.2.1 bt1274.2.2.2.2.2.1 bt1274.2.2.2.2.2.2.1 bt1274.2.2.2.2.2.2.2.1 bt1274.2.2.2.2.2.2.2.2.1 bt1274.2.2.2.2.2.2.2.2.2 bt1290.1 bt1290.2.1 bt1290.2.2.1 bt1290.2.2.2.1 bt1290.2.2.2.2.1 bt1290.2.2.2.2.2.1 bt1290.2.2.2.2.2.2.1 bt1290.2.2.2.2.2.2.2.1 bt1290.2.2.2.2.2.2.2.2.1 bt1290.2.2.2.2.2.2.2.2.2).bind fun t1304 => (if t1304 = true then (some true) else (some false))))))))))
theorem laws_FnExactClientOK.mono : ∀ a0 a1 a2 a3 a4 a5 a6 a7 a8 a9 a10 k, LeO (laws_FnExactClientOK.f k a0 a1 a2 a3 a4 a5 a6 a7 a8 a9 a10) (laws_FnExactClientOK.f (k + 1) a0 a1 a2 a3 a4 a5 a6 a7 a8 a9 a10) := by
  intro a0 a1 a2 a3 a4 a5 a6 a7 a8 a9 a10 k
  unfold laws_FnExactClientOK.f
  repeat' first
      | (with_reducible exact impl_ClientOK.mono _ _ _ _ _ _ _ _ _ _ _ _)
      | (with_reducible exact laws_eqClient.mono _ _ _ _ _ _ _ _ _ _ _ _ _ _ _ _ _ _ _ _ _)
      | (with_reducible exact laws_szClient.mono _ _ _ _ _ _ _ _ _ _ _ _)
      | (with_reducible exact laws_toClient.mono _ _ _ _ _ _ _ _ _ _ _)
      | (with_reducible exact spec_ClientOK.mono _ _ _ _ _ _ _ _ _ _ _ _)
      | (with_reducible exact LeO.refl _)
      | (with_reducible exact LeO.none _)
      | (with_reducible refine LeO.ite ?_ ?_)
      | (with_reducible refine LeO.bind ?_ (fun _ => ?_))
      | exact impl_ClientOK.mono _ _ _ _ _ _ _ _ _ _ _ _
      | exact laws_eqClient.mono _ _ _ _ _ _ _ _ _ _ _ _ _ _ _ _ _ _ _ _ _
      | exact laws_szClient.mono _ _ _ _ _ _ _ _ _ _ _ _
      | exact laws_toClient.mono _ _ _ _ _ _ _ _ _ _ _
      | exact spec_ClientOK.mono _ _ _ _ _ _ _ _ _ _ _ _
      | exact LeO.none _
      | refine LeO.ite ?_ ?_
      | refine LeO.bind ?_ (fun _ => ?_)
noncomputable def laws_FnExactClientOK.v (a0 : Int) (a1_0 : Int) (a1_1 : Int) (a1_2 : Bool) (a1_3 : Int) (a1_4 : Int) (a1_5 : Int) (a1_6 : Int) (a1_7 : ByteArray) (l1_8 : List (S117)) (l1_9 : List (S115)) : Option (Bool) := lim (fun k_ => laws_FnExactClientOK.f k_ a0 a1_0 a1_1 a1_2 a1_3 a1_4 a1_5 a1_6 a1_7 l1_8 l1_9)
theorem laws_FnExactClientOK.v_lim (a0 : Int) (a1_0 : Int) (a1_1 : Int) (a1_2 : Bool) (a1_3 : Int) (a1_4 : Int) (a1_5 : Int) (a1_6 : Int) (a1_7 : ByteArray) (l1_8 : List (S117)) (l1_9 : List (S115)) : LimIs (fun k_ => laws_FnExactClientOK.f k_ a0 a1_0 a1_1 a1_2 a1_3 a1_4 a1_5 a1_6 a1_7 l1_8 l1_9) (laws_FnExactClientOK.v a0 a1_0 a1_1 a1_2 a1_3 a1_4 a1_5 a1_6 a1_7 l1_8 l1_9) := lim_is (fun k_ => laws_FnExactClientOK.mono a0 a1_0 a1_1 a1_2 a1_3 a1_4 a1_5 a1_6 a1_7 l1_8 l1_9 k_)
theorem laws_FnExactClientOK.v_eq (a0 : Int) (a1_0 : Int) (a1_1 : Int) (a1_2 : Bool) (a1_3 : Int) (a1_4 : Int) (a1_5 : Int) (a1_6 : Int) (a1_7 : ByteArray) (l1_8 : List (S117)) (l1_9 : List (S115)) : laws_FnExactClientOK.v a0 a1_0 a1_1 a1_2 a1_3 a1_4 a1_5 a1_6 a1_7 l1_8 l1_9 = ((laws_szClient.v a1_0 a1_1 a1_2 a1_3 a1_4 a1_5 a1_6 a1_7 l1_8 l1_9 1048576).bind fun t1258 => (if t1258 < 0 then (some true) else ((laws_toClient.v a1_0 a1_1 a1_2 a1_3 a1_4 a1_5 a1_6 a1_7 l1_8 l1_9).bind fun bt1259 => ((spec_ClientOK.v a0 bt1259.1 bt1259.2.1 bt1259.2.2.1 bt1259.2.2.2.1 bt1259.2.2.2.2.1 bt1259.2.2.2.2.2.1 bt1259.2.2.2.2.2.2.1 bt1259.2.2.2.2.2.2.2.1 bt1259.2.2.2.2.2.2.2.2.1 bt1259.2.2.2.2.2.2.2.2.2).bind fun t1273 => ((laws_toClient.v a1_0 a1_1 a1_2 a1_3 a1_4 a1_5 a1_6 a1_7 l1_8 l1_9).bind fun bt1274 => ((impl_ClientOK.v a0 bt1274.1 bt1274.2.1 bt1274.2.2.1 bt1274.2.2.2.1 bt1274.2.2.2.2.1 bt1274.2.2.2.2.2.1 bt1274.2.2.2.2.2.2.1 bt1274.2.2.2.2.2.2.2.1 bt1274.2.2.2.2.2.2.2.2.1 bt1274.2.2.2.2.2.2.2.2.2).bind fun t1289 => (if (t1289 != t1273) = true then (some false) else ((laws_toClient.v a1_0 a1_1 a1_2 a1_3 a1_4 a1_5 a1_6 a1_7 l1_8 l1_9).bind fun bt1290 => ((laws_eqClient.v bt1274.1 bt1274.2.1 bt1274.2.2.1 bt1274.2.2.2.1 bt1274.2.2.2.2.1 bt1274.2.2.2.2.2.1 bt1274.2.2.2.2.2.2.1 bt1274.2.2.2.2.2.2.2.1 bt1274.2.2.2.2.2.2.2.2.1 bt1274.2.2.2.2.2.2.2.2.2 bt1290.1 bt1290.2.1 bt1290.2.2.1 bt1290.2.2.2.1 bt1290.2.2.2.2.1 bt1290.2.2.2.2.2.1 bt1290.2.2.2.2.2.2.1 bt1290.2.2.2.2.2.2.2.1 bt1290.2.2.2.2.2.2.2.2.1 bt1290.2.2.2.2.2.2.2.2.2).bind fun t1304 => (if t1304 = true then (some true) else (some false)))))))))) : Option (Bool)) := by
  refine LimIs.eq (laws_FnExactClientOK.v_lim a0 a1_0 a1_1 a1_2 a1_3 a1_4 a1_5 a1_6 a1_7 l1_8 l1_9) ?_
  simp only [laws_FnExactClientOK.f]
  repeat' (with_reducible first | exact impl_ClientOK.v_lim _ _ _ _ _ _ _ _ _ _ _ | exact laws_eqClient.v_lim _ _ _ _ _ _ _ _ _ _ _ _ _ _ _ _ _ _ _ _ | exact laws_szClient.v_lim _ _ _ _ _ _ _ _ _ _ _ | exact laws_toClient.v_lim _ _ _ _ _ _ _ _ _ _ | exact spec_ClientOK.v_lim _ _ _ _ _ _ _ _ _ _ _ | exact LimIs.const _ | refine LimIs.ite ?_ ?_ | refine LimIs.bind ?_ (fun _ => ?_))
end Go.Proofs.YtlifdodphkimpaaDoor.B
end

section
namespace Go.Proofs.YtlifdodphkimpaaDoorW.PrintWords
open Go.RowKit
theorem add0 (g j : Nat) : (⟨g, 0, none⟩ : Addr).add j = ⟨g, j, none⟩ := by rw [add_plain]; first | done | rw [Nat.zero_add]
/-- Block g holds the bytes l at its head; it has cap cells, none of them marked. -/
structure Bm (W : World) (g cap : Nat) (l : List Int) : Prop where
  cell : ∀ j, j < l.length → W.cell? ⟨g, j, none⟩ = some (.int .u8 (l.getD j 0))
  there : ∀ j, j < cap → (W.cell? ⟨g, j, none⟩).isSome = true
  free : ∀ j, j < cap → W.frozen? ⟨g, j, none⟩ = false
  room : l.length ≤ cap
theorem Bm.at {W W' : World} {g cap : Nat} {l : List Int} (h : Bm W g cap l) (e : W'.heap[g]? = W.heap[g]?) : Bm W' g cap l :=
  ⟨fun j hj => (World.cell?_of_block (a := ⟨g, j, none⟩) e).trans (h.cell j hj), fun j hj => by rw [World.cell?_of_block (a := ⟨g, j, none⟩) e]; exact h.there j hj, fun j hj => (World.frozen?_of_block (a := ⟨g, j, none⟩) e).trans (h.free j hj), h.room⟩
theorem Bm.conv (W : World) (e : Nat) (s : ByteArray) : Bm (Lib.bytesWorld W e s) W.heap.size (grownCap W s.size 0 e) (bytesOf s) := by
  have hc : s.size ≤ grownCap W s.size 0 e := grownCap_ge _ _ _ _
  have hsz : (Lib.bytesCells W e s).size = grownCap W s.size 0 e := by simp [Lib.bytesCells]; omega
  refine ⟨fun j hj => ?_, fun j hj => ?_, fun j hj => ?_, by rw [bytesOf_length]; exact hc⟩
  · rw [bytesOf_length] at hj
    rw [Lib.bytesWorld_cell W e s j hj]
    simp [bytesOf, List.getD, hj]
  · unfold World.cell?
    rw [Lib.bytesWorld_at_new]
    simp [hsz, hj]
  · unfold World.frozen?
    rw [Lib.bytesWorld_at_new]
    simp [hsz]
    omega
section
variable {P : Program} {ops : Array Oper} {rest : List Oper} {o : Oper} {a : Act} {Q : Exit → Act → World → Prop}
theorem Bm.grown {W : World} {g cap : Nat} {l ys : List Int} {e : Nat} {n : Nat} {fill : List Value} (h : Bm W g cap l) (hn : n = l.length + ys.length) :
    ∀ w1, w1.heap[W.heap.size]? = some (.cells (((nums .u8 l) ++ (nums .u8 ys) ++ fill).toArray) e (0, 0)) → Bm w1 W.heap.size (n + fill.length) (l ++ ys) := by
  intro w1 hw
  have hl : (nums .u8 l ++ nums .u8 ys ++ fill).length = n + fill.length := by simp [nums]; omega
  refine ⟨fun j hj => ?_, fun j hj => ?_, fun j hj => ?_, by simp; omega⟩
  · unfold World.cell?
    rw [hw]
    rw [List.length_append] at hj
    simp only [Option.isSome_none, Bool.false_eq_true, if_false, List.getElem?_toArray]
    rw [← nums_append, List.getElem?_append_left (by simp [nums]; omega)]
    have hjl : j < (l ++ ys).length := by rw [List.length_append]; exact hj
    simp only [nums, List.getElem?_map, List.getElem?_eq_getElem hjl, Option.map_some, List.getD, Option.getD_some]
  · unfold World.cell?
    rw [hw]
    simp only [Option.isSome_none, Bool.false_eq_true, if_false, List.getElem?_toArray]
    rw [List.getElem?_eq_getElem (by omega)]
    rfl
  · unfold World.frozen?
    rw [hw]
    simp
theorem Bm.set {W : World} {g cap : Nat} {l ys : List Int} (h : Bm W g cap l) (hr : l.length + ys.length ≤ cap) : Bm (W.setCells g l.length (nums .u8 ys)) g cap (l ++ ys) := by
  have hlen : (nums .u8 ys).length = ys.length := nums_length _ _
  refine ⟨fun j hj => ?_, fun j hj => ?_, fun j hj => ?_, by simp; omega⟩
  · rw [List.length_append] at hj
    by_cases c : j < l.length
    · rw [World.cell?_setCells_out g _ _ _ _ (fun _ _ => by dsimp only; omega), h.cell j c]
      simp [List.getD, List.getElem?_append_left c]
    · have := World.cell?_setCells_in g (nums .u8 ys) l.length W (fun i hi => h.there _ (by omega)) (j - l.length) (by omega)
      rw [show l.length + (j - l.length) = j by omega] at this
      rw [this]
      simp [nums, List.getD, List.getElem?_append_right (show l.length ≤ j by omega), List.getElem?_eq_getElem (show j - l.length < ys.length by omega)]
  · by_cases c : l.length ≤ j ∧ j < l.length + ys.length
    · have := World.cell?_setCells_in g (nums .u8 ys) l.length W (fun i hi => h.there _ (by omega)) (j - l.length) (by omega)
      rw [show l.length + (j - l.length) = j by omega] at this
      rw [this]
      rfl
    · rw [World.cell?_setCells_out g _ _ _ _ (fun _ _ => by dsimp only; omega)]
      exact h.there j hj
  · rw [World.frozen?_setCells]
    exact h.free j hj
theorem setCells_old (b : Nat) : ∀ (vs : List Value) (o : Nat) (w : World), (w.setCells b o vs).os = w.os ∧ (w.setCells b o vs).tape = w.tape ∧ (w.setCells b o vs).output = w.output ∧ (w.setCells b o vs).heap.size = w.heap.size ∧ ∀ k, k ≠ b → (w.setCells b o vs).heap[k]? = w.heap[k]?
  | [], _, w => ⟨rfl, rfl, rfl, rfl, fun _ _ => rfl⟩
  | v :: r, o, w => by
    obtain ⟨h1, h2, h3, h4, h5⟩ := setCells_old b r (o + 1) (w.setCell ⟨b, o, none⟩ v)
    refine ⟨h1, h2, h3, ?_, fun k hk => ?_⟩
    · rw [World.setCells, h4]; simp [World.setCell]
    · rw [World.setCells, h5 k hk]
      simp [World.setCell, Array.getElem?_modify, Ne.symm hk]
/-- An append to such a row. -/
theorem run_append_bm {W : World} {g cap : Nat} {l : List Int} (t u ty e : TypeId) (ht : P.underlying t = some (.slice e)) (hu : P.underlying u = some .string ∨ P.underlying u = some (.slice e)) (hinfo : (P.info? e).map (fun i => (i.zero, i.size, i.bytes)) = some (some (.int .u8 0), 1, 1))
    (x : Value) (ys : List Int) (hlen : ∀ W', (Builtin.lenOf x).run P W' = .ok ys.length W') (hf : ∀ W', W'.heap = W.heap → (Builtin.firstCells 1 ys.length x).run P W' = .ok (nums .u8 ys).toArray W')
    (HB : Bm W g cap l) (hl : l.length + ys.length ≤ 140737488355328) :
    ∃ g' cap' w1, (Builtin.append_ #[t, u] ty #[.slice (some ⟨g, 0, none⟩) l.length cap, x]).run P W = .ok (.slice (some ⟨g', 0, none⟩) (l.length + ys.length) cap') w1 ∧ Bm w1 g' cap' (l ++ ys) ∧ W.grownBy w1 (some g) ∧ (g' = g ∨ W.heap.size ≤ g') := by
  obtain ⟨i, hi, hzz⟩ := Option.map_eq_some_iff.1 hinfo
  simp only [Prod.mk.injEq] at hzz
  obtain ⟨hz, hs1, hb1⟩ := hzz
  have hnl : (nums .u8 ys).length = ys.length := nums_length _ _
  have hnl2 : (nums .u8 l).length = l.length := nums_length _ _
  by_cases hroom : l.length + ys.length ≤ cap
  · have hst := run_storeCells_cells (P := P) g l.length (nums .u8 ys) 0 W (fun j hj => HB.there _ (by omega)) (fun j hj => HB.free _ (by omega)) (fun v hv => by
      obtain ⟨z, _, rfl⟩ := List.mem_map.1 hv; rfl)
    simp only [Nat.add_zero] at hst
    refine ⟨g, cap, W.setCells g l.length (nums .u8 ys), ?_, HB.set hroom, ?_, Or.inl rfl⟩
    · rcases hu with hu | hu <;> simp [Builtin.append_, run_underlying ht, run_underlying hu, sizeOf, typeInfo, hi, hs1, hlen, hroom, hf W rfl, add0, hst]
    · obtain ⟨h1, h2, h3, h4, h5⟩ := setCells_old g (nums .u8 ys) l.length W
      exact ⟨h1, h2, h3, by omega, fun k hk hn => h5 k (by intro e; exact hn (by rw [e]))⟩
  · have h63' : ¬ (9223372036854775807 < ((l.length : Int) + (ys.length : Int))) := by omega
    have hfit : Builtin.nextslicecap (l.length + ys.length) cap * i.bytes ≤ 281474976710656 := by rw [hb1]; exact growslice_fits (by omega) (by omega)
    have h48' : ¬ (281474976710656 < Builtin.nextslicecap (l.length + ys.length) cap * i.bytes) := by omega
    have hfo := run_firstCells_some (P := P) W.drew 1 l.length ⟨g, 0, none⟩ l.length cap (nums .u8 l) (by omega) (fun j v hj => by
      rw [add0]
      have hjl : j < l.length := by
        have := (List.getElem?_eq_some_iff.1 hj).1
        omega
      have := HB.cell j hjl
      simp only [nums, List.getElem?_map, List.getElem?_eq_getElem hjl, Option.map_some, Option.some.injEq] at hj
      subst hj
      simpa [List.getD, hjl] using this)
    have hfs := hf W.drew rfl
    have hr : (Builtin.append_ #[t, u] ty #[.slice (some ⟨g, 0, none⟩) l.length cap, x]).run P W = .ok (.slice (some ⟨W.heap.size, 0, none⟩) (l.length + ys.length) (grownCap W (l.length + ys.length) cap e))
        (W.drew.alloc (.cells ((nums .u8 l).toArray ++ (nums .u8 ys).toArray ++ Builtin.zeroCells #[.int .u8 0] (grownCap W (l.length + ys.length) cap e - (l.length + ys.length))) e)) := by
      rw [← hs1] at hfo hfs
      have hzc : (Value.int .u8 0).cells = #[.int .u8 0] := rfl
      rcases hu with hu | hu <;> simp [Builtin.append_, run_underlying ht, run_underlying hu, sizeOf, typeInfo, zeroValue, hi, hz, hlen, hroom, h63', h48', Question.forced, hfs, hfo, newRow, grownCap, hzc]
      all_goals (congr 2; apply Array.ext'; simp [List.append_assoc])
    have hge : l.length + ys.length ≤ grownCap W (l.length + ys.length) cap e := grownCap_ge _ _ _ _
    refine ⟨W.heap.size, _, _, hr, ?_, ?_, Or.inr (Nat.le_refl _)⟩
    · have := HB.grown (e := e) (ys := ys) (n := l.length + ys.length) (fill := (Builtin.zeroCells #[.int .u8 0] (grownCap W (l.length + ys.length) cap e - (l.length + ys.length))).toList) rfl (W.drew.alloc (.cells ((nums .u8 l).toArray ++ (nums .u8 ys).toArray ++ Builtin.zeroCells #[.int .u8 0] (grownCap W (l.length + ys.length) cap e - (l.length + ys.length))) e)) (by
        simp [World.alloc, World.drew, -World.alloc_eq, -World.drew_eq])
      have hz2 : (Builtin.zeroCells #[.int .u8 0] (grownCap W (l.length + ys.length) cap e - (l.length + ys.length))).toList.length = grownCap W (l.length + ys.length) cap e - (l.length + ys.length) := by simp [Builtin.zeroCells]
      rw [hz2, show l.length + ys.length + (grownCap W (l.length + ys.length) cap e - (l.length + ys.length)) = grownCap W (l.length + ys.length) cap e by omega] at this
      exact this
    · exact ⟨rfl, rfl, rfl, by simp [World.alloc, World.drew, -World.alloc_eq, -World.drew_eq], fun k hk hn => by
        have : W.heap.size ≠ k := by omega
        simp [World.alloc, World.drew, -World.alloc_eq, -World.drew_eq, Array.getElem?_push, Ne.symm this]⟩
end
end Go.Proofs.YtlifdodphkimpaaDoorW.PrintWords
end

section
namespace Go.Proofs.YtlifdodphkimpaaDoorW.PrintWords
open Go.RowKit
/-- What a walk keeps of a row of bytes of its own: block g, behind block n. -/
structure Hs (w W : World) (n g cap : Nat) (l : List Int) : Prop where
  row : Bm W g cap l
  mine : n ≤ g
  lt : g < W.heap.size
  below : Below n w W
theorem Hs.alloc {w W : World} {n g cap : Nat} {l : List Int} (h : Hs w W n g cap l) (o : Obj) : Hs w (W.alloc o) n g cap l := by
  have hs : (W.alloc o).heap.size = W.heap.size + 1 := by simp [World.alloc, -World.alloc_eq]
  have e : ∀ k, k < W.heap.size → (W.alloc o).heap[k]? = W.heap[k]? := fun k hk => by
    have : W.heap.size ≠ k := by omega
    simp [World.alloc, -World.alloc_eq, Array.getElem?_push, Ne.symm this]
  refine ⟨h.row.at (e _ h.lt), h.mine, by rw [hs]; have := h.lt; omega, ⟨h.below.os, h.below.tape, h.below.output, by rw [hs]; have := h.below.size; omega, fun k hk => ?_⟩⟩
  rw [e k (by have := h.mine; have := h.lt; omega)]
  exact h.below.block k hk
theorem Hs.on {w W W' : World} {n g cap : Nat} {l : List Int} (h : Hs w W n g cap l) (b : Below W.heap.size W W') : Hs w W' n g cap l := by
  have := h.lt
  have := h.mine
  exact ⟨h.row.at (b.block g h.lt), h.mine, by have := b.size; omega, ⟨b.os.trans h.below.os, b.tape.trans h.below.tape, b.output.trans h.below.output, Nat.le_trans h.below.size b.size, fun k hk => (b.block k (by omega)).trans (h.below.block k hk)⟩⟩
section
variable {P : Program} {ops : Array Oper} {rest : List Oper} {o : Oper} {a : Act} {Q : Exit → Act → World → Prop}
theorem conv_hs {w : World} (e : Nat) (hgd : o.guard = none) (src dst : TypeId) (x : Operand) (ho : o.op = .convert src dst x) (s : ByteArray) (hx : a.eval x = .string s)
    (hs : P.underlying src = some .string) (ht : P.underlying dst = some (.slice e)) (he : P.underlying e = some (.int .u8))
    (h : ∀ g cap w1, Hs w w1 w.heap.size g cap (bytesOf s) → wpList P ops Q rest (a.put o.dst (.slice (some ⟨g, 0, none⟩) s.size cap)) w1) : wpList P ops Q (o :: rest) a w := by
  have hrun : (execOp a.eval o).run P w = .ok (.value (.slice (some ⟨w.heap.size, 0, none⟩) s.size (grownCap w s.size 0 e))) (Lib.bytesWorld w e s) := by
    simp [execOp, ho, hx, Lib.run_convert_string_bytes w src dst e s hs ht he]
  exact Kd.event_run hgd hrun (h _ _ _ ⟨Bm.conv w e s, Nat.le_refl _, by rw [Lib.bytesWorld_size]; omega, ⟨rfl, rfl, rfl, by rw [Lib.bytesWorld_size]; omega, fun i hi => Lib.bytesWorld_at_old w e s i (by omega)⟩⟩)
theorem Hs.after {w W w1 : World} {n g g' cap cap' : Nat} {l l' : List Int} (h : Hs w W n g cap l) (hb : Bm w1 g' cap' l') (hc : 0 < cap') (hg : W.grownBy w1 (some g)) (hat : g' = g ∨ W.heap.size ≤ g') : Hs w w1 n g' cap' l' := by
  have h1 := h.lt
  have h2 := h.mine
  refine ⟨hb, by rcases hat with rfl | h3 <;> omega, ?_, ⟨hg.os.trans h.below.os, hg.tape.trans h.below.tape, hg.output.trans h.below.output, Nat.le_trans h.below.size hg.size, fun k hk => ?_⟩⟩
  · obtain ⟨v, hv⟩ := Option.isSome_iff_exists.1 (hb.there 0 hc)
    exact World.block_lt_of_cell? w1 _ hv
  · rw [hg.block k (by omega) (by intro e; injection e with e; omega)]
    exact h.below.block k hk
theorem append1_hs {w W : World} {n g cap : Nat} {l : List Int} (t e : TypeId) (hgd : o.guard = none) (s x : Operand) (ho : o.op = .call { callee := .builtin .append, args := #[s, x], argTypes := #[t, t] })
    (ht : P.underlying t = some (.slice e)) (hinfo : (P.info? e).map (fun i => (i.zero, i.size, i.bytes)) = some (some (.int .u8 0), 1, 1)) (z : Int)
    (hs : a.eval s = .slice (some ⟨g, 0, none⟩) l.length cap) (hx : a.eval x = .slice (some ⟨W.heap.size, 0, none⟩) 1 1) (HB : Hs w W n g cap l) (hl : l.length + 1 ≤ 140737488355328)
    (h : ∀ g' cap' w1, Hs w w1 n g' cap' (l ++ [z]) → wpList P ops Q rest (a.put o.dst (.slice (some ⟨g', 0, none⟩) (l ++ [z]).length cap')) w1) :
    wpList P ops Q (o :: rest) a (W.alloc (.cells #[.int .u8 z] e)) := by
  have H2 := HB.alloc (.cells #[.int .u8 z] e)
  obtain ⟨g', cap', w1, hr, hb, hg, hat⟩ := run_append_bm (P := P) (W := W.alloc (.cells #[.int .u8 z] e)) t t o.type e ht (Or.inr ht) hinfo (.slice (some ⟨W.heap.size, 0, none⟩) 1 1) [z] (fun W' => by simp [Builtin.lenOf]) (fun W' hW => by
    have hc : W'.cell? ⟨W.heap.size, 0, none⟩ = some (.int .u8 z) := by
      unfold World.cell?
      rw [hW]
      simp [World.alloc, -World.alloc_eq]
    exact run_firstCells_some (P := P) W' 1 1 ⟨W.heap.size, 0, none⟩ 1 1 (nums .u8 [z]) (by simp [nums]) (fun j v hj => by
      cases j with
      | zero => rw [add0]; rw [hc]; simpa [nums] using hj
      | succ j => simp [nums] at hj)) H2.row (by simpa using hl)
  refine wpList_plain hgd fun K hK => ?_
  unfold Oper.wp execOp
  simp only [ho, resolve, invoke, builtin, Sem.run_bind, Sem.run_pure, Result.andThen_ok, List.map_toArray, List.map_cons, List.map_nil, hs, hx, hr]
  refine hK _ _ ?_
  have := h g' cap' w1 (H2.after hb (by have := hb.room; rw [List.length_append, List.length_singleton] at this; omega) hg hat)
  rwa [List.length_append] at this
theorem appendS_hs {w W : World} {n g cap : Nat} {l : List Int} (t u e : TypeId) (hgd : o.guard = none) (s x : Operand) (ho : o.op = .call { callee := .builtin .append, args := #[s, x], argTypes := #[t, u] })
    (ht : P.underlying t = some (.slice e)) (hu : P.underlying u = some .string) (hinfo : (P.info? e).map (fun i => (i.zero, i.size, i.bytes)) = some (some (.int .u8 0), 1, 1)) (y : ByteArray)
    (hs : a.eval s = .slice (some ⟨g, 0, none⟩) l.length cap) (hx : a.eval x = .string y) (hy : 0 < y.size) (HB : Hs w W n g cap l) (hl : l.length + y.size ≤ 140737488355328)
    (h : ∀ g' cap' w1, Hs w w1 n g' cap' (l ++ bytesOf y) → wpList P ops Q rest (a.put o.dst (.slice (some ⟨g', 0, none⟩) (l ++ bytesOf y).length cap')) w1) :
    wpList P ops Q (o :: rest) a W := by
  have hyl : (bytesOf y).length = y.size := bytesOf_length y
  obtain ⟨g', cap', w1, hr, hb, hg, hat⟩ := run_append_bm (P := P) (W := W) t u o.type e ht (Or.inl hu) hinfo (.string y) (bytesOf y) (fun W' => by simp [Builtin.lenOf, hyl]) (fun W' hW => by
    rw [hyl, Lib.run_firstCells_string (P := P) W' 1 y]
    congr 1
    simp [nums, bytesOf, Lib.strCells]) HB.row (by omega)
  refine wpList_plain hgd fun K hK => ?_
  unfold Oper.wp execOp
  simp only [ho, resolve, invoke, builtin, Sem.run_bind, Sem.run_pure, Result.andThen_ok, List.map_toArray, List.map_cons, List.map_nil, hs, hx, hr]
  refine hK _ _ ?_
  have := h g' cap' w1 (HB.after hb (by have := hb.room; rw [List.length_append] at this; omega) hg hat)
  rwa [List.length_append] at this
end
end Go.Proofs.YtlifdodphkimpaaDoorW.PrintWords
end

section
namespace Go.Proofs.YtlifdodphkimpaaDoorW.PrintWords
open Go.RowKit
section
variable {P : Program} {ops : Array Oper} {rest : List Oper} {o : Oper} {a : Act} {Q : Exit → Act → World → Prop}
theorem lit_at (w : World) (o : Obj) : (w.alloc o).heap[w.heap.size]? = some o := by simp [World.alloc, -World.alloc_eq]
theorem lit_old (w : World) (o : Obj) {k : Nat} (hk : k < w.heap.size) : (w.alloc o).heap[k]? = w.heap[k]? := by
  have : w.heap.size ≠ k := by omega
  simp [World.alloc, -World.alloc_eq, Array.getElem?_push, Ne.symm this]
theorem lit_size (w : World) (o : Obj) : (w.alloc o).heap.size = w.heap.size + 1 := by simp [World.alloc, -World.alloc_eq]
theorem lit_bm (w : World) (e : TypeId) (l : List Int) (p : Nat × Nat) (hp : l.length ≤ p.1) : Bm (w.alloc (.cells (nums .u8 l).toArray e p)) w.heap.size l.length l := by
  have hn : (nums .u8 l).length = l.length := nums_length _ _
  refine ⟨fun j hj => ?_, fun j hj => ?_, fun j hj => ?_, Nat.le_refl _⟩
  · unfold World.cell?
    rw [lit_at]
    simp [nums, List.getD, hj]
  · unfold World.cell?
    rw [lit_at]
    simp [nums, hj]
  · unfold World.frozen?
    rw [lit_at]
    obtain ⟨p1, p2⟩ := p
    simp
    intro h
    omega
theorem conv_lit {w : World} (t e : TypeId) {C : Array Value} {n : Nat} (hgd : o.guard = none) (x : Operand) (ho : o.op = .convert t t x)
    (ht : P.underlying t = some (.slice e)) (he : P.underlying e = some (.int .u8)) (hx : a.eval x = .slice (some ⟨w.heap.size, 0, none⟩) n n)
    (h : wpList P ops Q rest (a.put o.dst (.slice (some ⟨w.heap.size, 0, none⟩) n n)) (w.alloc (.cells C e (C.size, C.size + 1)))) : wpList P ops Q (o :: rest) a (w.alloc (.cells C e)) := by
  have hrun : (execOp a.eval o).run P (w.alloc (.cells C e)) = .ok (.value (.slice (some ⟨w.heap.size, 0, none⟩) n n)) (w.alloc (.cells C e (C.size, C.size + 1))) := by
    have h1 := Lib.run_convert_bytes_const (P := P) w t e C n n ht he
    simp only [execOp, ho, hx, Sem.run_bind, h1, Result.andThen_ok, Sem.run_pure]
  exact Kd.event_run hgd hrun h
theorem run_append_grow {W : World} {g cap : Nat} {l : List Int} (t u ty e : TypeId) (ht : P.underlying t = some (.slice e)) (hu : P.underlying u = some .string ∨ P.underlying u = some (.slice e)) (hinfo : (P.info? e).map (fun i => (i.zero, i.size, i.bytes)) = some (some (.int .u8 0), 1, 1))
    (x : Value) (ys : List Int) (hlen : ∀ W', (Builtin.lenOf x).run P W' = .ok ys.length W') (hf : ∀ W', W'.heap = W.heap → (Builtin.firstCells 1 ys.length x).run P W' = .ok (nums .u8 ys).toArray W')
    (HB : Bm W g cap l) (hroom : ¬ l.length + ys.length ≤ cap) (hl : l.length + ys.length ≤ 140737488355328) :
    (Builtin.append_ #[t, u] ty #[.slice (some ⟨g, 0, none⟩) l.length cap, x]).run P W = .ok (.slice (some ⟨W.heap.size, 0, none⟩) (l.length + ys.length) (grownCap W (l.length + ys.length) cap e))
        (W.drew.alloc (.cells ((nums .u8 l).toArray ++ (nums .u8 ys).toArray ++ Builtin.zeroCells #[.int .u8 0] (grownCap W (l.length + ys.length) cap e - (l.length + ys.length))) e)) := by
  obtain ⟨i, hi, hzz⟩ := Option.map_eq_some_iff.1 hinfo
  simp only [Prod.mk.injEq] at hzz
  obtain ⟨hz, hs1, hb1⟩ := hzz
  have hnl : (nums .u8 ys).length = ys.length := nums_length _ _
  have hnl2 : (nums .u8 l).length = l.length := nums_length _ _
  have h63' : ¬ (9223372036854775807 < ((l.length : Int) + (ys.length : Int))) := by omega
  have hrm := HB.room
  have hfit : Builtin.nextslicecap (l.length + ys.length) cap * i.bytes ≤ 281474976710656 := by rw [hb1]; exact growslice_fits (by omega) (by omega)
  have h48' : ¬ (281474976710656 < Builtin.nextslicecap (l.length + ys.length) cap * i.bytes) := by omega
  have hfo := run_firstCells_some (P := P) W.drew 1 l.length ⟨g, 0, none⟩ l.length cap (nums .u8 l) (by omega) (fun j v hj => by
    rw [add0]
    have hjl : j < l.length := by
      have := (List.getElem?_eq_some_iff.1 hj).1
      omega
    have := HB.cell j hjl
    simp only [nums, List.getElem?_map, List.getElem?_eq_getElem hjl, Option.map_some, Option.some.injEq] at hj
    subst hj
    simpa [List.getD, hjl] using this)
  have hfs := hf W.drew rfl
  rw [← hs1] at hfo hfs
  have hzc : (Value.int .u8 0).cells = #[.int .u8 0] := rfl
  rcases hu with hu | hu <;> simp [Builtin.append_, run_underlying ht, run_underlying hu, sizeOf, typeInfo, zeroValue, hi, hz, hlen, hroom, h63', h48', Question.forced, hfs, hfo, newRow, grownCap, hzc]
  all_goals (congr 2; apply Array.ext'; simp [List.append_assoc])
/-- append([]byte("lit"), z): a new row of the call's own. -/
theorem R_app_lit {W : World} (t e : TypeId) (l : List Int) (z : Int) (ys : List Int) (hys : ys = l ++ [z]) {C : Array Value} {p : Nat × Nat} {n : Nat} {A : Nat} (hgd : o.guard = none) (s x : Operand)
    (ho : o.op = .call { callee := .builtin .append, args := #[s, x], argTypes := #[t, t] })
    (ht : P.underlying t = some (.slice e)) (hinfo : (P.info? e).map (fun i => (i.zero, i.size, i.bytes)) = some (some (.int .u8 0), 1, 1))
    (hC : C = (nums .u8 l).toArray) (hn : n = l.length) (hp : l.length ≤ p.1) (hA : A = W.heap.size + 1) (hl : l.length + 1 ≤ 140737488355328)
    (hs : a.eval s = .slice (some ⟨W.heap.size, 0, none⟩) n n) (hx : a.eval x = .slice (some ⟨A, 0, none⟩) 1 1)
    (h : ∀ v1 w1, (Kd.int .u8).R e w1 W.heap.size (fun _ => True) v1 ys → Below W.heap.size W w1 → W.grownBy w1 none → (∃ b, v1.ownBlock = some b ∧ W.heap.size ≤ b) → wpList P ops Q rest (a.put o.dst v1) w1) :
    wpList P ops Q (o :: rest) a ((W.alloc (.cells C e p)).alloc (.cells #[.int .u8 z] e)) := by
  subst hC hn hA hys
  obtain ⟨W1, hW1⟩ : ∃ W1, W1 = W.alloc (.cells (nums .u8 l).toArray e p) := ⟨_, rfl⟩
  have z1 : W1.heap.size = W.heap.size + 1 := by rw [hW1, lit_size]
  have hb := lit_bm W e l p hp
  rw [← hW1] at hb
  have hb2 : Bm (W1.alloc (.cells #[.int .u8 z] e)) W.heap.size l.length l := hb.at (lit_old W1 _ (by omega))
  have hr := run_append_grow (P := P) (W := W1.alloc (.cells #[.int .u8 z] e)) t t o.type e ht (Or.inr ht) hinfo (.slice (some ⟨W1.heap.size, 0, none⟩) 1 1) [z] (fun W' => by simp [Builtin.lenOf]) (fun W' hW => by
    have hc : W'.cell? ⟨W1.heap.size, 0, none⟩ = some (.int .u8 z) := by
      unfold World.cell?
      rw [hW, lit_at]
      simp
    exact run_firstCells_some (P := P) W' 1 1 ⟨W1.heap.size, 0, none⟩ 1 1 (nums .u8 [z]) (by simp [nums]) (fun j v hj => by
      cases j with
      | zero => rw [add0]; rw [hc]; simpa [nums] using hj
      | succ j => simp [nums] at hj)) hb2 (by simp) (by simpa using hl)
  rw [z1] at hr
  rw [← hW1]
  refine wpList_plain hgd fun K hK => ?_
  unfold Oper.wp execOp
  simp only [ho, resolve, invoke, builtin, Sem.run_bind, Sem.run_pure, Result.andThen_ok, List.map_toArray, List.map_cons, List.map_nil, hs, hx, hr]
  refine hK _ _ ?_
  have hz2 : (W1.alloc (.cells #[.int .u8 z] e)).heap.size = W.heap.size + 2 := by rw [lit_size, z1]
  obtain ⟨W2, hW2⟩ : ∃ W2, W2 = W1.alloc (.cells #[.int .u8 z] e) := ⟨_, rfl⟩
  rw [← hW2] at hz2 ⊢
  obtain ⟨cp, hcp⟩ : ∃ cp, cp = grownCap W2 (l.length + [z].length) l.length e := ⟨_, rfl⟩
  rw [← hcp]
  have hge : l.length + 1 ≤ cp := by rw [hcp]; exact grownCap_ge _ _ _ _
  have hle : cp ≤ maxLen := by rw [hcp]; exact grownCap_le_maxLen _ _ _ _ (by simp [maxLen]; omega)
  have hd : W2.drew.heap.size = W2.heap.size := rfl
  have hold : ∀ k, k < W.heap.size → ∀ c : Obj, (W2.drew.alloc c).heap[k]? = W.heap[k]? := fun k hk c => by
    rw [lit_old W2.drew c (by omega)]
    show W2.heap[k]? = _
    rw [hW2, lit_old W1 _ (by omega), hW1, lit_old W _ hk]
  have hsz : ∀ c : Obj, (W2.drew.alloc c).heap.size = W.heap.size + 3 := fun c => by rw [lit_size, hd, hz2]
  have e1 : W2.os = W.os := by rw [hW2, hW1]; rfl
  have e2 : W2.tape = W.tape := by rw [hW2, hW1]; rfl
  have e3 : W2.output = W.output := by rw [hW2, hW1]; rfl
  refine h _ _ ?_ ⟨e1, e2, e3, by rw [hsz]; omega, fun k hk => hold k hk _⟩ ⟨e1, e2, e3, by rw [hsz]; omega, fun k hk _ => hold k hk _⟩ ⟨W2.heap.size, rfl, by omega⟩
  refine Kd.R_of_own (h1 := fun _ => rfl) ⟨?_, Or.inr ⟨W2.heap.size, cp, _, ?_, by omega, (lit_at W2.drew _), ?_, hle, ?_, ?_⟩⟩ (fun _ _ => trivial)
  · simp [encs]
  · rw [List.length_append]
  · rw [List.length_append]; exact hge
  · simp [Builtin.zeroCells, nums]; omega
  · rw [show (l ++ [z]).length * 1 = (nums .u8 l ++ nums .u8 [z]).length by simp [nums], Array.toList_append, Array.toList_append]
    show List.take _ ((nums .u8 l ++ nums .u8 [z]) ++ _) = _
    rw [List.take_left]
    simp [encs, nums]
end
end Go.Proofs.YtlifdodphkimpaaDoorW.PrintWords
end

section
namespace Go.Proofs.YtlifdodphkimpaaDoorW.PrintWords
open Go Go.RowKit Go.ChangeMaps Go.MapKept Go.ChangeShapes Go.Maps
open Go.WideElems (Fit rd rg pl rd_val entry_then_store findIdx_born findIdx_arr)
open Go.WideMaps (KeyLaw)
section
variable {H : Type} {P : Program} {w w' : World} {t k E e : TypeId} {q : IntKind} {base b n : Nat} {D : DataW H} {es : Array MapEntry} {clock : Nat}
theorem key_one {R : Value → Option (DataW H × List MemPlace)} (F : Fit P k R es clock) {x y : MapEntry} (hx : x ∈ es.toList) (hy : y ∈ es.toList) (h : x.key = y.key) : x = y := by
  have h3 := F.stamped.2.2
  obtain ⟨i, hi, rfl⟩ := List.mem_iff_getElem.1 hx
  obtain ⟨j, hj, rfl⟩ := List.mem_iff_getElem.1 hy
  have := (List.getElem_inj (h₀ := by simpa using hi) (h₁ := by simpa using hj) h3).1 (by simpa using h)
  subst this
  rfl
theorem key_at {R : Value → Option (DataW H × List MemPlace)} (F : Fit P k R es clock) {i j : Nat} {x y : MapEntry} (hx : es.toList[i]? = some x) (hy : es.toList[j]? = some y) (h : x.key = y.key) : i = j := by
  have h3 := F.stamped.2.2
  obtain ⟨hi, rfl⟩ := List.getElem?_eq_some_iff.1 hx
  obtain ⟨hj, rfl⟩ := List.getElem?_eq_some_iff.1 hy
  exact (List.getElem_inj (h₀ := by simpa using hi) (h₁ := by simpa using hj) h3).1 (by simpa using h)
theorem update_same {R : Value → Option (DataW H × List MemPlace)} (K : KeyLaw P k) (ht : P.underlying t = some (.map k E)) (hb : w.heap[b]? = some (.map es clock)) (hb' : w'.heap[b]? = some (.map es clock)) (F : Fit P k R es clock)
    {key : Value} {kl : Lit} (hkey : keyOf P k key = some kl) (val : Value) : ∃ es' clock', (Instr.mapUpdate t (.map (some b)) key val).run P w = .ok () (setBlock w b (.map es' clock')) ∧ (Instr.mapUpdate t (.map (some b)) key val).run P w' = .ok () (setBlock w' b (.map es' clock')) := by
  rcases K.find w hkey es.toList F.keys with ⟨h1, h2⟩ | ⟨j, e0, h1, h2, h3⟩ <;> rcases K.find w' hkey es.toList F.keys with ⟨h1', h2'⟩ | ⟨j', e0', h1', h2', h3'⟩
  · refine ⟨es.push ⟨key, val, clock⟩, clock + 1, ?_, ?_⟩
    · simp [Instr.mapUpdate, run_underlying ht, MapKept.run_getObj_map hb, K.check w false hkey, h1, MapKept.run_setObj_map _ hb, Result.andThen, setBlock]
    · simp [Instr.mapUpdate, run_underlying ht, MapKept.run_getObj_map hb', K.check w' false hkey, h1', MapKept.run_setObj_map _ hb', Result.andThen, setBlock]
  · exact absurd h3' (h2 e0' (List.mem_of_getElem? h2'))
  · exact absurd h3 (h2' e0 (List.mem_of_getElem? h2))
  · obtain rfl := key_at F h2 h2' (h3.trans h3'.symm)
    have hj : es[j]? = some e0 := by simpa using h2
    have hj' : es[j]? = some e0' := by simpa using h2'
    refine ⟨es.modify j (fun e' => { e' with key := key, val := val }), clock, ?_, ?_⟩
    · simp [Instr.mapUpdate, run_underlying ht, MapKept.run_getObj_map hb, K.check w false hkey, h1, hj, h3, K.stays w hkey, MapKept.run_setObj_map _ hb, Result.andThen, setBlock]
    · simp [Instr.mapUpdate, run_underlying ht, MapKept.run_getObj_map hb', K.check w' false hkey, h1', hj', h3', K.stays w' hkey, MapKept.run_setObj_map _ hb', Result.andThen, setBlock]
theorem set_set (W : World) (b : Nat) (o o' : Obj) : setBlock (setBlock W b o) b o' = setBlock W b o' := by simp [setBlock]
theorem set_inj {W : World} (hb : W.heap[b]? = some (.map es clock)) {x y : Array MapEntry} {c d : Nat} (h : setBlock W b (.map x c) = setBlock W b (.map y d)) : x = y ∧ c = d := by
  have h1 := heap_setBlock_same hb (.map x c)
  rw [h, heap_setBlock_same hb (.map y d)] at h1
  injection h1 with h1
  injection h1 with h1 h2
  exact ⟨h1.symm, h2.symm⟩
/-- The entry, and whatever comes between it and its store. -/
theorem entry_groups (K : KeyLaw P k) (ht : P.underlying t = some (.map k E)) (hz : ∀ u : World, (zeroValue E).run P u = .ok (.slice none 0 0) u) (hown : w.ownsGroups P k base e q b n D) (hn : n < maxLen)
    {key : Value} {kl : Lit} (hkey : keyOf P k key = some kl) :
    ∃ (v : Value) (zs : List Int) (st : Nat) (wE : World), (Instr.mapEntry t (.map (some b)) key).run P w = .ok (.tuple #[v, goInt st]) wE ∧ w.grownBy wE (some b) ∧ D.atKey kl .nil = rowDatum q v zs ∧ w.ownsInts base e q v zs ∧ wE.ownsInts base e q v zs ∧ zs.length ≤ n ∧ wE.heap.size = w.heap.size ∧
      ∀ (w1 : World) (v' : Value) (zs' : List Int), wE.grownBy w1 v.ownBlock → w1.ownsInts base e q v' zs' → zs'.length ≤ n + 1 → (v'.ownBlock = v.ownBlock ∨ ∃ g, v'.ownBlock = some g ∧ w.heap.size ≤ g) →
        ∃ w2, (Instr.entryStore t (.map (some b)) (goInt st) v').run P w1 = .ok () w2 ∧ w2.ownsGroups P k base e q b (n + 1) (D.put kl (rowDatum q v' zs')) ∧ w1.grownBy w2 (some b) := by
  obtain ⟨v, zs, hlook, hat, hoi, hzl, hback⟩ := hown.at (Keyed.of_law K) ht (hz w) hn hkey
  obtain ⟨es, clock, hb, F, hs, hD, hbb, hlen, hap⟩ := hown
  obtain ⟨v0, st, es1, clock1, hE, hcase, hS⟩ := entry_then_store (w := w) K ht hz hb F hkey
  have hv : v0 = v := by
    rcases Maps.fit_look false (Keyed.of_law K) ht (hz w) hb F hkey with ⟨hrun, hno, _⟩ | ⟨e1, y, hm1, hk1, hrun, _, _, _⟩
    · rw [hlook] at hrun
      have e2 : v = .slice none 0 0 := by injection hrun
      rcases hcase with ⟨e0, hm0, hk0, _⟩ | ⟨_, h0⟩
      · exact absurd hk0 (hno e0 hm0)
      · rw [h0, e2]
    · rw [hlook] at hrun
      have e2 : v = e1.val := by injection hrun
      rcases hcase with ⟨e0, hm0, hk0, h0⟩ | ⟨hno, _⟩
      · rw [h0, e2, key_one F hm0 hm1 (hk0.trans hk1.symm)]
      · exact absurd hk1 (hno e1 hm1)
  subst hv
  have hgE : w.grownBy (setBlock w b (.map es1 clock1)) (some b) := ⟨rfl, rfl, rfl, by simp [setBlock], fun i _ hi => heap_setBlock_other hb _ (fun e1 => hi (by rw [e1]))⟩
  have hsE : (setBlock w b (.map es1 clock1)).heap.size = w.heap.size := by simp [setBlock]
  have hvb : v0.ownBlock = none ∨ v0.ownBlock ≠ some b := by
    cases hu : v0.ownBlock with
    | none => exact Or.inl rfl
    | some g =>
      refine Or.inr (fun e1 => ?_)
      have := (hoi.1.lt g hu).1
      cases e1
      omega
  have hbE := heap_setBlock_same hb (.map es1 clock1)
  have hblt : b < w.heap.size := (Array.getElem?_eq_some_iff.1 hb).1
  refine ⟨v0, zs, st, _, hE, hgE, hat, hoi, hoi.kept hgE hvb, hzl, hsE, fun w1 v' zs' hg hown' hl' hloc => ?_⟩
  have hb1 : w1.heap[b]? = some (.map es1 clock1) := (hg.block b (by rw [hsE]; exact hblt) (fun e1 => Or.elim hvb (fun h => by rw [h] at e1; cases e1) (fun h => h e1.symm))).trans hbE
  -- the world with the elder map put back
  obtain ⟨wR, hwR⟩ : ∃ wR, wR = setBlock w1 b (.map es clock) := ⟨_, rfl⟩
  have hbR : wR.heap[b]? = some (.map es clock) := by rw [hwR]; exact heap_setBlock_same hb1 _
  have hg1R : w1.grownBy wR (some b) := by rw [hwR]; exact ⟨rfl, rfl, rfl, by simp [setBlock], fun i _ hi => heap_setBlock_other hb1 _ (fun e1 => hi (by rw [e1]))⟩
  have hgR : w.grownBy wR v0.ownBlock := by
    refine ⟨hg1R.os.trans (hg.os.trans hgE.os), hg1R.tape.trans (hg.tape.trans hgE.tape), hg1R.output.trans (hg.output.trans hgE.output), ?_, fun i hi hne => ?_⟩
    · have h1 := hg.size
      have h2 := hg1R.size
      omega
    · by_cases hib : i = b
      · subst hib
        rw [hbR, hb]
      · rw [hg1R.block i (by have := hg.size; omega) (fun e1 => hib (by cases e1; rfl)), hg.block i (by omega) hne]
        exact heap_setBlock_other hb _ hib
  have hv'b : v'.ownBlock = none ∨ v'.ownBlock ≠ some b := by
    cases hu : v'.ownBlock with
    | none => exact Or.inl rfl
    | some g =>
      refine Or.inr (fun e1 => ?_)
      have := (hown'.1.lt g hu).1
      cases e1
      omega
  obtain ⟨w2R, hrunR, hownR, hg2R⟩ := hback wR v' zs' hgR (hown'.kept hg1R hv'b) hl' hloc
  obtain ⟨es', clock', hst, hupd⟩ := hS w1 v' hb1
  obtain ⟨es2, clock2, u1, u2⟩ := update_same (w := w) (w' := wR) K ht hb hbR F hkey v'
  rw [hupd] at u1
  injection u1 with _ u1
  obtain ⟨rfl, rfl⟩ := set_inj hb u1
  rw [hrunR] at u2
  injection u2 with _ u2
  have e2 : w2R = setBlock w1 b (.map es' clock') := by rw [u2, hwR, set_set]
  refine ⟨_, hst, by rw [← e2]; exact hownR, ⟨rfl, rfl, rfl, by simp [setBlock], fun i _ hi => heap_setBlock_other hb1 _ (fun e1 => hi (by rw [e1]))⟩⟩
end
end Go.Proofs.YtlifdodphkimpaaDoorW.PrintWords
end

section
namespace Go.Proofs.YtlifdodphkimpaaDoor.B
open Go.RowKit Go.Proofs.YtlifdodphkimpaaDoorW.PrintWords Go.Proofs.YtlifdodphkimpaaDoorW.PrintLast Go.Proofs.YtlifdodphkimpaaDoorW.PrintMore
attribute [local go_sem] max2_int min2_int max_two min_two max_three min_three max_four min_four
def good115 (y : S115) : Prop := (Lit.int .i64 y.f0).wf = true ∧ (Lit.int .i64 y.f1).wf = true ∧ (Lit.int .i64 y.f2).wf = true ∧ (Lit.int .i64 y.f3).wf = true
def good117 (y : S117) : Prop := (Lit.int .i64 y.f0).wf = true ∧ (Lit.int .i64 y.f1).wf = true ∧ (Lit.int .i64 y.f2).wf = true ∧ good115 y.f3 ∧ y.f4.size ≤ 9223372036854775807
def good79 (y : S79) : Prop := (Lit.int .i64 y.f0).wf = true ∧ (Lit.int .i64 y.f1).wf = true ∧ (Lit.int .i64 y.f2).wf = true ∧ (Lit.int .i64 y.f3).wf = true ∧ y.f4.size ≤ 9223372036854775807
def good82 (y : S82) : Prop := (Lit.int .i64 y.f0).wf = true ∧ (Lit.int .i64 y.f1).wf = true ∧ True ∧ good79 y.f3 ∧ (y.f4.length ≤ 9223372036854775807 ∧ ∀ y_ ∈ y.f4, good117 y_) ∧ (y.f5.length ≤ 9223372036854775807 ∧ ∀ y_ ∈ y.f5, good115 y_)
end Go.Proofs.YtlifdodphkimpaaDoor.B
end

section
namespace Go.Proofs.YtlifdodphkimpaaDoorW.PrintWords
open Go.RowKit
theorem wrap_id {x : Int} (h0 : -9223372036854775808 ≤ x) (h1 : x ≤ 9223372036854775807) : wrap64 x = x := by unfold wrap64; omega
/-- p at d places from i on. -/
def allB (p : Int → Bool) : Nat → Int → Bool
  | 0, _ => true
  | d + 1, i => p i && allB p d (i + 1)
def allI (p : Int → Bool) (i n : Int) : Bool := allB p (n - i).toNat i
theorem allI_step {p : Int → Bool} {i n : Int} (h : i < n) : allI p i n = (p i && allI p (i + 1) n) := by
  unfold allI
  obtain ⟨d, hd⟩ : ∃ d : Nat, (n - i).toNat = d + 1 := ⟨(n - i).toNat - 1, by omega⟩
  rw [hd, show (n - (i + 1)).toNat = d by omega]
  rfl
theorem allI_end {p : Int → Bool} {i n : Int} (h : n ≤ i) : allI p i n = true := by
  unfold allI
  rw [show (n - i).toNat = 0 by omega]
  rfl
theorem allI_iff (p : Int → Bool) (n : Int) : ∀ (d : Nat) (i : Int), (n - i).toNat = d → (allI p i n = true ↔ ∀ j, i ≤ j → j < n → p j = true)
  | 0, i, h => by
    rw [allI_end (by omega)]
    exact ⟨fun _ j h1 h2 => by omega, fun _ => rfl⟩
  | d + 1, i, h => by
    rw [allI_step (by omega), Bool.and_eq_true, allI_iff p n d (i + 1) (by omega)]
    refine ⟨fun ⟨h1, h2⟩ j h3 h4 => ?_, fun h1 => ⟨h1 i (by omega) (by omega), fun j h3 h4 => h1 j (by omega) h4⟩⟩
    by_cases e : j = i
    · rw [e]; exact h1
    · exact h2 j (by omega) h4
/-- A loop that asks p at each place. -/
theorem loop_all {L : Int → Option Bool} (p : Int → Bool) (n : Int) (hn : n ≤ 9223372036854775807) (hL : ∀ i, 0 ≤ i → i < n → L i = if p i = true then L (wrap64 (i + 1)) else some false) (hE : ∀ i, 0 ≤ i → n ≤ i → L i = some true) :
    ∀ (d : Nat) (i : Int), (n - i).toNat = d → 0 ≤ i → L i = some (allI p i n)
  | 0, i, h, h0 => by rw [hE i h0 (by omega), allI_end (by omega)]
  | d + 1, i, h, h0 => by
    rw [hL i h0 (by omega), allI_step (by omega), wrap_id (by omega) (by omega), loop_all p n hn hL hE d (i + 1) (by omega) (by omega)]
    cases p i <;> simp
def letterB (c : Int) : Bool := decide ((97 ≤ c ∧ c ≤ 122) ∨ (65 ≤ c ∧ c ≤ 90) ∨ c = 95)
def digitB (c : Int) : Bool := decide (48 ≤ c ∧ c ≤ 57)
def inB (n low high : Int) : Bool := decide (low ≤ n ∧ n ≤ high)
def nameB (s : ByteArray) : Bool := decide (1 ≤ s.size ∧ s.size ≤ 40) && (letterB (bt s 0) && allI (fun j => letterB (bt s j) || digitB (bt s j)) 1 s.size)
theorem strOf_size (l : List Int) : (strOfNums l).size = l.length := by
  show (strOfNums l).data.size = _
  simp [strOfNums]
theorem copy_loop {α β : Type} (d : α) (g : α → β) (l : List α) (hn : l.length ≤ 9223372036854775806) (L : List β → Int → Option (List β))
    (hL : ∀ acc i, 0 ≤ i → i < (l.length : Int) → acc.length = l.length → L acc i = L (acc.set i.toNat (g (l.getD i.toNat d))) (wrap64 (i + 1))) (hE : ∀ acc i, (l.length : Int) ≤ i → L acc i = some acc) :
    ∀ (n : Nat) (acc : List β) (i : Int), ((l.length : Int) - i).toNat = n → 0 ≤ i → i ≤ l.length → acc.length = l.length → (∀ j : Nat, j < i.toNat → acc[j]? = (l.map g)[j]?) → L acc i = some (l.map g)
  | 0, acc, i, h, h0, h1, ha, hj => by
    rw [hE acc i (by omega)]
    congr 1
    apply List.ext_getElem?
    intro j
    by_cases hjl : j < l.length
    · exact hj j (by omega)
    · rw [List.getElem?_eq_none (by omega), List.getElem?_eq_none (by simp; omega)]
  | n + 1, acc, i, h, h0, h1, ha, hj => by
    have hlt : i < (l.length : Int) := by omega
    rw [hL acc i h0 hlt ha, wrap_id (by omega) (by omega)]
    refine copy_loop d g l hn L hL hE n _ (i + 1) (by omega) (by omega) (by omega) (by simp [ha]) (fun j hj2 => ?_)
    by_cases e : j = i.toNat
    · subst e
      rw [List.getElem?_set_self (by omega), List.getElem?_map, List.getElem?_eq_getElem (by omega : i.toNat < l.length)]
      simp [List.getD, List.getElem?_eq_getElem (by omega : i.toNat < l.length)]
    · rw [List.getElem?_set_ne (by omega)]
      exact hj j (by omega)
end Go.Proofs.YtlifdodphkimpaaDoorW.PrintWords
end

section
namespace Go.Proofs.YtlifdodphkimpaaDoor.B
open Go.RowKit Go.Proofs.YtlifdodphkimpaaDoorW.PrintWords
def turnF (x n : Int) : Int := Go.bits .or .u32 (shr .u32 x n) (shl .u32 x (32 - n))
theorem u64_small (n : Int) (h0 : 0 ≤ n) (h1 : n < 18446744073709551616) : IntKind.u64.wrap n = n := by
  unfold IntKind.wrap
  simp [IntKind.bits, IntKind.signed]
  omega
theorem turn_v (x n : Int) (h0 : 0 ≤ n) (h1 : n ≤ 32) : spec_l01Turn.v x n = some (turnF x n) := by
  rw [spec_l01Turn.v_eq, if_pos h0, u64_small (32 - n) (by omega) (by omega), if_pos (by omega)]
  rfl
theorem block_l3 (v : List Int) (hv : v.length = 8) : ∀ (k i : Nat) (h : List Int), 8 - i = k → i ≤ 8 → h.length = 8 → ∃ r, spec_l01Block.lv3 h v i = some r ∧ r.length = 8
  | 0, i, h, hk, hi, hh => by
    rw [spec_l01Block.lv3_eq, if_neg (by omega)]
    exact ⟨h, rfl, hh⟩
  | k + 1, i, h, hk, hi, hh => by
    obtain ⟨r, e, hr⟩ := block_l3 v hv k (i + 1) (h.set (i : Int).toNat (((rd h i) + (rd v i)) % 4294967296)) (by omega) (by omega) (by rw [List.length_set]; exact hh)
    have w : wrap64 ((i : Int) + 1) = ((i + 1 : Nat) : Int) := by rw [wrap_id (by omega) (by omega)]; omega
    rw [spec_l01Block.lv3_eq, w, e]
    clear w
    rw [if_pos (by omega), if_pos (by omega), if_pos (by omega), if_pos (by omega)]
    exact ⟨r, rfl, hr⟩
theorem block_l2 (h ks ws : List Int) (hh : h.length = 8) (hk : ks.length = 64) (hw : ws.length = 64) : ∀ (k i : Nat) (v : List Int), 64 - i = k → i ≤ 64 → v.length = 8 → ∃ r, spec_l01Block.lv2 h ks ws v i = some r ∧ r.length = 8
  | 0, i, v, hi0, hi, hv => by
    rw [spec_l01Block.lv2_eq, if_neg (by omega)]
    exact block_l3 v hv 8 0 h rfl (by omega) hh
  | k + 1, i, v, hi0, hi, hv => by
    have ih := fun v' => block_l2 h ks ws hh hk hw k (i + 1) v' (by omega) (by omega)
    have w : wrap64 ((i : Int) + 1) = ((i + 1 : Nat) : Int) := by rw [wrap_id (by omega) (by omega)]; omega
    rw [spec_l01Block.lv2_eq, w]
    clear w
    have c1 : (i : Int) < 64 := by omega
    have c2 : (4 : Int) < (v.length : Int) := by omega
    have c3 : (0 : Int) < (v.length : Int) := by omega
    have c4 : (7 : Int) < (v.length : Int) := by omega
    have c5 : (5 : Int) < (v.length : Int) := by omega
    have c6 : (6 : Int) < (v.length : Int) := by omega
    have c7 : (0 : Int) ≤ (i : Int) := by omega
    have c8 : (i : Int) < (ks.length : Int) := by omega
    have c9 : (i : Int) < (ws.length : Int) := by omega
    have d1 : (1 : Int) < (v.length : Int) := by omega
    have d2 : (2 : Int) < (v.length : Int) := by omega
    have d3 : (3 : Int) < (v.length : Int) := by omega
    have t1 : ∀ x, spec_l01Turn.v x 6 = some (turnF x 6) := fun x => turn_v x 6 (by omega) (by omega)
    have t2 : ∀ x, spec_l01Turn.v x 11 = some (turnF x 11) := fun x => turn_v x 11 (by omega) (by omega)
    have t3 : ∀ x, spec_l01Turn.v x 25 = some (turnF x 25) := fun x => turn_v x 25 (by omega) (by omega)
    have t4 : ∀ x, spec_l01Turn.v x 2 = some (turnF x 2) := fun x => turn_v x 2 (by omega) (by omega)
    have t5 : ∀ x, spec_l01Turn.v x 13 = some (turnF x 13) := fun x => turn_v x 13 (by omega) (by omega)
    have t6 : ∀ x, spec_l01Turn.v x 22 = some (turnF x 22) := fun x => turn_v x 22 (by omega) (by omega)
    simp only [if_pos c1, if_pos c2, if_pos c3, if_pos c4, if_pos c5, if_pos c6, if_pos c7, if_pos c8, if_pos c9, if_pos d1, if_pos d2, if_pos d3, t1, t2, t3, t4, t5, t6, Option.bind_some]
    exact ih _ rfl
theorem block_l1 (h ks : List Int) (hh : h.length = 8) (hk : ks.length = 64) : ∀ (k i : Nat) (ws : List Int), 64 - i = k → 16 ≤ i → i ≤ 64 → ws.length = 64 → ∃ r, spec_l01Block.lv1 h ks ws i = some r ∧ r.length = 8
  | 0, i, ws, hi0, h16, hi, hw => by
    rw [spec_l01Block.lv1_eq, if_neg (by omega), Option.bind_some, if_pos (by simp; omega)]
    exact block_l2 h ks ws hh hk hw 64 0 _ rfl (by omega) (by simpa using hh)
  | k + 1, i, ws, hi0, h16, hi, hw => by
    have ih := fun ws' => block_l1 h ks hh hk k (i + 1) ws' (by omega) (by omega) (by omega)
    have c1 : (i : Int) < 64 := by omega
    have c2 : (0 : Int) ≤ (i : Int) - 15 := by omega
    have c3 : (i : Int) - 15 < (ws.length : Int) := by omega
    have c4 : (0 : Int) ≤ (i : Int) - 2 := by omega
    have c5 : (i : Int) - 2 < (ws.length : Int) := by omega
    have c6 : (0 : Int) ≤ (i : Int) - 16 := by omega
    have c7 : (i : Int) - 16 < (ws.length : Int) := by omega
    have c8 : (0 : Int) ≤ (i : Int) - 7 := by omega
    have c9 : (i : Int) - 7 < (ws.length : Int) := by omega
    have d1 : (0 : Int) ≤ (i : Int) := by omega
    have d2 : (i : Int) < (ws.length : Int) := by omega
    have t1 : ∀ x, spec_l01Turn.v x 7 = some (turnF x 7) := fun x => turn_v x 7 (by omega) (by omega)
    have t2 : ∀ x, spec_l01Turn.v x 18 = some (turnF x 18) := fun x => turn_v x 18 (by omega) (by omega)
    have t3 : ∀ x, spec_l01Turn.v x 17 = some (turnF x 17) := fun x => turn_v x 17 (by omega) (by omega)
    have t4 : ∀ x, spec_l01Turn.v x 19 = some (turnF x 19) := fun x => turn_v x 19 (by omega) (by omega)
    have w : wrap64 ((i : Int) + 1) = ((i + 1 : Nat) : Int) := by rw [wrap_id (by omega) (by omega)]; omega
    have w1 : wrap64 ((i : Int) - 15) = (i : Int) - 15 := wrap_id (by omega) (by omega)
    have w2 : wrap64 ((i : Int) - 2) = (i : Int) - 2 := wrap_id (by omega) (by omega)
    have w3 : wrap64 ((i : Int) - 16) = (i : Int) - 16 := wrap_id (by omega) (by omega)
    have w4 : wrap64 ((i : Int) - 7) = (i : Int) - 7 := wrap_id (by omega) (by omega)
    rw [spec_l01Block.lv1_eq]
    simp only [w, w1, w2, w3, w4, if_pos c1, if_pos c2, if_pos c3, if_pos c4, if_pos c5, if_pos c6, if_pos c7, if_pos c8, if_pos c9, if_pos d1, if_pos d2, t1, t2, t3, t4, Option.bind_some]
    clear w w1 w2 w3 w4
    exact ih _ (by rw [List.length_set]; exact hw)
theorem block_l0 (h b ks : List Int) (hh : h.length = 8) (hb : b.length = 64) (hk : ks.length = 64) : ∀ (k i : Nat) (ws : List Int), 16 - i = k → i ≤ 16 → ws.length = 64 → ∃ r, spec_l01Block.lv0 h b ks ws i = some r ∧ r.length = 8
  | 0, i, ws, hi0, hi, hw => by
    rw [spec_l01Block.lv0_eq, if_neg (by omega)]
    exact block_l1 h ks hh hk 48 16 ws rfl (by omega) (by omega) hw
  | k + 1, i, ws, hi0, hi, hw => by
    have ih := fun ws' => block_l0 h b ks hh hb hk k (i + 1) ws' (by omega) (by omega)
    have c1 : (i : Int) < 16 := by omega
    have c2 : (0 : Int) ≤ 4 * (i : Int) := by omega
    have c3 : 4 * (i : Int) < (b.length : Int) := by omega
    have c4 : (0 : Int) ≤ 4 * (i : Int) + 1 := by omega
    have c5 : 4 * (i : Int) + 1 < (b.length : Int) := by omega
    have c6 : (0 : Int) ≤ 4 * (i : Int) + 2 := by omega
    have c7 : 4 * (i : Int) + 2 < (b.length : Int) := by omega
    have c8 : (0 : Int) ≤ 4 * (i : Int) + 3 := by omega
    have c9 : 4 * (i : Int) + 3 < (b.length : Int) := by omega
    have d1 : (0 : Int) ≤ (i : Int) := by omega
    have d2 : (i : Int) < (ws.length : Int) := by omega
    have w : wrap64 ((i : Int) + 1) = ((i + 1 : Nat) : Int) := by rw [wrap_id (by omega) (by omega)]; omega
    have w0 : wrap64 (4 * (i : Int)) = 4 * (i : Int) := wrap_id (by omega) (by omega)
    have w1 : wrap64 (4 * (i : Int) + 1) = 4 * (i : Int) + 1 := wrap_id (by omega) (by omega)
    have w2 : wrap64 (4 * (i : Int) + 2) = 4 * (i : Int) + 2 := wrap_id (by omega) (by omega)
    have w3 : wrap64 (4 * (i : Int) + 3) = 4 * (i : Int) + 3 := wrap_id (by omega) (by omega)
    rw [spec_l01Block.lv0_eq]
    simp only [w, w0, w1, w2, w3, if_pos c1, if_pos c2, if_pos c3, if_pos c4, if_pos c5, if_pos c6, if_pos c7, if_pos c8, if_pos c9, if_pos d1, if_pos d2]
    clear w w0 w1 w2 w3
    exact ih _ (by rw [List.length_set]; exact hw)
theorem block_v (h b ks : List Int) (hh : h.length = 8) (hb : b.length = 64) (hk : ks.length = 64) : ∃ r, spec_l01Block.v h b ks = some r ∧ r.length = 8 := by
  rw [spec_l01Block.v_eq, if_pos ⟨hh, hb, hk⟩, if_pos (by omega)]
  exact block_l0 h b ks hh hb hk 16 0 _ rfl (by omega) (by simp)
theorem hash_l3 (h : List Int) (hh : h.length = 8) : ∀ (k i : Nat) (out : List Int), 8 - i = k → i ≤ 8 → out.length = 4 * i → ∃ t, spec_l01Hash.lv3 h out i = some t ∧ t.size = 32
  | 0, i, out, hi0, hi, ho => by
    rw [spec_l01Hash.lv3_eq, if_neg (by omega)]
    exact ⟨_, rfl, by rw [strOf_size]; omega⟩
  | k + 1, i, out, hi0, hi, ho => by
    have ih := fun out' => hash_l3 h hh k (i + 1) out' (by omega) (by omega)
    have w : wrap64 ((i : Int) + 1) = ((i + 1 : Nat) : Int) := by rw [wrap_id (by omega) (by omega)]; omega
    rw [spec_l01Hash.lv3_eq, w]
    clear w
    rw [if_pos (by omega), if_pos (by omega), if_pos (by omega), Option.bind_some, if_pos (by simp; omega)]
    exact ih _ (by simp; omega)
theorem hash_l2 (all ks : List Int) (hk : ks.length = 64) (n : Nat) (ha : all.length = 64 * n) (hn : n ≤ 1000000) : ∀ (k i : Nat) (h : List Int), n - i = k → i ≤ n → h.length = 8 → ∃ t, spec_l01Hash.lv2 h all ks ((64 * i : Nat) : Int) = some t ∧ t.size = 32
  | 0, i, h, hi0, hi, hh => by
    rw [spec_l01Hash.lv2_eq, if_neg (by omega)]
    exact hash_l3 h hh 8 0 [] rfl (by omega) rfl
  | k + 1, i, h, hi0, hi, hh => by
    have ih := fun h' => hash_l2 all ks hk n ha hn k (i + 1) h' (by omega) (by omega)
    obtain ⟨r, e, hr⟩ := block_v h ((all.take (64 * (i + 1))).drop (64 * i)) ks hh (by rw [List.length_drop, List.length_take]; omega) hk
    have w : wrap64 (((64 * i : Nat) : Int) + 64) = ((64 * (i + 1) : Nat) : Int) := by rw [wrap_id (by omega) (by omega)]; omega
    rw [spec_l01Hash.lv2_eq, w]
    clear w
    simp only [Int.toNat_natCast]
    rw [if_pos (by omega), if_pos (by omega), if_pos (by omega), if_pos (by omega), e, Option.bind_some]
    exact ih _ hr
theorem hash_l1 (x h : List Int) (hh : h.length = 8) : ∀ (k : Nat) (all : List Int), k ≤ 8 → all.length + k ≤ 60000000 → (all.length + k) % 64 = 0 → ∃ t, spec_l01Hash.lv1 x h all ((k : Int) - 1) = some t ∧ t.size = 32
  | 0, all, hk, ha, hm => by
    rw [spec_l01Hash.lv1_eq, if_neg (by omega), spec_l01Consts.v_eq, Option.bind_some]
    exact hash_l2 all _ rfl (all.length / 64) (by omega) (by omega) (all.length / 64) 0 h rfl (by omega) hh
  | k + 1, all, hk, ha, hm => by
    have ih := fun a => hash_l1 x h hh k (all ++ [a]) (by omega) (by simp; omega) (by simp; omega)
    have e : (((k + 1 : Nat) : Int) - 1) = (k : Int) := by omega
    have c1 : (k : Int) ≥ 0 := by omega
    have c2 : all.length < 140737488355328 := by omega
    have w : wrap64 ((k : Int) - 1) = (k : Int) - 1 := wrap_id (by omega) (by omega)
    have w1 : IntKind.u64.wrap (wrap64 (8 * (k : Int))) = 8 * (k : Int) := by
      rw [show wrap64 (8 * (k : Int)) = 8 * (k : Int) from wrap_id (by omega) (by omega), u64_small _ (by omega) (by omega)]
    have c3 : (0 : Int) ≤ 8 * (k : Int) := by clear w w1; omega
    rw [e, spec_l01Hash.lv1_eq, w, w1]
    clear w w1
    rw [if_pos c1, if_pos c3, if_pos c2]
    exact ih _
theorem hash_l0 (x h : List Int) (hh : h.length = 8) : ∀ (k : Nat) (all : List Int), (all.length + k) % 64 = 56 → k ≤ 64 → all.length + k ≤ 50000000 → ∃ t, spec_l01Hash.lv0 x h all = some t ∧ t.size = 32
  | 0, all, hm, hk, ha => by
    rw [spec_l01Hash.lv0_eq, if_pos (by omega)]
    exact hash_l1 x h hh 8 all (by omega) (by omega) (by omega)
  | k + 1, all, hm, hk, ha => by
    rw [spec_l01Hash.lv0_eq]
    by_cases c : ((all.length : Int) % 64) = 56
    · rw [if_pos c]
      exact hash_l1 x h hh 8 all (by omega) (by omega) (by omega)
    · rw [if_neg c, if_pos (by omega)]
      exact hash_l0 x h hh k (all ++ [0]) (by simp; omega) (by omega) (by simp; omega)
theorem hash_v (x : List Int) (hx : x.length ≤ 40000000) : ∃ t, spec_l01Hash.v x = some t ∧ t.size = 32 := by
  rw [spec_l01Hash.v_eq, Option.bind_some, if_pos (by simp; omega), Option.bind_some, if_pos (by simp; omega)]
  refine hash_l0 x _ rfl ((56 + 64 - (x.length + 1) % 64) % 64) _ ?_ (by omega) ?_
  · simp; omega
  · simp; omega
def byteL (l : List Int) : Prop := ∀ y ∈ l, 0 ≤ y ∧ y ≤ 255
theorem byteL_nil : byteL [] := fun y h => by cases h
theorem byteL_cons {a : Int} {l : List Int} (h0 : 0 ≤ a) (h1 : a ≤ 255) (h : byteL l) : byteL (a :: l) := by
  intro y hy
  rcases List.mem_cons.1 hy with rfl | hy
  · exact ⟨h0, h1⟩
  · exact h y hy
theorem byteL_append {a b : List Int} (ha : byteL a) (hb : byteL b) : byteL (a ++ b) := by
  intro y hy
  rcases List.mem_append.1 hy with hy | hy
  · exact ha y hy
  · exact hb y hy
theorem bytes_str (l : List Int) (h : byteL l) : bytesOf (strOfNums l) = l := by
  unfold bytesOf
  rw [strOfNums_data, List.map_map]
  conv => rhs; rw [← List.map_id l]
  apply List.map_congr_left
  intro y hy
  have := h y hy
  simp only [Function.comp, id]
  rw [UInt8.toNat_ofNat']
  omega
theorem bytes_append (a b : ByteArray) : bytesOf (a ++ b) = bytesOf a ++ bytesOf b := by
  unfold bytesOf
  rw [ByteArray.data_append, Array.toList_append, List.map_append]
/-- n in k bytes, the high one first. -/
def beL (n : Int) : Nat → List Int
  | 0 => []
  | k + 1 => beL (n / 256) k ++ [n % 256]
theorem beL_len (n : Int) (k : Nat) : (beL n k).length = k := by
  induction k generalizing n with
  | zero => rfl
  | succ k ih => simp [beL, ih]
theorem byteL_be (n : Int) (k : Nat) : byteL (beL n k) := by
  induction k generalizing n with
  | zero => exact byteL_nil
  | succ k ih => exact byteL_append (ih _) (byteL_cons (by omega) (by omega) byteL_nil)
theorem impl_number1 (n : Int) : impl_number.v n 1 = some (strOfNums (beL n 1)) := by
  have w0 : wrap64 (1 - 1) = 0 := by rw [wrap_id (by omega) (by omega)]; rfl
  have w1 : wrap64 (0 - 1) = -1 := by rw [wrap_id (by omega) (by omega)]; rfl
  rw [impl_number.v_eq, if_pos (by omega), if_pos (by simp), w0, impl_number.lv0_eq, if_pos (by omega), if_pos (by omega), if_pos (by simp), w1, impl_number.lv0_eq, if_neg (by omega)]
  rfl
theorem impl_number2 (n : Int) : impl_number.v n 2 = some (strOfNums (beL n 2)) := by
  have w2 : wrap64 (2 - 1) = 1 := by rw [wrap_id (by omega) (by omega)]; rfl
  have w0 : wrap64 (1 - 1) = 0 := by rw [wrap_id (by omega) (by omega)]; rfl
  have w1 : wrap64 (0 - 1) = -1 := by rw [wrap_id (by omega) (by omega)]; rfl
  rw [impl_number.v_eq, if_pos (by omega), if_pos (by simp), w2, impl_number.lv0_eq, if_pos (by omega), if_pos (by omega), if_pos (by simp), w0, impl_number.lv0_eq, if_pos (by omega), if_pos (by omega), if_pos (by simp), w1, impl_number.lv0_eq, if_neg (by omega)]
  rfl
theorem impl_number4 (n : Int) : impl_number.v n 4 = some (strOfNums (beL n 4)) := by
  have w4 : wrap64 (4 - 1) = 3 := by rw [wrap_id (by omega) (by omega)]; rfl
  have w3 : wrap64 (3 - 1) = 2 := by rw [wrap_id (by omega) (by omega)]; rfl
  have w2 : wrap64 (2 - 1) = 1 := by rw [wrap_id (by omega) (by omega)]; rfl
  have w0 : wrap64 (1 - 1) = 0 := by rw [wrap_id (by omega) (by omega)]; rfl
  have w1 : wrap64 (0 - 1) = -1 := by rw [wrap_id (by omega) (by omega)]; rfl
  rw [impl_number.v_eq, if_pos (by omega), if_pos (by simp), w4, impl_number.lv0_eq, if_pos (by omega), if_pos (by omega), if_pos (by simp), w3, impl_number.lv0_eq, if_pos (by omega), if_pos (by omega), if_pos (by simp), w2, impl_number.lv0_eq, if_pos (by omega), if_pos (by omega), if_pos (by simp), w0, impl_number.lv0_eq, if_pos (by omega), if_pos (by omega), if_pos (by simp), w1, impl_number.lv0_eq, if_neg (by omega)]
  rfl
theorem be_front (j : Nat) : ∀ n : Int, beL n (j + 1) = (n / 256 ^ j % 256) :: beL n j := by
  induction j with
  | zero => intro n; simp [beL]
  | succ j ih =>
    intro n
    have h : beL n (j + 1 + 1) = beL (n / 256) (j + 1) ++ [n % 256] := rfl
    have h2 : n / 256 / 256 ^ j = n / 256 ^ (j + 1) := by
      rw [Int.ediv_ediv_of_nonneg (by omega), Int.pow_succ, Int.mul_comm]
    rw [h, ih, h2]
    rfl
theorem shr_be (n : Int) (j : Nat) (hj : j ≤ 7) : shr .i64 n (IntKind.u64.wrap (wrap64 (8 * (j : Int)))) = n / 256 ^ j := by
  have w : wrap64 (8 * (j : Int)) = ((8 * j : Nat) : Int) := by rw [wrap_id (by omega) (by omega)]; omega
  have w2 : IntKind.u64.wrap ((8 * j : Nat) : Int) = ((8 * j : Nat) : Int) := by
    have : 8 * j < 18446744073709551616 := by omega
    unfold IntKind.wrap
    simp [IntKind.bits, IntKind.signed]
    omega
  rw [w, w2]
  clear w w2
  unfold shr
  rw [Int.toNat_natCast, Nat.min_eq_left (by show 8 * j ≤ 64; omega), Int.pow_mul]
  rfl
theorem spec_number_l (n : Int) : ∀ (j : Nat) (acc : List Int), j ≤ 8 → acc.length + j ≤ 1000000 → spec_l02Number.lv0 n acc ((j : Int) - 1) = some (acc ++ beL n j)
  | 0, acc, hj, ha => by rw [spec_l02Number.lv0_eq, if_neg (by omega)]; simp [beL]
  | j + 1, acc, hj, ha => by
    have ih := spec_number_l n j (acc ++ [n / 256 ^ j % 256]) (by omega) (by rw [List.length_append]; show acc.length + 1 + j ≤ _; omega)
    have e : (((j + 1 : Nat) : Int) - 1) = (j : Int) := by omega
    have hs := shr_be n j (by omega)
    have h0 : 0 ≤ IntKind.u64.wrap (wrap64 (8 * (j : Int))) := by
      have w : wrap64 (8 * (j : Int)) = ((8 * j : Nat) : Int) := by rw [wrap_id (by omega) (by omega)]; omega
      rw [w]
      clear w hs
      unfold IntKind.wrap
      simp [IntKind.bits, IntKind.signed]
      omega
    have w : wrap64 ((j : Int) - 1) = (j : Int) - 1 := wrap_id (by omega) (by omega)
    have c1 : (j : Int) ≥ 0 := by omega
    have c2 : acc.length < 140737488355328 := by omega
    rw [e, spec_l02Number.lv0_eq, if_pos c1, if_pos h0, if_pos c2, hs, w, ih, be_front, List.append_assoc]
    rfl
theorem spec_number_v (n : Int) (k : Nat) (hk : k ≤ 8) : spec_l02Number.v n k = some (beL n k) := by
  have w : wrap64 ((k : Int) - 1) = (k : Int) - 1 := wrap_id (by omega) (by omega)
  rw [spec_l02Number.v_eq, w, spec_number_l n k [] hk (by simp; omega)]
  rfl
theorem be1 (n : Int) : beL n 1 = [n % 256] := rfl
theorem secret_v (n : Int) : ∃ t, spec_l04Secret.v n = some t ∧ impl_hash.v ((⟨#[110, 111, 100, 101, 32, 107, 101, 121]⟩ : ByteArray) ++ strOfNums [n % 256]) = some t ∧ t.size = 32 := by
  have h1 : (strOfNums [n % 256]).size = 1 := by rw [strOf_size]; rfl
  have h8 : (⟨#[110, 111, 100, 101, 32, 107, 101, 121]⟩ : ByteArray).size = 8 := rfl
  obtain ⟨s, hs⟩ : ∃ s, s = (⟨#[110, 111, 100, 101, 32, 107, 101, 121]⟩ : ByteArray) ++ strOfNums [n % 256] := ⟨_, rfl⟩
  have hz : s.size = 9 := by rw [hs, ByteArray.size_append, h1, h8]
  obtain ⟨t, ht, h32⟩ := hash_v (bytesOf s) (by rw [bytesOf_length, hz]; decide)
  refine ⟨t, ?_, ?_, h32⟩
  · rw [spec_l04Secret.v_eq, Option.bind_some, ← hs, h1, hz, if_pos (by decide), if_pos (by decide), ht, Option.bind_some]
  · rw [← hs, impl_hash.v_eq, hz, if_pos (by decide), ht]
theorem mac_both (n : Int) (S : ByteArray) (hS : S.size ≤ 30000000) : ∃ t, spec_l04Mac.v n (bytesOf S) = some t ∧ impl_mark.v n S = some t ∧ t.size = 8 := by
  obtain ⟨t1, h1, h2, hz⟩ := secret_v n
  obtain ⟨t2, ht, h32⟩ := hash_v (bytesOf (t1 ++ S)) (by rw [bytesOf_length, ByteArray.size_append]; omega)
  have hb : bytesOf t1 ++ bytesOf S = bytesOf (t1 ++ S) := (bytes_append t1 S).symm
  have hn : (strOfNums (beL n 1)).size = 1 := by rw [strOf_size]; rfl
  have c1 : t1.size + (bytesOf S).length < 140737488355328 ∧ 0 < t1.size := by rw [bytesOf_length]; omega
  have c2 : t1.size + S.size ≤ 9223372036854775807 := by omega
  have c3 : (t1 ++ S).size ≤ 40000000 := by rw [ByteArray.size_append]; omega
  have c4 : (8 : Int) ≤ (t2.size : Int) := by omega
  refine ⟨t2.extract 0 8, ?_, ?_, by rw [ByteArray.size_extract]; omega⟩
  · rw [spec_l04Mac.v_eq, h1, Option.bind_some, if_pos c1, hb, ht, Option.bind_some, if_pos (by omega)]
  · rw [impl_mark.v_eq, impl_number1, Option.bind_some, hn, if_pos (by decide), be1, h2, Option.bind_some, if_pos c2, impl_hash.v_eq, if_pos c3, ht, Option.bind_some, if_pos (by decide), if_pos c4]
theorem in_one (a b c : Int) : ∃ r, spec_l01In.v a b c = some r ∧ impl_within.v a b c = some r := by
  rw [spec_l01In.v_eq, impl_within.v_eq]
  split <;> exact ⟨_, rfl, rfl⟩
theorem nodes_one (a : Int) : ∃ r, spec_l04Nodes.v a = some r ∧ impl_areNodes.v a = some r := by
  rw [spec_l04Nodes.v_eq, impl_areNodes.v_eq, impl_FaultsOf.v_eq]
  by_cases h1 : a = 1
  · rw [if_pos h1, if_pos h1, Option.bind_some]; exact ⟨_, rfl, rfl⟩
  by_cases h4 : a = 4
  · rw [if_neg h1, if_neg h1, if_pos h4, if_pos h4, Option.bind_some]; exact ⟨_, rfl, rfl⟩
  by_cases h7 : a = 7
  · rw [if_neg h1, if_neg h1, if_neg h4, if_neg h4, if_pos h7, Option.bind_some, h7]; exact ⟨_, rfl, rfl⟩
  · rw [if_neg h1, if_neg h1, if_neg h4, if_neg h4, if_neg h7, Option.bind_some]
    exact ⟨false, by simp [h7], rfl⟩
theorem impl_number3 (n : Int) : impl_number.v n 3 = some (strOfNums (beL n 3)) := by
  have w3 : wrap64 (3 - 1) = 2 := by rw [wrap_id (by omega) (by omega)]; rfl
  have w2 : wrap64 (2 - 1) = 1 := by rw [wrap_id (by omega) (by omega)]; rfl
  have w0 : wrap64 (1 - 1) = 0 := by rw [wrap_id (by omega) (by omega)]; rfl
  have w1 : wrap64 (0 - 1) = -1 := by rw [wrap_id (by omega) (by omega)]; rfl
  rw [impl_number.v_eq, if_pos (by omega), if_pos (by simp), w3, impl_number.lv0_eq, if_pos (by omega), if_pos (by omega), if_pos (by simp), w2, impl_number.lv0_eq, if_pos (by omega), if_pos (by omega), if_pos (by simp), w0, impl_number.lv0_eq, if_pos (by omega), if_pos (by omega), if_pos (by simp), w1, impl_number.lv0_eq, if_neg (by omega)]
  rfl
theorem reply_v (a0 a1 a2 a3 a4 a5 a6 : Int) (a7 : ByteArray) : ∃ t, spec_l11Mac.v a0 a1 a2 a3 a4 a5 a6 a7 = some t ∧ impl_replyMac.v a0 a1 a2 a3 a4 a5 a6 a7 = some t := by
  obtain ⟨h, hh⟩ : ∃ h, h = wrap64 (a5 + 1) := ⟨_, rfl⟩
  have zs : ∀ (n : Int) (k : Nat), (strOfNums (beL n k)).size = k := fun n k => by rw [strOf_size, beL_len]
  have z5 : (⟨#[114, 101, 112, 108, 121]⟩ : ByteArray).size = 5 := rfl
  obtain ⟨T, hT⟩ : ∃ T, T = ((strOfNums (beL a3 1) ++ strOfNums (beL a4 3)) ++ strOfNums (beL h 2)) ++ strOfNums (beL a6 4) := ⟨_, rfl⟩
  have t1 : (strOfNums (beL a3 1) ++ strOfNums (beL a4 3)).size = 4 := by rw [ByteArray.size_append, zs, zs]
  have t2 : ((strOfNums (beL a3 1) ++ strOfNums (beL a4 3)) ++ strOfNums (beL h 2)).size = 6 := by rw [ByteArray.size_append, t1, zs]
  have t3 : T.size = 10 := by rw [hT, ByteArray.size_append, t2, zs]
  have hat : impl_answerText.v a3 a4 a5 a6 = some T := by
    rw [impl_answerText.v_eq, impl_number1, Option.bind_some, impl_number3, Option.bind_some, zs, zs, if_pos (by decide), ← hh, impl_number2, Option.bind_some, t1, zs, if_pos (by decide), impl_number4, Option.bind_some, t2, zs, if_pos (by decide), ← hT]
  obtain ⟨S, hS⟩ : ∃ S, S = (((⟨#[114, 101, 112, 108, 121]⟩ : ByteArray) ++ strOfNums (beL a1 1)) ++ strOfNums (beL a2 2)) ++ T := ⟨_, rfl⟩
  have s1 : ((⟨#[114, 101, 112, 108, 121]⟩ : ByteArray) ++ strOfNums (beL a1 1)).size = 6 := by rw [ByteArray.size_append, z5, zs]
  have s2 : (((⟨#[114, 101, 112, 108, 121]⟩ : ByteArray) ++ strOfNums (beL a1 1)) ++ strOfNums (beL a2 2)).size = 8 := by rw [ByteArray.size_append, s1, zs]
  have s3 : S.size = 18 := by rw [hS, ByteArray.size_append, s2, t3]
  have hbS : bytesOf S = (((((([114, 101, 112, 108, 121, a1 % 256] : List Int) ++ beL a2 2) ++ [a3 % 256]) ++ beL a4 3) ++ beL h 2) ++ beL a6 4) := by
    rw [hS, hT]
    simp only [bytes_append, bytes_str _ (byteL_be _ _)]
    simp only [be1]
    rw [show bytesOf (⟨#[114, 101, 112, 108, 121]⟩ : ByteArray) = [114, 101, 112, 108, 121] by decide]
    simp only [List.append_assoc, List.cons_append, List.nil_append]
  obtain ⟨t, h1, h2, -⟩ := mac_both a0 S (by omega)
  have n2 : ∀ n, spec_l02Number.v n 2 = some (beL n 2) := fun n => spec_number_v n 2 (by decide)
  have n3 : ∀ n, spec_l02Number.v n 3 = some (beL n 3) := fun n => spec_number_v n 3 (by decide)
  have n4 : ∀ n, spec_l02Number.v n 4 = some (beL n 4) := fun n => spec_number_v n 4 (by decide)
  refine ⟨t, ?_, ?_⟩
  · have hp : spec_l11Plain.v a0 a1 a2 a3 a4 a5 a6 a7 = some (bytesOf S) := by
      rw [spec_l11Plain.v_eq, hbS, ← hh]
      simp only [Option.bind_some, n2, n3, n4]
      rw [if_pos (by simp [beL_len]), if_pos (by simp [beL_len]), if_pos (by simp [beL_len]), if_pos (by simp [beL_len]), if_pos (by simp [beL_len])]
    rw [spec_l11Mac.v_eq, hp, Option.bind_some, h1, Option.bind_some]
  · rw [impl_replyMac.v_eq, impl_number1, Option.bind_some, zs, if_pos (by decide), impl_number2, Option.bind_some, s1, zs, if_pos (by decide), hat, Option.bind_some, s2, t3, if_pos (by decide), ← hS, h2, Option.bind_some]
theorem answer_one (a0 a1 a2 a3 : Int) : ∃ r, spec_l05Answer.v a0 a1 a2 a3 = some r ∧ impl_isAnswer.v a0 a1 a2 a3 = some r := by
  obtain ⟨x, h1, h2⟩ := in_one a0 1 8
  obtain ⟨y, h3, h4⟩ := in_one a1 0 1000000
  obtain ⟨z, h5, h6⟩ := in_one a2 (-1) 255
  obtain ⟨u, h7, h8⟩ := in_one a3 0 2000000000
  rw [spec_l05Answer.v_eq, impl_isAnswer.v_eq]
  simp only [h1, h2, h3, h4, h5, h6, h7, h8, Option.bind_some]
  cases x <;> cases y <;> cases z <;> exact ⟨_, rfl, rfl⟩
theorem form_one (a0 a1 a2 a3 a4 a5 a6 : Int) (a7 : ByteArray) : ∃ r, spec_l11Form.v a0 a1 a2 a3 a4 a5 a6 a7 = some r ∧ impl_isReply.v a0 a1 a2 a3 a4 a5 a6 a7 = some r := by
  obtain ⟨x, h1, h2⟩ := in_one a0 0 6
  obtain ⟨y, h3, h4⟩ := in_one a1 0 255
  obtain ⟨z, h5, h6⟩ := in_one a2 1 65535
  obtain ⟨u, h7, h8⟩ := answer_one a3 a4 a5 a6
  rw [spec_l11Form.v_eq, impl_isReply.v_eq]
  simp only [h1, h2, h3, h4, h5, h6, h7, h8, Option.bind_some]
  cases x <;> cases y <;> cases z <;> exact ⟨_, rfl, rfl⟩
theorem eqReply_v (a0 a1 a2 a3 a4 a5 a6 : Int) (a7 : ByteArray) : laws_eqReply.v a0 a1 a2 a3 a4 a5 a6 a7 a0 a1 a2 a3 a4 a5 a6 a7 = some true := by
  simp [laws_eqReply.v_eq, laws_eqAnswer.v_eq]
theorem spec_l01In_v (n low high : Int) : spec_l01In.v n low high = some (inB n low high) := by
  rw [spec_l01In.v_eq]; unfold inB; split <;> simp <;> omega
theorem impl_within_v (n low high : Int) : impl_within.v n low high = some (inB n low high) := by
  rw [impl_within.v_eq]; unfold inB; split <;> simp <;> omega
theorem rd_nat (l : List Int) (i : Nat) (h : i < l.length) : rd l (i : Int) = l[i] := by
  unfold rd
  rw [List.getD, Int.toNat_natCast, List.getElem?_eq_getElem h]; rfl
theorem rdr_nat (l : List S73) (i : Nat) (h : i < l.length) : rd_T73 l (i : Int) = l[i] := by
  unfold rd_T73
  rw [List.getD, Int.toNat_natCast, List.getElem?_eq_getElem h]; rfl
theorem wrap_nat (i : Nat) (h : i ≤ 1000000000) : wrap64 ((i : Int) + 1) = ((i + 1 : Nat) : Int) := by rw [wrap_id (by omega) (by omega)]; omega
theorem has_l (l : List Int) (x : Int) (hl : l.length ≤ 1000000000) : ∀ (d i : Nat), l.length - i = d → i ≤ l.length → spec_l08Has.lv0 l x i = some ((l.drop i).contains x)
  | 0, i, h, hi => by rw [spec_l08Has.lv0_eq, if_neg (by omega), List.drop_eq_nil_of_le (by omega)]; rfl
  | d + 1, i, h, hi => by
    have hlt : i < l.length := by omega
    rw [spec_l08Has.lv0_eq, if_pos (by omega), if_pos (by omega), rd_nat l i hlt, List.drop_eq_getElem_cons hlt, List.contains_cons]
    by_cases e : l[i] = x
    · rw [if_pos e, e]; simp
    · rw [if_neg e, wrap_nat i (by omega), has_l l x hl d (i + 1) (by omega) (by omega)]
      have : (x == l[i]) = false := beq_eq_false_iff_ne.2 (fun e' => e e'.symm)
      rw [this, Bool.false_or]
theorem has_v (l : List Int) (x : Int) (hl : l.length ≤ 1000000000) : spec_l08Has.v l x = some (l.contains x) := by
  rw [spec_l08Has.v_eq]
  simpa using has_l l x hl _ 0 rfl (by omega)
theorem index_l (l : List Int) (x : Int) (hl : l.length ≤ 1000000000) : ∀ (d i : Nat), l.length - i = d → i ≤ l.length → ∃ j, slices_Index_int_int.lv0 l x (l.length : Int) i = some j ∧ decide (j ≥ 0) = (l.drop i).contains x
  | 0, i, h, hi => ⟨-1, by rw [slices_Index_int_int.lv0_eq, if_neg (by omega)], by rw [List.drop_eq_nil_of_le (by omega)]; rfl⟩
  | d + 1, i, h, hi => by
    have hlt : i < l.length := by omega
    rw [slices_Index_int_int.lv0_eq, if_pos (by omega), if_pos (by omega), if_pos (by omega), rd_nat l i hlt, List.drop_eq_getElem_cons hlt, List.contains_cons]
    by_cases e : x = l[i]
    · refine ⟨(i : Int), by rw [if_pos e], ?_⟩
      rw [e]; simp
    · obtain ⟨j, h1, h2⟩ := index_l l x hl d (i + 1) (by omega) (by omega)
      refine ⟨j, by rw [if_neg e, wrap_nat i (by omega)]; exact h1, ?_⟩
      rw [h2, beq_eq_false_iff_ne.2 e, Bool.false_or]
theorem contains_v (l : List Int) (x : Int) (hl : l.length ≤ 1000000000) : slices_Contains_int_int.v l x = some (l.contains x) := by
  obtain ⟨j, h1, h2⟩ := index_l l x hl _ 0 rfl (by omega)
  rw [slices_Contains_int_int.v_eq, slices_Index_int_int.v_eq]
  have h1' : slices_Index_int_int.lv0 l x (l.length : Int) 0 = some j := by simpa using h1
  rw [h1', Option.bind_some, h2]
  simp
theorem inB_gb {x a b : Int} (h : inB x a b = true) (ha : -9223372036854775808 ≤ a) (hb : b ≤ 9223372036854775807) : gb64 x := by
  unfold inB at h
  unfold gb64
  simp at h
  omega
theorem form_bounds {a0 a1 a2 a3 a4 a5 a6 : Int} {a7 : ByteArray} (h : spec_l11Form.v a0 a1 a2 a3 a4 a5 a6 a7 = some true) : gb64 a0 ∧ gb64 a3 ∧ gb64 a4 ∧ gb64 a5 ∧ gb64 a6 := by
  rw [spec_l11Form.v_eq, spec_l05Answer.v_eq] at h
  simp only [spec_l01In_v, Option.bind_some] at h
  by_cases c0 : inB a0 0 6 = true
  · by_cases c1 : inB a1 0 255 = true
    · by_cases c2 : inB a2 1 65535 = true
      · by_cases c3 : inB a3 1 8 = true
        · by_cases c4 : inB a4 0 1000000 = true
          · by_cases c5 : inB a5 (-1) 255 = true
            · by_cases c6 : inB a6 0 2000000000 = true
              · exact ⟨inB_gb c0 (by decide) (by decide), inB_gb c3 (by decide) (by decide), inB_gb c4 (by decide) (by decide), inB_gb c5 (by decide) (by decide), inB_gb c6 (by decide) (by decide)⟩
              · simp [c0, c1, c2, c3, c4, c5, c6] at h
            · simp [c0, c1, c2, c3, c4, c5] at h
          · simp [c0, c1, c2, c3, c4] at h
        · simp [c0, c1, c2, c3] at h
      · simp [c0, c1, c2] at h
    · simp [c0, c1] at h
  · simp [c0] at h
theorem okr_ex (n : Int) (r : S73) : ∃ b, spec_l11OK.v n r.f0 r.f1 r.f2 r.f3.f0 r.f3.f1 r.f3.f2 r.f3.f3 r.f4 = some b ∧ (spec_l04Nodes.v n = some true → impl_ReplyOK.v n r.f0 r.f1 r.f2 r.f3.f0 r.f3.f1 r.f3.f2 r.f3.f3 r.f4 = some b) ∧
    (b = true → gb64 r.f0 ∧ gb64 r.f3.f0 ∧ gb64 r.f3.f1 ∧ gb64 r.f3.f2 ∧ gb64 r.f3.f3) := by
  obtain ⟨fb, f1, f2⟩ := form_one r.f0 r.f1 r.f2 r.f3.f0 r.f3.f1 r.f3.f2 r.f3.f3 r.f4
  obtain ⟨t, r1, r2⟩ := reply_v r.f0 r.f1 r.f2 r.f3.f0 r.f3.f1 r.f3.f2 r.f3.f3 r.f4
  obtain ⟨m, h1, h2⟩ := nodes_one n
  have hc : (t.toList == r.f4.toList) = (r.f4.toList == t.toList) := by rw [Bool.eq_iff_iff, beq_iff_eq, beq_iff_eq]; exact eq_comm
  have hx : ∃ b, spec_l11OK.v n r.f0 r.f1 r.f2 r.f3.f0 r.f3.f1 r.f3.f2 r.f3.f3 r.f4 = some b ∧ (m = true → impl_ReplyOK.v n r.f0 r.f1 r.f2 r.f3.f0 r.f3.f1 r.f3.f2 r.f3.f3 r.f4 = some b) ∧ (b = true → fb = true) := by
    rw [spec_l11OK.v_eq, impl_ReplyOK.v_eq]
    simp only [h2, f1, f2, r1, r2, Option.bind_some, hc]
    cases fb
    · exact ⟨false, by simp, fun hm => by simp [hm], fun h => h⟩
    · by_cases c : r.f0 < n
      · exact ⟨(r.f4.toList == t.toList), by simp [c], fun hm => by simp [hm, c], fun _ => rfl⟩
      · exact ⟨false, by simp [c], fun hm => by simp [hm, c], fun _ => rfl⟩
  obtain ⟨b, hb, hi, hf⟩ := hx
  refine ⟨b, hb, fun hn => hi (by rw [hn] at h1; exact (Option.some.inj h1).symm), fun e => ?_⟩
  have hfb := hf e
  rw [hfb] at f1
  exact form_bounds f1
noncomputable def okr (n : Int) (r : S73) : Bool := (okr_ex n r).choose
theorem okr_s (n : Int) (r : S73) : spec_l11OK.v n r.f0 r.f1 r.f2 r.f3.f0 r.f3.f1 r.f3.f2 r.f3.f3 r.f4 = some (okr n r) := (okr_ex n r).choose_spec.1
theorem okr_i (n : Int) (r : S73) (hn : spec_l04Nodes.v n = some true) : impl_ReplyOK.v n r.f0 r.f1 r.f2 r.f3.f0 r.f3.f1 r.f3.f2 r.f3.f3 r.f4 = some (okr n r) := (okr_ex n r).choose_spec.2.1 hn
theorem okr_b (n : Int) (r : S73) (h : okr n r = true) : gb64 r.f0 ∧ gb64 r.f3.f0 ∧ gb64 r.f3.f1 ∧ gb64 r.f3.f2 ∧ gb64 r.f3.f3 := (okr_ex n r).choose_spec.2.2 h
def rkey (r : S73) : Int × Int × Int × Int := (r.f3.f0, r.f3.f1, r.f3.f2, r.f3.f3)
open Classical in
noncomputable def rstep (n c s : Int) (a : Int × Int × Int × Int) (acc : List Int) (r : S73) : List Int :=
  if okr n r = true ∧ r.f1 = c ∧ r.f2 = s ∧ rkey r = a ∧ acc.contains r.f0 = false then acc ++ [r.f0] else acc
noncomputable def rP (n c s : Int) (l : List S73) (a : Int × Int × Int × Int) (i : Nat) : List Int := (l.take i).foldl (rstep n c s a) []
theorem rP_succ {n c s : Int} {l : List S73} {a : Int × Int × Int × Int} {i : Nat} (h : i < l.length) : rP n c s l a (i + 1) = rstep n c s a (rP n c s l a i) l[i] := by
  unfold rP
  rw [List.take_succ_eq_append_getElem h, List.foldl_append]
  rfl
theorem rstep_len (n c s : Int) (a : Int × Int × Int × Int) (acc : List Int) (r : S73) : (rstep n c s a acc r).length ≤ acc.length + 1 := by
  unfold rstep
  split <;> simp
theorem rP_len (n c s : Int) (l : List S73) (a : Int × Int × Int × Int) : ∀ i, i ≤ l.length → (rP n c s l a i).length ≤ i
  | 0, _ => by simp [rP]
  | i + 1, h => by
    rw [rP_succ (by omega)]
    have := rstep_len n c s a (rP n c s l a i) l[i]
    have := rP_len n c s l a i (by omega)
    omega
theorem key_beq (x y : S73) : ((x.f3.f0 == y.f3.f0 && (x.f3.f1 == y.f3.f1 && (x.f3.f2 == y.f3.f2 && (x.f3.f3 == y.f3.f3)))) = true) ↔ rkey x = rkey y := by
  simp [rkey, and_assoc]
theorem in_l (n c s : Int) (l : List S73) (hl : l.length ≤ 4096) (i : Nat) (hi : i < l.length) : ∀ (d j : Nat), i + 1 - j = d → j ≤ i + 1 →
    spec_l11Count.lv1 n c s l i (rP n c s l (rkey l[i]) j) j = (if ((rP n c s l (rkey l[i]) (i + 1)).length : Int) > wrap64 (Int.tdiv (wrap64 (n - 1)) 3) then some (l[i].f3.f0, l[i].f3.f1, l[i].f3.f2, l[i].f3.f3, true) else spec_l11Count.lv0 n c s l ((i + 1 : Nat) : Int))
  | 0, j, h, hj => by
    obtain rfl : j = i + 1 := by omega
    rw [spec_l11Count.lv1_eq, if_neg (by omega)]
    by_cases e : ((rP n c s l (rkey l[i]) (i + 1)).length : Int) > wrap64 (Int.tdiv (wrap64 (n - 1)) 3)
    · rw [if_pos e, if_pos e, if_pos (by omega), if_pos (by omega), rdr_nat l i hi]
    · rw [if_neg e, if_neg e, wrap_nat i (by omega)]
  | d + 1, j, h, hj => by
    have hjl : j < l.length := by omega
    have ih := in_l n c s l hl i hi d (j + 1) (by omega) (by omega)
    have hlen := rP_len n c s l (rkey l[i]) j (by omega)
    rw [← ih, rP_succ hjl, spec_l11Count.lv1_eq, if_pos (by omega), if_pos (by omega), if_pos (by omega), rdr_nat l j hjl, rdr_nat l i hi, okr_s, Option.bind_some, wrap_nat j (by omega)]
    by_cases c0 : okr n l[j] = true
    · rw [if_pos c0]
      by_cases c1 : l[j].f1 = c
      · rw [if_pos c1]
        by_cases c2 : l[j].f2 = s
        · rw [if_pos c2, if_pos (by omega), if_pos (by omega)]
          by_cases c3 : rkey l[j] = rkey l[i]
          · rw [if_pos ((key_beq _ _).2 c3), has_v _ _ (by omega), Option.bind_some]
            cases c4 : (rP n c s l (rkey l[i]) j).contains l[j].f0
            · rw [if_neg (by decide), if_pos (by omega)]
              unfold rstep
              rw [if_pos ⟨c0, c1, c2, c3, c4⟩]
            · rw [if_pos rfl]
              unfold rstep
              rw [if_neg (fun hh => by rw [c4] at hh; exact absurd hh.2.2.2.2 (by decide))]
          · rw [if_neg (fun hh => c3 ((key_beq _ _).1 hh))]
            unfold rstep
            rw [if_neg (fun hh => c3 hh.2.2.2.1)]
        · rw [if_neg c2]
          unfold rstep
          rw [if_neg (fun hh => c2 hh.2.2.1)]
      · rw [if_neg c1]
        unfold rstep
        rw [if_neg (fun hh => c1 hh.2.1)]
    · rw [if_neg c0]
      unfold rstep
      rw [if_neg (fun hh => c0 hh.1)]
theorem go_l (n c s : Int) (l : List S73) (hl : l.length ≤ 4096) (hn : spec_l04Nodes.v n = some true) : ∀ (d i : Nat) (m : GMap), l.length - i = d → i ≤ l.length → m.length ≤ i → (∀ a, gl m a = rP n c s l a i) → (∀ a, ((rP n c s l a i).length : Int) ≤ wrap64 (Int.tdiv (wrap64 (n - 1)) 3)) →
    ∃ r, spec_l11Count.lv0 n c s l i = some r ∧ impl_decided.lv0 n c s m l (l.length : Int) i = some r
  | 0, i, m, h, hi, hm, hg, hf => ⟨_, by rw [spec_l11Count.lv0_eq, if_neg (by omega)], by rw [impl_decided.lv0_eq, if_neg (by omega)]⟩
  | d + 1, i, m, h, hi, hm, hg, hf => by
    have hlt : i < l.length := by omega
    have h0 : rP n c s l (rkey l[i]) 0 = [] := rfl
    have hin := in_l n c s l hl i hlt (i + 1) 0 (by omega) (by omega)
    rw [h0] at hin
    have hsp : spec_l11Count.lv0 n c s l i = (if ((rP n c s l (rkey l[i]) (i + 1)).length : Int) > wrap64 (Int.tdiv (wrap64 (n - 1)) 3) then some (l[i].f3.f0, l[i].f3.f1, l[i].f3.f2, l[i].f3.f3, true) else spec_l11Count.lv0 n c s l ((i + 1 : Nat) : Int)) := by
      rw [spec_l11Count.lv0_eq, if_pos (by omega)]
      exact hin
    -- nothing is told
    have still : (∀ a, rP n c s l a (i + 1) = rP n c s l a i) → ∃ r, spec_l11Count.lv0 n c s l i = some r ∧ impl_decided.jv1 n c s m l (l.length : Int) i true l[i].f0 l[i].f1 l[i].f2 l[i].f3.f0 l[i].f3.f1 l[i].f3.f2 l[i].f3.f3 l[i].f4 = some r := fun hs => by
      obtain ⟨r, e1, e2⟩ := go_l n c s l hl hn d (i + 1) m (by omega) (by omega) (by omega) (fun a => by rw [hs a]; exact hg a) (fun a => by rw [hs a]; exact hf a)
      refine ⟨r, ?_, ?_⟩
      · rw [hsp, hs, if_neg (by have := hf (rkey l[i]); omega)]
        exact e1
      · rw [impl_decided.jv1_eq, if_pos rfl, wrap_nat i (by omega)]
        exact e2
    rw [impl_decided.lv0_eq, if_pos (by omega), if_pos (by omega), if_pos (by omega), rdr_nat l i hlt]
    by_cases c1 : l[i].f1 = c
    · rw [if_pos c1]
      by_cases c2 : l[i].f2 = s
      · rw [if_pos c2, okr_i n _ hn, Option.bind_some]
        by_cases c0 : okr n l[i] = true
        · obtain ⟨b0, b1, b2, b3, b4⟩ := okr_b n _ c0
          have hgk := hg (rkey l[i])
          have hlen := rP_len n c s l (rkey l[i]) i (by omega)
          have hhas : gm_has.v m l[i].f3.f0 l[i].f3.f1 l[i].f3.f2 l[i].f3.f3 l[i].f0 = some ((rP n c s l (rkey l[i]) i).contains l[i].f0) := by
            rw [gm_has.v_eq, if_pos ⟨b1, b2, b3, b4, by omega⟩]
            show slices_Contains_int_int.v (gl m (rkey l[i])) l[i].f0 = _
            rw [hgk, contains_v _ _ (by omega)]
          rw [if_pos c0, hhas, Option.bind_some]
          cases c4 : (rP n c s l (rkey l[i]) i).contains l[i].f0
          · -- a new one
            have hP : ∀ a, rP n c s l a (i + 1) = gl ((rkey l[i], gl m (rkey l[i]) ++ [l[i].f0]) :: m) a := fun a => by
              rw [rP_succ hlt]
              unfold rstep gl
              by_cases e : rkey l[i] = a
              · subst e
                rw [if_pos rfl, if_pos ⟨c0, c1, c2, rfl, c4⟩, hgk]
              · rw [if_neg (fun hh => e hh.2.2.2.1)]
                simp only [e, if_false]
                exact (hg a).symm
            have hput : gm_put.v m l[i].f3.f0 l[i].f3.f1 l[i].f3.f2 l[i].f3.f3 l[i].f0 = some ((rkey l[i], gl m (rkey l[i]) ++ [l[i].f0]) :: m) := by
              rw [gm_put.v_eq, if_pos ⟨⟨b1, b2, b3, b4⟩, b0, by omega⟩]
              rfl
            have hcnt : gm_len.v ((rkey l[i], gl m (rkey l[i]) ++ [l[i].f0]) :: m) l[i].f3.f0 l[i].f3.f1 l[i].f3.f2 l[i].f3.f3 = some ((rP n c s l (rkey l[i]) (i + 1)).length : Int) := by
              rw [gm_len.v_eq, if_pos ⟨b1, b2, b3, b4, by simp; omega⟩, hP (rkey l[i])]
              rfl
            rw [impl_decided.jv1_eq, if_neg (by decide), hput, Option.bind_some, hcnt, Option.bind_some]
            by_cases e : ((rP n c s l (rkey l[i]) (i + 1)).length : Int) > wrap64 (Int.tdiv (wrap64 (n - 1)) 3)
            · exact ⟨_, by rw [hsp, if_pos e], by rw [if_pos e]⟩
            · obtain ⟨r, e1, e2⟩ := go_l n c s l hl hn d (i + 1) ((rkey l[i], gl m (rkey l[i]) ++ [l[i].f0]) :: m) (by omega) (by omega) (by simp; omega) (fun a => (hP a).symm) (fun a => by
                by_cases e' : rkey l[i] = a
                · subst e'; omega
                · rw [rP_succ hlt]
                  unfold rstep
                  rw [if_neg (fun hh => e' hh.2.2.2.1)]
                  exact hf a)
              exact ⟨r, by rw [hsp, if_neg e]; exact e1, by rw [if_neg e, wrap_nat i (by omega)]; exact e2⟩
          · exact still (fun a => by
              rw [rP_succ hlt]
              unfold rstep
              rw [if_neg (fun hh => by
                have e := hh.2.2.2.1
                have hh5 := hh.2.2.2.2
                rw [← e, c4] at hh5
                exact absurd hh5 (by decide))])
        · rw [if_neg c0]
          exact still (fun a => by
            rw [rP_succ hlt]
            unfold rstep
            rw [if_neg (fun hh => c0 hh.1)])
      · rw [if_neg c2]
        exact still (fun a => by
          rw [rP_succ hlt]
          unfold rstep
          rw [if_neg (fun hh => c2 hh.2.2.1)])
    · rw [if_neg c1]
      exact still (fun a => by
        rw [rP_succ hlt]
        unfold rstep
        rw [if_neg (fun hh => c1 hh.2.1)])
theorem nodes_f {n : Int} (hn : spec_l04Nodes.v n = some true) : (0 : Int) ≤ wrap64 (Int.tdiv (wrap64 (n - 1)) 3) := by
  rw [spec_l04Nodes.v_eq] at hn
  by_cases e1 : n = 1
  · subst e1; simp [wrap64]
  · rw [if_neg e1] at hn
    by_cases e4 : n = 4
    · subst e4; simp [wrap64]
    · rw [if_neg e4] at hn
      have e7 : n = 7 := by simpa using hn
      subst e7; simp [wrap64]
theorem decided_one (n c s : Int) (l : List S73) (hl : l.length ≤ 4096) (hn : spec_l04Nodes.v n = some true) : ∃ r, spec_l11Count.v n c s l = some r ∧ impl_decided.v n c s l = some r := by
  obtain ⟨r, h1, h2⟩ := go_l n c s l hl hn _ 0 [] rfl (by omega) (by simp) (fun a => rfl) (fun a => by simpa [rP] using nodes_f hn)
  exact ⟨r, by rw [spec_l11Count.v_eq]; simpa using h1, by rw [impl_decided.v_eq]; simpa using h2⟩
theorem szRS_l2 (l : List S117) (hl : l.length ≤ 9223372036854775806) (hg : ∀ y ∈ l, good117 y) : ∀ (d i : Nat) (x : Int), l.length - i = d → i ≤ l.length → 0 ≤ x → x ≤ 1048576 → ∃ t, laws_szReplyS.lv0 l x i = some t ∧ (t < 0 ∨ (0 ≤ t ∧ t ≤ 1048576))
  | 0, i, x, h, hi, hx, hx2 => ⟨x, by rw [laws_szReplyS.lv0_eq, if_neg (by omega)], Or.inr ⟨hx, hx2⟩⟩
  | d + 1, i, x, h, hi, hx, hx2 => by
    have hlt : i < l.length := by omega
    have hr : rd_T117 l (i : Int) = l[i] := by
      unfold rd_T117
      rw [List.getD, Int.toNat_natCast, List.getElem?_eq_getElem hlt]; rfl
    have hs : l[i].f4.size ≤ 9223372036854775807 := by
      have := hg _ (List.getElem_mem hlt)
      unfold good117 at this
      exact this.2.2.2.2
    rw [laws_szReplyS.lv0_eq, if_pos (by omega), if_pos (by omega), hr, laws_szReply.v_eq, wrap_id (x := x - _) (by omega) (by omega)]
    by_cases h2 : x - (l[i].f4.size : Int) < 0
    · rw [if_pos h2, Option.bind_some, if_pos (by omega)]; exact ⟨-1, rfl, Or.inl (by omega)⟩
    · rw [if_neg h2, Option.bind_some, if_neg h2, show wrap64 ((i : Int) + 1) = ((i + 1 : Nat) : Int) from by rw [wrap_id (by omega) (by omega)]; omega]
      exact szRS_l2 l hl hg d (i + 1) _ (by omega) (by omega) (by omega) (by omega)
def repTo (v : S117) : S73 := ⟨v.f0, v.f1, v.f2, ⟨v.f3.f0, v.f3.f1, v.f3.f2, v.f3.f3⟩, v.f4⟩
theorem toRS_v (l : List S117) (h : l.length ≤ 1048576) : laws_toReplyS.v l = some (l.map repTo) := by
  rw [laws_toReplyS.v_eq, if_pos (by omega), if_pos (by omega)]
  exact copy_loop z117 repTo l (by omega) (fun acc i => laws_toReplyS.lv0 l acc i) (fun acc i h0 h1 h2 => by
    show laws_toReplyS.lv0 l acc i = _
    rw [laws_toReplyS.lv0_eq, if_pos h1, if_pos h0, laws_toReply.v_eq, laws_toAnswer.v_eq, Option.bind_some, Option.bind_some, if_pos (by omega)]; rfl) (fun acc i h0 => by
    show laws_toReplyS.lv0 l acc i = _
    rw [laws_toReplyS.lv0_eq, if_neg (by omega)]) l.length (List.replicate ((l.length : Int) : Int).toNat z73) 0 (by omega) (by omega) (by omega) (by simp) (fun j hj => by omega)
theorem eqRS_v (l : List S73) (h : l.length ≤ 281474976710656) : laws_eqReplyS.v l l = some true := by
  rw [laws_eqReplyS.v_eq, if_pos rfl, loop_all (L := fun i => laws_eqReplyS.lv0 l l i) (fun _ => true) l.length (by omega) (fun i h0 h1 => by
    show laws_eqReplyS.lv0 l l i = _
    rw [laws_eqReplyS.lv0_eq, if_pos h1, if_pos h0, if_pos h1, eqReply_v, Option.bind_some]) (fun i h0 h1 => by
    show laws_eqReplyS.lv0 l l i = _
    rw [laws_eqReplyS.lv0_eq, if_neg (by omega)]) _ 0 rfl (by omega), (allI_iff _ _ _ _ rfl).2 (fun _ _ _ => rfl)]
theorem spec_l00Letter_v (c : Int) : spec_l00Letter.v c = some (letterB c) := by
  rw [spec_l00Letter.v_eq]; unfold letterB; repeat' split
  all_goals (congr 1; rw [Bool.eq_iff_iff]; simp <;> omega)
theorem impl_isLetter_v (c : Int) : impl_isLetter.v c = some (letterB c) := by
  rw [impl_isLetter.v_eq]; unfold letterB; repeat' split
  all_goals (congr 1; rw [Bool.eq_iff_iff]; simp <;> omega)
theorem spec_l00Digit_v (c : Int) : spec_l00Digit.v c = some (digitB c) := by
  rw [spec_l00Digit.v_eq]; unfold digitB; split <;> simp <;> omega
theorem spec_l00Word_l (s : ByteArray) (hs : s.size ≤ 9223372036854775807) (i : Int) (h : 0 ≤ i) : spec_l00Word.lv0 s i = some (allI (fun j => letterB (bt s j) || digitB (bt s j)) i s.size) := by
  refine loop_all _ s.size (by omega) (fun i h0 h1 => ?_) (fun i h0 h1 => ?_) _ i rfl h
  · rw [spec_l00Word.lv0_eq, if_pos h1, if_pos h0, spec_l00Letter_v, spec_l00Digit_v]
    simp only [Option.bind_some]
    cases letterB (bt s i) <;> cases digitB (bt s i) <;> simp
  · rw [spec_l00Word.lv0_eq, if_neg (by omega)]
theorem impl_NameOK_l (s : ByteArray) (hs : s.size ≤ 9223372036854775807) (i : Int) (h : 0 ≤ i) : impl_NameOK.lv0 s s.size i = some (allI (fun j => letterB (bt s j) || digitB (bt s j)) i s.size) := by
  refine loop_all (L := fun i => impl_NameOK.lv0 s s.size i) _ s.size (by omega) (fun i h0 h1 => ?_) (fun i h0 h1 => ?_) _ i rfl h
  · rw [impl_NameOK.lv0_eq, if_pos h1, if_pos h0, if_pos h1, impl_isLetter_v]
    simp only [Option.bind_some]
    cases letterB (bt s i) <;> simp [digitB]
    by_cases h2 : bt s i < 48
    · simp [h2, show ¬ 48 ≤ bt s i by omega]
    · by_cases h3 : 57 < bt s i
      · simp [h2, h3, show ¬ bt s i ≤ 57 by omega]
      · simp [h2, h3, show 48 ≤ bt s i by omega, show bt s i ≤ 57 by omega]
  · rw [impl_NameOK.lv0_eq, if_neg (by omega)]
theorem spec_NameOK_v (s : ByteArray) (hs : s.size ≤ 9223372036854775807) : spec_NameOK.v s = some (nameB s) := by
  rw [spec_NameOK.v_eq, spec_l00Word.v_eq]
  simp only [spec_l00Letter_v, spec_l00Word.jv0_eq, spec_l00Word_l s hs 1 (by omega), Option.bind_some, nameB]
  by_cases h1 : (s.size : Int) < 1
  · simp [h1]; omega
  · by_cases h2 : (s.size : Int) > 40
    · simp [h1, h2]; omega
    · simp only [if_neg h1, if_neg h2, if_pos (show 0 < (s.size : Int) by omega), Option.bind_some, show (1 ≤ s.size ∧ s.size ≤ 40) = True by simp; omega]
      cases letterB (bt s 0) <;> simp
theorem impl_NameOK_v (s : ByteArray) (hs : s.size ≤ 9223372036854775807) : impl_NameOK.v s = some (nameB s) := by
  rw [impl_NameOK.v_eq]
  simp only [impl_isLetter_v, impl_NameOK.jv0_eq, impl_NameOK_l s hs 0 (by omega), Option.bind_some, nameB]
  by_cases h1 : (s.size : Int) < 1
  · simp [h1]; omega
  · by_cases h2 : (s.size : Int) > 40
    · simp [h1, h2]; omega
    · simp only [if_neg h1, if_neg h2, if_pos (show 0 < (s.size : Int) by omega), Option.bind_some, show (1 ≤ s.size ∧ s.size ≤ 40) = True by simp; omega]
      rw [allI_step (i := 0) (by omega)]
      cases letterB (bt s 0) <;> simp
theorem spec_l02Text_v (s : ByteArray) (n : Int) (hs : s.size ≤ 9223372036854775807) : spec_l02Text.v s n = some (decide ((s.size : Int) ≤ n) && nameB s) := by
  rw [spec_l02Text.v_eq, spec_l01In_v, spec_NameOK_v s hs]
  simp only [Option.bind_some, inB]
  by_cases h : (1 : Int) ≤ s.size ∧ (s.size : Int) ≤ n
  · simp [h]
  · by_cases h2 : (s.size : Int) ≤ n
    · simp [h, h2, nameB, show ¬ (1 ≤ s.size) by omega]
    · simp [h, h2]
theorem impl_isOpName_v (s : ByteArray) (hs : s.size ≤ 9223372036854775807) : impl_isOpName.v s = some (decide ((s.size : Int) ≤ 12) && nameB s) := by
  rw [impl_isOpName.v_eq, impl_NameOK_v s hs]
  by_cases h : (s.size : Int) ≤ 12 <;> simp [h]
def reqB (c st k ls : Int) (nm : ByteArray) : Bool :=
  inB c 0 255 && inB st 1 65535 && inB k 1 4 && inB ls 0 1000 && (decide ((nm.size : Int) ≤ 12) && nameB nm) && (decide (ls > 0) == decide (k = 1 ∨ k = 3))
theorem spec_RequestOK_v (c st k ls : Int) (nm : ByteArray) (h : nm.size ≤ 9223372036854775807) : spec_RequestOK.v c st k ls nm = some (reqB c st k ls nm) := by
  rw [spec_RequestOK.v_eq]
  simp only [spec_l01In_v, Option.bind_some, spec_l02Text_v nm 12 h, reqB]
  generalize (decide ((nm.size : Int) ≤ 12) && nameB nm) = q
  cases inB c 0 255 <;> cases inB st 1 65535 <;> cases inB k 1 4 <;> cases inB ls 0 1000 <;> cases q <;> simp
  by_cases h1 : k = 1
  · simp [h1]
  · by_cases h2 : k = 3
    · simp [h2]
    · simp [h1, h2, show (k == 3) = false by simpa using h2]
theorem impl_RequestOK_v (c st k ls : Int) (nm : ByteArray) (h : nm.size ≤ 9223372036854775807) : impl_RequestOK.v c st k ls nm = some (reqB c st k ls nm) := by
  have e : impl_RequestOK.v c st k ls nm = impl_RequestOK.jv1 (if k = 1 ∨ k = 3 then 1 else 0) (if k = 1 ∨ k = 3 then 1000 else 0) c st k ls nm := by
    rw [impl_RequestOK.v_eq]
    by_cases h1 : k = 1
    · simp [h1, impl_RequestOK.jv0_eq]
    · by_cases h2 : k = 3
      · simp [h2, impl_RequestOK.jv0_eq]
      · simp [h1, h2, impl_RequestOK.jv0_eq, show (k == 3) = false by simpa using h2]
  rw [e, impl_RequestOK.jv1_eq]
  simp only [impl_within_v, Option.bind_some, impl_isOpName_v nm h, reqB]
  generalize (decide ((nm.size : Int) ≤ 12) && nameB nm) = q
  by_cases hk : k = 1 ∨ k = 3
  · have e2 : inB ls 1 1000 = (inB ls 0 1000 && decide (ls > 0)) := by unfold inB; rw [Bool.eq_iff_iff]; simp; omega
    simp only [if_pos hk, e2, decide_eq_true hk]
    cases inB c 0 255 <;> cases inB st 1 65535 <;> cases inB k 1 4 <;> cases inB ls 0 1000 <;> cases q <;> cases decide (ls > 0) <;> simp
  · have e2 : inB ls 0 0 = (inB ls 0 1000 && !decide (ls > 0)) := by unfold inB; rw [Bool.eq_iff_iff]; simp; omega
    simp only [if_neg hk, e2, decide_eq_false hk]
    cases inB c 0 255 <;> cases inB st 1 65535 <;> cases inB k 1 4 <;> cases inB ls 0 1000 <;> cases q <;> cases decide (ls > 0) <;> simp
theorem ans_ex (y : S63) : ∃ r, spec_l05Answer.v y.f0 y.f1 y.f2 y.f3 = some r ∧ impl_isAnswer.v y.f0 y.f1 y.f2 y.f3 = some r := answer_one y.f0 y.f1 y.f2 y.f3
noncomputable def ansB (y : S63) : Bool := (ans_ex y).choose
theorem ansB_s (y : S63) : spec_l05Answer.v y.f0 y.f1 y.f2 y.f3 = some (ansB y) := (ans_ex y).choose_spec.1
theorem ansB_i (y : S63) : impl_isAnswer.v y.f0 y.f1 y.f2 y.f3 = some (ansB y) := (ans_ex y).choose_spec.2
theorem rda_nat (l : List S63) (i : Nat) (h : i < l.length) : rd_T63 l (i : Int) = l[i] := by
  unfold rd_T63
  rw [List.getD, Int.toNat_natCast, List.getElem?_eq_getElem h]; rfl
theorem wrap_n2 (i : Nat) (h : i ≤ 10000000) : wrap64 ((i : Int) + 1) = ((i + 1 : Nat) : Int) := by rw [wrap_id (by omega) (by omega)]; omega
theorem sacc_l (n i0 i1 : Int) (bz : Bool) (r0 r1 r2 r3 : Int) (r4 : ByteArray) (L : List S73) (acc : List S63) (hl : acc.length ≤ 1048576) : ∀ (d i : Nat), acc.length - i = d → i ≤ acc.length →
    spec_ClientOK.lv0 n i i0 i1 bz r0 r1 r2 r3 r4 L acc = (if (acc.drop i).all ansB = true then spec_ClientOK.lv0 n acc.length i0 i1 bz r0 r1 r2 r3 r4 L acc else some false)
  | 0, i, h, hi => by
    obtain rfl : i = acc.length := by omega
    rw [List.drop_length, List.all_nil, if_pos rfl]
  | d + 1, i, h, hi => by
    have hlt : i < acc.length := by omega
    rw [spec_ClientOK.lv0_eq, if_pos (by omega), if_pos (by omega), rda_nat acc i hlt, ansB_s, Option.bind_some, wrap_n2 i (by omega), sacc_l n i0 i1 bz r0 r1 r2 r3 r4 L acc hl d (i + 1) (by omega) (by omega), List.drop_eq_getElem_cons hlt, List.all_cons]
    cases ansB acc[i] <;> simp
theorem iacc_v (acc : List S63) : contains_impl_ClientOK_1.v acc = some (!(acc.all ansB)) := by
  rw [contains_impl_ClientOK_1.v_eq]
  congr 1
  rw [List.not_all_eq_any_not]
  congr 1
  funext y
  rw [impl_ClientOK_1.v_eq, ansB_i]
  rfl
noncomputable def vldB (n i0 i1 : Int) (r : S73) : Bool := okr n r && (r.f1 == i0 && r.f2 == i1)
theorem srep_l (n i0 i1 : Int) (bz : Bool) (r0 r1 r2 r3 : Int) (r4 : ByteArray) (L : List S73) (acc : List S63) (hl : L.length ≤ 1048576) : ∀ (d i : Nat), L.length - i = d → i ≤ L.length →
    spec_ClientOK.lv1 n i i0 i1 bz r0 r1 r2 r3 r4 L acc = (if (L.drop i).all (vldB n i0 i1) = true then (spec_l11Count.v n i0 i1 L).bind fun t => some (!t.2.2.2.2) else some false)
  | 0, i, h, hi => by
    obtain rfl : i = L.length := by omega
    rw [List.drop_length, List.all_nil, if_pos rfl, spec_ClientOK.lv1_eq, if_neg (by omega)]
  | d + 1, i, h, hi => by
    have hlt : i < L.length := by omega
    rw [spec_ClientOK.lv1_eq, if_pos (by omega), if_pos (by omega), rdr_nat L i hlt, okr_s, Option.bind_some, wrap_n2 i (by omega), srep_l n i0 i1 bz r0 r1 r2 r3 r4 L acc hl d (i + 1) (by omega) (by omega), List.drop_eq_getElem_cons hlt, List.all_cons]
    unfold vldB
    cases okr n L[i]
    · simp
    · by_cases c1 : L[i].f1 = i0
      · by_cases c2 : L[i].f2 = i1
        · simp [c1, c2]
        · simp [c1, c2]
      · simp [c1]
theorem irep_l (n i0 i1 : Int) (bz : Bool) (r0 r1 r2 r3 : Int) (r4 : ByteArray) (L : List S73) (acc : List S63) (hl : L.length ≤ 1048576) (hn : spec_l04Nodes.v n = some true) : ∀ (d i : Nat), L.length - i = d → i ≤ L.length →
    impl_ClientOK.lv0 n L (L.length : Int) i i0 i1 bz r0 r1 r2 r3 r4 L acc = (if (L.drop i).all (vldB n i0 i1) = true then (impl_decided.v n i0 i1 L).bind fun t => some (!t.2.2.2.2) else some false)
  | 0, i, h, hi => by
    obtain rfl : i = L.length := by omega
    rw [List.drop_length, List.all_nil, if_pos rfl, impl_ClientOK.lv0_eq, if_neg (by omega)]
  | d + 1, i, h, hi => by
    have hlt : i < L.length := by omega
    rw [impl_ClientOK.lv0_eq, if_pos (by omega), if_pos (by omega), if_pos (by omega), rdr_nat L i hlt, okr_i n _ hn, Option.bind_some, wrap_n2 i (by omega), irep_l n i0 i1 bz r0 r1 r2 r3 r4 L acc hl hn d (i + 1) (by omega) (by omega), List.drop_eq_getElem_cons hlt, List.all_cons]
    unfold vldB
    cases okr n L[i]
    · simp
    · by_cases c1 : L[i].f1 = i0
      · by_cases c2 : L[i].f2 = i1
        · simp [c1, c2]
        · simp [c1, c2]
      · simp [c1]
theorem client_one (n i0 i1 : Int) (bz : Bool) (r0 r1 r2 r3 : Int) (r4 : ByteArray) (L : List S73) (acc : List S63) (h4 : r4.size ≤ 9223372036854775807) (hL : L.length ≤ 1048576) (hA : acc.length ≤ 1048576) : ∃ r, spec_ClientOK.v n i0 i1 bz r0 r1 r2 r3 r4 L acc = some r ∧ impl_ClientOK.v n i0 i1 bz r0 r1 r2 r3 r4 L acc = some r := by
  obtain ⟨m, m1, m2⟩ := nodes_one n
  obtain ⟨x, x1, x2⟩ := in_one i0 0 255
  obtain ⟨y, y1, y2⟩ := in_one i1 0 65535
  rw [spec_ClientOK.v_eq, impl_ClientOK.v_eq, m1, m2, Option.bind_some, Option.bind_some]
  have hj : ∃ r, spec_ClientOK.jv0 n true i0 i1 bz r0 r1 r2 r3 r4 L acc = some r ∧ impl_ClientOK.jv0 n true i0 i1 bz r0 r1 r2 r3 r4 L acc = some r := ⟨false, by rw [spec_ClientOK.jv0_eq, if_pos rfl], by rw [impl_ClientOK.jv0_eq, if_pos rfl]⟩
  cases m
  · exact hj
  rw [if_pos rfl, if_pos rfl, x1, x2, Option.bind_some, Option.bind_some]
  cases x
  · exact hj
  rw [if_pos rfl, if_pos rfl, y1, y2, Option.bind_some, Option.bind_some]
  cases y
  · exact hj
  rw [if_pos rfl, if_pos rfl, iacc_v, Option.bind_some]
  have hs : spec_ClientOK.lv0 n 0 i0 i1 bz r0 r1 r2 r3 r4 L acc = (if acc.all ansB = true then spec_ClientOK.lv0 n acc.length i0 i1 bz r0 r1 r2 r3 r4 L acc else some false) := by
    simpa using sacc_l n i0 i1 bz r0 r1 r2 r3 r4 L acc hA _ 0 rfl (by omega)
  have hs1 : spec_ClientOK.lv1 n 0 i0 i1 bz r0 r1 r2 r3 r4 L acc = (if L.all (vldB n i0 i1) = true then (spec_l11Count.v n i0 i1 L).bind fun t => some (!t.2.2.2.2) else some false) := by
    simpa using srep_l n i0 i1 bz r0 r1 r2 r3 r4 L acc hL _ 0 rfl (by omega)
  have hi1 : impl_ClientOK.lv0 n L (L.length : Int) 0 i0 i1 bz r0 r1 r2 r3 r4 L acc = (if L.all (vldB n i0 i1) = true then (impl_decided.v n i0 i1 L).bind fun t => some (!t.2.2.2.2) else some false) := by
    simpa using irep_l n i0 i1 bz r0 r1 r2 r3 r4 L acc hL m1 _ 0 rfl (by omega)
  by_cases c40 : (L.length : Int) > 40
  · -- too many replies: false on both sides
    rw [decide_eq_true c40, spec_ClientOK.jv0_eq, if_pos rfl]
    refine ⟨false, rfl, ?_⟩
    rw [impl_ClientOK.jv0_eq]
    cases acc.all ansB
    · rfl
    · rw [if_neg (by decide)]
      cases bz
      · rw [if_neg (by decide)]
        have hl0 : ((L.length : Int) == 0) = false := beq_eq_false_iff_ne.2 (by omega)
        rw [hl0]
        repeat' split
        all_goals rfl
      · rw [if_pos rfl, impl_isCall.v_eq, impl_RequestOK_v _ _ _ _ _ h4, Option.bind_some]
        have jt : ∀ b, impl_ClientOK.jv1 n true i0 i1 b r0 r1 r2 r3 r4 L acc = some false := fun b => by rw [impl_ClientOK.jv1_eq, if_pos rfl]
        rw [decide_eq_true c40]
        simp only [jt]
        repeat' split
        all_goals first | rfl | simp
  rw [decide_eq_false c40, spec_ClientOK.jv0_eq, if_neg (by decide), hs, impl_ClientOK.jv0_eq]
  cases acc.all ansB
  · exact ⟨false, by rw [if_neg (by decide)], by rw [Bool.not_false, if_pos rfl]⟩
  rw [Bool.not_true, if_pos rfl, if_neg (by decide), spec_ClientOK.lv0_eq, if_neg (by omega)]
  cases bz
  · rw [if_neg (show ¬ (false = true) by decide), if_neg (show ¬ (false = true) by decide)]
    generalize (r0 == 0 && (r1 == 0 && (r2 == 0 && (r3 == 0 && (r4.toList == ([] : List UInt8)))))) = X
    by_cases c2 : (L.length : Int) = 0
    · have e2 : ((L.length : Int) == 0) = true := beq_iff_eq.2 c2
      rw [e2, if_pos c2]
      cases X <;> by_cases c1 : (acc.length : Int) = i1 <;> simp [c1]
    · have e2 : ((L.length : Int) == 0) = false := beq_eq_false_iff_ne.2 c2
      rw [e2, if_neg c2]
      cases X <;> by_cases c1 : (acc.length : Int) = i1 <;> simp [c1]
  · rw [if_pos rfl, if_pos rfl, impl_isCall.v_eq, impl_RequestOK_v _ _ _ _ _ h4, spec_RequestOK_v _ _ _ _ _ h4, Option.bind_some, Option.bind_some]
    obtain ⟨q, q1, q2⟩ := decided_one n i0 i1 L (by omega) m1
    have jt : ∃ r, spec_ClientOK.jv2 n true i0 i1 true r0 r1 r2 r3 r4 L acc = some r ∧ impl_ClientOK.jv1 n true i0 i1 true r0 r1 r2 r3 r4 L acc = some r := ⟨false, by rw [spec_ClientOK.jv2_eq, if_pos rfl], by rw [impl_ClientOK.jv1_eq, if_pos rfl]⟩
    have jf : ∃ r, spec_ClientOK.jv2 n false i0 i1 true r0 r1 r2 r3 r4 L acc = some r ∧ impl_ClientOK.jv1 n false i0 i1 true r0 r1 r2 r3 r4 L acc = some r := by
      rw [spec_ClientOK.jv2_eq, if_neg (by decide), impl_ClientOK.jv1_eq, if_neg (by decide), hs1, hi1, q1, q2]
      by_cases c : L.all (vldB n i0 i1) = true
      · exact ⟨_, by rw [if_pos c, Option.bind_some], by rw [if_pos c, Option.bind_some]⟩
      · exact ⟨_, by rw [if_neg c], by rw [if_neg c]⟩
    obtain ⟨t, t1, t2⟩ := jt
    obtain ⟨u, u1, u2⟩ := jf
    have t0 : t = false := by rw [spec_ClientOK.jv2_eq, if_pos rfl] at t1; exact (Option.some.inj t1).symm
    subst t0
    have t1s : spec_ClientOK.jv2 n true i0 i1 true r0 r1 r2 r3 r4 L acc = some false := t1
    by_cases c1 : (acc.length : Int) = wrap64 (i1 - 1)
    · have e1 : ((acc.length : Int) != wrap64 (i1 - 1)) = false := bne_eq_false_iff_eq.2 c1
      rw [if_pos c1, e1, decide_eq_false c40]
      cases reqB r0 r1 r2 r3 r4
      · exact ⟨false, by simp [t1], by simp [t2]⟩
      · by_cases c2 : r0 = i0
        · by_cases c3 : r1 = i1
          · subst c2
            subst c3
            exact ⟨u, by simp [u1], by simp [u2]⟩
          · have e3 : (r1 == i1) = false := beq_eq_false_iff_ne.2 c3
            subst c2
            exact ⟨false, by simp [c3, t1], by simp [e3, t2]⟩
        · exact ⟨false, by simp [c2, t1], by simp [c2, t2]⟩
    · have e1 : ((acc.length : Int) != wrap64 (i1 - 1)) = true := bne_iff_ne.2 c1
      rw [if_neg c1, e1]
      refine ⟨false, ?_, t2⟩
      cases reqB r0 r1 r2 r3 r4
      · simp [t1]
      · by_cases c2 : r0 = i0
        · subst c2
          by_cases c3 : r1 = i1
          · subst c3
            simp [t1]
          · simp [c3, t1]
        · simp [c2, t1]
def ansTo (v : S115) : S63 := ⟨v.f0, v.f1, v.f2, v.f3⟩
theorem toAS_v (l : List S115) (h : l.length ≤ 1048576) : laws_toAnswerS.v l = some (l.map ansTo) := by
  rw [laws_toAnswerS.v_eq, if_pos (by omega), if_pos (by omega)]
  exact copy_loop z115 ansTo l (by omega) (fun acc i => laws_toAnswerS.lv0 l acc i) (fun acc i h0 h1 h2 => by
    show laws_toAnswerS.lv0 l acc i = _
    rw [laws_toAnswerS.lv0_eq, if_pos h1, if_pos h0, laws_toAnswer.v_eq, Option.bind_some, if_pos (by omega)]; rfl) (fun acc i h0 => by
    show laws_toAnswerS.lv0 l acc i = _
    rw [laws_toAnswerS.lv0_eq, if_neg (by omega)]) l.length (List.replicate ((l.length : Int) : Int).toNat z63) 0 (by omega) (by omega) (by omega) (by simp) (fun j hj => by omega)
theorem eqAS_v (l : List S63) (h : l.length ≤ 281474976710656) : laws_eqAnswerS.v l l = some true := by
  rw [laws_eqAnswerS.v_eq, if_pos rfl, loop_all (L := fun i => laws_eqAnswerS.lv0 l l i) (fun _ => true) l.length (by omega) (fun i h0 h1 => by
    show laws_eqAnswerS.lv0 l l i = _
    rw [laws_eqAnswerS.lv0_eq, if_pos h1, if_pos h0, if_pos h1, laws_eqAnswer.v_eq]
    simp only [if_true, Option.bind_some]) (fun i h0 h1 => by
    show laws_eqAnswerS.lv0 l l i = _
    rw [laws_eqAnswerS.lv0_eq, if_neg (by omega)]) _ 0 rfl (by omega), (allI_iff _ _ _ _ rfl).2 (fun _ _ _ => rfl)]
theorem szRS_t (l : List S117) (hl : l.length ≤ 9223372036854775807) (hg : ∀ y ∈ l, good117 y) (x : Int) (h0 : 0 ≤ x) (h1 : x ≤ 1048576) : ∃ t, laws_szReplyS.v l x = some t ∧ (t < 0 ∨ (0 ≤ t ∧ t ≤ 1048576 ∧ l.length ≤ 1048576)) := by
  rw [laws_szReplyS.v_eq, wrap_id (x := x - (l.length : Int)) (by omega) (by omega)]
  by_cases h2 : x - (l.length : Int) < 0
  · rw [if_pos h2]; exact ⟨-1, rfl, Or.inl (by omega)⟩
  · obtain ⟨t, e, ht⟩ := szRS_l2 l (by omega) hg _ 0 (x - (l.length : Int)) rfl (by omega) (by omega) (by omega)
    rw [if_neg h2]
    exact ⟨t, by simpa using e, by omega⟩
theorem FnExactClientOK_pure (a0 : Int) (y1 : S82) : (Lit.int .i64 a0).wf = true → good82 y1 → laws_FnExactClientOK.v a0 y1.f0 y1.f1 y1.f2 y1.f3.f0 y1.f3.f1 y1.f3.f2 y1.f3.f3 y1.f3.f4 y1.f4 y1.f5 = some true := by
  intro _ hg
  unfold good82 at hg
  obtain ⟨_, _, _, hq, ⟨hr1, hr2⟩, ⟨ha1, ha2⟩⟩ := hg
  have h4 : y1.f3.f4.size ≤ 9223372036854775807 := by unfold good79 at hq; exact hq.2.2.2.2
  rw [laws_FnExactClientOK.v_eq, laws_szClient.v_eq, laws_szRequest.v_eq, wrap_id (x := 1048576 - (y1.f3.f4.size : Int)) (by omega) (by omega)]
  by_cases n1 : 1048576 - (y1.f3.f4.size : Int) < 0
  · rw [if_pos n1, Option.bind_some, if_pos (by decide), Option.bind_some, if_pos (by decide)]
  obtain ⟨t, e, ht⟩ := szRS_t y1.f4 hr1 hr2 (1048576 - (y1.f3.f4.size : Int)) (by omega) (by omega)
  rw [if_neg n1, Option.bind_some, if_neg n1, e, Option.bind_some]
  by_cases n2 : t < 0
  · rw [if_pos n2, Option.bind_some, if_pos (by decide)]
  rw [if_neg n2, laws_szAnswerS.v_eq, wrap_id (x := t - (y1.f5.length : Int)) (by omega) (by omega)]
  by_cases n3 : t - (y1.f5.length : Int) < 0
  · rw [if_pos n3, Option.bind_some, if_pos (by decide), Option.bind_some, if_pos (by decide)]
  have hA : y1.f5.length ≤ 1048576 := by omega
  have hL : y1.f4.length ≤ 1048576 := by omega
  rw [if_neg n3, Option.bind_some, if_neg n3, Option.bind_some, if_neg n3, laws_toClient.v_eq, laws_toRequest.v_eq, Option.bind_some, toRS_v _ hL, Option.bind_some, toAS_v _ hA, Option.bind_some, Option.bind_some]
  obtain ⟨r, h1, h2⟩ := client_one a0 y1.f0 y1.f1 y1.f2 y1.f3.f0 y1.f3.f1 y1.f3.f2 y1.f3.f3 y1.f3.f4 (y1.f4.map repTo) (y1.f5.map ansTo) h4 (by simpa using hL) (by simpa using hA)
  rw [h1, Option.bind_some, Option.bind_some, h2, Option.bind_some, bne_self_eq_false, if_neg (by decide), Option.bind_some, laws_eqClient.v_eq, laws_eqRequest.v_eq]
  simp only [if_true, bne_self_eq_false, Bool.false_eq_true, if_false, Option.bind_some]
  rw [eqRS_v _ (by simp; omega), Option.bind_some, if_pos rfl, eqAS_v _ (by simp; omega), Option.bind_some, if_pos rfl, Option.bind_some, if_pos rfl]
end Go.Proofs.YtlifdodphkimpaaDoor.B
end
