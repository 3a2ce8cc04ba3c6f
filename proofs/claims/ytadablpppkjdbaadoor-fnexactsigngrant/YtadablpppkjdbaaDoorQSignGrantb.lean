/- A part of the proof that FnExactSignGrant returns true at every input: plain functions, contracts and lemmas. No conditions. -/
import Derived.Test.YtadablpppkjdbaaDoorQSignGranta
set_option linter.unusedVariables false
set_option linter.unusedSimpArgs false
set_option linter.unusedSectionVars false
section
namespace Go.Proofs.YtadablpppkjdbaaDoor.B
open Go.RowKit Go.Proofs.YtadablpppkjdbaaDoorW.PrintWords Go.Proofs.YtadablpppkjdbaaDoorW.PrintLast Go.Proofs.YtadablpppkjdbaaDoorW.PrintMore
attribute [local go_sem] max2_int min2_int max_two min_two max_three min_three max_four min_four
def spec_GrantOK.f (k : Nat) (a0_0 : ByteArray) (a0_1 : Int) (a0_2 : Int) (a0_3 : Int) : Option (Bool) := (spec_l02Text.f k a0_0 12).bind fun t937 => (if t937 = true then ((spec_l01In.f a0_1 0 255).bind fun t938 => (if t938 = true then ((spec_l01In.f a0_2 1 1000000).bind fun t939 => (if t939 = true then ((spec_l01In.f a0_3 0 2000000000).bind fun t940 => (some t940)) else (some false))) else (some false))) else (some false))
theorem spec_GrantOK.mono : ∀ a0 a1 a2 a3 k, LeO (spec_GrantOK.f k a0 a1 a2 a3) (spec_GrantOK.f (k + 1) a0 a1 a2 a3) := by
  intro a0 a1 a2 a3 k
  unfold spec_GrantOK.f
  repeat' first
      | (with_reducible exact spec_l02Text.mono _ _ _)
      | (with_reducible exact LeO.refl _)
      | (with_reducible exact LeO.none _)
      | (with_reducible refine LeO.ite ?_ ?_)
      | (with_reducible refine LeO.bind ?_ (fun _ => ?_))
      | exact spec_l02Text.mono _ _ _
      | exact LeO.none _
      | refine LeO.ite ?_ ?_
      | refine LeO.bind ?_ (fun _ => ?_)
noncomputable def spec_GrantOK.v (a0_0 : ByteArray) (a0_1 : Int) (a0_2 : Int) (a0_3 : Int) : Option (Bool) := lim (fun k_ => spec_GrantOK.f k_ a0_0 a0_1 a0_2 a0_3)
theorem spec_GrantOK.v_lim (a0_0 : ByteArray) (a0_1 : Int) (a0_2 : Int) (a0_3 : Int) : LimIs (fun k_ => spec_GrantOK.f k_ a0_0 a0_1 a0_2 a0_3) (spec_GrantOK.v a0_0 a0_1 a0_2 a0_3) := lim_is (fun k_ => spec_GrantOK.mono a0_0 a0_1 a0_2 a0_3 k_)
theorem spec_GrantOK.v_eq (a0_0 : ByteArray) (a0_1 : Int) (a0_2 : Int) (a0_3 : Int) : spec_GrantOK.v a0_0 a0_1 a0_2 a0_3 = ((spec_l02Text.v a0_0 12).bind fun t937 => (if t937 = true then ((spec_l01In.v a0_1 0 255).bind fun t938 => (if t938 = true then ((spec_l01In.v a0_2 1 1000000).bind fun t939 => (if t939 = true then ((spec_l01In.v a0_3 0 2000000000).bind fun t940 => (some t940)) else (some false))) else (some false))) else (some false)) : Option (Bool)) := by
  refine LimIs.eq (spec_GrantOK.v_lim a0_0 a0_1 a0_2 a0_3) ?_
  simp only [spec_GrantOK.f]
  repeat' (with_reducible first | exact spec_l01In.v_lim _ _ _ | exact spec_l02Text.v_lim _ _ | exact LimIs.const _ | refine LimIs.ite ?_ ?_ | refine LimIs.bind ?_ (fun _ => ?_))
def spec_l03Secret.f (k : Nat) (a0 : ByteArray) (a1 : Int) (a2 : Int) (a3 : Int) : Option (ByteArray) := if 6 + a0.size ≤ 9223372036854775807 then ((some (([(a1) % 256, (a2) % 256, (a3) % 256] : List Int) : List Int)).bind fun y941 => (if ((⟨#[115, 101, 99, 114, 101, 116]⟩ : ByteArray) ++ a0).size + (strOfNums y941).size ≤ 9223372036854775807 then (if (((⟨#[115, 101, 99, 114, 101, 116]⟩ : ByteArray) ++ a0) ++ (strOfNums y941)).size ≤ 140737488355328 then ((spec_l01Hash.f k (bytesOf (((⟨#[115, 101, 99, 114, 101, 116]⟩ : ByteArray) ++ a0) ++ (strOfNums y941)))).bind fun t947 => (some t947)) else (none)) else (none))) else (none)
theorem spec_l03Secret.mono : ∀ a0 a1 a2 a3 k, LeO (spec_l03Secret.f k a0 a1 a2 a3) (spec_l03Secret.f (k + 1) a0 a1 a2 a3) := by
  intro a0 a1 a2 a3 k
  unfold spec_l03Secret.f
  repeat' first
      | (with_reducible exact spec_l01Hash.mono _ _)
      | (with_reducible exact LeO.refl _)
      | (with_reducible exact LeO.none _)
      | (with_reducible refine LeO.ite ?_ ?_)
      | (with_reducible refine LeO.bind ?_ (fun _ => ?_))
      | exact spec_l01Hash.mono _ _
      | exact LeO.none _
      | refine LeO.ite ?_ ?_
      | refine LeO.bind ?_ (fun _ => ?_)
noncomputable def spec_l03Secret.v (a0 : ByteArray) (a1 : Int) (a2 : Int) (a3 : Int) : Option (ByteArray) := lim (fun k_ => spec_l03Secret.f k_ a0 a1 a2 a3)
theorem spec_l03Secret.v_lim (a0 : ByteArray) (a1 : Int) (a2 : Int) (a3 : Int) : LimIs (fun k_ => spec_l03Secret.f k_ a0 a1 a2 a3) (spec_l03Secret.v a0 a1 a2 a3) := lim_is (fun k_ => spec_l03Secret.mono a0 a1 a2 a3 k_)
theorem spec_l03Secret.v_eq (a0 : ByteArray) (a1 : Int) (a2 : Int) (a3 : Int) : spec_l03Secret.v a0 a1 a2 a3 = (if 6 + a0.size ≤ 9223372036854775807 then ((some (([(a1) % 256, (a2) % 256, (a3) % 256] : List Int) : List Int)).bind fun y941 => (if ((⟨#[115, 101, 99, 114, 101, 116]⟩ : ByteArray) ++ a0).size + (strOfNums y941).size ≤ 9223372036854775807 then (if (((⟨#[115, 101, 99, 114, 101, 116]⟩ : ByteArray) ++ a0) ++ (strOfNums y941)).size ≤ 140737488355328 then ((spec_l01Hash.v (bytesOf (((⟨#[115, 101, 99, 114, 101, 116]⟩ : ByteArray) ++ a0) ++ (strOfNums y941)))).bind fun t947 => (some t947)) else (none)) else (none))) else (none) : Option (ByteArray)) := by
  refine LimIs.eq (spec_l03Secret.v_lim a0 a1 a2 a3) ?_
  simp only [spec_l03Secret.f]
  repeat' (with_reducible first | exact spec_l01Hash.v_lim _ | exact LimIs.const _ | refine LimIs.ite ?_ ?_ | refine LimIs.bind ?_ (fun _ => ?_))
mutual
def spec_l03Key.l0 : Nat → ByteArray → Int → List Int → Int → Option (ByteArray)
  | 0, _, _, _, _ => none
  | k + 1, x0, x1, x5, x6 => if x6 < 32 then (spec_l03Key.l1 k x0 x1 x5 x6 0) else ((spec_l01Hash.f k x5).bind fun t951 => (some t951))
def spec_l03Key.l1 : Nat → ByteArray → Int → List Int → Int → Int → Option (ByteArray)
  | 0, _, _, _, _, _ => none
  | k + 1, x0, x1, x5, x6, x7 => if x7 < 2 then ((spec_l03Secret.f k x0 x1 x6 x7).bind fun t952 => (if t952.size ≤ 140737488355328 then ((spec_l01Hash.f k (bytesOf t952)).bind fun t956 => (if x5.length + t956.size < 140737488355328 then (spec_l03Key.l1 k x0 x1 (x5 ++ bytesOf t956) x6 (wrap64 (x7 + 1))) else (none))) else (none))) else (spec_l03Key.l0 k x0 x1 x5 (wrap64 (x6 + 1)))
end
def spec_l03Key.f (k : Nat) (a0 : ByteArray) (a1 : Int) : Option (ByteArray) := spec_l03Key.l0 k a0 a1 (([107, 101, 121] : List Int)) 0
theorem spec_l03Key.mono_l : ∀ k, (∀ y0 y1 y2 y3, LeO (spec_l03Key.l0 k y0 y1 y2 y3) (spec_l03Key.l0 (k + 1) y0 y1 y2 y3)) ∧ (∀ y0 y1 y2 y3 y4, LeO (spec_l03Key.l1 k y0 y1 y2 y3 y4) (spec_l03Key.l1 (k + 1) y0 y1 y2 y3 y4))
  | 0 => ⟨fun _ _ _ _ r h => by simp [spec_l03Key.l0] at h, fun _ _ _ _ _ r h => by simp [spec_l03Key.l1] at h⟩
  | k + 1 => by
    obtain ⟨ih0, ih1⟩ := spec_l03Key.mono_l k
    refine ⟨?_, ?_⟩
    · intro y0 y1 y2 y3
      unfold spec_l03Key.l0
      repeat' first
      | (with_reducible exact ih0 _ _ _ _)
      | (with_reducible exact ih1 _ _ _ _ _)
      | (with_reducible exact spec_l01Hash.mono _ _)
      | (with_reducible exact spec_l03Secret.mono _ _ _ _ _)
      | (with_reducible exact LeO.refl _)
      | (with_reducible exact LeO.none _)
      | (with_reducible refine LeO.ite ?_ ?_)
      | (with_reducible refine LeO.bind ?_ (fun _ => ?_))
      | exact ih0 _ _ _ _
      | exact ih1 _ _ _ _ _
      | exact spec_l01Hash.mono _ _
      | exact spec_l03Secret.mono _ _ _ _ _
      | exact LeO.none _
      | refine LeO.ite ?_ ?_
      | refine LeO.bind ?_ (fun _ => ?_)
    · intro y0 y1 y2 y3 y4
      unfold spec_l03Key.l1
      repeat' first
      | (with_reducible exact ih0 _ _ _ _)
      | (with_reducible exact ih1 _ _ _ _ _)
      | (with_reducible exact spec_l01Hash.mono _ _)
      | (with_reducible exact spec_l03Secret.mono _ _ _ _ _)
      | (with_reducible exact LeO.refl _)
      | (with_reducible exact LeO.none _)
      | (with_reducible refine LeO.ite ?_ ?_)
      | (with_reducible refine LeO.bind ?_ (fun _ => ?_))
      | exact ih0 _ _ _ _
      | exact ih1 _ _ _ _ _
      | exact spec_l01Hash.mono _ _
      | exact spec_l03Secret.mono _ _ _ _ _
      | exact LeO.none _
      | refine LeO.ite ?_ ?_
      | refine LeO.bind ?_ (fun _ => ?_)
theorem spec_l03Key.mono : ∀ a0 a1 k, LeO (spec_l03Key.f k a0 a1) (spec_l03Key.f (k + 1) a0 a1) := by
  intro a0 a1 k
  obtain ⟨ih0, ih1⟩ := spec_l03Key.mono_l k
  unfold spec_l03Key.f
  repeat' first
      | (with_reducible exact ih0 _ _ _ _)
      | (with_reducible exact ih1 _ _ _ _ _)
      | (with_reducible exact spec_l01Hash.mono _ _)
      | (with_reducible exact spec_l03Secret.mono _ _ _ _ _)
      | (with_reducible exact LeO.refl _)
      | (with_reducible exact LeO.none _)
      | (with_reducible refine LeO.ite ?_ ?_)
      | (with_reducible refine LeO.bind ?_ (fun _ => ?_))
      | exact ih0 _ _ _ _
      | exact ih1 _ _ _ _ _
      | exact spec_l01Hash.mono _ _
      | exact spec_l03Secret.mono _ _ _ _ _
      | exact LeO.none _
      | refine LeO.ite ?_ ?_
      | refine LeO.bind ?_ (fun _ => ?_)
noncomputable def spec_l03Key.lv0 (x0 : ByteArray) (x1 : Int) (x5 : List Int) (x6 : Int) : Option (ByteArray) := lim (fun k_ => spec_l03Key.l0 k_ x0 x1 x5 x6)
noncomputable def spec_l03Key.lv1 (x0 : ByteArray) (x1 : Int) (x5 : List Int) (x6 : Int) (x7 : Int) : Option (ByteArray) := lim (fun k_ => spec_l03Key.l1 k_ x0 x1 x5 x6 x7)
noncomputable def spec_l03Key.v (a0 : ByteArray) (a1 : Int) : Option (ByteArray) := lim (fun k_ => spec_l03Key.f k_ a0 a1)
theorem spec_l03Key.lv0_lim (x0 : ByteArray) (x1 : Int) (x5 : List Int) (x6 : Int) : LimIs (fun k_ => spec_l03Key.l0 k_ x0 x1 x5 x6) (spec_l03Key.lv0 x0 x1 x5 x6) := lim_is (fun k_ => (spec_l03Key.mono_l k_).1 x0 x1 x5 x6)
theorem spec_l03Key.lv1_lim (x0 : ByteArray) (x1 : Int) (x5 : List Int) (x6 : Int) (x7 : Int) : LimIs (fun k_ => spec_l03Key.l1 k_ x0 x1 x5 x6 x7) (spec_l03Key.lv1 x0 x1 x5 x6 x7) := lim_is (fun k_ => (spec_l03Key.mono_l k_).2 x0 x1 x5 x6 x7)
theorem spec_l03Key.v_lim (a0 : ByteArray) (a1 : Int) : LimIs (fun k_ => spec_l03Key.f k_ a0 a1) (spec_l03Key.v a0 a1) := lim_is (fun k_ => spec_l03Key.mono a0 a1 k_)
theorem spec_l03Key.lv0_eq (x0 : ByteArray) (x1 : Int) (x5 : List Int) (x6 : Int) : spec_l03Key.lv0 x0 x1 x5 x6 = (if x6 < 32 then (spec_l03Key.lv1 x0 x1 x5 x6 0) else ((spec_l01Hash.v x5).bind fun t951 => (some t951)) : Option (ByteArray)) := by
  refine LimIs.eq (spec_l03Key.lv0_lim x0 x1 x5 x6) ?_
  refine LimIs.step (fun k_ => (spec_l03Key.mono_l k_).1 x0 x1 x5 x6) ?_
  simp only [spec_l03Key.l0]
  repeat' (with_reducible first | exact spec_l01Hash.v_lim _ | exact spec_l03Key.lv1_lim _ _ _ _ _ | exact LimIs.const _ | refine LimIs.ite ?_ ?_ | refine LimIs.bind ?_ (fun _ => ?_))
theorem spec_l03Key.lv1_eq (x0 : ByteArray) (x1 : Int) (x5 : List Int) (x6 : Int) (x7 : Int) : spec_l03Key.lv1 x0 x1 x5 x6 x7 = (if x7 < 2 then ((spec_l03Secret.v x0 x1 x6 x7).bind fun t952 => (if t952.size ≤ 140737488355328 then ((spec_l01Hash.v (bytesOf t952)).bind fun t956 => (if x5.length + t956.size < 140737488355328 then (spec_l03Key.lv1 x0 x1 (x5 ++ bytesOf t956) x6 (wrap64 (x7 + 1))) else (none))) else (none))) else (spec_l03Key.lv0 x0 x1 x5 (wrap64 (x6 + 1))) : Option (ByteArray)) := by
  refine LimIs.eq (spec_l03Key.lv1_lim x0 x1 x5 x6 x7) ?_
  refine LimIs.step (fun k_ => (spec_l03Key.mono_l k_).2 x0 x1 x5 x6 x7) ?_
  simp only [spec_l03Key.l1]
  repeat' (with_reducible first | exact spec_l01Hash.v_lim _ | exact spec_l03Key.lv0_lim _ _ _ _ | exact spec_l03Key.lv1_lim _ _ _ _ _ | exact spec_l03Secret.v_lim _ _ _ _ | exact LimIs.const _ | refine LimIs.ite ?_ ?_ | refine LimIs.bind ?_ (fun _ => ?_))
theorem spec_l03Key.v_eq (a0 : ByteArray) (a1 : Int) : spec_l03Key.v a0 a1 = (spec_l03Key.lv0 a0 a1 (([107, 101, 121] : List Int)) 0 : Option (ByteArray)) := by
  refine LimIs.eq (spec_l03Key.v_lim a0 a1) ?_
  simp only [spec_l03Key.f]
  repeat' (with_reducible first | exact spec_l03Key.lv0_lim _ _ _ _ | exact LimIs.const _ | refine LimIs.ite ?_ ?_ | refine LimIs.bind ?_ (fun _ => ?_))
def spec_l03Keys.l0 : Nat → ByteArray → List ByteArray → Int → Option (List ByteArray)
  | 0, _, _, _ => none
  | k + 1, x0, x3, x4 => if x4 < 8 then ((spec_l03Key.f k x0 x4).bind fun t963 => (if x3.length < 8796093022208 then (spec_l03Keys.l0 k x0 (x3 ++ [t963]) (wrap64 (x4 + 1))) else (none))) else (some x3)
def spec_l03Keys.f (k : Nat) (a0 : ByteArray) : Option (List ByteArray) := spec_l03Keys.l0 k a0 (([] : List ByteArray)) 0
theorem spec_l03Keys.mono_l : ∀ k, (∀ y0 y1 y2, LeO (spec_l03Keys.l0 k y0 y1 y2) (spec_l03Keys.l0 (k + 1) y0 y1 y2))
  | 0 => fun _ _ _ r h => by simp [spec_l03Keys.l0] at h
  | k + 1 => by
    have ih0 := spec_l03Keys.mono_l k
    · intro y0 y1 y2
      unfold spec_l03Keys.l0
      repeat' first
      | (with_reducible exact ih0 _ _ _)
      | (with_reducible exact spec_l03Key.mono _ _ _)
      | (with_reducible exact LeO.refl _)
      | (with_reducible exact LeO.none _)
      | (with_reducible refine LeO.ite ?_ ?_)
      | (with_reducible refine LeO.bind ?_ (fun _ => ?_))
      | exact ih0 _ _ _
      | exact spec_l03Key.mono _ _ _
      | exact LeO.none _
      | refine LeO.ite ?_ ?_
      | refine LeO.bind ?_ (fun _ => ?_)
theorem spec_l03Keys.mono : ∀ a0 k, LeO (spec_l03Keys.f k a0) (spec_l03Keys.f (k + 1) a0) := by
  intro a0 k
  have ih0 := spec_l03Keys.mono_l k
  unfold spec_l03Keys.f
  repeat' first
      | (with_reducible exact ih0 _ _ _)
      | (with_reducible exact spec_l03Key.mono _ _ _)
      | (with_reducible exact LeO.refl _)
      | (with_reducible exact LeO.none _)
      | (with_reducible refine LeO.ite ?_ ?_)
      | (with_reducible refine LeO.bind ?_ (fun _ => ?_))
      | exact ih0 _ _ _
      | exact spec_l03Key.mono _ _ _
      | exact LeO.none _
      | refine LeO.ite ?_ ?_
      | refine LeO.bind ?_ (fun _ => ?_)
noncomputable def spec_l03Keys.lv0 (x0 : ByteArray) (x3 : List ByteArray) (x4 : Int) : Option (List ByteArray) := lim (fun k_ => spec_l03Keys.l0 k_ x0 x3 x4)
noncomputable def spec_l03Keys.v (a0 : ByteArray) : Option (List ByteArray) := lim (fun k_ => spec_l03Keys.f k_ a0)
theorem spec_l03Keys.lv0_lim (x0 : ByteArray) (x3 : List ByteArray) (x4 : Int) : LimIs (fun k_ => spec_l03Keys.l0 k_ x0 x3 x4) (spec_l03Keys.lv0 x0 x3 x4) := lim_is (fun k_ => (spec_l03Keys.mono_l k_) x0 x3 x4)
theorem spec_l03Keys.v_lim (a0 : ByteArray) : LimIs (fun k_ => spec_l03Keys.f k_ a0) (spec_l03Keys.v a0) := lim_is (fun k_ => spec_l03Keys.mono a0 k_)
theorem spec_l03Keys.lv0_eq (x0 : ByteArray) (x3 : List ByteArray) (x4 : Int) : spec_l03Keys.lv0 x0 x3 x4 = (if x4 < 8 then ((spec_l03Key.v x0 x4).bind fun t963 => (if x3.length < 8796093022208 then (spec_l03Keys.lv0 x0 (x3 ++ [t963]) (wrap64 (x4 + 1))) else (none))) else (some x3) : Option (List ByteArray)) := by
  refine LimIs.eq (spec_l03Keys.lv0_lim x0 x3 x4) ?_
  refine LimIs.step (fun k_ => (spec_l03Keys.mono_l k_) x0 x3 x4) ?_
  simp only [spec_l03Keys.l0]
  repeat' (with_reducible first | exact spec_l03Key.v_lim _ _ | exact spec_l03Keys.lv0_lim _ _ _ | exact LimIs.const _ | refine LimIs.ite ?_ ?_ | refine LimIs.bind ?_ (fun _ => ?_))
theorem spec_l03Keys.v_eq (a0 : ByteArray) : spec_l03Keys.v a0 = (spec_l03Keys.lv0 a0 (([] : List ByteArray)) 0 : Option (List ByteArray)) := by
  refine LimIs.eq (spec_l03Keys.v_lim a0) ?_
  simp only [spec_l03Keys.f]
  repeat' (with_reducible first | exact spec_l03Keys.lv0_lim _ _ _ | exact LimIs.const _ | refine LimIs.ite ?_ ?_ | refine LimIs.bind ?_ (fun _ => ?_))
def spec_l03Bits.l0 : Nat → ByteArray → List Int → Int → Option (ByteArray)
  | 0, _, _, _ => none
  | k + 1, x3, x4, x5 => if x5 < 32 then (if 0 ≤ (wrap64 (Int.tdiv x5 8)) then (if (wrap64 (Int.tdiv x5 8)) < (x3.size : Int) then (if 0 ≤ (IntKind.u64.wrap (wrap64 (7 - (Int.tmod x5 8)))) then (if x4.length < 140737488355328 then (spec_l03Bits.l0 k x3 (x4 ++ [(48 + (Go.bits .and .u8 (shr .u8 (bt x3 (wrap64 (Int.tdiv x5 8))) (IntKind.u64.wrap (wrap64 (7 - (Int.tmod x5 8))))) 1)) % 256]) (wrap64 (x5 + 1))) else (none)) else (none)) else (none)) else (none)) else (some (strOfNums x4))
def spec_l03Bits.f (k : Nat) (a0 : ByteArray) : Option (ByteArray) := if 6 + a0.size ≤ 9223372036854775807 then (if ((⟨#[100, 105, 103, 101, 115, 116]⟩ : ByteArray) ++ a0).size ≤ 140737488355328 then ((spec_l01Hash.f k (bytesOf ((⟨#[100, 105, 103, 101, 115, 116]⟩ : ByteArray) ++ a0))).bind fun t970 => (spec_l03Bits.l0 k t970 (([] : List Int)) 0)) else (none)) else (none)
theorem spec_l03Bits.mono_l : ∀ k, (∀ y0 y1 y2, LeO (spec_l03Bits.l0 k y0 y1 y2) (spec_l03Bits.l0 (k + 1) y0 y1 y2))
  | 0 => fun _ _ _ r h => by simp [spec_l03Bits.l0] at h
  | k + 1 => by
    have ih0 := spec_l03Bits.mono_l k
    · intro y0 y1 y2
      unfold spec_l03Bits.l0
      repeat' first
      | (with_reducible exact ih0 _ _ _)
      | (with_reducible exact spec_l01Hash.mono _ _)
      | (with_reducible exact LeO.refl _)
      | (with_reducible exact LeO.none _)
      | (with_reducible refine LeO.ite ?_ ?_)
      | (with_reducible refine LeO.bind ?_ (fun _ => ?_))
      | exact ih0 _ _ _
      | exact spec_l01Hash.mono _ _
      | exact LeO.none _
      | refine LeO.ite ?_ ?_
      | refine LeO.bind ?_ (fun _ => ?_)
theorem spec_l03Bits.mono : ∀ a0 k, LeO (spec_l03Bits.f k a0) (spec_l03Bits.f (k + 1) a0) := by
  intro a0 k
  have ih0 := spec_l03Bits.mono_l k
  unfold spec_l03Bits.f
  repeat' first
      | (with_reducible exact ih0 _ _ _)
      | (with_reducible exact spec_l01Hash.mono _ _)
      | (with_reducible exact LeO.refl _)
      | (with_reducible exact LeO.none _)
      | (with_reducible refine LeO.ite ?_ ?_)
      | (with_reducible refine LeO.bind ?_ (fun _ => ?_))
      | exact ih0 _ _ _
      | exact spec_l01Hash.mono _ _
      | exact LeO.none _
      | refine LeO.ite ?_ ?_
      | refine LeO.bind ?_ (fun _ => ?_)
noncomputable def spec_l03Bits.lv0 (x3 : ByteArray) (x4 : List Int) (x5 : Int) : Option (ByteArray) := lim (fun k_ => spec_l03Bits.l0 k_ x3 x4 x5)
noncomputable def spec_l03Bits.v (a0 : ByteArray) : Option (ByteArray) := lim (fun k_ => spec_l03Bits.f k_ a0)
theorem spec_l03Bits.lv0_lim (x3 : ByteArray) (x4 : List Int) (x5 : Int) : LimIs (fun k_ => spec_l03Bits.l0 k_ x3 x4 x5) (spec_l03Bits.lv0 x3 x4 x5) := lim_is (fun k_ => (spec_l03Bits.mono_l k_) x3 x4 x5)
theorem spec_l03Bits.v_lim (a0 : ByteArray) : LimIs (fun k_ => spec_l03Bits.f k_ a0) (spec_l03Bits.v a0) := lim_is (fun k_ => spec_l03Bits.mono a0 k_)
theorem spec_l03Bits.lv0_eq (x3 : ByteArray) (x4 : List Int) (x5 : Int) : spec_l03Bits.lv0 x3 x4 x5 = (if x5 < 32 then (if 0 ≤ (wrap64 (Int.tdiv x5 8)) then (if (wrap64 (Int.tdiv x5 8)) < (x3.size : Int) then (if 0 ≤ (IntKind.u64.wrap (wrap64 (7 - (Int.tmod x5 8)))) then (if x4.length < 140737488355328 then (spec_l03Bits.lv0 x3 (x4 ++ [(48 + (Go.bits .and .u8 (shr .u8 (bt x3 (wrap64 (Int.tdiv x5 8))) (IntKind.u64.wrap (wrap64 (7 - (Int.tmod x5 8))))) 1)) % 256]) (wrap64 (x5 + 1))) else (none)) else (none)) else (none)) else (none)) else (some (strOfNums x4)) : Option (ByteArray)) := by
  refine LimIs.eq (spec_l03Bits.lv0_lim x3 x4 x5) ?_
  refine LimIs.step (fun k_ => (spec_l03Bits.mono_l k_) x3 x4 x5) ?_
  simp only [spec_l03Bits.l0]
  repeat' (with_reducible first | exact spec_l03Bits.lv0_lim _ _ _ | exact LimIs.const _ | refine LimIs.ite ?_ ?_ | refine LimIs.bind ?_ (fun _ => ?_))
theorem spec_l03Bits.v_eq (a0 : ByteArray) : spec_l03Bits.v a0 = (if 6 + a0.size ≤ 9223372036854775807 then (if ((⟨#[100, 105, 103, 101, 115, 116]⟩ : ByteArray) ++ a0).size ≤ 140737488355328 then ((spec_l01Hash.v (bytesOf ((⟨#[100, 105, 103, 101, 115, 116]⟩ : ByteArray) ++ a0))).bind fun t970 => (spec_l03Bits.lv0 t970 (([] : List Int)) 0)) else (none)) else (none) : Option (ByteArray)) := by
  refine LimIs.eq (spec_l03Bits.v_lim a0) ?_
  simp only [spec_l03Bits.f]
  repeat' (with_reducible first | exact spec_l01Hash.v_lim _ | exact spec_l03Bits.lv0_lim _ _ _ | exact LimIs.const _ | refine LimIs.ite ?_ ?_ | refine LimIs.bind ?_ (fun _ => ?_))
def spec_l03Level.l0 : Nat → List ByteArray → List ByteArray → Int → Option (List ByteArray)
  | 0, _, _, _ => none
  | k + 1, x0, x3, x4 => if x4 < (x0.length : Int) then (if 0 ≤ x4 then (if 0 ≤ (wrap64 (x4 + 1)) then (if (wrap64 (x4 + 1)) < (x0.length : Int) then ((spec_l03Node.f k (rdOf ByteArray.empty x0 x4) (rdOf ByteArray.empty x0 (wrap64 (x4 + 1)))).bind fun t982 => (if x3.length < 8796093022208 then (spec_l03Level.l0 k x0 (x3 ++ [t982]) (wrap64 (x4 + 2))) else (none))) else (none)) else (none)) else (none)) else (some x3)
def spec_l03Level.f (k : Nat) (l0 : List ByteArray) : Option (List ByteArray) := spec_l03Level.l0 k l0 (([] : List ByteArray)) 0
theorem spec_l03Level.mono_l : ∀ k, (∀ y0 y1 y2, LeO (spec_l03Level.l0 k y0 y1 y2) (spec_l03Level.l0 (k + 1) y0 y1 y2))
  | 0 => fun _ _ _ r h => by simp [spec_l03Level.l0] at h
  | k + 1 => by
    have ih0 := spec_l03Level.mono_l k
    · intro y0 y1 y2
      unfold spec_l03Level.l0
      repeat' first
      | (with_reducible exact ih0 _ _ _)
      | (with_reducible exact spec_l03Node.mono _ _ _)
      | (with_reducible exact LeO.refl _)
      | (with_reducible exact LeO.none _)
      | (with_reducible refine LeO.ite ?_ ?_)
      | (with_reducible refine LeO.bind ?_ (fun _ => ?_))
      | exact ih0 _ _ _
      | exact spec_l03Node.mono _ _ _
      | exact LeO.none _
      | refine LeO.ite ?_ ?_
      | refine LeO.bind ?_ (fun _ => ?_)
theorem spec_l03Level.mono : ∀ a0 k, LeO (spec_l03Level.f k a0) (spec_l03Level.f (k + 1) a0) := by
  intro a0 k
  have ih0 := spec_l03Level.mono_l k
  unfold spec_l03Level.f
  repeat' first
      | (with_reducible exact ih0 _ _ _)
      | (with_reducible exact spec_l03Node.mono _ _ _)
      | (with_reducible exact LeO.refl _)
      | (with_reducible exact LeO.none _)
      | (with_reducible refine LeO.ite ?_ ?_)
      | (with_reducible refine LeO.bind ?_ (fun _ => ?_))
      | exact ih0 _ _ _
      | exact spec_l03Node.mono _ _ _
      | exact LeO.none _
      | refine LeO.ite ?_ ?_
      | refine LeO.bind ?_ (fun _ => ?_)
noncomputable def spec_l03Level.lv0 (x0 : List ByteArray) (x3 : List ByteArray) (x4 : Int) : Option (List ByteArray) := lim (fun k_ => spec_l03Level.l0 k_ x0 x3 x4)
noncomputable def spec_l03Level.v (l0 : List ByteArray) : Option (List ByteArray) := lim (fun k_ => spec_l03Level.f k_ l0)
theorem spec_l03Level.lv0_lim (x0 : List ByteArray) (x3 : List ByteArray) (x4 : Int) : LimIs (fun k_ => spec_l03Level.l0 k_ x0 x3 x4) (spec_l03Level.lv0 x0 x3 x4) := lim_is (fun k_ => (spec_l03Level.mono_l k_) x0 x3 x4)
theorem spec_l03Level.v_lim (l0 : List ByteArray) : LimIs (fun k_ => spec_l03Level.f k_ l0) (spec_l03Level.v l0) := lim_is (fun k_ => spec_l03Level.mono l0 k_)
theorem spec_l03Level.lv0_eq (x0 : List ByteArray) (x3 : List ByteArray) (x4 : Int) : spec_l03Level.lv0 x0 x3 x4 = (if x4 < (x0.length : Int) then (if 0 ≤ x4 then (if 0 ≤ (wrap64 (x4 + 1)) then (if (wrap64 (x4 + 1)) < (x0.length : Int) then ((spec_l03Node.v (rdOf ByteArray.empty x0 x4) (rdOf ByteArray.empty x0 (wrap64 (x4 + 1)))).bind fun t982 => (if x3.length < 8796093022208 then (spec_l03Level.lv0 x0 (x3 ++ [t982]) (wrap64 (x4 + 2))) else (none))) else (none)) else (none)) else (none)) else (some x3) : Option (List ByteArray)) := by
  refine LimIs.eq (spec_l03Level.lv0_lim x0 x3 x4) ?_
  refine LimIs.step (fun k_ => (spec_l03Level.mono_l k_) x0 x3 x4) ?_
  simp only [spec_l03Level.l0]
  repeat' (with_reducible first | exact spec_l03Level.lv0_lim _ _ _ | exact spec_l03Node.v_lim _ _ | exact LimIs.const _ | refine LimIs.ite ?_ ?_ | refine LimIs.bind ?_ (fun _ => ?_))
theorem spec_l03Level.v_eq (l0 : List ByteArray) : spec_l03Level.v l0 = (spec_l03Level.lv0 l0 (([] : List ByteArray)) 0 : Option (List ByteArray)) := by
  refine LimIs.eq (spec_l03Level.v_lim l0) ?_
  simp only [spec_l03Level.f]
  repeat' (with_reducible first | exact spec_l03Level.lv0_lim _ _ _ | exact LimIs.const _ | refine LimIs.ite ?_ ?_ | refine LimIs.bind ?_ (fun _ => ?_))
mutual
def spec_l03Sign.l0 : Nat → ByteArray → Int → ByteArray → Int → Int → List ByteArray → List ByteArray → List ByteArray → Option (Int × List ByteArray × List ByteArray × List ByteArray)
  | 0, _, _, _, _, _, _, _, _ => none
  | k + 1, x0, x1, x7, x9, x998000, x998001, x998002, x998003 => if x9 < 32 then (if 0 ≤ x9 then (if x9 < (x7.size : Int) then ((spec_l03Secret.f k x0 x1 x9 (((bt x7 x9) - 48) % 256)).bind fun t998 => (if x998001.length < 8796093022208 then ((spec_l03Secret.f k x0 x1 x9 (1 - (((bt x7 x9) - 48) % 256))).bind fun t1002 => (if t1002.size ≤ 140737488355328 then ((spec_l01Hash.f k (bytesOf t1002)).bind fun t1006 => (if x998002.length < 8796093022208 then (spec_l03Sign.l0 k x0 x1 x7 (wrap64 (x9 + 1)) x998000 (x998001 ++ [t998]) (x998002 ++ [t1006]) x998003) else (none))) else (none))) else (none))) else (none)) else (none)) else ((spec_l03Keys.f k x0).bind fun t1010 => (spec_l03Sign.l1 k x1 t1010 x998000 x998001 x998002 x998003))
def spec_l03Sign.l1 : Nat → Int → List ByteArray → Int → List ByteArray → List ByteArray → List ByteArray → Option (Int × List ByteArray × List ByteArray × List ByteArray)
  | 0, _, _, _, _, _, _ => none
  | k + 1, x11, x12, x998000, x998001, x998002, x998003 => if (x12.length : Int) > 1 then (if 0 ≤ (Go.bits .xor .i64 x11 1) then (if (Go.bits .xor .i64 x11 1) < (x12.length : Int) then (if x998003.length < 8796093022208 then ((spec_l03Level.f k x12).bind fun t1017 => (spec_l03Sign.l1 k (wrap64 (Int.tdiv x11 2)) t1017 x998000 x998001 x998002 (x998003 ++ [rdOf ByteArray.empty x12 (Go.bits .xor .i64 x11 1)]))) else (none)) else (none)) else (none)) else (some (x998000, x998001, x998002, x998003))
end
def spec_l03Sign.f (k : Nat) (a0 : ByteArray) (a1 : Int) (a2 : ByteArray) : Option (Int × List ByteArray × List ByteArray × List ByteArray) := (spec_l03Bits.f k a2).bind fun t987 => (spec_l03Sign.l0 k a0 a1 t987 0 a1 (([] : List ByteArray)) (([] : List ByteArray)) (([] : List ByteArray)))
theorem spec_l03Sign.mono_l : ∀ k, (∀ y0 y1 y2 y3 y4 y5 y6 y7, LeO (spec_l03Sign.l0 k y0 y1 y2 y3 y4 y5 y6 y7) (spec_l03Sign.l0 (k + 1) y0 y1 y2 y3 y4 y5 y6 y7)) ∧ (∀ y0 y1 y2 y3 y4 y5, LeO (spec_l03Sign.l1 k y0 y1 y2 y3 y4 y5) (spec_l03Sign.l1 (k + 1) y0 y1 y2 y3 y4 y5))
  | 0 => ⟨fun _ _ _ _ _ _ _ _ r h => by simp [spec_l03Sign.l0] at h, fun _ _ _ _ _ _ r h => by simp [spec_l03Sign.l1] at h⟩
  | k + 1 => by
    obtain ⟨ih0, ih1⟩ := spec_l03Sign.mono_l k
    refine ⟨?_, ?_⟩
    · intro y0 y1 y2 y3 y4 y5 y6 y7
      unfold spec_l03Sign.l0
      repeat' first
      | (with_reducible exact ih0 _ _ _ _ _ _ _ _)
      | (with_reducible exact ih1 _ _ _ _ _ _)
      | (with_reducible exact spec_l01Hash.mono _ _)
      | (with_reducible exact spec_l03Bits.mono _ _)
      | (with_reducible exact spec_l03Keys.mono _ _)
      | (with_reducible exact spec_l03Level.mono _ _)
      | (with_reducible exact spec_l03Secret.mono _ _ _ _ _)
      | (with_reducible exact LeO.refl _)
      | (with_reducible exact LeO.none _)
      | (with_reducible refine LeO.ite ?_ ?_)
      | (with_reducible refine LeO.bind ?_ (fun _ => ?_))
      | exact ih0 _ _ _ _ _ _ _ _
      | exact ih1 _ _ _ _ _ _
      | exact spec_l01Hash.mono _ _
      | exact spec_l03Bits.mono _ _
      | exact spec_l03Keys.mono _ _
      | exact spec_l03Level.mono _ _
      | exact spec_l03Secret.mono _ _ _ _ _
      | exact LeO.none _
      | refine LeO.ite ?_ ?_
      | refine LeO.bind ?_ (fun _ => ?_)
    · intro y0 y1 y2 y3 y4 y5
      unfold spec_l03Sign.l1
      repeat' first
      | (with_reducible exact ih0 _ _ _ _ _ _ _ _)
      | (with_reducible exact ih1 _ _ _ _ _ _)
      | (with_reducible exact spec_l01Hash.mono _ _)
      | (with_reducible exact spec_l03Bits.mono _ _)
      | (with_reducible exact spec_l03Keys.mono _ _)
      | (with_reducible exact spec_l03Level.mono _ _)
      | (with_reducible exact spec_l03Secret.mono _ _ _ _ _)
      | (with_reducible exact LeO.refl _)
      | (with_reducible exact LeO.none _)
      | (with_reducible refine LeO.ite ?_ ?_)
      | (with_reducible refine LeO.bind ?_ (fun _ => ?_))
      | exact ih0 _ _ _ _ _ _ _ _
      | exact ih1 _ _ _ _ _ _
      | exact spec_l01Hash.mono _ _
      | exact spec_l03Bits.mono _ _
      | exact spec_l03Keys.mono _ _
      | exact spec_l03Level.mono _ _
      | exact spec_l03Secret.mono _ _ _ _ _
      | exact LeO.none _
      | refine LeO.ite ?_ ?_
      | refine LeO.bind ?_ (fun _ => ?_)
theorem spec_l03Sign.mono : ∀ a0 a1 a2 k, LeO (spec_l03Sign.f k a0 a1 a2) (spec_l03Sign.f (k + 1) a0 a1 a2) := by
  intro a0 a1 a2 k
  obtain ⟨ih0, ih1⟩ := spec_l03Sign.mono_l k
  unfold spec_l03Sign.f
  repeat' first
      | (with_reducible exact ih0 _ _ _ _ _ _ _ _)
      | (with_reducible exact ih1 _ _ _ _ _ _)
      | (with_reducible exact spec_l01Hash.mono _ _)
      | (with_reducible exact spec_l03Bits.mono _ _)
      | (with_reducible exact spec_l03Keys.mono _ _)
      | (with_reducible exact spec_l03Level.mono _ _)
      | (with_reducible exact spec_l03Secret.mono _ _ _ _ _)
      | (with_reducible exact LeO.refl _)
      | (with_reducible exact LeO.none _)
      | (with_reducible refine LeO.ite ?_ ?_)
      | (with_reducible refine LeO.bind ?_ (fun _ => ?_))
      | exact ih0 _ _ _ _ _ _ _ _
      | exact ih1 _ _ _ _ _ _
      | exact spec_l01Hash.mono _ _
      | exact spec_l03Bits.mono _ _
      | exact spec_l03Keys.mono _ _
      | exact spec_l03Level.mono _ _
      | exact spec_l03Secret.mono _ _ _ _ _
      | exact LeO.none _
      | refine LeO.ite ?_ ?_
      | refine LeO.bind ?_ (fun _ => ?_)
noncomputable def spec_l03Sign.lv0 (x0 : ByteArray) (x1 : Int) (x7 : ByteArray) (x9 : Int) (x998000 : Int) (x998001 : List ByteArray) (x998002 : List ByteArray) (x998003 : List ByteArray) : Option (Int × List ByteArray × List ByteArray × List ByteArray) := lim (fun k_ => spec_l03Sign.l0 k_ x0 x1 x7 x9 x998000 x998001 x998002 x998003)
noncomputable def spec_l03Sign.lv1 (x11 : Int) (x12 : List ByteArray) (x998000 : Int) (x998001 : List ByteArray) (x998002 : List ByteArray) (x998003 : List ByteArray) : Option (Int × List ByteArray × List ByteArray × List ByteArray) := lim (fun k_ => spec_l03Sign.l1 k_ x11 x12 x998000 x998001 x998002 x998003)
noncomputable def spec_l03Sign.v (a0 : ByteArray) (a1 : Int) (a2 : ByteArray) : Option (Int × List ByteArray × List ByteArray × List ByteArray) := lim (fun k_ => spec_l03Sign.f k_ a0 a1 a2)
theorem spec_l03Sign.lv0_lim (x0 : ByteArray) (x1 : Int) (x7 : ByteArray) (x9 : Int) (x998000 : Int) (x998001 : List ByteArray) (x998002 : List ByteArray) (x998003 : List ByteArray) : LimIs (fun k_ => spec_l03Sign.l0 k_ x0 x1 x7 x9 x998000 x998001 x998002 x998003) (spec_l03Sign.lv0 x0 x1 x7 x9 x998000 x998001 x998002 x998003) := lim_is (fun k_ => (spec_l03Sign.mono_l k_).1 x0 x1 x7 x9 x998000 x998001 x998002 x998003)
theorem spec_l03Sign.lv1_lim (x11 : Int) (x12 : List ByteArray) (x998000 : Int) (x998001 : List ByteArray) (x998002 : List ByteArray) (x998003 : List ByteArray) : LimIs (fun k_ => spec_l03Sign.l1 k_ x11 x12 x998000 x998001 x998002 x998003) (spec_l03Sign.lv1 x11 x12 x998000 x998001 x998002 x998003) := lim_is (fun k_ => (spec_l03Sign.mono_l k_).2 x11 x12 x998000 x998001 x998002 x998003)
theorem spec_l03Sign.v_lim (a0 : ByteArray) (a1 : Int) (a2 : ByteArray) : LimIs (fun k_ => spec_l03Sign.f k_ a0 a1 a2) (spec_l03Sign.v a0 a1 a2) := lim_is (fun k_ => spec_l03Sign.mono a0 a1 a2 k_)
theorem spec_l03Sign.lv0_eq (x0 : ByteArray) (x1 : Int) (x7 : ByteArray) (x9 : Int) (x998000 : Int) (x998001 : List ByteArray) (x998002 : List ByteArray) (x998003 : List ByteArray) : spec_l03Sign.lv0 x0 x1 x7 x9 x998000 x998001 x998002 x998003 = (if x9 < 32 then (if 0 ≤ x9 then (if x9 < (x7.size : Int) then ((spec_l03Secret.v x0 x1 x9 (((bt x7 x9) - 48) % 256)).bind fun t998 => (if x998001.length < 8796093022208 then ((spec_l03Secret.v x0 x1 x9 (1 - (((bt x7 x9) - 48) % 256))).bind fun t1002 => (if t1002.size ≤ 140737488355328 then ((spec_l01Hash.v (bytesOf t1002)).bind fun t1006 => (if x998002.length < 8796093022208 then (spec_l03Sign.lv0 x0 x1 x7 (wrap64 (x9 + 1)) x998000 (x998001 ++ [t998]) (x998002 ++ [t1006]) x998003) else (none))) else (none))) else (none))) else (none)) else (none)) else ((spec_l03Keys.v x0).bind fun t1010 => (spec_l03Sign.lv1 x1 t1010 x998000 x998001 x998002 x998003)) : Option (Int × List ByteArray × List ByteArray × List ByteArray)) := by
  refine LimIs.eq (spec_l03Sign.lv0_lim x0 x1 x7 x9 x998000 x998001 x998002 x998003) ?_
  refine LimIs.step (fun k_ => (spec_l03Sign.mono_l k_).1 x0 x1 x7 x9 x998000 x998001 x998002 x998003) ?_
  simp only [spec_l03Sign.l0]
  repeat' (with_reducible first | exact spec_l01Hash.v_lim _ | exact spec_l03Keys.v_lim _ | exact spec_l03Secret.v_lim _ _ _ _ | exact spec_l03Sign.lv0_lim _ _ _ _ _ _ _ _ | exact spec_l03Sign.lv1_lim _ _ _ _ _ _ | exact LimIs.const _ | refine LimIs.ite ?_ ?_ | refine LimIs.bind ?_ (fun _ => ?_))
theorem spec_l03Sign.lv1_eq (x11 : Int) (x12 : List ByteArray) (x998000 : Int) (x998001 : List ByteArray) (x998002 : List ByteArray) (x998003 : List ByteArray) : spec_l03Sign.lv1 x11 x12 x998000 x998001 x998002 x998003 = (if (x12.length : Int) > 1 then (if 0 ≤ (Go.bits .xor .i64 x11 1) then (if (Go.bits .xor .i64 x11 1) < (x12.length : Int) then (if x998003.length < 8796093022208 then ((spec_l03Level.v x12).bind fun t1017 => (spec_l03Sign.lv1 (wrap64 (Int.tdiv x11 2)) t1017 x998000 x998001 x998002 (x998003 ++ [rdOf ByteArray.empty x12 (Go.bits .xor .i64 x11 1)]))) else (none)) else (none)) else (none)) else (some (x998000, x998001, x998002, x998003)) : Option (Int × List ByteArray × List ByteArray × List ByteArray)) := by
  refine LimIs.eq (spec_l03Sign.lv1_lim x11 x12 x998000 x998001 x998002 x998003) ?_
  refine LimIs.step (fun k_ => (spec_l03Sign.mono_l k_).2 x11 x12 x998000 x998001 x998002 x998003) ?_
  simp only [spec_l03Sign.l1]
  repeat' (with_reducible first | exact spec_l03Level.v_lim _ | exact spec_l03Sign.lv1_lim _ _ _ _ _ _ | exact LimIs.const _ | refine LimIs.ite ?_ ?_ | refine LimIs.bind ?_ (fun _ => ?_))
theorem spec_l03Sign.v_eq (a0 : ByteArray) (a1 : Int) (a2 : ByteArray) : spec_l03Sign.v a0 a1 a2 = ((spec_l03Bits.v a2).bind fun t987 => (spec_l03Sign.lv0 a0 a1 t987 0 a1 (([] : List ByteArray)) (([] : List ByteArray)) (([] : List ByteArray))) : Option (Int × List ByteArray × List ByteArray × List ByteArray)) := by
  refine LimIs.eq (spec_l03Sign.v_lim a0 a1 a2) ?_
  simp only [spec_l03Sign.f]
  repeat' (with_reducible first | exact spec_l03Bits.v_lim _ | exact spec_l03Sign.lv0_lim _ _ _ _ _ _ _ _ | exact LimIs.const _ | refine LimIs.ite ?_ ?_ | refine LimIs.bind ?_ (fun _ => ?_))
def spec_l12Seed.f (k : Nat) (a0 : Int) : Option (ByteArray) := (some (([(a0) % 256] : List Int) : List Int)).bind fun y1020 => (if 9 + (strOfNums y1020).size ≤ 9223372036854775807 then (if ((⟨#[110, 111, 100, 101, 32, 115, 101, 101, 100]⟩ : ByteArray) ++ (strOfNums y1020)).size ≤ 140737488355328 then ((spec_l01Hash.f k (bytesOf ((⟨#[110, 111, 100, 101, 32, 115, 101, 101, 100]⟩ : ByteArray) ++ (strOfNums y1020)))).bind fun t1026 => (some t1026)) else (none)) else (none))
theorem spec_l12Seed.mono : ∀ a0 k, LeO (spec_l12Seed.f k a0) (spec_l12Seed.f (k + 1) a0) := by
  intro a0 k
  unfold spec_l12Seed.f
  repeat' first
      | (with_reducible exact spec_l01Hash.mono _ _)
      | (with_reducible exact LeO.refl _)
      | (with_reducible exact LeO.none _)
      | (with_reducible refine LeO.ite ?_ ?_)
      | (with_reducible refine LeO.bind ?_ (fun _ => ?_))
      | exact spec_l01Hash.mono _ _
      | exact LeO.none _
      | refine LeO.ite ?_ ?_
      | refine LeO.bind ?_ (fun _ => ?_)
noncomputable def spec_l12Seed.v (a0 : Int) : Option (ByteArray) := lim (fun k_ => spec_l12Seed.f k_ a0)
theorem spec_l12Seed.v_lim (a0 : Int) : LimIs (fun k_ => spec_l12Seed.f k_ a0) (spec_l12Seed.v a0) := lim_is (fun k_ => spec_l12Seed.mono a0 k_)
theorem spec_l12Seed.v_eq (a0 : Int) : spec_l12Seed.v a0 = ((some (([(a0) % 256] : List Int) : List Int)).bind fun y1020 => (if 9 + (strOfNums y1020).size ≤ 9223372036854775807 then (if ((⟨#[110, 111, 100, 101, 32, 115, 101, 101, 100]⟩ : ByteArray) ++ (strOfNums y1020)).size ≤ 140737488355328 then ((spec_l01Hash.v (bytesOf ((⟨#[110, 111, 100, 101, 32, 115, 101, 101, 100]⟩ : ByteArray) ++ (strOfNums y1020)))).bind fun t1026 => (some t1026)) else (none)) else (none)) : Option (ByteArray)) := by
  refine LimIs.eq (spec_l12Seed.v_lim a0) ?_
  simp only [spec_l12Seed.f]
  repeat' (with_reducible first | exact spec_l01Hash.v_lim _ | exact LimIs.const _ | refine LimIs.ite ?_ ?_ | refine LimIs.bind ?_ (fun _ => ?_))
def spec_l00Digits.f : Nat → Int → Option (ByteArray)
  | 0, _ => none
  | k + 1, a0 => if a0 = (-9223372036854775808) then (some (⟨#[45, 57, 50, 50, 51, 51, 55, 50, 48, 51, 54, 56, 53, 52, 55, 55, 53, 56, 48, 56]⟩ : ByteArray)) else (if a0 < 0 then ((spec_l00Digits.f k (wrap64 (-a0))).bind fun t1027 => (if 1 + t1027.size ≤ 9223372036854775807 then (some ((⟨#[45]⟩ : ByteArray) ++ t1027)) else (none))) else (if a0 < 10 then (some (strOfNums (([(wrap64 (48 + a0)) % 256] : List Int)))) else ((spec_l00Digits.f k (wrap64 (Int.tdiv a0 10))).bind fun t1031 => ((some (([(wrap64 (48 + (Int.tmod a0 10))) % 256] : List Int) : List Int)).bind fun y1032 => (if t1031.size + (strOfNums y1032).size ≤ 9223372036854775807 then (some (t1031 ++ (strOfNums y1032))) else (none))))))
theorem spec_l00Digits.mono_l : ∀ k, (∀ y0, LeO (spec_l00Digits.f k y0) (spec_l00Digits.f (k + 1) y0))
  | 0 => fun _ r h => by simp [spec_l00Digits.f] at h
  | k + 1 => by
    have ih0 := spec_l00Digits.mono_l k
    · intro y0
      unfold spec_l00Digits.f
      repeat' first
      | (with_reducible exact ih0 _)
      | (with_reducible exact LeO.refl _)
      | (with_reducible exact LeO.none _)
      | (with_reducible refine LeO.ite ?_ ?_)
      | (with_reducible refine LeO.bind ?_ (fun _ => ?_))
      | exact ih0 _
      | exact LeO.none _
      | refine LeO.ite ?_ ?_
      | refine LeO.bind ?_ (fun _ => ?_)
theorem spec_l00Digits.mono : ∀ a0 k, LeO (spec_l00Digits.f k a0) (spec_l00Digits.f (k + 1) a0) := by
  intro a0 k
  have ih0 := spec_l00Digits.mono_l k
  exact ih0 a0
noncomputable def spec_l00Digits.v (a0 : Int) : Option (ByteArray) := lim (fun k_ => spec_l00Digits.f k_ a0)
theorem spec_l00Digits.v_lim (a0 : Int) : LimIs (fun k_ => spec_l00Digits.f k_ a0) (spec_l00Digits.v a0) := lim_is (fun k_ => spec_l00Digits.mono a0 k_)
theorem spec_l00Digits.v_eq (a0 : Int) : spec_l00Digits.v a0 = (if a0 = (-9223372036854775808) then (some (⟨#[45, 57, 50, 50, 51, 51, 55, 50, 48, 51, 54, 56, 53, 52, 55, 55, 53, 56, 48, 56]⟩ : ByteArray)) else (if a0 < 0 then ((spec_l00Digits.v (wrap64 (-a0))).bind fun t1027 => (if 1 + t1027.size ≤ 9223372036854775807 then (some ((⟨#[45]⟩ : ByteArray) ++ t1027)) else (none))) else (if a0 < 10 then (some (strOfNums (([(wrap64 (48 + a0)) % 256] : List Int)))) else ((spec_l00Digits.v (wrap64 (Int.tdiv a0 10))).bind fun t1031 => ((some (([(wrap64 (48 + (Int.tmod a0 10))) % 256] : List Int) : List Int)).bind fun y1032 => (if t1031.size + (strOfNums y1032).size ≤ 9223372036854775807 then (some (t1031 ++ (strOfNums y1032))) else (none)))))) : Option (ByteArray)) := by
  refine LimIs.eq (spec_l00Digits.v_lim a0) ?_
  refine LimIs.step (fun k_ => spec_l00Digits.mono a0 k_) ?_
  simp only [spec_l00Digits.f]
  repeat' (with_reducible first | exact spec_l00Digits.v_lim _ | exact LimIs.const _ | refine LimIs.ite ?_ ?_ | refine LimIs.bind ?_ (fun _ => ?_))
def spec_l12Text.f (k : Nat) (a0_0 : ByteArray) (a0_1 : Int) (a0_2 : Int) (a0_3 : Int) : Option (ByteArray) := if 6 + a0_0.size ≤ 9223372036854775807 then (if ((⟨#[103, 114, 97, 110, 116, 32]⟩ : ByteArray) ++ a0_0).size + 1 ≤ 9223372036854775807 then ((spec_l00Digits.f k a0_1).bind fun t1036 => (if (((⟨#[103, 114, 97, 110, 116, 32]⟩ : ByteArray) ++ a0_0) ++ (⟨#[32]⟩ : ByteArray)).size + t1036.size ≤ 9223372036854775807 then (if ((((⟨#[103, 114, 97, 110, 116, 32]⟩ : ByteArray) ++ a0_0) ++ (⟨#[32]⟩ : ByteArray)) ++ t1036).size + 1 ≤ 9223372036854775807 then ((spec_l00Digits.f k a0_2).bind fun t1037 => (if (((((⟨#[103, 114, 97, 110, 116, 32]⟩ : ByteArray) ++ a0_0) ++ (⟨#[32]⟩ : ByteArray)) ++ t1036) ++ (⟨#[32]⟩ : ByteArray)).size + t1037.size ≤ 9223372036854775807 then (if ((((((⟨#[103, 114, 97, 110, 116, 32]⟩ : ByteArray) ++ a0_0) ++ (⟨#[32]⟩ : ByteArray)) ++ t1036) ++ (⟨#[32]⟩ : ByteArray)) ++ t1037).size + 1 ≤ 9223372036854775807 then ((spec_l00Digits.f k a0_3).bind fun t1038 => (if (((((((⟨#[103, 114, 97, 110, 116, 32]⟩ : ByteArray) ++ a0_0) ++ (⟨#[32]⟩ : ByteArray)) ++ t1036) ++ (⟨#[32]⟩ : ByteArray)) ++ t1037) ++ (⟨#[32]⟩ : ByteArray)).size + t1038.size ≤ 9223372036854775807 then (some ((((((((⟨#[103, 114, 97, 110, 116, 32]⟩ : ByteArray) ++ a0_0) ++ (⟨#[32]⟩ : ByteArray)) ++ t1036) ++ (⟨#[32]⟩ : ByteArray)) ++ t1037) ++ (⟨#[32]⟩ : ByteArray)) ++ t1038)) else (none))) else (none)) else (none))) else (none)) else (none))) else (none)) else (none)
theorem spec_l12Text.mono : ∀ a0 a1 a2 a3 k, LeO (spec_l12Text.f k a0 a1 a2 a3) (spec_l12Text.f (k + 1) a0 a1 a2 a3) := by
  intro a0 a1 a2 a3 k
  unfold spec_l12Text.f
  repeat' first
      | (with_reducible exact spec_l00Digits.mono _ _)
      | (with_reducible exact LeO.refl _)
      | (with_reducible exact LeO.none _)
      | (with_reducible refine LeO.ite ?_ ?_)
      | (with_reducible refine LeO.bind ?_ (fun _ => ?_))
      | exact spec_l00Digits.mono _ _
      | exact LeO.none _
      | refine LeO.ite ?_ ?_
      | refine LeO.bind ?_ (fun _ => ?_)
noncomputable def spec_l12Text.v (a0_0 : ByteArray) (a0_1 : Int) (a0_2 : Int) (a0_3 : Int) : Option (ByteArray) := lim (fun k_ => spec_l12Text.f k_ a0_0 a0_1 a0_2 a0_3)
theorem spec_l12Text.v_lim (a0_0 : ByteArray) (a0_1 : Int) (a0_2 : Int) (a0_3 : Int) : LimIs (fun k_ => spec_l12Text.f k_ a0_0 a0_1 a0_2 a0_3) (spec_l12Text.v a0_0 a0_1 a0_2 a0_3) := lim_is (fun k_ => spec_l12Text.mono a0_0 a0_1 a0_2 a0_3 k_)
theorem spec_l12Text.v_eq (a0_0 : ByteArray) (a0_1 : Int) (a0_2 : Int) (a0_3 : Int) : spec_l12Text.v a0_0 a0_1 a0_2 a0_3 = (if 6 + a0_0.size ≤ 9223372036854775807 then (if ((⟨#[103, 114, 97, 110, 116, 32]⟩ : ByteArray) ++ a0_0).size + 1 ≤ 9223372036854775807 then ((spec_l00Digits.v a0_1).bind fun t1036 => (if (((⟨#[103, 114, 97, 110, 116, 32]⟩ : ByteArray) ++ a0_0) ++ (⟨#[32]⟩ : ByteArray)).size + t1036.size ≤ 9223372036854775807 then (if ((((⟨#[103, 114, 97, 110, 116, 32]⟩ : ByteArray) ++ a0_0) ++ (⟨#[32]⟩ : ByteArray)) ++ t1036).size + 1 ≤ 9223372036854775807 then ((spec_l00Digits.v a0_2).bind fun t1037 => (if (((((⟨#[103, 114, 97, 110, 116, 32]⟩ : ByteArray) ++ a0_0) ++ (⟨#[32]⟩ : ByteArray)) ++ t1036) ++ (⟨#[32]⟩ : ByteArray)).size + t1037.size ≤ 9223372036854775807 then (if ((((((⟨#[103, 114, 97, 110, 116, 32]⟩ : ByteArray) ++ a0_0) ++ (⟨#[32]⟩ : ByteArray)) ++ t1036) ++ (⟨#[32]⟩ : ByteArray)) ++ t1037).size + 1 ≤ 9223372036854775807 then ((spec_l00Digits.v a0_3).bind fun t1038 => (if (((((((⟨#[103, 114, 97, 110, 116, 32]⟩ : ByteArray) ++ a0_0) ++ (⟨#[32]⟩ : ByteArray)) ++ t1036) ++ (⟨#[32]⟩ : ByteArray)) ++ t1037) ++ (⟨#[32]⟩ : ByteArray)).size + t1038.size ≤ 9223372036854775807 then (some ((((((((⟨#[103, 114, 97, 110, 116, 32]⟩ : ByteArray) ++ a0_0) ++ (⟨#[32]⟩ : ByteArray)) ++ t1036) ++ (⟨#[32]⟩ : ByteArray)) ++ t1037) ++ (⟨#[32]⟩ : ByteArray)) ++ t1038)) else (none))) else (none)) else (none))) else (none)) else (none))) else (none)) else (none) : Option (ByteArray)) := by
  refine LimIs.eq (spec_l12Text.v_lim a0_0 a0_1 a0_2 a0_3) ?_
  simp only [spec_l12Text.f]
  repeat' (with_reducible first | exact spec_l00Digits.v_lim _ | exact LimIs.const _ | refine LimIs.ite ?_ ?_ | refine LimIs.bind ?_ (fun _ => ?_))
def spec_SignGrant.j0 : Nat → Int → Int → Bool → ByteArray → Int → Int → Int → Option (Int × List ByteArray × List ByteArray × List ByteArray × Int)
  | 0, _, _, _, _, _, _, _ => none
  | k + 1, x0, x1, x19, x1040000, x1040001, x1040002, x1040003 => if x19 = true then (some (0, ([] : List ByteArray), ([] : List ByteArray), ([] : List ByteArray), 4)) else ((spec_l12Seed.f k x0).bind fun t1044 => ((spec_l12Text.f k x1040000 x1040001 x1040002 x1040003).bind fun t1045 => ((spec_l03Sign.f k t1044 x1 t1045).bind fun bt1046 => (some (bt1046.1, bt1046.2.1, bt1046.2.2.1, bt1046.2.2.2, 0)))))
def spec_SignGrant.f (k : Nat) (a0 : Int) (a1 : Int) (a2_0 : ByteArray) (a2_1 : Int) (a2_2 : Int) (a2_3 : Int) : Option (Int × List ByteArray × List ByteArray × List ByteArray × Int) := (spec_GrantOK.f k a2_0 a2_1 a2_2 a2_3).bind fun t1041 => (if t1041 = true then ((spec_l01In.f a0 0 6).bind fun t1042 => (if t1042 = true then ((spec_l01In.f a1 0 7).bind fun t1043 => (spec_SignGrant.j0 k a0 a1 (!t1043) a2_0 a2_1 a2_2 a2_3)) else (spec_SignGrant.j0 k a0 a1 true a2_0 a2_1 a2_2 a2_3))) else (some (0, ([] : List ByteArray), ([] : List ByteArray), ([] : List ByteArray), 1)))
theorem spec_SignGrant.mono_l : ∀ k, (∀ y0 y1 y2 y3 y4 y5 y6, LeO (spec_SignGrant.j0 k y0 y1 y2 y3 y4 y5 y6) (spec_SignGrant.j0 (k + 1) y0 y1 y2 y3 y4 y5 y6))
  | 0 => fun _ _ _ _ _ _ _ r h => by simp [spec_SignGrant.j0] at h
  | k + 1 => by
    have ih0 := spec_SignGrant.mono_l k
    · intro y0 y1 y2 y3 y4 y5 y6
      unfold spec_SignGrant.j0
      repeat' first
      | (with_reducible exact ih0 _ _ _ _ _ _ _)
      | (with_reducible exact spec_GrantOK.mono _ _ _ _ _)
      | (with_reducible exact spec_l03Sign.mono _ _ _ _)
      | (with_reducible exact spec_l12Seed.mono _ _)
      | (with_reducible exact spec_l12Text.mono _ _ _ _ _)
      | (with_reducible exact LeO.refl _)
      | (with_reducible exact LeO.none _)
      | (with_reducible refine LeO.ite ?_ ?_)
      | (with_reducible refine LeO.bind ?_ (fun _ => ?_))
      | exact ih0 _ _ _ _ _ _ _
      | exact spec_GrantOK.mono _ _ _ _ _
      | exact spec_l03Sign.mono _ _ _ _
      | exact spec_l12Seed.mono _ _
      | exact spec_l12Text.mono _ _ _ _ _
      | exact LeO.none _
      | refine LeO.ite ?_ ?_
      | refine LeO.bind ?_ (fun _ => ?_)
theorem spec_SignGrant.mono : ∀ a0 a1 a2 a3 a4 a5 k, LeO (spec_SignGrant.f k a0 a1 a2 a3 a4 a5) (spec_SignGrant.f (k + 1) a0 a1 a2 a3 a4 a5) := by
  intro a0 a1 a2 a3 a4 a5 k
  have ih0 := spec_SignGrant.mono_l k
  unfold spec_SignGrant.f
  repeat' first
      | (with_reducible exact ih0 _ _ _ _ _ _ _)
      | (with_reducible exact spec_GrantOK.mono _ _ _ _ _)
      | (with_reducible exact spec_l03Sign.mono _ _ _ _)
      | (with_reducible exact spec_l12Seed.mono _ _)
      | (with_reducible exact spec_l12Text.mono _ _ _ _ _)
      | (with_reducible exact LeO.refl _)
      | (with_reducible exact LeO.none _)
      | (with_reducible refine LeO.ite ?_ ?_)
      | (with_reducible refine LeO.bind ?_ (fun _ => ?_))
      | exact ih0 _ _ _ _ _ _ _
      | exact spec_GrantOK.mono _ _ _ _ _
      | exact spec_l03Sign.mono _ _ _ _
      | exact spec_l12Seed.mono _ _
      | exact spec_l12Text.mono _ _ _ _ _
      | exact LeO.none _
      | refine LeO.ite ?_ ?_
      | refine LeO.bind ?_ (fun _ => ?_)
noncomputable def spec_SignGrant.jv0 (x0 : Int) (x1 : Int) (x19 : Bool) (x1040000 : ByteArray) (x1040001 : Int) (x1040002 : Int) (x1040003 : Int) : Option (Int × List ByteArray × List ByteArray × List ByteArray × Int) := lim (fun k_ => spec_SignGrant.j0 k_ x0 x1 x19 x1040000 x1040001 x1040002 x1040003)
noncomputable def spec_SignGrant.v (a0 : Int) (a1 : Int) (a2_0 : ByteArray) (a2_1 : Int) (a2_2 : Int) (a2_3 : Int) : Option (Int × List ByteArray × List ByteArray × List ByteArray × Int) := lim (fun k_ => spec_SignGrant.f k_ a0 a1 a2_0 a2_1 a2_2 a2_3)
theorem spec_SignGrant.jv0_lim (x0 : Int) (x1 : Int) (x19 : Bool) (x1040000 : ByteArray) (x1040001 : Int) (x1040002 : Int) (x1040003 : Int) : LimIs (fun k_ => spec_SignGrant.j0 k_ x0 x1 x19 x1040000 x1040001 x1040002 x1040003) (spec_SignGrant.jv0 x0 x1 x19 x1040000 x1040001 x1040002 x1040003) := lim_is (fun k_ => (spec_SignGrant.mono_l k_) x0 x1 x19 x1040000 x1040001 x1040002 x1040003)
theorem spec_SignGrant.v_lim (a0 : Int) (a1 : Int) (a2_0 : ByteArray) (a2_1 : Int) (a2_2 : Int) (a2_3 : Int) : LimIs (fun k_ => spec_SignGrant.f k_ a0 a1 a2_0 a2_1 a2_2 a2_3) (spec_SignGrant.v a0 a1 a2_0 a2_1 a2_2 a2_3) := lim_is (fun k_ => spec_SignGrant.mono a0 a1 a2_0 a2_1 a2_2 a2_3 k_)
theorem spec_SignGrant.jv0_eq (x0 : Int) (x1 : Int) (x19 : Bool) (x1040000 : ByteArray) (x1040001 : Int) (x1040002 : Int) (x1040003 : Int) : spec_SignGrant.jv0 x0 x1 x19 x1040000 x1040001 x1040002 x1040003 = (if x19 = true then (some (0, ([] : List ByteArray), ([] : List ByteArray), ([] : List ByteArray), 4)) else ((spec_l12Seed.v x0).bind fun t1044 => ((spec_l12Text.v x1040000 x1040001 x1040002 x1040003).bind fun t1045 => ((spec_l03Sign.v t1044 x1 t1045).bind fun bt1046 => (some (bt1046.1, bt1046.2.1, bt1046.2.2.1, bt1046.2.2.2, 0))))) : Option (Int × List ByteArray × List ByteArray × List ByteArray × Int)) := by
  refine LimIs.eq (spec_SignGrant.jv0_lim x0 x1 x19 x1040000 x1040001 x1040002 x1040003) ?_
  refine LimIs.step (fun k_ => (spec_SignGrant.mono_l k_) x0 x1 x19 x1040000 x1040001 x1040002 x1040003) ?_
  simp only [spec_SignGrant.j0]
  repeat' (with_reducible first | exact spec_l03Sign.v_lim _ _ _ | exact spec_l12Seed.v_lim _ | exact spec_l12Text.v_lim _ _ _ _ | exact LimIs.const _ | refine LimIs.ite ?_ ?_ | refine LimIs.bind ?_ (fun _ => ?_))
theorem spec_SignGrant.v_eq (a0 : Int) (a1 : Int) (a2_0 : ByteArray) (a2_1 : Int) (a2_2 : Int) (a2_3 : Int) : spec_SignGrant.v a0 a1 a2_0 a2_1 a2_2 a2_3 = ((spec_GrantOK.v a2_0 a2_1 a2_2 a2_3).bind fun t1041 => (if t1041 = true then ((spec_l01In.v a0 0 6).bind fun t1042 => (if t1042 = true then ((spec_l01In.v a1 0 7).bind fun t1043 => (spec_SignGrant.jv0 a0 a1 (!t1043) a2_0 a2_1 a2_2 a2_3)) else (spec_SignGrant.jv0 a0 a1 true a2_0 a2_1 a2_2 a2_3))) else (some (0, ([] : List ByteArray), ([] : List ByteArray), ([] : List ByteArray), 1))) : Option (Int × List ByteArray × List ByteArray × List ByteArray × Int)) := by
  refine LimIs.eq (spec_SignGrant.v_lim a0 a1 a2_0 a2_1 a2_2 a2_3) ?_
  simp only [spec_SignGrant.f]
  repeat' (with_reducible first | exact spec_GrantOK.v_lim _ _ _ _ | exact spec_SignGrant.jv0_lim _ _ _ _ _ _ _ | exact spec_l01In.v_lim _ _ _ | exact LimIs.const _ | refine LimIs.ite ?_ ?_ | refine LimIs.bind ?_ (fun _ => ?_))
def laws_toGrant.f (a0_0 : ByteArray) (a0_1 : Int) (a0_2 : Int) (a0_3 : Int) : Option (ByteArray × Int × Int × Int) := some (a0_0, a0_1, a0_2, a0_3)
def laws_toGrant.v (a0_0 : ByteArray) (a0_1 : Int) (a0_2 : Int) (a0_3 : Int) : Option (ByteArray × Int × Int × Int) := laws_toGrant.f a0_0 a0_1 a0_2 a0_3
theorem laws_toGrant.v_lim (a0_0 : ByteArray) (a0_1 : Int) (a0_2 : Int) (a0_3 : Int) : LimIs (fun _ => laws_toGrant.f a0_0 a0_1 a0_2 a0_3) (laws_toGrant.v a0_0 a0_1 a0_2 a0_3) := LimIs.const _
theorem laws_toGrant.v_eq (a0_0 : ByteArray) (a0_1 : Int) (a0_2 : Int) (a0_3 : Int) : laws_toGrant.v a0_0 a0_1 a0_2 a0_3 = (some (a0_0, a0_1, a0_2, a0_3) : Option (ByteArray × Int × Int × Int)) := rfl
def impl_isLetter.f (a0 : Int) : Option (Bool) := if a0 ≥ 97 then (if a0 ≤ 122 then (some true) else (if a0 ≥ 65 then (if a0 ≤ 90 then (some true) else (some (a0 == 95))) else (some (a0 == 95)))) else (if a0 ≥ 65 then (if a0 ≤ 90 then (some true) else (some (a0 == 95))) else (some (a0 == 95)))
def impl_isLetter.v (a0 : Int) : Option (Bool) := impl_isLetter.f a0
theorem impl_isLetter.v_lim (a0 : Int) : LimIs (fun _ => impl_isLetter.f a0) (impl_isLetter.v a0) := LimIs.const _
theorem impl_isLetter.v_eq (a0 : Int) : impl_isLetter.v a0 = (if a0 ≥ 97 then (if a0 ≤ 122 then (some true) else (if a0 ≥ 65 then (if a0 ≤ 90 then (some true) else (some (a0 == 95))) else (some (a0 == 95)))) else (if a0 ≥ 65 then (if a0 ≤ 90 then (some true) else (some (a0 == 95))) else (some (a0 == 95))) : Option (Bool)) := rfl
mutual
def impl_NameOK.j0 : Nat → ByteArray → Bool → Option (Bool)
  | 0, _, _ => none
  | k + 1, x0, x17 => if x17 = true then (some false) else (impl_NameOK.l0 k x0 (x0.size : Int) 0)
def impl_NameOK.l0 : Nat → ByteArray → Int → Int → Option (Bool)
  | 0, _, _, _ => none
  | k + 1, x0, x19, x20 => if x20 < x19 then (if 0 ≤ x20 then (if x20 < (x0.size : Int) then ((impl_isLetter.f (bt x0 x20)).bind fun t1060 => (if t1060 = true then (impl_NameOK.l0 k x0 x19 (wrap64 (x20 + 1))) else (if (bt x0 x20) < 48 then (some false) else (if (bt x0 x20) > 57 then (some false) else (impl_NameOK.l0 k x0 x19 (wrap64 (x20 + 1))))))) else (none)) else (none)) else (some true)
end
def impl_NameOK.f (k : Nat) (a0 : ByteArray) : Option (Bool) := if (a0.size : Int) < 1 then (impl_NameOK.j0 k a0 true) else (if (a0.size : Int) > 40 then (impl_NameOK.j0 k a0 true) else (if 0 < (a0.size : Int) then ((impl_isLetter.f (bt a0 0)).bind fun t1059 => (impl_NameOK.j0 k a0 (!t1059))) else (none)))
theorem impl_NameOK.mono_l : ∀ k, (∀ y0 y1, LeO (impl_NameOK.j0 k y0 y1) (impl_NameOK.j0 (k + 1) y0 y1)) ∧ (∀ y0 y1 y2, LeO (impl_NameOK.l0 k y0 y1 y2) (impl_NameOK.l0 (k + 1) y0 y1 y2))
  | 0 => ⟨fun _ _ r h => by simp [impl_NameOK.j0] at h, fun _ _ _ r h => by simp [impl_NameOK.l0] at h⟩
  | k + 1 => by
    obtain ⟨ih0, ih1⟩ := impl_NameOK.mono_l k
    refine ⟨?_, ?_⟩
    · intro y0 y1
      unfold impl_NameOK.j0
      repeat' first
      | (with_reducible exact ih0 _ _)
      | (with_reducible exact ih1 _ _ _)
      | (with_reducible exact LeO.refl _)
      | (with_reducible exact LeO.none _)
      | (with_reducible refine LeO.ite ?_ ?_)
      | (with_reducible refine LeO.bind ?_ (fun _ => ?_))
      | exact ih0 _ _
      | exact ih1 _ _ _
      | exact LeO.none _
      | refine LeO.ite ?_ ?_
      | refine LeO.bind ?_ (fun _ => ?_)
    · intro y0 y1 y2
      unfold impl_NameOK.l0
      repeat' first
      | (with_reducible exact ih0 _ _)
      | (with_reducible exact ih1 _ _ _)
      | (with_reducible exact LeO.refl _)
      | (with_reducible exact LeO.none _)
      | (with_reducible refine LeO.ite ?_ ?_)
      | (with_reducible refine LeO.bind ?_ (fun _ => ?_))
      | exact ih0 _ _
      | exact ih1 _ _ _
      | exact LeO.none _
      | refine LeO.ite ?_ ?_
      | refine LeO.bind ?_ (fun _ => ?_)
theorem impl_NameOK.mono : ∀ a0 k, LeO (impl_NameOK.f k a0) (impl_NameOK.f (k + 1) a0) := by
  intro a0 k
  obtain ⟨ih0, ih1⟩ := impl_NameOK.mono_l k
  unfold impl_NameOK.f
  repeat' first
      | (with_reducible exact ih0 _ _)
      | (with_reducible exact ih1 _ _ _)
      | (with_reducible exact LeO.refl _)
      | (with_reducible exact LeO.none _)
      | (with_reducible refine LeO.ite ?_ ?_)
      | (with_reducible refine LeO.bind ?_ (fun _ => ?_))
      | exact ih0 _ _
      | exact ih1 _ _ _
      | exact LeO.none _
      | refine LeO.ite ?_ ?_
      | refine LeO.bind ?_ (fun _ => ?_)
noncomputable def impl_NameOK.jv0 (x0 : ByteArray) (x17 : Bool) : Option (Bool) := lim (fun k_ => impl_NameOK.j0 k_ x0 x17)
noncomputable def impl_NameOK.lv0 (x0 : ByteArray) (x19 : Int) (x20 : Int) : Option (Bool) := lim (fun k_ => impl_NameOK.l0 k_ x0 x19 x20)
noncomputable def impl_NameOK.v (a0 : ByteArray) : Option (Bool) := lim (fun k_ => impl_NameOK.f k_ a0)
theorem impl_NameOK.jv0_lim (x0 : ByteArray) (x17 : Bool) : LimIs (fun k_ => impl_NameOK.j0 k_ x0 x17) (impl_NameOK.jv0 x0 x17) := lim_is (fun k_ => (impl_NameOK.mono_l k_).1 x0 x17)
theorem impl_NameOK.lv0_lim (x0 : ByteArray) (x19 : Int) (x20 : Int) : LimIs (fun k_ => impl_NameOK.l0 k_ x0 x19 x20) (impl_NameOK.lv0 x0 x19 x20) := lim_is (fun k_ => (impl_NameOK.mono_l k_).2 x0 x19 x20)
theorem impl_NameOK.v_lim (a0 : ByteArray) : LimIs (fun k_ => impl_NameOK.f k_ a0) (impl_NameOK.v a0) := lim_is (fun k_ => impl_NameOK.mono a0 k_)
theorem impl_NameOK.jv0_eq (x0 : ByteArray) (x17 : Bool) : impl_NameOK.jv0 x0 x17 = (if x17 = true then (some false) else (impl_NameOK.lv0 x0 (x0.size : Int) 0) : Option (Bool)) := by
  refine LimIs.eq (impl_NameOK.jv0_lim x0 x17) ?_
  refine LimIs.step (fun k_ => (impl_NameOK.mono_l k_).1 x0 x17) ?_
  simp only [impl_NameOK.j0]
  repeat' (with_reducible first | exact impl_NameOK.lv0_lim _ _ _ | exact LimIs.const _ | refine LimIs.ite ?_ ?_ | refine LimIs.bind ?_ (fun _ => ?_))
theorem impl_NameOK.lv0_eq (x0 : ByteArray) (x19 : Int) (x20 : Int) : impl_NameOK.lv0 x0 x19 x20 = (if x20 < x19 then (if 0 ≤ x20 then (if x20 < (x0.size : Int) then ((impl_isLetter.v (bt x0 x20)).bind fun t1060 => (if t1060 = true then (impl_NameOK.lv0 x0 x19 (wrap64 (x20 + 1))) else (if (bt x0 x20) < 48 then (some false) else (if (bt x0 x20) > 57 then (some false) else (impl_NameOK.lv0 x0 x19 (wrap64 (x20 + 1))))))) else (none)) else (none)) else (some true) : Option (Bool)) := by
  refine LimIs.eq (impl_NameOK.lv0_lim x0 x19 x20) ?_
  refine LimIs.step (fun k_ => (impl_NameOK.mono_l k_).2 x0 x19 x20) ?_
  simp only [impl_NameOK.l0]
  repeat' (with_reducible first | exact impl_NameOK.lv0_lim _ _ _ | exact impl_isLetter.v_lim _ | exact LimIs.const _ | refine LimIs.ite ?_ ?_ | refine LimIs.bind ?_ (fun _ => ?_))
theorem impl_NameOK.v_eq (a0 : ByteArray) : impl_NameOK.v a0 = (if (a0.size : Int) < 1 then (impl_NameOK.jv0 a0 true) else (if (a0.size : Int) > 40 then (impl_NameOK.jv0 a0 true) else (if 0 < (a0.size : Int) then ((impl_isLetter.v (bt a0 0)).bind fun t1059 => (impl_NameOK.jv0 a0 (!t1059))) else (none))) : Option (Bool)) := by
  refine LimIs.eq (impl_NameOK.v_lim a0) ?_
  simp only [impl_NameOK.f]
  repeat' (with_reducible first | exact impl_NameOK.jv0_lim _ _ | exact impl_isLetter.v_lim _ | exact LimIs.const _ | refine LimIs.ite ?_ ?_ | refine LimIs.bind ?_ (fun _ => ?_))
def impl_isOpName.f (k : Nat) (a0 : ByteArray) : Option (Bool) := if (a0.size : Int) ≤ 12 then ((impl_NameOK.f k a0).bind fun t1061 => (some t1061)) else (some false)
theorem impl_isOpName.mono : ∀ a0 k, LeO (impl_isOpName.f k a0) (impl_isOpName.f (k + 1) a0) := by
  intro a0 k
  unfold impl_isOpName.f
  repeat' first
      | (with_reducible exact impl_NameOK.mono _ _)
      | (with_reducible exact LeO.refl _)
      | (with_reducible exact LeO.none _)
      | (with_reducible refine LeO.ite ?_ ?_)
      | (with_reducible refine LeO.bind ?_ (fun _ => ?_))
      | exact impl_NameOK.mono _ _
      | exact LeO.none _
      | refine LeO.ite ?_ ?_
      | refine LeO.bind ?_ (fun _ => ?_)
noncomputable def impl_isOpName.v (a0 : ByteArray) : Option (Bool) := lim (fun k_ => impl_isOpName.f k_ a0)
theorem impl_isOpName.v_lim (a0 : ByteArray) : LimIs (fun k_ => impl_isOpName.f k_ a0) (impl_isOpName.v a0) := lim_is (fun k_ => impl_isOpName.mono a0 k_)
theorem impl_isOpName.v_eq (a0 : ByteArray) : impl_isOpName.v a0 = (if (a0.size : Int) ≤ 12 then ((impl_NameOK.v a0).bind fun t1061 => (some t1061)) else (some false) : Option (Bool)) := by
  refine LimIs.eq (impl_isOpName.v_lim a0) ?_
  simp only [impl_isOpName.f]
  repeat' (with_reducible first | exact impl_NameOK.v_lim _ | exact LimIs.const _ | refine LimIs.ite ?_ ?_ | refine LimIs.bind ?_ (fun _ => ?_))
def impl_GrantOK.f (k : Nat) (a0_0 : ByteArray) (a0_1 : Int) (a0_2 : Int) (a0_3 : Int) : Option (Bool) := (impl_isOpName.f k a0_0).bind fun t1063 => (if t1063 = true then ((impl_within.f a0_1 0 255).bind fun t1064 => (if t1064 = true then ((impl_within.f a0_2 1 1000000).bind fun t1065 => (if t1065 = true then ((impl_within.f a0_3 0 2000000000).bind fun t1066 => (some t1066)) else (some false))) else (some false))) else (some false))
theorem impl_GrantOK.mono : ∀ a0 a1 a2 a3 k, LeO (impl_GrantOK.f k a0 a1 a2 a3) (impl_GrantOK.f (k + 1) a0 a1 a2 a3) := by
  intro a0 a1 a2 a3 k
  unfold impl_GrantOK.f
  repeat' first
      | (with_reducible exact impl_isOpName.mono _ _)
      | (with_reducible exact LeO.refl _)
      | (with_reducible exact LeO.none _)
      | (with_reducible refine LeO.ite ?_ ?_)
      | (with_reducible refine LeO.bind ?_ (fun _ => ?_))
      | exact impl_isOpName.mono _ _
      | exact LeO.none _
      | refine LeO.ite ?_ ?_
      | refine LeO.bind ?_ (fun _ => ?_)
noncomputable def impl_GrantOK.v (a0_0 : ByteArray) (a0_1 : Int) (a0_2 : Int) (a0_3 : Int) : Option (Bool) := lim (fun k_ => impl_GrantOK.f k_ a0_0 a0_1 a0_2 a0_3)
theorem impl_GrantOK.v_lim (a0_0 : ByteArray) (a0_1 : Int) (a0_2 : Int) (a0_3 : Int) : LimIs (fun k_ => impl_GrantOK.f k_ a0_0 a0_1 a0_2 a0_3) (impl_GrantOK.v a0_0 a0_1 a0_2 a0_3) := lim_is (fun k_ => impl_GrantOK.mono a0_0 a0_1 a0_2 a0_3 k_)
theorem impl_GrantOK.v_eq (a0_0 : ByteArray) (a0_1 : Int) (a0_2 : Int) (a0_3 : Int) : impl_GrantOK.v a0_0 a0_1 a0_2 a0_3 = ((impl_isOpName.v a0_0).bind fun t1063 => (if t1063 = true then ((impl_within.v a0_1 0 255).bind fun t1064 => (if t1064 = true then ((impl_within.v a0_2 1 1000000).bind fun t1065 => (if t1065 = true then ((impl_within.v a0_3 0 2000000000).bind fun t1066 => (some t1066)) else (some false))) else (some false))) else (some false)) : Option (Bool)) := by
  refine LimIs.eq (impl_GrantOK.v_lim a0_0 a0_1 a0_2 a0_3) ?_
  simp only [impl_GrantOK.f]
  repeat' (with_reducible first | exact impl_isOpName.v_lim _ | exact impl_within.v_lim _ _ _ | exact LimIs.const _ | refine LimIs.ite ?_ ?_ | refine LimIs.bind ?_ (fun _ => ?_))
def impl_isIndex.f (a0 : Int) : Option (Bool) := (impl_within.f a0 0 7).bind fun t1067 => (some t1067)
def impl_isIndex.v (a0 : Int) : Option (Bool) := impl_isIndex.f a0
theorem impl_isIndex.v_lim (a0 : Int) : LimIs (fun _ => impl_isIndex.f a0) (impl_isIndex.v a0) := LimIs.const _
theorem impl_isIndex.v_eq (a0 : Int) : impl_isIndex.v a0 = ((impl_within.v a0 0 7).bind fun t1067 => (some t1067) : Option (Bool)) := rfl
mutual
def impl_hashBits.l0 : Nat → ByteArray → List Int → Int → Int → Option (ByteArray)
  | 0, _, _, _, _ => none
  | k + 1, x0, x3, x11, x12 => if x12 < x11 then (impl_hashBits.l1 k x0 x3 x12 7 x11 x12) else (some (strOfNums x3))
def impl_hashBits.l1 : Nat → ByteArray → List Int → Int → Int → Int → Int → Option (ByteArray)
  | 0, _, _, _, _, _, _ => none
  | k + 1, x0, x3, x4, x5, x11, x12 => if x5 ≥ 0 then (if 0 ≤ x4 then (if x4 < (x0.size : Int) then (if 0 ≤ x5 then (if x3.length < 140737488355328 then (impl_hashBits.l1 k x0 (x3 ++ [(48 + (Go.bits .and .u8 (shr .u8 (bt x0 x4) x5) 1)) % 256]) x4 (wrap64 (x5 - 1)) x11 x12) else (none)) else (none)) else (none)) else (none)) else (impl_hashBits.l0 k x0 x3 x11 (wrap64 (x12 + 1)))
end
def impl_hashBits.f (k : Nat) (a0 : ByteArray) : Option (ByteArray) := if a0.size ≤ 1000000 then (impl_hashBits.l0 k a0 (([] : List Int)) (a0.size : Int) 0) else (none)
theorem impl_hashBits.mono_l : ∀ k, (∀ y0 y1 y2 y3, LeO (impl_hashBits.l0 k y0 y1 y2 y3) (impl_hashBits.l0 (k + 1) y0 y1 y2 y3)) ∧ (∀ y0 y1 y2 y3 y4 y5, LeO (impl_hashBits.l1 k y0 y1 y2 y3 y4 y5) (impl_hashBits.l1 (k + 1) y0 y1 y2 y3 y4 y5))
  | 0 => ⟨fun _ _ _ _ r h => by simp [impl_hashBits.l0] at h, fun _ _ _ _ _ _ r h => by simp [impl_hashBits.l1] at h⟩
  | k + 1 => by
    obtain ⟨ih0, ih1⟩ := impl_hashBits.mono_l k
    refine ⟨?_, ?_⟩
    · intro y0 y1 y2 y3
      unfold impl_hashBits.l0
      repeat' first
      | (with_reducible exact ih0 _ _ _ _)
      | (with_reducible exact ih1 _ _ _ _ _ _)
      | (with_reducible exact LeO.refl _)
      | (with_reducible exact LeO.none _)
      | (with_reducible refine LeO.ite ?_ ?_)
      | (with_reducible refine LeO.bind ?_ (fun _ => ?_))
      | exact ih0 _ _ _ _
      | exact ih1 _ _ _ _ _ _
      | exact LeO.none _
      | refine LeO.ite ?_ ?_
      | refine LeO.bind ?_ (fun _ => ?_)
    · intro y0 y1 y2 y3 y4 y5
      unfold impl_hashBits.l1
      repeat' first
      | (with_reducible exact ih0 _ _ _ _)
      | (with_reducible exact ih1 _ _ _ _ _ _)
      | (with_reducible exact LeO.refl _)
      | (with_reducible exact LeO.none _)
      | (with_reducible refine LeO.ite ?_ ?_)
      | (with_reducible refine LeO.bind ?_ (fun _ => ?_))
      | exact ih0 _ _ _ _
      | exact ih1 _ _ _ _ _ _
      | exact LeO.none _
      | refine LeO.ite ?_ ?_
      | refine LeO.bind ?_ (fun _ => ?_)
theorem impl_hashBits.mono : ∀ a0 k, LeO (impl_hashBits.f k a0) (impl_hashBits.f (k + 1) a0) := by
  intro a0 k
  obtain ⟨ih0, ih1⟩ := impl_hashBits.mono_l k
  unfold impl_hashBits.f
  repeat' first
      | (with_reducible exact ih0 _ _ _ _)
      | (with_reducible exact ih1 _ _ _ _ _ _)
      | (with_reducible exact LeO.refl _)
      | (with_reducible exact LeO.none _)
      | (with_reducible refine LeO.ite ?_ ?_)
      | (with_reducible refine LeO.bind ?_ (fun _ => ?_))
      | exact ih0 _ _ _ _
      | exact ih1 _ _ _ _ _ _
      | exact LeO.none _
      | refine LeO.ite ?_ ?_
      | refine LeO.bind ?_ (fun _ => ?_)
noncomputable def impl_hashBits.lv0 (x0 : ByteArray) (x3 : List Int) (x11 : Int) (x12 : Int) : Option (ByteArray) := lim (fun k_ => impl_hashBits.l0 k_ x0 x3 x11 x12)
noncomputable def impl_hashBits.lv1 (x0 : ByteArray) (x3 : List Int) (x4 : Int) (x5 : Int) (x11 : Int) (x12 : Int) : Option (ByteArray) := lim (fun k_ => impl_hashBits.l1 k_ x0 x3 x4 x5 x11 x12)
noncomputable def impl_hashBits.v (a0 : ByteArray) : Option (ByteArray) := lim (fun k_ => impl_hashBits.f k_ a0)
theorem impl_hashBits.lv0_lim (x0 : ByteArray) (x3 : List Int) (x11 : Int) (x12 : Int) : LimIs (fun k_ => impl_hashBits.l0 k_ x0 x3 x11 x12) (impl_hashBits.lv0 x0 x3 x11 x12) := lim_is (fun k_ => (impl_hashBits.mono_l k_).1 x0 x3 x11 x12)
theorem impl_hashBits.lv1_lim (x0 : ByteArray) (x3 : List Int) (x4 : Int) (x5 : Int) (x11 : Int) (x12 : Int) : LimIs (fun k_ => impl_hashBits.l1 k_ x0 x3 x4 x5 x11 x12) (impl_hashBits.lv1 x0 x3 x4 x5 x11 x12) := lim_is (fun k_ => (impl_hashBits.mono_l k_).2 x0 x3 x4 x5 x11 x12)
theorem impl_hashBits.v_lim (a0 : ByteArray) : LimIs (fun k_ => impl_hashBits.f k_ a0) (impl_hashBits.v a0) := lim_is (fun k_ => impl_hashBits.mono a0 k_)
theorem impl_hashBits.lv0_eq (x0 : ByteArray) (x3 : List Int) (x11 : Int) (x12 : Int) : impl_hashBits.lv0 x0 x3 x11 x12 = (if x12 < x11 then (impl_hashBits.lv1 x0 x3 x12 7 x11 x12) else (some (strOfNums x3)) : Option (ByteArray)) := by
  refine LimIs.eq (impl_hashBits.lv0_lim x0 x3 x11 x12) ?_
  refine LimIs.step (fun k_ => (impl_hashBits.mono_l k_).1 x0 x3 x11 x12) ?_
  simp only [impl_hashBits.l0]
  repeat' (with_reducible first | exact impl_hashBits.lv1_lim _ _ _ _ _ _ | exact LimIs.const _ | refine LimIs.ite ?_ ?_ | refine LimIs.bind ?_ (fun _ => ?_))
theorem impl_hashBits.lv1_eq (x0 : ByteArray) (x3 : List Int) (x4 : Int) (x5 : Int) (x11 : Int) (x12 : Int) : impl_hashBits.lv1 x0 x3 x4 x5 x11 x12 = (if x5 ≥ 0 then (if 0 ≤ x4 then (if x4 < (x0.size : Int) then (if 0 ≤ x5 then (if x3.length < 140737488355328 then (impl_hashBits.lv1 x0 (x3 ++ [(48 + (Go.bits .and .u8 (shr .u8 (bt x0 x4) x5) 1)) % 256]) x4 (wrap64 (x5 - 1)) x11 x12) else (none)) else (none)) else (none)) else (none)) else (impl_hashBits.lv0 x0 x3 x11 (wrap64 (x12 + 1))) : Option (ByteArray)) := by
  refine LimIs.eq (impl_hashBits.lv1_lim x0 x3 x4 x5 x11 x12) ?_
  refine LimIs.step (fun k_ => (impl_hashBits.mono_l k_).2 x0 x3 x4 x5 x11 x12) ?_
  simp only [impl_hashBits.l1]
  repeat' (with_reducible first | exact impl_hashBits.lv0_lim _ _ _ _ | exact impl_hashBits.lv1_lim _ _ _ _ _ _ | exact LimIs.const _ | refine LimIs.ite ?_ ?_ | refine LimIs.bind ?_ (fun _ => ?_))
theorem impl_hashBits.v_eq (a0 : ByteArray) : impl_hashBits.v a0 = (if a0.size ≤ 1000000 then (impl_hashBits.lv0 a0 (([] : List Int)) (a0.size : Int) 0) else (none) : Option (ByteArray)) := by
  refine LimIs.eq (impl_hashBits.v_lim a0) ?_
  simp only [impl_hashBits.f]
  repeat' (with_reducible first | exact impl_hashBits.lv0_lim _ _ _ _ | exact LimIs.const _ | refine LimIs.ite ?_ ?_ | refine LimIs.bind ?_ (fun _ => ?_))
def impl_messageBits.f (k : Nat) (a0 : ByteArray) : Option (ByteArray) := if 6 + a0.size ≤ 9223372036854775807 then ((impl_hash.f k ((⟨#[100, 105, 103, 101, 115, 116]⟩ : ByteArray) ++ a0)).bind fun t1074 => ((impl_hashBits.f k t1074).bind fun t1075 => (if 0 ≤ 32 then (if 32 ≤ (t1075.size : Int) then (some (t1075.extract 0 32)) else (none)) else (none)))) else (none)
theorem impl_messageBits.mono : ∀ a0 k, LeO (impl_messageBits.f k a0) (impl_messageBits.f (k + 1) a0) := by
  intro a0 k
  unfold impl_messageBits.f
  repeat' first
      | (with_reducible exact impl_hash.mono _ _)
      | (with_reducible exact impl_hashBits.mono _ _)
      | (with_reducible exact LeO.refl _)
      | (with_reducible exact LeO.none _)
      | (with_reducible refine LeO.ite ?_ ?_)
      | (with_reducible refine LeO.bind ?_ (fun _ => ?_))
      | exact impl_hash.mono _ _
      | exact impl_hashBits.mono _ _
      | exact LeO.none _
      | refine LeO.ite ?_ ?_
      | refine LeO.bind ?_ (fun _ => ?_)
noncomputable def impl_messageBits.v (a0 : ByteArray) : Option (ByteArray) := lim (fun k_ => impl_messageBits.f k_ a0)
theorem impl_messageBits.v_lim (a0 : ByteArray) : LimIs (fun k_ => impl_messageBits.f k_ a0) (impl_messageBits.v a0) := lim_is (fun k_ => impl_messageBits.mono a0 k_)
theorem impl_messageBits.v_eq (a0 : ByteArray) : impl_messageBits.v a0 = (if 6 + a0.size ≤ 9223372036854775807 then ((impl_hash.v ((⟨#[100, 105, 103, 101, 115, 116]⟩ : ByteArray) ++ a0)).bind fun t1074 => ((impl_hashBits.v t1074).bind fun t1075 => (if 0 ≤ 32 then (if 32 ≤ (t1075.size : Int) then (some (t1075.extract 0 32)) else (none)) else (none)))) else (none) : Option (ByteArray)) := by
  refine LimIs.eq (impl_messageBits.v_lim a0) ?_
  simp only [impl_messageBits.f]
  repeat' (with_reducible first | exact impl_hash.v_lim _ | exact impl_hashBits.v_lim _ | exact LimIs.const _ | refine LimIs.ite ?_ ?_ | refine LimIs.bind ?_ (fun _ => ?_))
def impl_secret.f (k : Nat) (a0 : ByteArray) (a1 : Int) (a2 : Int) (a3 : Int) : Option (ByteArray) := if 6 + a0.size ≤ 9223372036854775807 then ((impl_number.f k a1 1).bind fun t1076 => (if ((⟨#[115, 101, 99, 114, 101, 116]⟩ : ByteArray) ++ a0).size + t1076.size ≤ 9223372036854775807 then ((impl_number.f k a2 1).bind fun t1077 => (if (((⟨#[115, 101, 99, 114, 101, 116]⟩ : ByteArray) ++ a0) ++ t1076).size + t1077.size ≤ 9223372036854775807 then ((impl_number.f k a3 1).bind fun t1078 => (if ((((⟨#[115, 101, 99, 114, 101, 116]⟩ : ByteArray) ++ a0) ++ t1076) ++ t1077).size + t1078.size ≤ 9223372036854775807 then ((impl_hash.f k (((((⟨#[115, 101, 99, 114, 101, 116]⟩ : ByteArray) ++ a0) ++ t1076) ++ t1077) ++ t1078)).bind fun t1079 => (some t1079)) else (none))) else (none))) else (none))) else (none)
theorem impl_secret.mono : ∀ a0 a1 a2 a3 k, LeO (impl_secret.f k a0 a1 a2 a3) (impl_secret.f (k + 1) a0 a1 a2 a3) := by
  intro a0 a1 a2 a3 k
  unfold impl_secret.f
  repeat' first
      | (with_reducible exact impl_hash.mono _ _)
      | (with_reducible exact impl_number.mono _ _ _)
      | (with_reducible exact LeO.refl _)
      | (with_reducible exact LeO.none _)
      | (with_reducible refine LeO.ite ?_ ?_)
      | (with_reducible refine LeO.bind ?_ (fun _ => ?_))
      | exact impl_hash.mono _ _
      | exact impl_number.mono _ _ _
      | exact LeO.none _
      | refine LeO.ite ?_ ?_
      | refine LeO.bind ?_ (fun _ => ?_)
noncomputable def impl_secret.v (a0 : ByteArray) (a1 : Int) (a2 : Int) (a3 : Int) : Option (ByteArray) := lim (fun k_ => impl_secret.f k_ a0 a1 a2 a3)
theorem impl_secret.v_lim (a0 : ByteArray) (a1 : Int) (a2 : Int) (a3 : Int) : LimIs (fun k_ => impl_secret.f k_ a0 a1 a2 a3) (impl_secret.v a0 a1 a2 a3) := lim_is (fun k_ => impl_secret.mono a0 a1 a2 a3 k_)
theorem impl_secret.v_eq (a0 : ByteArray) (a1 : Int) (a2 : Int) (a3 : Int) : impl_secret.v a0 a1 a2 a3 = (if 6 + a0.size ≤ 9223372036854775807 then ((impl_number.v a1 1).bind fun t1076 => (if ((⟨#[115, 101, 99, 114, 101, 116]⟩ : ByteArray) ++ a0).size + t1076.size ≤ 9223372036854775807 then ((impl_number.v a2 1).bind fun t1077 => (if (((⟨#[115, 101, 99, 114, 101, 116]⟩ : ByteArray) ++ a0) ++ t1076).size + t1077.size ≤ 9223372036854775807 then ((impl_number.v a3 1).bind fun t1078 => (if ((((⟨#[115, 101, 99, 114, 101, 116]⟩ : ByteArray) ++ a0) ++ t1076) ++ t1077).size + t1078.size ≤ 9223372036854775807 then ((impl_hash.v (((((⟨#[115, 101, 99, 114, 101, 116]⟩ : ByteArray) ++ a0) ++ t1076) ++ t1077) ++ t1078)).bind fun t1079 => (some t1079)) else (none))) else (none))) else (none))) else (none) : Option (ByteArray)) := by
  refine LimIs.eq (impl_secret.v_lim a0 a1 a2 a3) ?_
  simp only [impl_secret.f]
  repeat' (with_reducible first | exact impl_hash.v_lim _ | exact impl_number.v_lim _ _ | exact LimIs.const _ | refine LimIs.ite ?_ ?_ | refine LimIs.bind ?_ (fun _ => ?_))
def impl_oneTimeKey.l0 : Nat → ByteArray → Int → ByteArray → Int → Option (ByteArray)
  | 0, _, _, _, _ => none
  | k + 1, x0, x1, x5, x7 => if x7 < 32 then ((impl_secret.f k x0 x1 x7 0).bind fun t1081 => ((impl_hash.f k t1081).bind fun t1082 => ((impl_secret.f k x0 x1 x7 1).bind fun t1083 => ((impl_hash.f k t1083).bind fun t1084 => (if t1082.size + t1084.size ≤ 9223372036854775807 then (if x5.size + (t1082 ++ t1084).size ≤ 9223372036854775807 then (impl_oneTimeKey.l0 k x0 x1 (x5 ++ (t1082 ++ t1084)) (wrap64 (x7 + 1))) else (none)) else (none)))))) else ((impl_hash.f k x5).bind fun t1080 => (some t1080))
def impl_oneTimeKey.f (k : Nat) (a0 : ByteArray) (a1 : Int) : Option (ByteArray) := impl_oneTimeKey.l0 k a0 a1 (⟨#[107, 101, 121]⟩ : ByteArray) 0
theorem impl_oneTimeKey.mono_l : ∀ k, (∀ y0 y1 y2 y3, LeO (impl_oneTimeKey.l0 k y0 y1 y2 y3) (impl_oneTimeKey.l0 (k + 1) y0 y1 y2 y3))
  | 0 => fun _ _ _ _ r h => by simp [impl_oneTimeKey.l0] at h
  | k + 1 => by
    have ih0 := impl_oneTimeKey.mono_l k
    · intro y0 y1 y2 y3
      unfold impl_oneTimeKey.l0
      repeat' first
      | (with_reducible exact ih0 _ _ _ _)
      | (with_reducible exact impl_hash.mono _ _)
      | (with_reducible exact impl_secret.mono _ _ _ _ _)
      | (with_reducible exact LeO.refl _)
      | (with_reducible exact LeO.none _)
      | (with_reducible refine LeO.ite ?_ ?_)
      | (with_reducible refine LeO.bind ?_ (fun _ => ?_))
      | exact ih0 _ _ _ _
      | exact impl_hash.mono _ _
      | exact impl_secret.mono _ _ _ _ _
      | exact LeO.none _
      | refine LeO.ite ?_ ?_
      | refine LeO.bind ?_ (fun _ => ?_)
theorem impl_oneTimeKey.mono : ∀ a0 a1 k, LeO (impl_oneTimeKey.f k a0 a1) (impl_oneTimeKey.f (k + 1) a0 a1) := by
  intro a0 a1 k
  have ih0 := impl_oneTimeKey.mono_l k
  unfold impl_oneTimeKey.f
  repeat' first
      | (with_reducible exact ih0 _ _ _ _)
      | (with_reducible exact impl_hash.mono _ _)
      | (with_reducible exact impl_secret.mono _ _ _ _ _)
      | (with_reducible exact LeO.refl _)
      | (with_reducible exact LeO.none _)
      | (with_reducible refine LeO.ite ?_ ?_)
      | (with_reducible refine LeO.bind ?_ (fun _ => ?_))
      | exact ih0 _ _ _ _
      | exact impl_hash.mono _ _
      | exact impl_secret.mono _ _ _ _ _
      | exact LeO.none _
      | refine LeO.ite ?_ ?_
      | refine LeO.bind ?_ (fun _ => ?_)
noncomputable def impl_oneTimeKey.lv0 (x0 : ByteArray) (x1 : Int) (x5 : ByteArray) (x7 : Int) : Option (ByteArray) := lim (fun k_ => impl_oneTimeKey.l0 k_ x0 x1 x5 x7)
noncomputable def impl_oneTimeKey.v (a0 : ByteArray) (a1 : Int) : Option (ByteArray) := lim (fun k_ => impl_oneTimeKey.f k_ a0 a1)
theorem impl_oneTimeKey.lv0_lim (x0 : ByteArray) (x1 : Int) (x5 : ByteArray) (x7 : Int) : LimIs (fun k_ => impl_oneTimeKey.l0 k_ x0 x1 x5 x7) (impl_oneTimeKey.lv0 x0 x1 x5 x7) := lim_is (fun k_ => (impl_oneTimeKey.mono_l k_) x0 x1 x5 x7)
theorem impl_oneTimeKey.v_lim (a0 : ByteArray) (a1 : Int) : LimIs (fun k_ => impl_oneTimeKey.f k_ a0 a1) (impl_oneTimeKey.v a0 a1) := lim_is (fun k_ => impl_oneTimeKey.mono a0 a1 k_)
theorem impl_oneTimeKey.lv0_eq (x0 : ByteArray) (x1 : Int) (x5 : ByteArray) (x7 : Int) : impl_oneTimeKey.lv0 x0 x1 x5 x7 = (if x7 < 32 then ((impl_secret.v x0 x1 x7 0).bind fun t1081 => ((impl_hash.v t1081).bind fun t1082 => ((impl_secret.v x0 x1 x7 1).bind fun t1083 => ((impl_hash.v t1083).bind fun t1084 => (if t1082.size + t1084.size ≤ 9223372036854775807 then (if x5.size + (t1082 ++ t1084).size ≤ 9223372036854775807 then (impl_oneTimeKey.lv0 x0 x1 (x5 ++ (t1082 ++ t1084)) (wrap64 (x7 + 1))) else (none)) else (none)))))) else ((impl_hash.v x5).bind fun t1080 => (some t1080)) : Option (ByteArray)) := by
  refine LimIs.eq (impl_oneTimeKey.lv0_lim x0 x1 x5 x7) ?_
  refine LimIs.step (fun k_ => (impl_oneTimeKey.mono_l k_) x0 x1 x5 x7) ?_
  simp only [impl_oneTimeKey.l0]
  repeat' (with_reducible first | exact impl_hash.v_lim _ | exact impl_oneTimeKey.lv0_lim _ _ _ _ | exact impl_secret.v_lim _ _ _ _ | exact LimIs.const _ | refine LimIs.ite ?_ ?_ | refine LimIs.bind ?_ (fun _ => ?_))
theorem impl_oneTimeKey.v_eq (a0 : ByteArray) (a1 : Int) : impl_oneTimeKey.v a0 a1 = (impl_oneTimeKey.lv0 a0 a1 (⟨#[107, 101, 121]⟩ : ByteArray) 0 : Option (ByteArray)) := by
  refine LimIs.eq (impl_oneTimeKey.v_lim a0 a1) ?_
  simp only [impl_oneTimeKey.f]
  repeat' (with_reducible first | exact impl_oneTimeKey.lv0_lim _ _ _ _ | exact LimIs.const _ | refine LimIs.ite ?_ ?_ | refine LimIs.bind ?_ (fun _ => ?_))
def impl_keys.l0 : Nat → ByteArray → List ByteArray → Int → Option (List ByteArray)
  | 0, _, _, _ => none
  | k + 1, x0, x3, x5 => if x5 < 8 then ((impl_oneTimeKey.f k x0 x5).bind fun t1085 => (if x3.length < 8796093022208 then (impl_keys.l0 k x0 (x3 ++ [t1085]) (wrap64 (x5 + 1))) else (none))) else (some x3)
def impl_keys.f (k : Nat) (a0 : ByteArray) : Option (List ByteArray) := impl_keys.l0 k a0 ([] : List ByteArray) 0
theorem impl_keys.mono_l : ∀ k, (∀ y0 y1 y2, LeO (impl_keys.l0 k y0 y1 y2) (impl_keys.l0 (k + 1) y0 y1 y2))
  | 0 => fun _ _ _ r h => by simp [impl_keys.l0] at h
  | k + 1 => by
    have ih0 := impl_keys.mono_l k
    · intro y0 y1 y2
      unfold impl_keys.l0
      repeat' first
      | (with_reducible exact ih0 _ _ _)
      | (with_reducible exact impl_oneTimeKey.mono _ _ _)
      | (with_reducible exact LeO.refl _)
      | (with_reducible exact LeO.none _)
      | (with_reducible refine LeO.ite ?_ ?_)
      | (with_reducible refine LeO.bind ?_ (fun _ => ?_))
      | exact ih0 _ _ _
      | exact impl_oneTimeKey.mono _ _ _
      | exact LeO.none _
      | refine LeO.ite ?_ ?_
      | refine LeO.bind ?_ (fun _ => ?_)
theorem impl_keys.mono : ∀ a0 k, LeO (impl_keys.f k a0) (impl_keys.f (k + 1) a0) := by
  intro a0 k
  have ih0 := impl_keys.mono_l k
  unfold impl_keys.f
  repeat' first
      | (with_reducible exact ih0 _ _ _)
      | (with_reducible exact impl_oneTimeKey.mono _ _ _)
      | (with_reducible exact LeO.refl _)
      | (with_reducible exact LeO.none _)
      | (with_reducible refine LeO.ite ?_ ?_)
      | (with_reducible refine LeO.bind ?_ (fun _ => ?_))
      | exact ih0 _ _ _
      | exact impl_oneTimeKey.mono _ _ _
      | exact LeO.none _
      | refine LeO.ite ?_ ?_
      | refine LeO.bind ?_ (fun _ => ?_)
noncomputable def impl_keys.lv0 (x0 : ByteArray) (x3 : List ByteArray) (x5 : Int) : Option (List ByteArray) := lim (fun k_ => impl_keys.l0 k_ x0 x3 x5)
noncomputable def impl_keys.v (a0 : ByteArray) : Option (List ByteArray) := lim (fun k_ => impl_keys.f k_ a0)
theorem impl_keys.lv0_lim (x0 : ByteArray) (x3 : List ByteArray) (x5 : Int) : LimIs (fun k_ => impl_keys.l0 k_ x0 x3 x5) (impl_keys.lv0 x0 x3 x5) := lim_is (fun k_ => (impl_keys.mono_l k_) x0 x3 x5)
theorem impl_keys.v_lim (a0 : ByteArray) : LimIs (fun k_ => impl_keys.f k_ a0) (impl_keys.v a0) := lim_is (fun k_ => impl_keys.mono a0 k_)
theorem impl_keys.lv0_eq (x0 : ByteArray) (x3 : List ByteArray) (x5 : Int) : impl_keys.lv0 x0 x3 x5 = (if x5 < 8 then ((impl_oneTimeKey.v x0 x5).bind fun t1085 => (if x3.length < 8796093022208 then (impl_keys.lv0 x0 (x3 ++ [t1085]) (wrap64 (x5 + 1))) else (none))) else (some x3) : Option (List ByteArray)) := by
  refine LimIs.eq (impl_keys.lv0_lim x0 x3 x5) ?_
  refine LimIs.step (fun k_ => (impl_keys.mono_l k_) x0 x3 x5) ?_
  simp only [impl_keys.l0]
  repeat' (with_reducible first | exact impl_keys.lv0_lim _ _ _ | exact impl_oneTimeKey.v_lim _ _ | exact LimIs.const _ | refine LimIs.ite ?_ ?_ | refine LimIs.bind ?_ (fun _ => ?_))
theorem impl_keys.v_eq (a0 : ByteArray) : impl_keys.v a0 = (impl_keys.lv0 a0 ([] : List ByteArray) 0 : Option (List ByteArray)) := by
  refine LimIs.eq (impl_keys.v_lim a0) ?_
  simp only [impl_keys.f]
  repeat' (with_reducible first | exact impl_keys.lv0_lim _ _ _ | exact LimIs.const _ | refine LimIs.ite ?_ ?_ | refine LimIs.bind ?_ (fun _ => ?_))
def impl_above.l0 : Nat → List ByteArray → List ByteArray → Int → Option (List ByteArray)
  | 0, _, _, _ => none
  | k + 1, x0, x3, x4 => if x4 < (x0.length : Int) then (if 0 ≤ x4 then (if 0 ≤ (wrap64 (x4 + 1)) then (if (wrap64 (x4 + 1)) < (x0.length : Int) then ((impl_node.f k (rdOf ByteArray.empty x0 x4) (rdOf ByteArray.empty x0 (wrap64 (x4 + 1)))).bind fun t1091 => (if x3.length < 8796093022208 then (impl_above.l0 k x0 (x3 ++ [t1091]) (wrap64 (x4 + 2))) else (none))) else (none)) else (none)) else (none)) else (some x3)
def impl_above.f (k : Nat) (l0 : List ByteArray) : Option (List ByteArray) := impl_above.l0 k l0 ([] : List ByteArray) 0
theorem impl_above.mono_l : ∀ k, (∀ y0 y1 y2, LeO (impl_above.l0 k y0 y1 y2) (impl_above.l0 (k + 1) y0 y1 y2))
  | 0 => fun _ _ _ r h => by simp [impl_above.l0] at h
  | k + 1 => by
    have ih0 := impl_above.mono_l k
    · intro y0 y1 y2
      unfold impl_above.l0
      repeat' first
      | (with_reducible exact ih0 _ _ _)
      | (with_reducible exact impl_node.mono _ _ _)
      | (with_reducible exact LeO.refl _)
      | (with_reducible exact LeO.none _)
      | (with_reducible refine LeO.ite ?_ ?_)
      | (with_reducible refine LeO.bind ?_ (fun _ => ?_))
      | exact ih0 _ _ _
      | exact impl_node.mono _ _ _
      | exact LeO.none _
      | refine LeO.ite ?_ ?_
      | refine LeO.bind ?_ (fun _ => ?_)
theorem impl_above.mono : ∀ a0 k, LeO (impl_above.f k a0) (impl_above.f (k + 1) a0) := by
  intro a0 k
  have ih0 := impl_above.mono_l k
  unfold impl_above.f
  repeat' first
      | (with_reducible exact ih0 _ _ _)
      | (with_reducible exact impl_node.mono _ _ _)
      | (with_reducible exact LeO.refl _)
      | (with_reducible exact LeO.none _)
      | (with_reducible refine LeO.ite ?_ ?_)
      | (with_reducible refine LeO.bind ?_ (fun _ => ?_))
      | exact ih0 _ _ _
      | exact impl_node.mono _ _ _
      | exact LeO.none _
      | refine LeO.ite ?_ ?_
      | refine LeO.bind ?_ (fun _ => ?_)
noncomputable def impl_above.lv0 (x0 : List ByteArray) (x3 : List ByteArray) (x4 : Int) : Option (List ByteArray) := lim (fun k_ => impl_above.l0 k_ x0 x3 x4)
noncomputable def impl_above.v (l0 : List ByteArray) : Option (List ByteArray) := lim (fun k_ => impl_above.f k_ l0)
theorem impl_above.lv0_lim (x0 : List ByteArray) (x3 : List ByteArray) (x4 : Int) : LimIs (fun k_ => impl_above.l0 k_ x0 x3 x4) (impl_above.lv0 x0 x3 x4) := lim_is (fun k_ => (impl_above.mono_l k_) x0 x3 x4)
theorem impl_above.v_lim (l0 : List ByteArray) : LimIs (fun k_ => impl_above.f k_ l0) (impl_above.v l0) := lim_is (fun k_ => impl_above.mono l0 k_)
theorem impl_above.lv0_eq (x0 : List ByteArray) (x3 : List ByteArray) (x4 : Int) : impl_above.lv0 x0 x3 x4 = (if x4 < (x0.length : Int) then (if 0 ≤ x4 then (if 0 ≤ (wrap64 (x4 + 1)) then (if (wrap64 (x4 + 1)) < (x0.length : Int) then ((impl_node.v (rdOf ByteArray.empty x0 x4) (rdOf ByteArray.empty x0 (wrap64 (x4 + 1)))).bind fun t1091 => (if x3.length < 8796093022208 then (impl_above.lv0 x0 (x3 ++ [t1091]) (wrap64 (x4 + 2))) else (none))) else (none)) else (none)) else (none)) else (some x3) : Option (List ByteArray)) := by
  refine LimIs.eq (impl_above.lv0_lim x0 x3 x4) ?_
  refine LimIs.step (fun k_ => (impl_above.mono_l k_) x0 x3 x4) ?_
  simp only [impl_above.l0]
  repeat' (with_reducible first | exact impl_above.lv0_lim _ _ _ | exact impl_node.v_lim _ _ | exact LimIs.const _ | refine LimIs.ite ?_ ?_ | refine LimIs.bind ?_ (fun _ => ?_))
theorem impl_above.v_eq (l0 : List ByteArray) : impl_above.v l0 = (impl_above.lv0 l0 ([] : List ByteArray) 0 : Option (List ByteArray)) := by
  refine LimIs.eq (impl_above.v_lim l0) ?_
  simp only [impl_above.f]
  repeat' (with_reducible first | exact impl_above.lv0_lim _ _ _ | exact LimIs.const _ | refine LimIs.ite ?_ ?_ | refine LimIs.bind ?_ (fun _ => ?_))
mutual
def impl_signAt.l0 : Nat → ByteArray → Int → List Int → Int → Int → Int → List ByteArray → List ByteArray → Option (Int × List ByteArray × List ByteArray × List ByteArray)
  | 0, _, _, _, _, _, _, _, _ => none
  | k + 1, x0, x1, x16, x17, x18, x1097000, x1097001, x1097002 => if x18 < x17 then (if 0 ≤ x18 then (if x18 < (x16.length : Int) then ((impl_secret.f k x0 x1 x18 (((rd x16 x18) - 48) % 256)).bind fun t1102 => (if x1097001.length < 8796093022208 then ((impl_secret.f k x0 x1 x18 (1 - (((rd x16 x18) - 48) % 256))).bind fun t1106 => ((impl_hash.f k t1106).bind fun t1107 => (if x1097002.length < 8796093022208 then (impl_signAt.l0 k x0 x1 x16 x17 (wrap64 (x18 + 1)) x1097000 (x1097001 ++ [t1102]) (x1097002 ++ [t1107])) else (none)))) else (none))) else (none)) else (none)) else ((impl_keys.f k x0).bind fun t1111 => (impl_signAt.l1 k x1 t1111 x1097000 x1097001 x1097002 ([] : List ByteArray)))
def impl_signAt.l1 : Nat → Int → List ByteArray → Int → List ByteArray → List ByteArray → List ByteArray → Option (Int × List ByteArray × List ByteArray × List ByteArray)
  | 0, _, _, _, _, _, _ => none
  | k + 1, x1, x11, x1097000, x1097001, x1097002, x1097003 => if (x11.length : Int) > 1 then (if 0 ≤ (Go.bits .xor .i64 x1 1) then (if (Go.bits .xor .i64 x1 1) < (x11.length : Int) then (if x1097003.length < 8796093022208 then ((impl_above.f k x11).bind fun t1118 => (impl_signAt.l1 k (wrap64 (Int.tdiv x1 2)) t1118 x1097000 x1097001 x1097002 (x1097003 ++ [rdOf ByteArray.empty x11 (Go.bits .xor .i64 x1 1)]))) else (none)) else (none)) else (none)) else (some (x1097000, x1097001, x1097002, x1097003))
end
def impl_signAt.f (k : Nat) (a0 : ByteArray) (a1 : Int) (a2 : ByteArray) : Option (Int × List ByteArray × List ByteArray × List ByteArray) := (impl_messageBits.f k a2).bind fun t1097 => (if t1097.size ≤ 140737488355328 then ((some (bytesOf t1097 : List Int)).bind fun y1098 => (impl_signAt.l0 k a0 a1 y1098 (y1098.length : Int) 0 a1 ([] : List ByteArray) ([] : List ByteArray))) else (none))
theorem impl_signAt.mono_l : ∀ k, (∀ y0 y1 y2 y3 y4 y5 y6 y7, LeO (impl_signAt.l0 k y0 y1 y2 y3 y4 y5 y6 y7) (impl_signAt.l0 (k + 1) y0 y1 y2 y3 y4 y5 y6 y7)) ∧ (∀ y0 y1 y2 y3 y4 y5, LeO (impl_signAt.l1 k y0 y1 y2 y3 y4 y5) (impl_signAt.l1 (k + 1) y0 y1 y2 y3 y4 y5))
  | 0 => ⟨fun _ _ _ _ _ _ _ _ r h => by simp [impl_signAt.l0] at h, fun _ _ _ _ _ _ r h => by simp [impl_signAt.l1] at h⟩
  | k + 1 => by
    obtain ⟨ih0, ih1⟩ := impl_signAt.mono_l k
    refine ⟨?_, ?_⟩
    · intro y0 y1 y2 y3 y4 y5 y6 y7
      unfold impl_signAt.l0
      repeat' first
      | (with_reducible exact ih0 _ _ _ _ _ _ _ _)
      | (with_reducible exact ih1 _ _ _ _ _ _)
      | (with_reducible exact impl_above.mono _ _)
      | (with_reducible exact impl_hash.mono _ _)
      | (with_reducible exact impl_keys.mono _ _)
      | (with_reducible exact impl_messageBits.mono _ _)
      | (with_reducible exact impl_secret.mono _ _ _ _ _)
      | (with_reducible exact LeO.refl _)
      | (with_reducible exact LeO.none _)
      | (with_reducible refine LeO.ite ?_ ?_)
      | (with_reducible refine LeO.bind ?_ (fun _ => ?_))
      | exact ih0 _ _ _ _ _ _ _ _
      | exact ih1 _ _ _ _ _ _
      | exact impl_above.mono _ _
      | exact impl_hash.mono _ _
      | exact impl_keys.mono _ _
      | exact impl_messageBits.mono _ _
      | exact impl_secret.mono _ _ _ _ _
      | exact LeO.none _
      | refine LeO.ite ?_ ?_
      | refine LeO.bind ?_ (fun _ => ?_)
    · intro y0 y1 y2 y3 y4 y5
      unfold impl_signAt.l1
      repeat' first
      | (with_reducible exact ih0 _ _ _ _ _ _ _ _)
      | (with_reducible exact ih1 _ _ _ _ _ _)
      | (with_reducible exact impl_above.mono _ _)
      | (with_reducible exact impl_hash.mono _ _)
      | (with_reducible exact impl_keys.mono _ _)
      | (with_reducible exact impl_messageBits.mono _ _)
      | (with_reducible exact impl_secret.mono _ _ _ _ _)
      | (with_reducible exact LeO.refl _)
      | (with_reducible exact LeO.none _)
      | (with_reducible refine LeO.ite ?_ ?_)
      | (with_reducible refine LeO.bind ?_ (fun _ => ?_))
      | exact ih0 _ _ _ _ _ _ _ _
      | exact ih1 _ _ _ _ _ _
      | exact impl_above.mono _ _
      | exact impl_hash.mono _ _
      | exact impl_keys.mono _ _
      | exact impl_messageBits.mono _ _
      | exact impl_secret.mono _ _ _ _ _
      | exact LeO.none _
      | refine LeO.ite ?_ ?_
      | refine LeO.bind ?_ (fun _ => ?_)
theorem impl_signAt.mono : ∀ a0 a1 a2 k, LeO (impl_signAt.f k a0 a1 a2) (impl_signAt.f (k + 1) a0 a1 a2) := by
  intro a0 a1 a2 k
  obtain ⟨ih0, ih1⟩ := impl_signAt.mono_l k
  unfold impl_signAt.f
  repeat' first
      | (with_reducible exact ih0 _ _ _ _ _ _ _ _)
      | (with_reducible exact ih1 _ _ _ _ _ _)
      | (with_reducible exact impl_above.mono _ _)
      | (with_reducible exact impl_hash.mono _ _)
      | (with_reducible exact impl_keys.mono _ _)
      | (with_reducible exact impl_messageBits.mono _ _)
      | (with_reducible exact impl_secret.mono _ _ _ _ _)
      | (with_reducible exact LeO.refl _)
      | (with_reducible exact LeO.none _)
      | (with_reducible refine LeO.ite ?_ ?_)
      | (with_reducible refine LeO.bind ?_ (fun _ => ?_))
      | exact ih0 _ _ _ _ _ _ _ _
      | exact ih1 _ _ _ _ _ _
      | exact impl_above.mono _ _
      | exact impl_hash.mono _ _
      | exact impl_keys.mono _ _
      | exact impl_messageBits.mono _ _
      | exact impl_secret.mono _ _ _ _ _
      | exact LeO.none _
      | refine LeO.ite ?_ ?_
      | refine LeO.bind ?_ (fun _ => ?_)
noncomputable def impl_signAt.lv0 (x0 : ByteArray) (x1 : Int) (x16 : List Int) (x17 : Int) (x18 : Int) (x1097000 : Int) (x1097001 : List ByteArray) (x1097002 : List ByteArray) : Option (Int × List ByteArray × List ByteArray × List ByteArray) := lim (fun k_ => impl_signAt.l0 k_ x0 x1 x16 x17 x18 x1097000 x1097001 x1097002)
noncomputable def impl_signAt.lv1 (x1 : Int) (x11 : List ByteArray) (x1097000 : Int) (x1097001 : List ByteArray) (x1097002 : List ByteArray) (x1097003 : List ByteArray) : Option (Int × List ByteArray × List ByteArray × List ByteArray) := lim (fun k_ => impl_signAt.l1 k_ x1 x11 x1097000 x1097001 x1097002 x1097003)
noncomputable def impl_signAt.v (a0 : ByteArray) (a1 : Int) (a2 : ByteArray) : Option (Int × List ByteArray × List ByteArray × List ByteArray) := lim (fun k_ => impl_signAt.f k_ a0 a1 a2)
theorem impl_signAt.lv0_lim (x0 : ByteArray) (x1 : Int) (x16 : List Int) (x17 : Int) (x18 : Int) (x1097000 : Int) (x1097001 : List ByteArray) (x1097002 : List ByteArray) : LimIs (fun k_ => impl_signAt.l0 k_ x0 x1 x16 x17 x18 x1097000 x1097001 x1097002) (impl_signAt.lv0 x0 x1 x16 x17 x18 x1097000 x1097001 x1097002) := lim_is (fun k_ => (impl_signAt.mono_l k_).1 x0 x1 x16 x17 x18 x1097000 x1097001 x1097002)
theorem impl_signAt.lv1_lim (x1 : Int) (x11 : List ByteArray) (x1097000 : Int) (x1097001 : List ByteArray) (x1097002 : List ByteArray) (x1097003 : List ByteArray) : LimIs (fun k_ => impl_signAt.l1 k_ x1 x11 x1097000 x1097001 x1097002 x1097003) (impl_signAt.lv1 x1 x11 x1097000 x1097001 x1097002 x1097003) := lim_is (fun k_ => (impl_signAt.mono_l k_).2 x1 x11 x1097000 x1097001 x1097002 x1097003)
theorem impl_signAt.v_lim (a0 : ByteArray) (a1 : Int) (a2 : ByteArray) : LimIs (fun k_ => impl_signAt.f k_ a0 a1 a2) (impl_signAt.v a0 a1 a2) := lim_is (fun k_ => impl_signAt.mono a0 a1 a2 k_)
theorem impl_signAt.lv0_eq (x0 : ByteArray) (x1 : Int) (x16 : List Int) (x17 : Int) (x18 : Int) (x1097000 : Int) (x1097001 : List ByteArray) (x1097002 : List ByteArray) : impl_signAt.lv0 x0 x1 x16 x17 x18 x1097000 x1097001 x1097002 = (if x18 < x17 then (if 0 ≤ x18 then (if x18 < (x16.length : Int) then ((impl_secret.v x0 x1 x18 (((rd x16 x18) - 48) % 256)).bind fun t1102 => (if x1097001.length < 8796093022208 then ((impl_secret.v x0 x1 x18 (1 - (((rd x16 x18) - 48) % 256))).bind fun t1106 => ((impl_hash.v t1106).bind fun t1107 => (if x1097002.length < 8796093022208 then (impl_signAt.lv0 x0 x1 x16 x17 (wrap64 (x18 + 1)) x1097000 (x1097001 ++ [t1102]) (x1097002 ++ [t1107])) else (none)))) else (none))) else (none)) else (none)) else ((impl_keys.v x0).bind fun t1111 => (impl_signAt.lv1 x1 t1111 x1097000 x1097001 x1097002 ([] : List ByteArray))) : Option (Int × List ByteArray × List ByteArray × List ByteArray)) := by
  refine LimIs.eq (impl_signAt.lv0_lim x0 x1 x16 x17 x18 x1097000 x1097001 x1097002) ?_
  refine LimIs.step (fun k_ => (impl_signAt.mono_l k_).1 x0 x1 x16 x17 x18 x1097000 x1097001 x1097002) ?_
  simp only [impl_signAt.l0]
  repeat' (with_reducible first | exact impl_hash.v_lim _ | exact impl_keys.v_lim _ | exact impl_secret.v_lim _ _ _ _ | exact impl_signAt.lv0_lim _ _ _ _ _ _ _ _ | exact impl_signAt.lv1_lim _ _ _ _ _ _ | exact LimIs.const _ | refine LimIs.ite ?_ ?_ | refine LimIs.bind ?_ (fun _ => ?_))
theorem impl_signAt.lv1_eq (x1 : Int) (x11 : List ByteArray) (x1097000 : Int) (x1097001 : List ByteArray) (x1097002 : List ByteArray) (x1097003 : List ByteArray) : impl_signAt.lv1 x1 x11 x1097000 x1097001 x1097002 x1097003 = (if (x11.length : Int) > 1 then (if 0 ≤ (Go.bits .xor .i64 x1 1) then (if (Go.bits .xor .i64 x1 1) < (x11.length : Int) then (if x1097003.length < 8796093022208 then ((impl_above.v x11).bind fun t1118 => (impl_signAt.lv1 (wrap64 (Int.tdiv x1 2)) t1118 x1097000 x1097001 x1097002 (x1097003 ++ [rdOf ByteArray.empty x11 (Go.bits .xor .i64 x1 1)]))) else (none)) else (none)) else (none)) else (some (x1097000, x1097001, x1097002, x1097003)) : Option (Int × List ByteArray × List ByteArray × List ByteArray)) := by
  refine LimIs.eq (impl_signAt.lv1_lim x1 x11 x1097000 x1097001 x1097002 x1097003) ?_
  refine LimIs.step (fun k_ => (impl_signAt.mono_l k_).2 x1 x11 x1097000 x1097001 x1097002 x1097003) ?_
  simp only [impl_signAt.l1]
  repeat' (with_reducible first | exact impl_above.v_lim _ | exact impl_signAt.lv1_lim _ _ _ _ _ _ | exact LimIs.const _ | refine LimIs.ite ?_ ?_ | refine LimIs.bind ?_ (fun _ => ?_))
theorem impl_signAt.v_eq (a0 : ByteArray) (a1 : Int) (a2 : ByteArray) : impl_signAt.v a0 a1 a2 = ((impl_messageBits.v a2).bind fun t1097 => (if t1097.size ≤ 140737488355328 then ((some (bytesOf t1097 : List Int)).bind fun y1098 => (impl_signAt.lv0 a0 a1 y1098 (y1098.length : Int) 0 a1 ([] : List ByteArray) ([] : List ByteArray))) else (none)) : Option (Int × List ByteArray × List ByteArray × List ByteArray)) := by
  refine LimIs.eq (impl_signAt.v_lim a0 a1 a2) ?_
  simp only [impl_signAt.f]
  repeat' (with_reducible first | exact impl_messageBits.v_lim _ | exact impl_signAt.lv0_lim _ _ _ _ _ _ _ _ | exact LimIs.const _ | refine LimIs.ite ?_ ?_ | refine LimIs.bind ?_ (fun _ => ?_))
def impl_nodeSeed.f (k : Nat) (a0 : Int) : Option (ByteArray) := (impl_number.f k a0 1).bind fun t1121 => (if 9 + t1121.size ≤ 9223372036854775807 then ((impl_hash.f k ((⟨#[110, 111, 100, 101, 32, 115, 101, 101, 100]⟩ : ByteArray) ++ t1121)).bind fun t1122 => (some t1122)) else (none))
theorem impl_nodeSeed.mono : ∀ a0 k, LeO (impl_nodeSeed.f k a0) (impl_nodeSeed.f (k + 1) a0) := by
  intro a0 k
  unfold impl_nodeSeed.f
  repeat' first
      | (with_reducible exact impl_hash.mono _ _)
      | (with_reducible exact impl_number.mono _ _ _)
      | (with_reducible exact LeO.refl _)
      | (with_reducible exact LeO.none _)
      | (with_reducible refine LeO.ite ?_ ?_)
      | (with_reducible refine LeO.bind ?_ (fun _ => ?_))
      | exact impl_hash.mono _ _
      | exact impl_number.mono _ _ _
      | exact LeO.none _
      | refine LeO.ite ?_ ?_
      | refine LeO.bind ?_ (fun _ => ?_)
noncomputable def impl_nodeSeed.v (a0 : Int) : Option (ByteArray) := lim (fun k_ => impl_nodeSeed.f k_ a0)
theorem impl_nodeSeed.v_lim (a0 : Int) : LimIs (fun k_ => impl_nodeSeed.f k_ a0) (impl_nodeSeed.v a0) := lim_is (fun k_ => impl_nodeSeed.mono a0 k_)
theorem impl_nodeSeed.v_eq (a0 : Int) : impl_nodeSeed.v a0 = ((impl_number.v a0 1).bind fun t1121 => (if 9 + t1121.size ≤ 9223372036854775807 then ((impl_hash.v ((⟨#[110, 111, 100, 101, 32, 115, 101, 101, 100]⟩ : ByteArray) ++ t1121)).bind fun t1122 => (some t1122)) else (none)) : Option (ByteArray)) := by
  refine LimIs.eq (impl_nodeSeed.v_lim a0) ?_
  simp only [impl_nodeSeed.f]
  repeat' (with_reducible first | exact impl_hash.v_lim _ | exact impl_number.v_lim _ _ | exact LimIs.const _ | refine LimIs.ite ?_ ?_ | refine LimIs.bind ?_ (fun _ => ?_))
def strconv_Itoa.f (a0 : Int) : Option (ByteArray) := if -9223372036854775808 ≤ a0 ∧ a0 ≤ 9223372036854775807 then (some (⟨(itoaL a0).toArray⟩ : ByteArray)) else (none)
def strconv_Itoa.v (a0 : Int) : Option (ByteArray) := strconv_Itoa.f a0
theorem strconv_Itoa.v_eq (a0 : Int) : strconv_Itoa.v a0 = (if -9223372036854775808 ≤ a0 ∧ a0 ≤ 9223372036854775807 then (some (⟨(itoaL a0).toArray⟩ : ByteArray)) else (none) : Option (ByteArray)) := rfl
def impl_grantText.f (a0_0 : ByteArray) (a0_1 : Int) (a0_2 : Int) (a0_3 : Int) : Option (ByteArray) := if 6 + a0_0.size ≤ 9223372036854775807 then (if ((⟨#[103, 114, 97, 110, 116, 32]⟩ : ByteArray) ++ a0_0).size + 1 ≤ 9223372036854775807 then ((strconv_Itoa.f a0_1).bind fun t1124 => (if (((⟨#[103, 114, 97, 110, 116, 32]⟩ : ByteArray) ++ a0_0) ++ (⟨#[32]⟩ : ByteArray)).size + t1124.size ≤ 9223372036854775807 then (if ((((⟨#[103, 114, 97, 110, 116, 32]⟩ : ByteArray) ++ a0_0) ++ (⟨#[32]⟩ : ByteArray)) ++ t1124).size + 1 ≤ 9223372036854775807 then ((strconv_Itoa.f a0_2).bind fun t1125 => (if (((((⟨#[103, 114, 97, 110, 116, 32]⟩ : ByteArray) ++ a0_0) ++ (⟨#[32]⟩ : ByteArray)) ++ t1124) ++ (⟨#[32]⟩ : ByteArray)).size + t1125.size ≤ 9223372036854775807 then (if ((((((⟨#[103, 114, 97, 110, 116, 32]⟩ : ByteArray) ++ a0_0) ++ (⟨#[32]⟩ : ByteArray)) ++ t1124) ++ (⟨#[32]⟩ : ByteArray)) ++ t1125).size + 1 ≤ 9223372036854775807 then ((strconv_Itoa.f a0_3).bind fun t1126 => (if (((((((⟨#[103, 114, 97, 110, 116, 32]⟩ : ByteArray) ++ a0_0) ++ (⟨#[32]⟩ : ByteArray)) ++ t1124) ++ (⟨#[32]⟩ : ByteArray)) ++ t1125) ++ (⟨#[32]⟩ : ByteArray)).size + t1126.size ≤ 9223372036854775807 then (some ((((((((⟨#[103, 114, 97, 110, 116, 32]⟩ : ByteArray) ++ a0_0) ++ (⟨#[32]⟩ : ByteArray)) ++ t1124) ++ (⟨#[32]⟩ : ByteArray)) ++ t1125) ++ (⟨#[32]⟩ : ByteArray)) ++ t1126)) else (none))) else (none)) else (none))) else (none)) else (none))) else (none)) else (none)
def impl_grantText.v (a0_0 : ByteArray) (a0_1 : Int) (a0_2 : Int) (a0_3 : Int) : Option (ByteArray) := impl_grantText.f a0_0 a0_1 a0_2 a0_3
theorem impl_grantText.v_lim (a0_0 : ByteArray) (a0_1 : Int) (a0_2 : Int) (a0_3 : Int) : LimIs (fun _ => impl_grantText.f a0_0 a0_1 a0_2 a0_3) (impl_grantText.v a0_0 a0_1 a0_2 a0_3) := LimIs.const _
theorem impl_grantText.v_eq (a0_0 : ByteArray) (a0_1 : Int) (a0_2 : Int) (a0_3 : Int) : impl_grantText.v a0_0 a0_1 a0_2 a0_3 = (if 6 + a0_0.size ≤ 9223372036854775807 then (if ((⟨#[103, 114, 97, 110, 116, 32]⟩ : ByteArray) ++ a0_0).size + 1 ≤ 9223372036854775807 then ((strconv_Itoa.v a0_1).bind fun t1124 => (if (((⟨#[103, 114, 97, 110, 116, 32]⟩ : ByteArray) ++ a0_0) ++ (⟨#[32]⟩ : ByteArray)).size + t1124.size ≤ 9223372036854775807 then (if ((((⟨#[103, 114, 97, 110, 116, 32]⟩ : ByteArray) ++ a0_0) ++ (⟨#[32]⟩ : ByteArray)) ++ t1124).size + 1 ≤ 9223372036854775807 then ((strconv_Itoa.v a0_2).bind fun t1125 => (if (((((⟨#[103, 114, 97, 110, 116, 32]⟩ : ByteArray) ++ a0_0) ++ (⟨#[32]⟩ : ByteArray)) ++ t1124) ++ (⟨#[32]⟩ : ByteArray)).size + t1125.size ≤ 9223372036854775807 then (if ((((((⟨#[103, 114, 97, 110, 116, 32]⟩ : ByteArray) ++ a0_0) ++ (⟨#[32]⟩ : ByteArray)) ++ t1124) ++ (⟨#[32]⟩ : ByteArray)) ++ t1125).size + 1 ≤ 9223372036854775807 then ((strconv_Itoa.v a0_3).bind fun t1126 => (if (((((((⟨#[103, 114, 97, 110, 116, 32]⟩ : ByteArray) ++ a0_0) ++ (⟨#[32]⟩ : ByteArray)) ++ t1124) ++ (⟨#[32]⟩ : ByteArray)) ++ t1125) ++ (⟨#[32]⟩ : ByteArray)).size + t1126.size ≤ 9223372036854775807 then (some ((((((((⟨#[103, 114, 97, 110, 116, 32]⟩ : ByteArray) ++ a0_0) ++ (⟨#[32]⟩ : ByteArray)) ++ t1124) ++ (⟨#[32]⟩ : ByteArray)) ++ t1125) ++ (⟨#[32]⟩ : ByteArray)) ++ t1126)) else (none))) else (none)) else (none))) else (none)) else (none))) else (none)) else (none) : Option (ByteArray)) := rfl
def impl_SignGrant.j0 : Nat → Int → Int → Bool → ByteArray → Int → Int → Int → Option (Int × List ByteArray × List ByteArray × List ByteArray × Int)
  | 0, _, _, _, _, _, _, _ => none
  | k + 1, x0, x1, x13, x1128000, x1128001, x1128002, x1128003 => if x13 = true then (some (0, ([] : List ByteArray), ([] : List ByteArray), ([] : List ByteArray), 4)) else ((impl_nodeSeed.f k x0).bind fun t1132 => ((impl_grantText.f x1128000 x1128001 x1128002 x1128003).bind fun t1133 => ((impl_signAt.f k t1132 x1 t1133).bind fun bt1134 => (some (bt1134.1, bt1134.2.1, bt1134.2.2.1, bt1134.2.2.2, 0)))))
def impl_SignGrant.f (k : Nat) (a0 : Int) (a1 : Int) (a2_0 : ByteArray) (a2_1 : Int) (a2_2 : Int) (a2_3 : Int) : Option (Int × List ByteArray × List ByteArray × List ByteArray × Int) := (impl_GrantOK.f k a2_0 a2_1 a2_2 a2_3).bind fun t1129 => (if t1129 = true then ((impl_within.f a0 0 6).bind fun t1130 => (if t1130 = true then ((impl_isIndex.f a1).bind fun t1131 => (impl_SignGrant.j0 k a0 a1 (!t1131) a2_0 a2_1 a2_2 a2_3)) else (impl_SignGrant.j0 k a0 a1 true a2_0 a2_1 a2_2 a2_3))) else (some (0, ([] : List ByteArray), ([] : List ByteArray), ([] : List ByteArray), 1)))
theorem impl_SignGrant.mono_l : ∀ k, (∀ y0 y1 y2 y3 y4 y5 y6, LeO (impl_SignGrant.j0 k y0 y1 y2 y3 y4 y5 y6) (impl_SignGrant.j0 (k + 1) y0 y1 y2 y3 y4 y5 y6))
  | 0 => fun _ _ _ _ _ _ _ r h => by simp [impl_SignGrant.j0] at h
  | k + 1 => by
    have ih0 := impl_SignGrant.mono_l k
    · intro y0 y1 y2 y3 y4 y5 y6
      unfold impl_SignGrant.j0
      repeat' first
      | (with_reducible exact ih0 _ _ _ _ _ _ _)
      | (with_reducible exact impl_GrantOK.mono _ _ _ _ _)
      | (with_reducible exact impl_nodeSeed.mono _ _)
      | (with_reducible exact impl_signAt.mono _ _ _ _)
      | (with_reducible exact LeO.refl _)
      | (with_reducible exact LeO.none _)
      | (with_reducible refine LeO.ite ?_ ?_)
      | (with_reducible refine LeO.bind ?_ (fun _ => ?_))
      | exact ih0 _ _ _ _ _ _ _
      | exact impl_GrantOK.mono _ _ _ _ _
      | exact impl_nodeSeed.mono _ _
      | exact impl_signAt.mono _ _ _ _
      | exact LeO.none _
      | refine LeO.ite ?_ ?_
      | refine LeO.bind ?_ (fun _ => ?_)
theorem impl_SignGrant.mono : ∀ a0 a1 a2 a3 a4 a5 k, LeO (impl_SignGrant.f k a0 a1 a2 a3 a4 a5) (impl_SignGrant.f (k + 1) a0 a1 a2 a3 a4 a5) := by
  intro a0 a1 a2 a3 a4 a5 k
  have ih0 := impl_SignGrant.mono_l k
  unfold impl_SignGrant.f
  repeat' first
      | (with_reducible exact ih0 _ _ _ _ _ _ _)
      | (with_reducible exact impl_GrantOK.mono _ _ _ _ _)
      | (with_reducible exact impl_nodeSeed.mono _ _)
      | (with_reducible exact impl_signAt.mono _ _ _ _)
      | (with_reducible exact LeO.refl _)
      | (with_reducible exact LeO.none _)
      | (with_reducible refine LeO.ite ?_ ?_)
      | (with_reducible refine LeO.bind ?_ (fun _ => ?_))
      | exact ih0 _ _ _ _ _ _ _
      | exact impl_GrantOK.mono _ _ _ _ _
      | exact impl_nodeSeed.mono _ _
      | exact impl_signAt.mono _ _ _ _
      | exact LeO.none _
      | refine LeO.ite ?_ ?_
      | refine LeO.bind ?_ (fun _ => ?_)
noncomputable def impl_SignGrant.jv0 (x0 : Int) (x1 : Int) (x13 : Bool) (x1128000 : ByteArray) (x1128001 : Int) (x1128002 : Int) (x1128003 : Int) : Option (Int × List ByteArray × List ByteArray × List ByteArray × Int) := lim (fun k_ => impl_SignGrant.j0 k_ x0 x1 x13 x1128000 x1128001 x1128002 x1128003)
noncomputable def impl_SignGrant.v (a0 : Int) (a1 : Int) (a2_0 : ByteArray) (a2_1 : Int) (a2_2 : Int) (a2_3 : Int) : Option (Int × List ByteArray × List ByteArray × List ByteArray × Int) := lim (fun k_ => impl_SignGrant.f k_ a0 a1 a2_0 a2_1 a2_2 a2_3)
theorem impl_SignGrant.jv0_lim (x0 : Int) (x1 : Int) (x13 : Bool) (x1128000 : ByteArray) (x1128001 : Int) (x1128002 : Int) (x1128003 : Int) : LimIs (fun k_ => impl_SignGrant.j0 k_ x0 x1 x13 x1128000 x1128001 x1128002 x1128003) (impl_SignGrant.jv0 x0 x1 x13 x1128000 x1128001 x1128002 x1128003) := lim_is (fun k_ => (impl_SignGrant.mono_l k_) x0 x1 x13 x1128000 x1128001 x1128002 x1128003)
theorem impl_SignGrant.v_lim (a0 : Int) (a1 : Int) (a2_0 : ByteArray) (a2_1 : Int) (a2_2 : Int) (a2_3 : Int) : LimIs (fun k_ => impl_SignGrant.f k_ a0 a1 a2_0 a2_1 a2_2 a2_3) (impl_SignGrant.v a0 a1 a2_0 a2_1 a2_2 a2_3) := lim_is (fun k_ => impl_SignGrant.mono a0 a1 a2_0 a2_1 a2_2 a2_3 k_)
theorem impl_SignGrant.jv0_eq (x0 : Int) (x1 : Int) (x13 : Bool) (x1128000 : ByteArray) (x1128001 : Int) (x1128002 : Int) (x1128003 : Int) : impl_SignGrant.jv0 x0 x1 x13 x1128000 x1128001 x1128002 x1128003 = (if x13 = true then (some (0, ([] : List ByteArray), ([] : List ByteArray), ([] : List ByteArray), 4)) else ((impl_nodeSeed.v x0).bind fun t1132 => ((impl_grantText.v x1128000 x1128001 x1128002 x1128003).bind fun t1133 => ((impl_signAt.v t1132 x1 t1133).bind fun bt1134 => (some (bt1134.1, bt1134.2.1, bt1134.2.2.1, bt1134.2.2.2, 0))))) : Option (Int × List ByteArray × List ByteArray × List ByteArray × Int)) := by
  refine LimIs.eq (impl_SignGrant.jv0_lim x0 x1 x13 x1128000 x1128001 x1128002 x1128003) ?_
  refine LimIs.step (fun k_ => (impl_SignGrant.mono_l k_) x0 x1 x13 x1128000 x1128001 x1128002 x1128003) ?_
  simp only [impl_SignGrant.j0]
  repeat' (with_reducible first | exact impl_grantText.v_lim _ _ _ _ | exact impl_nodeSeed.v_lim _ | exact impl_signAt.v_lim _ _ _ | exact LimIs.const _ | refine LimIs.ite ?_ ?_ | refine LimIs.bind ?_ (fun _ => ?_))
theorem impl_SignGrant.v_eq (a0 : Int) (a1 : Int) (a2_0 : ByteArray) (a2_1 : Int) (a2_2 : Int) (a2_3 : Int) : impl_SignGrant.v a0 a1 a2_0 a2_1 a2_2 a2_3 = ((impl_GrantOK.v a2_0 a2_1 a2_2 a2_3).bind fun t1129 => (if t1129 = true then ((impl_within.v a0 0 6).bind fun t1130 => (if t1130 = true then ((impl_isIndex.v a1).bind fun t1131 => (impl_SignGrant.jv0 a0 a1 (!t1131) a2_0 a2_1 a2_2 a2_3)) else (impl_SignGrant.jv0 a0 a1 true a2_0 a2_1 a2_2 a2_3))) else (some (0, ([] : List ByteArray), ([] : List ByteArray), ([] : List ByteArray), 1))) : Option (Int × List ByteArray × List ByteArray × List ByteArray × Int)) := by
  refine LimIs.eq (impl_SignGrant.v_lim a0 a1 a2_0 a2_1 a2_2 a2_3) ?_
  simp only [impl_SignGrant.f]
  repeat' (with_reducible first | exact impl_GrantOK.v_lim _ _ _ _ | exact impl_SignGrant.jv0_lim _ _ _ _ _ _ _ | exact impl_isIndex.v_lim _ | exact impl_within.v_lim _ _ _ | exact LimIs.const _ | refine LimIs.ite ?_ ?_ | refine LimIs.bind ?_ (fun _ => ?_))
def laws_eqKeySignature.f (k : Nat) (a0_0 : Int) (l0_1 : List ByteArray) (l0_2 : List ByteArray) (l0_3 : List ByteArray) (a1_0 : Int) (l1_1 : List ByteArray) (l1_2 : List ByteArray) (l1_3 : List ByteArray) : Option (Bool) := if a0_0 = a1_0 then ((laws_eqStringS.f k l0_1 l1_1).bind fun t1146 => (if t1146 = true then ((laws_eqStringS.f k l0_2 l1_2).bind fun t1147 => (if t1147 = true then ((laws_eqStringS.f k l0_3 l1_3).bind fun t1148 => (if t1148 = true then (some true) else (some false))) else (some false))) else (some false))) else (some false)
theorem laws_eqKeySignature.mono : ∀ a0 a1 a2 a3 a4 a5 a6 a7 k, LeO (laws_eqKeySignature.f k a0 a1 a2 a3 a4 a5 a6 a7) (laws_eqKeySignature.f (k + 1) a0 a1 a2 a3 a4 a5 a6 a7) := by
  intro a0 a1 a2 a3 a4 a5 a6 a7 k
  unfold laws_eqKeySignature.f
  repeat' first
      | (with_reducible exact laws_eqStringS.mono _ _ _)
      | (with_reducible exact LeO.refl _)
      | (with_reducible exact LeO.none _)
      | (with_reducible refine LeO.ite ?_ ?_)
      | (with_reducible refine LeO.bind ?_ (fun _ => ?_))
      | exact laws_eqStringS.mono _ _ _
      | exact LeO.none _
      | refine LeO.ite ?_ ?_
      | refine LeO.bind ?_ (fun _ => ?_)
noncomputable def laws_eqKeySignature.v (a0_0 : Int) (l0_1 : List ByteArray) (l0_2 : List ByteArray) (l0_3 : List ByteArray) (a1_0 : Int) (l1_1 : List ByteArray) (l1_2 : List ByteArray) (l1_3 : List ByteArray) : Option (Bool) := lim (fun k_ => laws_eqKeySignature.f k_ a0_0 l0_1 l0_2 l0_3 a1_0 l1_1 l1_2 l1_3)
theorem laws_eqKeySignature.v_lim (a0_0 : Int) (l0_1 : List ByteArray) (l0_2 : List ByteArray) (l0_3 : List ByteArray) (a1_0 : Int) (l1_1 : List ByteArray) (l1_2 : List ByteArray) (l1_3 : List ByteArray) : LimIs (fun k_ => laws_eqKeySignature.f k_ a0_0 l0_1 l0_2 l0_3 a1_0 l1_1 l1_2 l1_3) (laws_eqKeySignature.v a0_0 l0_1 l0_2 l0_3 a1_0 l1_1 l1_2 l1_3) := lim_is (fun k_ => laws_eqKeySignature.mono a0_0 l0_1 l0_2 l0_3 a1_0 l1_1 l1_2 l1_3 k_)
theorem laws_eqKeySignature.v_eq (a0_0 : Int) (l0_1 : List ByteArray) (l0_2 : List ByteArray) (l0_3 : List ByteArray) (a1_0 : Int) (l1_1 : List ByteArray) (l1_2 : List ByteArray) (l1_3 : List ByteArray) : laws_eqKeySignature.v a0_0 l0_1 l0_2 l0_3 a1_0 l1_1 l1_2 l1_3 = (if a0_0 = a1_0 then ((laws_eqStringS.v l0_1 l1_1).bind fun t1146 => (if t1146 = true then ((laws_eqStringS.v l0_2 l1_2).bind fun t1147 => (if t1147 = true then ((laws_eqStringS.v l0_3 l1_3).bind fun t1148 => (if t1148 = true then (some true) else (some false))) else (some false))) else (some false))) else (some false) : Option (Bool)) := by
  refine LimIs.eq (laws_eqKeySignature.v_lim a0_0 l0_1 l0_2 l0_3 a1_0 l1_1 l1_2 l1_3) ?_
  simp only [laws_eqKeySignature.f]
  repeat' (with_reducible first | exact laws_eqStringS.v_lim _ _ | exact LimIs.const _ | refine LimIs.ite ?_ ?_ | refine LimIs.bind ?_ (fun _ => ?_))
def laws_markKeySignature.f (k : Nat) (a0_0 : Int) (l0_1 : List ByteArray) (l0_2 : List ByteArray) (l0_3 : List ByteArray) (a1 : Int) : Option (Int × List ByteArray × List ByteArray × List ByteArray) := (laws_markStringS.f k l0_1 a1).bind fun bt1150 => ((laws_markStringS.f k l0_2 bt1150.1).bind fun bt1152 => ((laws_markStringS.f k l0_3 bt1152.1).bind fun bt1154 => (some (bt1154.1, bt1150.2, bt1152.2, bt1154.2))))
theorem laws_markKeySignature.mono : ∀ a0 a1 a2 a3 a4 k, LeO (laws_markKeySignature.f k a0 a1 a2 a3 a4) (laws_markKeySignature.f (k + 1) a0 a1 a2 a3 a4) := by
  intro a0 a1 a2 a3 a4 k
  unfold laws_markKeySignature.f
  repeat' first
      | (with_reducible exact laws_markStringS.mono _ _ _)
      | (with_reducible exact LeO.refl _)
      | (with_reducible exact LeO.none _)
      | (with_reducible refine LeO.ite ?_ ?_)
      | (with_reducible refine LeO.bind ?_ (fun _ => ?_))
      | exact laws_markStringS.mono _ _ _
      | exact LeO.none _
      | refine LeO.ite ?_ ?_
      | refine LeO.bind ?_ (fun _ => ?_)
noncomputable def laws_markKeySignature.v (a0_0 : Int) (l0_1 : List ByteArray) (l0_2 : List ByteArray) (l0_3 : List ByteArray) (a1 : Int) : Option (Int × List ByteArray × List ByteArray × List ByteArray) := lim (fun k_ => laws_markKeySignature.f k_ a0_0 l0_1 l0_2 l0_3 a1)
theorem laws_markKeySignature.v_lim (a0_0 : Int) (l0_1 : List ByteArray) (l0_2 : List ByteArray) (l0_3 : List ByteArray) (a1 : Int) : LimIs (fun k_ => laws_markKeySignature.f k_ a0_0 l0_1 l0_2 l0_3 a1) (laws_markKeySignature.v a0_0 l0_1 l0_2 l0_3 a1) := lim_is (fun k_ => laws_markKeySignature.mono a0_0 l0_1 l0_2 l0_3 a1 k_)
theorem laws_markKeySignature.v_eq (a0_0 : Int) (l0_1 : List ByteArray) (l0_2 : List ByteArray) (l0_3 : List ByteArray) (a1 : Int) : laws_markKeySignature.v a0_0 l0_1 l0_2 l0_3 a1 = ((laws_markStringS.v l0_1 a1).bind fun bt1150 => ((laws_markStringS.v l0_2 bt1150.1).bind fun bt1152 => ((laws_markStringS.v l0_3 bt1152.1).bind fun bt1154 => (some (bt1154.1, bt1150.2, bt1152.2, bt1154.2)))) : Option (Int × List ByteArray × List ByteArray × List ByteArray)) := by
  refine LimIs.eq (laws_markKeySignature.v_lim a0_0 l0_1 l0_2 l0_3 a1) ?_
  simp only [laws_markKeySignature.f]
  repeat' (with_reducible first | exact laws_markStringS.v_lim _ _ | exact LimIs.const _ | refine LimIs.ite ?_ ?_ | refine LimIs.bind ?_ (fun _ => ?_))
def laws_heldKeySignature.f (k : Nat) (a0_0 : Int) (l0_1 : List ByteArray) (l0_2 : List ByteArray) (l0_3 : List ByteArray) (a1 : Int) : Option (Int) := (laws_heldStringS.f k l0_1 a1).bind fun t1157 => (if t1157 < 0 then (some (-1)) else ((laws_heldStringS.f k l0_2 t1157).bind fun t1158 => (if t1158 < 0 then (some (-1)) else ((laws_heldStringS.f k l0_3 t1158).bind fun t1159 => (if t1159 < 0 then (some (-1)) else (some t1159))))))
theorem laws_heldKeySignature.mono : ∀ a0 a1 a2 a3 a4 k, LeO (laws_heldKeySignature.f k a0 a1 a2 a3 a4) (laws_heldKeySignature.f (k + 1) a0 a1 a2 a3 a4) := by
  intro a0 a1 a2 a3 a4 k
  unfold laws_heldKeySignature.f
  repeat' first
      | (with_reducible exact laws_heldStringS.mono _ _ _)
      | (with_reducible exact LeO.refl _)
      | (with_reducible exact LeO.none _)
      | (with_reducible refine LeO.ite ?_ ?_)
      | (with_reducible refine LeO.bind ?_ (fun _ => ?_))
      | exact laws_heldStringS.mono _ _ _
      | exact LeO.none _
      | refine LeO.ite ?_ ?_
      | refine LeO.bind ?_ (fun _ => ?_)
noncomputable def laws_heldKeySignature.v (a0_0 : Int) (l0_1 : List ByteArray) (l0_2 : List ByteArray) (l0_3 : List ByteArray) (a1 : Int) : Option (Int) := lim (fun k_ => laws_heldKeySignature.f k_ a0_0 l0_1 l0_2 l0_3 a1)
theorem laws_heldKeySignature.v_lim (a0_0 : Int) (l0_1 : List ByteArray) (l0_2 : List ByteArray) (l0_3 : List ByteArray) (a1 : Int) : LimIs (fun k_ => laws_heldKeySignature.f k_ a0_0 l0_1 l0_2 l0_3 a1) (laws_heldKeySignature.v a0_0 l0_1 l0_2 l0_3 a1) := lim_is (fun k_ => laws_heldKeySignature.mono a0_0 l0_1 l0_2 l0_3 a1 k_)
theorem laws_heldKeySignature.v_eq (a0_0 : Int) (l0_1 : List ByteArray) (l0_2 : List ByteArray) (l0_3 : List ByteArray) (a1 : Int) : laws_heldKeySignature.v a0_0 l0_1 l0_2 l0_3 a1 = ((laws_heldStringS.v l0_1 a1).bind fun t1157 => (if t1157 < 0 then (some (-1)) else ((laws_heldStringS.v l0_2 t1157).bind fun t1158 => (if t1158 < 0 then (some (-1)) else ((laws_heldStringS.v l0_3 t1158).bind fun t1159 => (if t1159 < 0 then (some (-1)) else (some t1159)))))) : Option (Int)) := by
  refine LimIs.eq (laws_heldKeySignature.v_lim a0_0 l0_1 l0_2 l0_3 a1) ?_
  simp only [laws_heldKeySignature.f]
  repeat' (with_reducible first | exact laws_heldStringS.v_lim _ _ | exact LimIs.const _ | refine LimIs.ite ?_ ?_ | refine LimIs.bind ?_ (fun _ => ?_))
mutual
def laws_FnExactSignGrant.j0 : Nat → Int → Int → Int → Bool → ByteArray → Int → Int → Int → Int → List ByteArray → List ByteArray → List ByteArray → Int → List ByteArray → List ByteArray → List ByteArray → Option (Bool)
  | 0, _, _, _, _, _, _, _, _, _, _, _, _, _, _, _, _ => none
  | k + 1, x0, x1, x9, x45, x1161000, x1161001, x1161002, x1161003, x1178000, x1178001, x1178002, x1178003, x1194000, x1194001, x1194002, x1194003 => if x45 = true then (some false) else ((laws_markKeySignature.f k x1194000 x1194001 x1194002 x1194003 1).bind fun bt1195 => ((laws_heldKeySignature.f k x1194000 bt1195.2.1 bt1195.2.2.1 bt1195.2.2.2 1).bind fun t1199 => (if t1199 < 0 then (some false) else (if t1199 = bt1195.1 then ((laws_toGrant.f x1161000 x1161001 x1161002 x1161003).bind fun bt1200 => ((impl_SignGrant.f k x0 x1 bt1200.1 bt1200.2.1 bt1200.2.2.1 bt1200.2.2.2).bind fun bt1204 => ((laws_eqKeySignature.f k bt1204.1 bt1204.2.1 bt1204.2.2.1 bt1204.2.2.2.1 x1178000 x1178001 x1178002 x1178003).bind fun t1216 => (if t1216 = true then (laws_FnExactSignGrant.j1 k bt1195.1 (bt1204.2.2.2.2 != x9) x1194000 bt1195.2.1 bt1195.2.2.1 bt1195.2.2.2) else (laws_FnExactSignGrant.j1 k bt1195.1 true x1194000 bt1195.2.1 bt1195.2.2.1 bt1195.2.2.2))))) else (some false)))))
def laws_FnExactSignGrant.j1 : Nat → Int → Bool → Int → List ByteArray → List ByteArray → List ByteArray → Option (Bool)
  | 0, _, _, _, _, _, _ => none
  | k + 1, x12, x73, x1194000, x1194001, x1194002, x1194003 => if x73 = true then (some false) else ((laws_heldKeySignature.f k x1194000 x1194001 x1194002 x1194003 1).bind fun t1217 => (if t1217 < 0 then (some false) else (if t1217 = x12 then (some true) else (some false))))
end
def laws_FnExactSignGrant.f (k : Nat) (a0 : Int) (a1 : Int) (a2_0 : ByteArray) (a2_1 : Int) (a2_2 : Int) (a2_3 : Int) : Option (Bool) := (laws_szGrant.f a2_0 a2_1 a2_2 a2_3 1048576).bind fun t1161 => (if t1161 < 0 then (some true) else ((laws_toGrant.f a2_0 a2_1 a2_2 a2_3).bind fun bt1162 => ((spec_SignGrant.f k a0 a1 bt1162.1 bt1162.2.1 bt1162.2.2.1 bt1162.2.2.2).bind fun bt1166 => ((laws_toGrant.f a2_0 a2_1 a2_2 a2_3).bind fun bt1178 => ((impl_SignGrant.f k a0 a1 bt1178.1 bt1178.2.1 bt1178.2.2.1 bt1178.2.2.2).bind fun bt1182 => ((laws_eqKeySignature.f k bt1182.1 bt1182.2.1 bt1182.2.2.1 bt1182.2.2.2.1 bt1166.1 bt1166.2.1 bt1166.2.2.1 bt1166.2.2.2.1).bind fun t1194 => (if t1194 = true then (laws_FnExactSignGrant.j0 k a0 a1 bt1166.2.2.2.2 (bt1182.2.2.2.2 != bt1166.2.2.2.2) a2_0 a2_1 a2_2 a2_3 bt1166.1 bt1166.2.1 bt1166.2.2.1 bt1166.2.2.2.1 bt1182.1 bt1182.2.1 bt1182.2.2.1 bt1182.2.2.2.1) else (laws_FnExactSignGrant.j0 k a0 a1 bt1166.2.2.2.2 true a2_0 a2_1 a2_2 a2_3 bt1166.1 bt1166.2.1 bt1166.2.2.1 bt1166.2.2.2.1 bt1182.1 bt1182.2.1 bt1182.2.2.1 bt1182.2.2.2.1))))))))
theorem laws_FnExactSignGrant.mono_l : ∀ k, (∀ y0 y1 y2 y3 y4 y5 y6 y7 y8 y9 y10 y11 y12 y13 y14 y15, LeO (laws_FnExactSignGrant.j0 k y0 y1 y2 y3 y4 y5 y6 y7 y8 y9 y10 y11 y12 y13 y14 y15) (laws_FnExactSignGrant.j0 (k + 1) y0 y1 y2 y3 y4 y5 y6 y7 y8 y9 y10 y11 y12 y13 y14 y15)) ∧ (∀ y0 y1 y2 y3 y4 y5, LeO (laws_FnExactSignGrant.j1 k y0 y1 y2 y3 y4 y5) (laws_FnExactSignGrant.j1 (k + 1) y0 y1 y2 y3 y4 y5))
  | 0 => ⟨fun _ _ _ _ _ _ _ _ _ _ _ _ _ _ _ _ r h => by simp [laws_FnExactSignGrant.j0] at h, fun _ _ _ _ _ _ r h => by simp [laws_FnExactSignGrant.j1] at h⟩
  | k + 1 => by
    obtain ⟨ih0, ih1⟩ := laws_FnExactSignGrant.mono_l k
    refine ⟨?_, ?_⟩
    · intro y0 y1 y2 y3 y4 y5 y6 y7 y8 y9 y10 y11 y12 y13 y14 y15
      unfold laws_FnExactSignGrant.j0
      repeat' first
      | (with_reducible exact ih0 _ _ _ _ _ _ _ _ _ _ _ _ _ _ _ _)
      | (with_reducible exact ih1 _ _ _ _ _ _)
      | (with_reducible exact impl_SignGrant.mono _ _ _ _ _ _ _)
      | (with_reducible exact laws_eqKeySignature.mono _ _ _ _ _ _ _ _ _)
      | (with_reducible exact laws_heldKeySignature.mono _ _ _ _ _ _)
      | (with_reducible exact laws_markKeySignature.mono _ _ _ _ _ _)
      | (with_reducible exact spec_SignGrant.mono _ _ _ _ _ _ _)
      | (with_reducible exact LeO.refl _)
      | (with_reducible exact LeO.none _)
      | (with_reducible refine LeO.ite ?_ ?_)
      | (with_reducible refine LeO.bind ?_ (fun _ => ?_))
      | exact ih0 _ _ _ _ _ _ _ _ _ _ _ _ _ _ _ _
      | exact ih1 _ _ _ _ _ _
      | exact impl_SignGrant.mono _ _ _ _ _ _ _
      | exact laws_eqKeySignature.mono _ _ _ _ _ _ _ _ _
      | exact laws_heldKeySignature.mono _ _ _ _ _ _
      | exact laws_markKeySignature.mono _ _ _ _ _ _
      | exact spec_SignGrant.mono _ _ _ _ _ _ _
      | exact LeO.none _
      | refine LeO.ite ?_ ?_
      | refine LeO.bind ?_ (fun _ => ?_)
    · intro y0 y1 y2 y3 y4 y5
      unfold laws_FnExactSignGrant.j1
      repeat' first
      | (with_reducible exact ih0 _ _ _ _ _ _ _ _ _ _ _ _ _ _ _ _)
      | (with_reducible exact ih1 _ _ _ _ _ _)
      | (with_reducible exact impl_SignGrant.mono _ _ _ _ _ _ _)
      | (with_reducible exact laws_eqKeySignature.mono _ _ _ _ _ _ _ _ _)
      | (with_reducible exact laws_heldKeySignature.mono _ _ _ _ _ _)
      | (with_reducible exact laws_markKeySignature.mono _ _ _ _ _ _)
      | (with_reducible exact spec_SignGrant.mono _ _ _ _ _ _ _)
      | (with_reducible exact LeO.refl _)
      | (with_reducible exact LeO.none _)
      | (with_reducible refine LeO.ite ?_ ?_)
      | (with_reducible refine LeO.bind ?_ (fun _ => ?_))
      | exact ih0 _ _ _ _ _ _ _ _ _ _ _ _ _ _ _ _
      | exact ih1 _ _ _ _ _ _
      | exact impl_SignGrant.mono _ _ _ _ _ _ _
      | exact laws_eqKeySignature.mono _ _ _ _ _ _ _ _ _
      | exact laws_heldKeySignature.mono _ _ _ _ _ _
      | exact laws_markKeySignature.mono _ _ _ _ _ _
      | exact spec_SignGrant.mono _ _ _ _ _ _ _
      | exact LeO.none _
      | refine LeO.ite ?_ ?_
      | refine LeO.bind ?_ (fun _ => ?_)
theorem laws_FnExactSignGrant.mono : ∀ a0 a1 a2 a3 a4 a5 k, LeO (laws_FnExactSignGrant.f k a0 a1 a2 a3 a4 a5) (laws_FnExactSignGrant.f (k + 1) a0 a1 a2 a3 a4 a5) := by
  intro a0 a1 a2 a3 a4 a5 k
  obtain ⟨ih0, ih1⟩ := laws_FnExactSignGrant.mono_l k
  unfold laws_FnExactSignGrant.f
  repeat' first
      | (with_reducible exact ih0 _ _ _ _ _ _ _ _ _ _ _ _ _ _ _ _)
      | (with_reducible exact ih1 _ _ _ _ _ _)
      | (with_reducible exact impl_SignGrant.mono _ _ _ _ _ _ _)
      | (with_reducible exact laws_eqKeySignature.mono _ _ _ _ _ _ _ _ _)
      | (with_reducible exact laws_heldKeySignature.mono _ _ _ _ _ _)
      | (with_reducible exact laws_markKeySignature.mono _ _ _ _ _ _)
      | (with_reducible exact spec_SignGrant.mono _ _ _ _ _ _ _)
      | (with_reducible exact LeO.refl _)
      | (with_reducible exact LeO.none _)
      | (with_reducible refine LeO.ite ?_ ?_)
      | (with_reducible refine LeO.bind ?_ (fun _ => ?_))
      | exact ih0 _ _ _ _ _ _ _ _ _ _ _ _ _ _ _ _
      | exact ih1 _ _ _ _ _ _
      | exact impl_SignGrant.mono _ _ _ _ _ _ _
      | exact laws_eqKeySignature.mono _ _ _ _ _ _ _ _ _
      | exact laws_heldKeySignature.mono _ _ _ _ _ _
      | exact laws_markKeySignature.mono _ _ _ _ _ _
      | exact spec_SignGrant.mono _ _ _ _ _ _ _
      | exact LeO.none _
      | refine LeO.ite ?_ ?_
      | refine LeO.bind ?_ (fun _ => ?_)
noncomputable def laws_FnExactSignGrant.jv0 (x0 : Int) (x1 : Int) (x9 : Int) (x45 : Bool) (x1161000 : ByteArray) (x1161001 : Int) (x1161002 : Int) (x1161003 : Int) (x1178000 : Int) (x1178001 : List ByteArray) (x1178002 : List ByteArray) (x1178003 : List ByteArray) (x1194000 : Int) (x1194001 : List ByteArray) (x1194002 : List ByteArray) (x1194003 : List ByteArray) : Option (Bool) := lim (fun k_ => laws_FnExactSignGrant.j0 k_ x0 x1 x9 x45 x1161000 x1161001 x1161002 x1161003 x1178000 x1178001 x1178002 x1178003 x1194000 x1194001 x1194002 x1194003)
noncomputable def laws_FnExactSignGrant.jv1 (x12 : Int) (x73 : Bool) (x1194000 : Int) (x1194001 : List ByteArray) (x1194002 : List ByteArray) (x1194003 : List ByteArray) : Option (Bool) := lim (fun k_ => laws_FnExactSignGrant.j1 k_ x12 x73 x1194000 x1194001 x1194002 x1194003)
noncomputable def laws_FnExactSignGrant.v (a0 : Int) (a1 : Int) (a2_0 : ByteArray) (a2_1 : Int) (a2_2 : Int) (a2_3 : Int) : Option (Bool) := lim (fun k_ => laws_FnExactSignGrant.f k_ a0 a1 a2_0 a2_1 a2_2 a2_3)
theorem laws_FnExactSignGrant.jv0_lim (x0 : Int) (x1 : Int) (x9 : Int) (x45 : Bool) (x1161000 : ByteArray) (x1161001 : Int) (x1161002 : Int) (x1161003 : Int) (x1178000 : Int) (x1178001 : List ByteArray) (x1178002 : List ByteArray) (x1178003 : List ByteArray) (x1194000 : Int) (x1194001 : List ByteArray) (x1194002 : List ByteArray) (x1194003 : List ByteArray) : LimIs (fun k_ => laws_FnExactSignGrant.j0 k_ x0 x1 x9 x45 x1161000 x1161001 x1161002 x1161003 x1178000 x1178001 x1178002 x1178003 x1194000 x1194001 x1194002 x1194003) (laws_FnExactSignGrant.jv0 x0 x1 x9 x45 x1161000 x1161001 x1161002 x1161003 x1178000 x1178001 x1178002 x1178003 x1194000 x1194001 x1194002 x1194003) := lim_is (fun k_ => (laws_FnExactSignGrant.mono_l k_).1 x0 x1 x9 x45 x1161000 x1161001 x1161002 x1161003 x1178000 x1178001 x1178002 x1178003 x1194000 x1194001 x1194002 x1194003)
theorem laws_FnExactSignGrant.jv1_lim (x12 : Int) (x73 : Bool) (x1194000 : Int) (x1194001 : List ByteArray) (x1194002 : List ByteArray) (x1194003 : List ByteArray) : LimIs (fun k_ => laws_FnExactSignGrant.j1 k_ x12 x73 x1194000 x1194001 x1194002 x1194003) (laws_FnExactSignGrant.jv1 x12 x73 x1194000 x1194001 x1194002 x1194003) := lim_is (fun k_ => (laws_FnExactSignGrant.mono_l k_).2 x12 x73 x1194000 x1194001 x1194002 x1194003)
theorem laws_FnExactSignGrant.v_lim (a0 : Int) (a1 : Int) (a2_0 : ByteArray) (a2_1 : Int) (a2_2 : Int) (a2_3 : Int) : LimIs (fun k_ => laws_FnExactSignGrant.f k_ a0 a1 a2_0 a2_1 a2_2 a2_3) (laws_FnExactSignGrant.v a0 a1 a2_0 a2_1 a2_2 a2_3) := lim_is (fun k_ => laws_FnExactSignGrant.mono a0 a1 a2_0 a2_1 a2_2 a2_3 k_)
theorem laws_FnExactSignGrant.jv0_eq (x0 : Int) (x1 : Int) (x9 : Int) (x45 : Bool) (x1161000 : ByteArray) (x1161001 : Int) (x1161002 : Int) (x1161003 : Int) (x1178000 : Int) (x1178001 : List ByteArray) (x1178002 : List ByteArray) (x1178003 : List ByteArray) (x1194000 : Int) (x1194001 : List ByteArray) (x1194002 : List ByteArray) (x1194003 : List ByteArray) : laws_FnExactSignGrant.jv0 x0 x1 x9 x45 x1161000 x1161001 x1161002 x1161003 x1178000 x1178001 x1178002 x1178003 x1194000 x1194001 x1194002 x1194003 = (if x45 = true then (some false) else ((laws_markKeySignature.v x1194000 x1194001 x1194002 x1194003 1).bind fun bt1195 => ((laws_heldKeySignature.v x1194000 bt1195.2.1 bt1195.2.2.1 bt1195.2.2.2 1).bind fun t1199 => (if t1199 < 0 then (some false) else (if t1199 = bt1195.1 then ((laws_toGrant.v x1161000 x1161001 x1161002 x1161003).bind fun bt1200 => ((impl_SignGrant.v x0 x1 bt1200.1 bt1200.2.1 bt1200.2.2.1 bt1200.2.2.2).bind fun bt1204 => ((laws_eqKeySignature.v bt1204.1 bt1204.2.1 bt1204.2.2.1 bt1204.2.2.2.1 x1178000 x1178001 x1178002 x1178003).bind fun t1216 => (if t1216 = true then (laws_FnExactSignGrant.jv1 bt1195.1 (bt1204.2.2.2.2 != x9) x1194000 bt1195.2.1 bt1195.2.2.1 bt1195.2.2.2) else (laws_FnExactSignGrant.jv1 bt1195.1 true x1194000 bt1195.2.1 bt1195.2.2.1 bt1195.2.2.2))))) else (some false))))) : Option (Bool)) := by
  refine LimIs.eq (laws_FnExactSignGrant.jv0_lim x0 x1 x9 x45 x1161000 x1161001 x1161002 x1161003 x1178000 x1178001 x1178002 x1178003 x1194000 x1194001 x1194002 x1194003) ?_
  refine LimIs.step (fun k_ => (laws_FnExactSignGrant.mono_l k_).1 x0 x1 x9 x45 x1161000 x1161001 x1161002 x1161003 x1178000 x1178001 x1178002 x1178003 x1194000 x1194001 x1194002 x1194003) ?_
  simp only [laws_FnExactSignGrant.j0]
  repeat' (with_reducible first | exact impl_SignGrant.v_lim _ _ _ _ _ _ | exact laws_FnExactSignGrant.jv1_lim _ _ _ _ _ _ | exact laws_eqKeySignature.v_lim _ _ _ _ _ _ _ _ | exact laws_heldKeySignature.v_lim _ _ _ _ _ | exact laws_markKeySignature.v_lim _ _ _ _ _ | exact laws_toGrant.v_lim _ _ _ _ | exact LimIs.const _ | refine LimIs.ite ?_ ?_ | refine LimIs.bind ?_ (fun _ => ?_))
theorem laws_FnExactSignGrant.jv1_eq (x12 : Int) (x73 : Bool) (x1194000 : Int) (x1194001 : List ByteArray) (x1194002 : List ByteArray) (x1194003 : List ByteArray) : laws_FnExactSignGrant.jv1 x12 x73 x1194000 x1194001 x1194002 x1194003 = (if x73 = true then (some false) else ((laws_heldKeySignature.v x1194000 x1194001 x1194002 x1194003 1).bind fun t1217 => (if t1217 < 0 then (some false) else (if t1217 = x12 then (some true) else (some false)))) : Option (Bool)) := by
  refine LimIs.eq (laws_FnExactSignGrant.jv1_lim x12 x73 x1194000 x1194001 x1194002 x1194003) ?_
  refine LimIs.step (fun k_ => (laws_FnExactSignGrant.mono_l k_).2 x12 x73 x1194000 x1194001 x1194002 x1194003) ?_
  simp only [laws_FnExactSignGrant.j1]
  repeat' (with_reducible first | exact laws_heldKeySignature.v_lim _ _ _ _ _ | exact LimIs.const _ | refine LimIs.ite ?_ ?_ | refine LimIs.bind ?_ (fun _ => ?_))
theorem laws_FnExactSignGrant.v_eq (a0 : Int) (a1 : Int) (a2_0 : ByteArray) (a2_1 : Int) (a2_2 : Int) (a2_3 : Int) : laws_FnExactSignGrant.v a0 a1 a2_0 a2_1 a2_2 a2_3 = ((laws_szGrant.v a2_0 a2_1 a2_2 a2_3 1048576).bind fun t1161 => (if t1161 < 0 then (some true) else ((laws_toGrant.v a2_0 a2_1 a2_2 a2_3).bind fun bt1162 => ((spec_SignGrant.v a0 a1 bt1162.1 bt1162.2.1 bt1162.2.2.1 bt1162.2.2.2).bind fun bt1166 => ((laws_toGrant.v a2_0 a2_1 a2_2 a2_3).bind fun bt1178 => ((impl_SignGrant.v a0 a1 bt1178.1 bt1178.2.1 bt1178.2.2.1 bt1178.2.2.2).bind fun bt1182 => ((laws_eqKeySignature.v bt1182.1 bt1182.2.1 bt1182.2.2.1 bt1182.2.2.2.1 bt1166.1 bt1166.2.1 bt1166.2.2.1 bt1166.2.2.2.1).bind fun t1194 => (if t1194 = true then (laws_FnExactSignGrant.jv0 a0 a1 bt1166.2.2.2.2 (bt1182.2.2.2.2 != bt1166.2.2.2.2) a2_0 a2_1 a2_2 a2_3 bt1166.1 bt1166.2.1 bt1166.2.2.1 bt1166.2.2.2.1 bt1182.1 bt1182.2.1 bt1182.2.2.1 bt1182.2.2.2.1) else (laws_FnExactSignGrant.jv0 a0 a1 bt1166.2.2.2.2 true a2_0 a2_1 a2_2 a2_3 bt1166.1 bt1166.2.1 bt1166.2.2.1 bt1166.2.2.2.1 bt1182.1 bt1182.2.1 bt1182.2.2.1 bt1182.2.2.2.1)))))))) : Option (Bool)) := by
  refine LimIs.eq (laws_FnExactSignGrant.v_lim a0 a1 a2_0 a2_1 a2_2 a2_3) ?_
  simp only [laws_FnExactSignGrant.f]
  repeat' (with_reducible first | exact impl_SignGrant.v_lim _ _ _ _ _ _ | exact laws_FnExactSignGrant.jv0_lim _ _ _ _ _ _ _ _ _ _ _ _ _ _ _ _ | exact laws_eqKeySignature.v_lim _ _ _ _ _ _ _ _ | exact laws_szGrant.v_lim _ _ _ _ _ | exact laws_toGrant.v_lim _ _ _ _ | exact spec_SignGrant.v_lim _ _ _ _ _ _ | exact LimIs.const _ | refine LimIs.ite ?_ ?_ | refine LimIs.bind ?_ (fun _ => ?_))
end Go.Proofs.YtadablpppkjdbaaDoor.B
end

section
namespace Go.Proofs.YtadablpppkjdbaaDoorW.PrintWords
open Go.RowKit
theorem add0 (g j : Nat) : (⟨g, 0, none⟩ : Addr).add j = ⟨g, j, none⟩ := by rw [add_plain]; first | done | rw [Nat.zero_add]
/-- Block g holds the bytes l at its head; it has cap cells, none of them marked. -/
structure Bm (W : World) (g cap : Nat) (l : List Int) : Prop where
  cell : ∀ j, j < l.length → W.cell? ⟨g, j, none⟩ = some (.int .u8 (l.getD j 0))
  there : ∀ j, j < cap → (W.cell? ⟨g, j, none⟩).isSome = true
  free : ∀ j, j < cap → W.frozen? ⟨g, j, none⟩ = false
  room : l.length ≤ cap
theorem Bm.at {W W' : World} {g cap : Nat} {l : List Int} (h : Bm W g cap l) (e : W'.heap[g]? = W.heap[g]?) : Bm W' g cap l :=
  ⟨fun j hj => (World.cell?_of_block (a := ⟨g, j, none⟩) e).trans (h.cell j hj), fun j hj => by rw [World.cell?_of_block (a := ⟨g, j, none⟩) e]; exact h.there j hj, fun j hj => (World.frozen?_of_block (a := ⟨g, j, none⟩) e).trans (h.free j hj), h.room⟩
theorem Bm.conv (W : World) (e : Nat) (s : ByteArray) : Bm (Lib.bytesWorld W e s) W.heap.size (grownCap W s.size 0 e) (bytesOf s) := by
  have hc : s.size ≤ grownCap W s.size 0 e := grownCap_ge _ _ _ _
  have hsz : (Lib.bytesCells W e s).size = grownCap W s.size 0 e := by simp [Lib.bytesCells]; omega
  refine ⟨fun j hj => ?_, fun j hj => ?_, fun j hj => ?_, by rw [bytesOf_length]; exact hc⟩
  · rw [bytesOf_length] at hj
    rw [Lib.bytesWorld_cell W e s j hj]
    simp [bytesOf, List.getD, hj]
  · unfold World.cell?
    rw [Lib.bytesWorld_at_new]
    simp [hsz, hj]
  · unfold World.frozen?
    rw [Lib.bytesWorld_at_new]
    simp [hsz]
    omega
section
variable {P : Program} {ops : Array Oper} {rest : List Oper} {o : Oper} {a : Act} {Q : Exit → Act → World → Prop}
theorem Bm.grown {W : World} {g cap : Nat} {l ys : List Int} {e : Nat} {n : Nat} {fill : List Value} (h : Bm W g cap l) (hn : n = l.length + ys.length) :
    ∀ w1, w1.heap[W.heap.size]? = some (.cells (((nums .u8 l) ++ (nums .u8 ys) ++ fill).toArray) e (0, 0)) → Bm w1 W.heap.size (n + fill.length) (l ++ ys) := by
  intro w1 hw
  have hl : (nums .u8 l ++ nums .u8 ys ++ fill).length = n + fill.length := by simp [nums]; omega
  refine ⟨fun j hj => ?_, fun j hj => ?_, fun j hj => ?_, by simp; omega⟩
  · unfold World.cell?
    rw [hw]
    rw [List.length_append] at hj
    simp only [Option.isSome_none, Bool.false_eq_true, if_false, List.getElem?_toArray]
    rw [← nums_append, List.getElem?_append_left (by simp [nums]; omega)]
    have hjl : j < (l ++ ys).length := by rw [List.length_append]; exact hj
    simp only [nums, List.getElem?_map, List.getElem?_eq_getElem hjl, Option.map_some, List.getD, Option.getD_some]
  · unfold World.cell?
    rw [hw]
    simp only [Option.isSome_none, Bool.false_eq_true, if_false, List.getElem?_toArray]
    rw [List.getElem?_eq_getElem (by omega)]
    rfl
  · unfold World.frozen?
    rw [hw]
    simp
theorem Bm.set {W : World} {g cap : Nat} {l ys : List Int} (h : Bm W g cap l) (hr : l.length + ys.length ≤ cap) : Bm (W.setCells g l.length (nums .u8 ys)) g cap (l ++ ys) := by
  have hlen : (nums .u8 ys).length = ys.length := nums_length _ _
  refine ⟨fun j hj => ?_, fun j hj => ?_, fun j hj => ?_, by simp; omega⟩
  · rw [List.length_append] at hj
    by_cases c : j < l.length
    · rw [World.cell?_setCells_out g _ _ _ _ (fun _ _ => by dsimp only; omega), h.cell j c]
      simp [List.getD, List.getElem?_append_left c]
    · have := World.cell?_setCells_in g (nums .u8 ys) l.length W (fun i hi => h.there _ (by omega)) (j - l.length) (by omega)
      rw [show l.length + (j - l.length) = j by omega] at this
      rw [this]
      simp [nums, List.getD, List.getElem?_append_right (show l.length ≤ j by omega), List.getElem?_eq_getElem (show j - l.length < ys.length by omega)]
  · by_cases c : l.length ≤ j ∧ j < l.length + ys.length
    · have := World.cell?_setCells_in g (nums .u8 ys) l.length W (fun i hi => h.there _ (by omega)) (j - l.length) (by omega)
      rw [show l.length + (j - l.length) = j by omega] at this
      rw [this]
      rfl
    · rw [World.cell?_setCells_out g _ _ _ _ (fun _ _ => by dsimp only; omega)]
      exact h.there j hj
  · rw [World.frozen?_setCells]
    exact h.free j hj
theorem setCells_old (b : Nat) : ∀ (vs : List Value) (o : Nat) (w : World), (w.setCells b o vs).os = w.os ∧ (w.setCells b o vs).tape = w.tape ∧ (w.setCells b o vs).output = w.output ∧ (w.setCells b o vs).heap.size = w.heap.size ∧ ∀ k, k ≠ b → (w.setCells b o vs).heap[k]? = w.heap[k]?
  | [], _, w => ⟨rfl, rfl, rfl, rfl, fun _ _ => rfl⟩
  | v :: r, o, w => by
    obtain ⟨h1, h2, h3, h4, h5⟩ := setCells_old b r (o + 1) (w.setCell ⟨b, o, none⟩ v)
    refine ⟨h1, h2, h3, ?_, fun k hk => ?_⟩
    · rw [World.setCells, h4]; simp [World.setCell]
    · rw [World.setCells, h5 k hk]
      simp [World.setCell, Array.getElem?_modify, Ne.symm hk]
/-- An append to such a row. -/
theorem run_append_bm {W : World} {g cap : Nat} {l : List Int} (t u ty e : TypeId) (ht : P.underlying t = some (.slice e)) (hu : P.underlying u = some .string ∨ P.underlying u = some (.slice e)) (hinfo : (P.info? e).map (fun i => (i.zero, i.size, i.bytes)) = some (some (.int .u8 0), 1, 1))
    (x : Value) (ys : List Int) (hlen : ∀ W', (Builtin.lenOf x).run P W' = .ok ys.length W') (hf : ∀ W', W'.heap = W.heap → (Builtin.firstCells 1 ys.length x).run P W' = .ok (nums .u8 ys).toArray W')
    (HB : Bm W g cap l) (hl : l.length + ys.length ≤ 140737488355328) :
    ∃ g' cap' w1, (Builtin.append_ #[t, u] ty #[.slice (some ⟨g, 0, none⟩) l.length cap, x]).run P W = .ok (.slice (some ⟨g', 0, none⟩) (l.length + ys.length) cap') w1 ∧ Bm w1 g' cap' (l ++ ys) ∧ W.grownBy w1 (some g) ∧ (g' = g ∨ W.heap.size ≤ g') := by
  obtain ⟨i, hi, hzz⟩ := Option.map_eq_some_iff.1 hinfo
  simp only [Prod.mk.injEq] at hzz
  obtain ⟨hz, hs1, hb1⟩ := hzz
  have hnl : (nums .u8 ys).length = ys.length := nums_length _ _
  have hnl2 : (nums .u8 l).length = l.length := nums_length _ _
  by_cases hroom : l.length + ys.length ≤ cap
  · have hst := run_storeCells_cells (P := P) g l.length (nums .u8 ys) 0 W (fun j hj => HB.there _ (by omega)) (fun j hj => HB.free _ (by omega)) (fun v hv => by
      obtain ⟨z, _, rfl⟩ := List.mem_map.1 hv; rfl)
    simp only [Nat.add_zero] at hst
    refine ⟨g, cap, W.setCells g l.length (nums .u8 ys), ?_, HB.set hroom, ?_, Or.inl rfl⟩
    · rcases hu with hu | hu <;> simp [Builtin.append_, run_underlying ht, run_underlying hu, sizeOf, typeInfo, hi, hs1, hlen, hroom, hf W rfl, add0, hst]
    · obtain ⟨h1, h2, h3, h4, h5⟩ := setCells_old g (nums .u8 ys) l.length W
      exact ⟨h1, h2, h3, by omega, fun k hk hn => h5 k (by intro e; exact hn (by rw [e]))⟩
  · have h63' : ¬ (9223372036854775807 < ((l.length : Int) + (ys.length : Int))) := by omega
    have hfit : Builtin.nextslicecap (l.length + ys.length) cap * i.bytes ≤ 281474976710656 := by rw [hb1]; exact growslice_fits (by omega) (by omega)
    have h48' : ¬ (281474976710656 < Builtin.nextslicecap (l.length + ys.length) cap * i.bytes) := by omega
    have hfo := run_firstCells_some (P := P) W.drew 1 l.length ⟨g, 0, none⟩ l.length cap (nums .u8 l) (by omega) (fun j v hj => by
      rw [add0]
      have hjl : j < l.length := by
        have := (List.getElem?_eq_some_iff.1 hj).1
        omega
      have := HB.cell j hjl
      simp only [nums, List.getElem?_map, List.getElem?_eq_getElem hjl, Option.map_some, Option.some.injEq] at hj
      subst hj
      simpa [List.getD, hjl] using this)
    have hfs := hf W.drew rfl
    have hr : (Builtin.append_ #[t, u] ty #[.slice (some ⟨g, 0, none⟩) l.length cap, x]).run P W = .ok (.slice (some ⟨W.heap.size, 0, none⟩) (l.length + ys.length) (grownCap W (l.length + ys.length) cap e))
        (W.drew.alloc (.cells ((nums .u8 l).toArray ++ (nums .u8 ys).toArray ++ Builtin.zeroCells #[.int .u8 0] (grownCap W (l.length + ys.length) cap e - (l.length + ys.length))) e)) := by
      rw [← hs1] at hfo hfs
      have hzc : (Value.int .u8 0).cells = #[.int .u8 0] := rfl
      rcases hu with hu | hu <;> simp [Builtin.append_, run_underlying ht, run_underlying hu, sizeOf, typeInfo, zeroValue, hi, hz, hlen, hroom, h63', h48', Question.forced, hfs, hfo, newRow, grownCap, hzc]
      all_goals (congr 2; apply Array.ext'; simp [List.append_assoc])
    have hge : l.length + ys.length ≤ grownCap W (l.length + ys.length) cap e := grownCap_ge _ _ _ _
    refine ⟨W.heap.size, _, _, hr, ?_, ?_, Or.inr (Nat.le_refl _)⟩
    · have := HB.grown (e := e) (ys := ys) (n := l.length + ys.length) (fill := (Builtin.zeroCells #[.int .u8 0] (grownCap W (l.length + ys.length) cap e - (l.length + ys.length))).toList) rfl (W.drew.alloc (.cells ((nums .u8 l).toArray ++ (nums .u8 ys).toArray ++ Builtin.zeroCells #[.int .u8 0] (grownCap W (l.length + ys.length) cap e - (l.length + ys.length))) e)) (by
        simp [World.alloc, World.drew, -World.alloc_eq, -World.drew_eq])
      have hz2 : (Builtin.zeroCells #[.int .u8 0] (grownCap W (l.length + ys.length) cap e - (l.length + ys.length))).toList.length = grownCap W (l.length + ys.length) cap e - (l.length + ys.length) := by simp [Builtin.zeroCells]
      rw [hz2, show l.length + ys.length + (grownCap W (l.length + ys.length) cap e - (l.length + ys.length)) = grownCap W (l.length + ys.length) cap e by omega] at this
      exact this
    · exact ⟨rfl, rfl, rfl, by simp [World.alloc, World.drew, -World.alloc_eq, -World.drew_eq], fun k hk hn => by
        have : W.heap.size ≠ k := by omega
        simp [World.alloc, World.drew, -World.alloc_eq, -World.drew_eq, Array.getElem?_push, Ne.symm this]⟩
end
end Go.Proofs.YtadablpppkjdbaaDoorW.PrintWords
end

section
namespace Go.Proofs.YtadablpppkjdbaaDoorW.PrintWords
open Go.RowKit
/-- What a walk keeps of a row of bytes of its own: block g, behind block n. -/
structure Hs (w W : World) (n g cap : Nat) (l : List Int) : Prop where
  row : Bm W g cap l
  mine : n ≤ g
  lt : g < W.heap.size
  below : Below n w W
theorem Hs.alloc {w W : World} {n g cap : Nat} {l : List Int} (h : Hs w W n g cap l) (o : Obj) : Hs w (W.alloc o) n g cap l := by
  have hs : (W.alloc o).heap.size = W.heap.size + 1 := by simp [World.alloc, -World.alloc_eq]
  have e : ∀ k, k < W.heap.size → (W.alloc o).heap[k]? = W.heap[k]? := fun k hk => by
    have : W.heap.size ≠ k := by omega
    simp [World.alloc, -World.alloc_eq, Array.getElem?_push, Ne.symm this]
  refine ⟨h.row.at (e _ h.lt), h.mine, by rw [hs]; have := h.lt; omega, ⟨h.below.os, h.below.tape, h.below.output, by rw [hs]; have := h.below.size; omega, fun k hk => ?_⟩⟩
  rw [e k (by have := h.mine; have := h.lt; omega)]
  exact h.below.block k hk
theorem Hs.on {w W W' : World} {n g cap : Nat} {l : List Int} (h : Hs w W n g cap l) (b : Below W.heap.size W W') : Hs w W' n g cap l := by
  have := h.lt
  have := h.mine
  exact ⟨h.row.at (b.block g h.lt), h.mine, by have := b.size; omega, ⟨b.os.trans h.below.os, b.tape.trans h.below.tape, b.output.trans h.below.output, Nat.le_trans h.below.size b.size, fun k hk => (b.block k (by omega)).trans (h.below.block k hk)⟩⟩
section
variable {P : Program} {ops : Array Oper} {rest : List Oper} {o : Oper} {a : Act} {Q : Exit → Act → World → Prop}
theorem conv_hs {w : World} (e : Nat) (hgd : o.guard = none) (src dst : TypeId) (x : Operand) (ho : o.op = .convert src dst x) (s : ByteArray) (hx : a.eval x = .string s)
    (hs : P.underlying src = some .string) (ht : P.underlying dst = some (.slice e)) (he : P.underlying e = some (.int .u8))
    (h : ∀ g cap w1, Hs w w1 w.heap.size g cap (bytesOf s) → wpList P ops Q rest (a.put o.dst (.slice (some ⟨g, 0, none⟩) s.size cap)) w1) : wpList P ops Q (o :: rest) a w := by
  have hrun : (execOp a.eval o).run P w = .ok (.value (.slice (some ⟨w.heap.size, 0, none⟩) s.size (grownCap w s.size 0 e))) (Lib.bytesWorld w e s) := by
    simp [execOp, ho, hx, Lib.run_convert_string_bytes w src dst e s hs ht he]
  exact Kd.event_run hgd hrun (h _ _ _ ⟨Bm.conv w e s, Nat.le_refl _, by rw [Lib.bytesWorld_size]; omega, ⟨rfl, rfl, rfl, by rw [Lib.bytesWorld_size]; omega, fun i hi => Lib.bytesWorld_at_old w e s i (by omega)⟩⟩)
theorem Hs.after {w W w1 : World} {n g g' cap cap' : Nat} {l l' : List Int} (h : Hs w W n g cap l) (hb : Bm w1 g' cap' l') (hc : 0 < cap') (hg : W.grownBy w1 (some g)) (hat : g' = g ∨ W.heap.size ≤ g') : Hs w w1 n g' cap' l' := by
  have h1 := h.lt
  have h2 := h.mine
  refine ⟨hb, by rcases hat with rfl | h3 <;> omega, ?_, ⟨hg.os.trans h.below.os, hg.tape.trans h.below.tape, hg.output.trans h.below.output, Nat.le_trans h.below.size hg.size, fun k hk => ?_⟩⟩
  · obtain ⟨v, hv⟩ := Option.isSome_iff_exists.1 (hb.there 0 hc)
    exact World.block_lt_of_cell? w1 _ hv
  · rw [hg.block k (by omega) (by intro e; injection e with e; omega)]
    exact h.below.block k hk
theorem append1_hs {w W : World} {n g cap : Nat} {l : List Int} (t e : TypeId) (hgd : o.guard = none) (s x : Operand) (ho : o.op = .call { callee := .builtin .append, args := #[s, x], argTypes := #[t, t] })
    (ht : P.underlying t = some (.slice e)) (hinfo : (P.info? e).map (fun i => (i.zero, i.size, i.bytes)) = some (some (.int .u8 0), 1, 1)) (z : Int)
    (hs : a.eval s = .slice (some ⟨g, 0, none⟩) l.length cap) (hx : a.eval x = .slice (some ⟨W.heap.size, 0, none⟩) 1 1) (HB : Hs w W n g cap l) (hl : l.length + 1 ≤ 140737488355328)
    (h : ∀ g' cap' w1, Hs w w1 n g' cap' (l ++ [z]) → wpList P ops Q rest (a.put o.dst (.slice (some ⟨g', 0, none⟩) (l ++ [z]).length cap')) w1) :
    wpList P ops Q (o :: rest) a (W.alloc (.cells #[.int .u8 z] e)) := by
  have H2 := HB.alloc (.cells #[.int .u8 z] e)
  obtain ⟨g', cap', w1, hr, hb, hg, hat⟩ := run_append_bm (P := P) (W := W.alloc (.cells #[.int .u8 z] e)) t t o.type e ht (Or.inr ht) hinfo (.slice (some ⟨W.heap.size, 0, none⟩) 1 1) [z] (fun W' => by simp [Builtin.lenOf]) (fun W' hW => by
    have hc : W'.cell? ⟨W.heap.size, 0, none⟩ = some (.int .u8 z) := by
      unfold World.cell?
      rw [hW]
      simp [World.alloc, -World.alloc_eq]
    exact run_firstCells_some (P := P) W' 1 1 ⟨W.heap.size, 0, none⟩ 1 1 (nums .u8 [z]) (by simp [nums]) (fun j v hj => by
      cases j with
      | zero => rw [add0]; rw [hc]; simpa [nums] using hj
      | succ j => simp [nums] at hj)) H2.row (by simpa using hl)
  refine wpList_plain hgd fun K hK => ?_
  unfold Oper.wp execOp
  simp only [ho, resolve, invoke, builtin, Sem.run_bind, Sem.run_pure, Result.andThen_ok, List.map_toArray, List.map_cons, List.map_nil, hs, hx, hr]
  refine hK _ _ ?_
  have := h g' cap' w1 (H2.after hb (by have := hb.room; rw [List.length_append, List.length_singleton] at this; omega) hg hat)
  rwa [List.length_append] at this
theorem appendS_hs {w W : World} {n g cap : Nat} {l : List Int} (t u e : TypeId) (hgd : o.guard = none) (s x : Operand) (ho : o.op = .call { callee := .builtin .append, args := #[s, x], argTypes := #[t, u] })
    (ht : P.underlying t = some (.slice e)) (hu : P.underlying u = some .string) (hinfo : (P.info? e).map (fun i => (i.zero, i.size, i.bytes)) = some (some (.int .u8 0), 1, 1)) (y : ByteArray)
    (hs : a.eval s = .slice (some ⟨g, 0, none⟩) l.length cap) (hx : a.eval x = .string y) (hy : 0 < y.size) (HB : Hs w W n g cap l) (hl : l.length + y.size ≤ 140737488355328)
    (h : ∀ g' cap' w1, Hs w w1 n g' cap' (l ++ bytesOf y) → wpList P ops Q rest (a.put o.dst (.slice (some ⟨g', 0, none⟩) (l ++ bytesOf y).length cap')) w1) :
    wpList P ops Q (o :: rest) a W := by
  have hyl : (bytesOf y).length = y.size := bytesOf_length y
  obtain ⟨g', cap', w1, hr, hb, hg, hat⟩ := run_append_bm (P := P) (W := W) t u o.type e ht (Or.inl hu) hinfo (.string y) (bytesOf y) (fun W' => by simp [Builtin.lenOf, hyl]) (fun W' hW => by
    rw [hyl, Lib.run_firstCells_string (P := P) W' 1 y]
    congr 1
    simp [nums, bytesOf, Lib.strCells]) HB.row (by omega)
  refine wpList_plain hgd fun K hK => ?_
  unfold Oper.wp execOp
  simp only [ho, resolve, invoke, builtin, Sem.run_bind, Sem.run_pure, Result.andThen_ok, List.map_toArray, List.map_cons, List.map_nil, hs, hx, hr]
  refine hK _ _ ?_
  have := h g' cap' w1 (HB.after hb (by have := hb.room; rw [List.length_append] at this; omega) hg hat)
  rwa [List.length_append] at this
end
end Go.Proofs.YtadablpppkjdbaaDoorW.PrintWords
end

section
namespace Go.Proofs.YtadablpppkjdbaaDoorW.PrintWords
open Go.RowKit
theorem mp_wrap_one (n : Int) : wrap64 (1 - n % 256) = 1 - n % 256 := by unfold wrap64; omega
namespace Kd
def B (e : Nat) (W : World) (base : Nat) (ok : Nat → Prop) (v : Value) (xs : List Int) : Prop :=
  (∀ k, v.ownBlock = some k → ok k) ∧ xs.length ≤ 9223372036854775807 ∧ ((v = .slice none 0 0 ∧ xs = []) ∨ ∃ (g c m : Nat) (cells : Array Value), v = .slice (some ⟨g, 0, none⟩) xs.length c ∧ base ≤ g ∧ W.heap[g]? = some (.cells cells e (m, m + 1)) ∧ cells.size ≤ m ∧
    xs.length ≤ c ∧ xs.length ≤ cells.size ∧ ∀ j, j < xs.length → cells[j]? = some (.int .u8 (xs.getD j 0)))
section
variable {P : Program} {e base base' n cap g : Nat} {ok ok' ok1 S : Nat → Prop} {W w1 W2 : World} {u v : Value} {xs : List Int}
variable {ops : Array Oper} {rest : List Oper} {o : Oper} {a : Act} {Q : Exit → Act → World → Prop}
/-- make([]byte, 0, c): an own row with room. -/
theorem R_room {w0 W : World} (base e : Nat) (hgd : o.guard = none) {N : Tmp} (_hd : o.dst = some N) (t : TypeId) (x y : Operand) (ho : o.op = .makeSlice t x y) (kl kc : IntKind) (c : Nat) (hx : a.eval x = .int kl 0) (hy : a.eval y = .int kc (c : Int))
    (ht : P.underlying t = some (.slice e)) (hinfo : (P.info? e).map (fun i => (i.zero, i.size, i.bytes)) = some (some (.int .u8 0), 1, 1)) (hc : c ≤ 1000000000) (HB : Below base w0 W) (hbase : base ≤ W.heap.size)
    (h : ∀ v1 w1, (Kd.int .u8).R e w1 base (fun _ => True) v1 [] → Below base w0 w1 → W.grownBy w1 none → (∃ b, v1.ownBlock = some b ∧ W.heap.size ≤ b) → wpList P ops Q rest (a.put o.dst v1) w1) : wpList P ops Q (o :: rest) a W := by
  have hr := run_make_room (P := P) t e (.int .u8 0) 1 ht hinfo rfl kl kc c (by omega) (by omega) W
  have hrun : (execOp a.eval o).run P W = .ok (.value (.slice (some ⟨W.heap.size, 0, none⟩) 0 c)) (W.alloc (.cells (madeCells #[.int .u8 0] c) e)) := by
    simp [execOp, ho, hx, hy, hr]
  have hsz : (madeCells #[Value.int .u8 0] c).size = c := by simp [size_madeCells]
  refine event_run hgd hrun (h _ _ (R_of_own (xs := []) ⟨by simp [encs], .inr ⟨W.heap.size, c, madeCells #[.int .u8 0] c, rfl, hbase, blk_new W _, by simp, by simp only [maxLen]; omega, by simpa using hsz, by simp [encs]⟩⟩ (fun _ _ => trivial)) (HB.alloc hbase _) (World.grownBy_alloc W _ none) ⟨W.heap.size, by simp [Value.ownBlock], Nat.le_refl _⟩)
end
end Kd
end Go.Proofs.YtadablpppkjdbaaDoorW.PrintWords
end

section
namespace Go.Proofs.YtadablpppkjdbaaDoorW.PrintWords
open Go.RowKit
section
variable {P : Program} {ops : Array Oper} {rest : List Oper} {o : Oper} {a : Act} {Q : Exit → Act → World → Prop}
theorem lit_at (w : World) (o : Obj) : (w.alloc o).heap[w.heap.size]? = some o := by simp [World.alloc, -World.alloc_eq]
theorem lit_old (w : World) (o : Obj) {k : Nat} (hk : k < w.heap.size) : (w.alloc o).heap[k]? = w.heap[k]? := by
  have : w.heap.size ≠ k := by omega
  simp [World.alloc, -World.alloc_eq, Array.getElem?_push, Ne.symm this]
theorem lit_size (w : World) (o : Obj) : (w.alloc o).heap.size = w.heap.size + 1 := by simp [World.alloc, -World.alloc_eq]
theorem lit_bm (w : World) (e : TypeId) (l : List Int) (p : Nat × Nat) (hp : l.length ≤ p.1) : Bm (w.alloc (.cells (nums .u8 l).toArray e p)) w.heap.size l.length l := by
  have hn : (nums .u8 l).length = l.length := nums_length _ _
  refine ⟨fun j hj => ?_, fun j hj => ?_, fun j hj => ?_, Nat.le_refl _⟩
  · unfold World.cell?
    rw [lit_at]
    simp [nums, List.getD, hj]
  · unfold World.cell?
    rw [lit_at]
    simp [nums, hj]
  · unfold World.frozen?
    rw [lit_at]
    obtain ⟨p1, p2⟩ := p
    simp
    intro h
    omega
theorem conv_lit {w : World} (t e : TypeId) {C : Array Value} {n : Nat} (hgd : o.guard = none) (x : Operand) (ho : o.op = .convert t t x)
    (ht : P.underlying t = some (.slice e)) (he : P.underlying e = some (.int .u8)) (hx : a.eval x = .slice (some ⟨w.heap.size, 0, none⟩) n n)
    (h : wpList P ops Q rest (a.put o.dst (.slice (some ⟨w.heap.size, 0, none⟩) n n)) (w.alloc (.cells C e (C.size, C.size + 1)))) : wpList P ops Q (o :: rest) a (w.alloc (.cells C e)) := by
  have hrun : (execOp a.eval o).run P (w.alloc (.cells C e)) = .ok (.value (.slice (some ⟨w.heap.size, 0, none⟩) n n)) (w.alloc (.cells C e (C.size, C.size + 1))) := by
    have h1 := Lib.run_convert_bytes_const (P := P) w t e C n n ht he
    simp only [execOp, ho, hx, Sem.run_bind, h1, Result.andThen_ok, Sem.run_pure]
  exact Kd.event_run hgd hrun h
theorem convlit_hs {w : World} (t e : TypeId) (l : List Int) {C : Array Value} {n : Nat} (hgd : o.guard = none) (x : Operand) (ho : o.op = .convert t t x)
    (ht : P.underlying t = some (.slice e)) (he : P.underlying e = some (.int .u8)) (hC : C = (nums .u8 l).toArray) (hn : n = l.length) (h0 : 0 < l.length) (hx : a.eval x = .slice (some ⟨w.heap.size, 0, none⟩) n n)
    (h : ∀ g cap w1, Hs w w1 w.heap.size g cap l → wpList P ops Q rest (a.put o.dst (.slice (some ⟨g, 0, none⟩) l.length cap)) w1) : wpList P ops Q (o :: rest) a (w.alloc (.cells C e)) := by
  subst hC hn
  refine conv_lit t e hgd x ho ht he hx (h _ _ _ ⟨lit_bm w e l _ (by simp [nums]), Nat.le_refl _, by rw [lit_size]; omega, ⟨rfl, rfl, rfl, by rw [lit_size]; omega, fun k hk => lit_old w _ hk⟩⟩)
theorem bmC {W : World} {g cap : Nat} {l : List Int} (h : Bm W g cap l) (hl : l.length ≤ 140737488355328) : Kd.C (Kd.int .u8) W (some ⟨g, 0, none⟩) l.length l :=
  Kd.C_of_reads (enc := Value.int .u8) (d := (0 : Int)) (h1 := fun _ => rfl) ⟨rfl, by omega, fun hn => ⟨⟨g, 0, none⟩, rfl, fun j hj => by rw [add0]; exact h.cell j hj⟩⟩
theorem appendT_hs {w W : World} {n g cap : Nat} {l : List Int} (t u e : TypeId) (hgd : o.guard = none) (s x : Operand) (ho : o.op = .call { callee := .builtin .append, args := #[s, x], argTypes := #[t, u] })
    (ht : P.underlying t = some (.slice e)) (hu : P.underlying u = some .string) (hinfo : (P.info? e).map (fun i => (i.zero, i.size, i.bytes)) = some (some (.int .u8 0), 1, 1)) (y : ByteArray)
    (hs : a.eval s = .slice (some ⟨g, 0, none⟩) l.length cap) (hx : a.eval x = .string y) (h0 : 0 < l.length) (HB : Hs w W n g cap l) (hl : l.length + y.size ≤ 140737488355328)
    (h : ∀ g' cap' w1, Hs w w1 n g' cap' (l ++ bytesOf y) → wpList P ops Q rest (a.put o.dst (.slice (some ⟨g', 0, none⟩) (l ++ bytesOf y).length cap')) w1) :
    wpList P ops Q (o :: rest) a W := by
  have hyl : (bytesOf y).length = y.size := bytesOf_length y
  obtain ⟨g', cap', w1, hr, hb, hg, hat⟩ := run_append_bm (P := P) (W := W) t u o.type e ht (Or.inl hu) hinfo (.string y) (bytesOf y) (fun W' => by simp [Builtin.lenOf, hyl]) (fun W' hW => by
    rw [hyl, Lib.run_firstCells_string (P := P) W' 1 y]
    congr 1
    simp [nums, bytesOf, Lib.strCells]) HB.row (by omega)
  refine wpList_plain hgd fun K hK => ?_
  unfold Oper.wp execOp
  simp only [ho, resolve, invoke, builtin, Sem.run_bind, Sem.run_pure, Result.andThen_ok, List.map_toArray, List.map_cons, List.map_nil, hs, hx, hr]
  refine hK _ _ ?_
  have := h g' cap' w1 (HB.after hb (by have := hb.room; rw [List.length_append] at this; omega) hg hat)
  rwa [List.length_append] at this
end
end Go.Proofs.YtadablpppkjdbaaDoorW.PrintWords
end

section
namespace Go.Proofs.YtadablpppkjdbaaDoor.B
open Go.RowKit Go.Proofs.YtadablpppkjdbaaDoorW.PrintWords Go.Proofs.YtadablpppkjdbaaDoorW.PrintLast Go.Proofs.YtadablpppkjdbaaDoorW.PrintMore
attribute [local go_sem] max2_int min2_int max_two min_two max_three min_three max_four min_four
def good53 (y : S53) : Prop := y.f0.size ≤ 9223372036854775807 ∧ (Lit.int .i64 y.f1).wf = true ∧ (Lit.int .i64 y.f2).wf = true ∧ (Lit.int .i64 y.f3).wf = true
end Go.Proofs.YtadablpppkjdbaaDoor.B
end

section
namespace Go.Proofs.YtadablpppkjdbaaDoorW.PrintWords
open Go.RowKit
theorem wrap_id {x : Int} (h0 : -9223372036854775808 ≤ x) (h1 : x ≤ 9223372036854775807) : wrap64 x = x := by unfold wrap64; omega
/-- p at d places from i on. -/
def allB (p : Int → Bool) : Nat → Int → Bool
  | 0, _ => true
  | d + 1, i => p i && allB p d (i + 1)
def allI (p : Int → Bool) (i n : Int) : Bool := allB p (n - i).toNat i
theorem allI_step {p : Int → Bool} {i n : Int} (h : i < n) : allI p i n = (p i && allI p (i + 1) n) := by
  unfold allI
  obtain ⟨d, hd⟩ : ∃ d : Nat, (n - i).toNat = d + 1 := ⟨(n - i).toNat - 1, by omega⟩
  rw [hd, show (n - (i + 1)).toNat = d by omega]
  rfl
theorem allI_end {p : Int → Bool} {i n : Int} (h : n ≤ i) : allI p i n = true := by
  unfold allI
  rw [show (n - i).toNat = 0 by omega]
  rfl
theorem allI_iff (p : Int → Bool) (n : Int) : ∀ (d : Nat) (i : Int), (n - i).toNat = d → (allI p i n = true ↔ ∀ j, i ≤ j → j < n → p j = true)
  | 0, i, h => by
    rw [allI_end (by omega)]
    exact ⟨fun _ j h1 h2 => by omega, fun _ => rfl⟩
  | d + 1, i, h => by
    rw [allI_step (by omega), Bool.and_eq_true, allI_iff p n d (i + 1) (by omega)]
    refine ⟨fun ⟨h1, h2⟩ j h3 h4 => ?_, fun h1 => ⟨h1 i (by omega) (by omega), fun j h3 h4 => h1 j (by omega) h4⟩⟩
    by_cases e : j = i
    · rw [e]; exact h1
    · exact h2 j (by omega) h4
/-- A loop that asks p at each place. -/
theorem loop_all {L : Int → Option Bool} (p : Int → Bool) (n : Int) (hn : n ≤ 9223372036854775807) (hL : ∀ i, 0 ≤ i → i < n → L i = if p i = true then L (wrap64 (i + 1)) else some false) (hE : ∀ i, 0 ≤ i → n ≤ i → L i = some true) :
    ∀ (d : Nat) (i : Int), (n - i).toNat = d → 0 ≤ i → L i = some (allI p i n)
  | 0, i, h, h0 => by rw [hE i h0 (by omega), allI_end (by omega)]
  | d + 1, i, h, h0 => by
    rw [hL i h0 (by omega), allI_step (by omega), wrap_id (by omega) (by omega), loop_all p n hn hL hE d (i + 1) (by omega) (by omega)]
    cases p i <;> simp
def letterB (c : Int) : Bool := decide ((97 ≤ c ∧ c ≤ 122) ∨ (65 ≤ c ∧ c ≤ 90) ∨ c = 95)
def digitB (c : Int) : Bool := decide (48 ≤ c ∧ c ≤ 57)
def inB (n low high : Int) : Bool := decide (low ≤ n ∧ n ≤ high)
def nameB (s : ByteArray) : Bool := decide (1 ≤ s.size ∧ s.size ≤ 40) && (letterB (bt s 0) && allI (fun j => letterB (bt s j) || digitB (bt s j)) 1 s.size)
theorem ba_toList (a : ByteArray) : a.toList = a.data.toList := ByteArray.toList_eq a
theorem ba_inj {a b : ByteArray} : a.toList = b.toList ↔ a = b := by
  rw [ba_toList, ba_toList]
  refine ⟨fun h => ?_, fun h => by rw [h]⟩
  cases a; cases b
  simp only [ByteArray.mk.injEq]
  exact Array.toList_inj.1 h
theorem strOf_size (l : List Int) : (strOfNums l).size = l.length := by
  show (strOfNums l).data.size = _
  simp [strOfNums]
theorem strOf_extract (l : List Int) (i j : Nat) : (strOfNums l).extract i j = strOfNums ((l.take j).drop i) := by
  apply ByteArray.ext
  rw [ByteArray.data_extract]
  simp [strOfNums]
  rw [List.drop_take]
theorem int_succ_mul (a c : Int) : a * c + c = (a + 1) * c := by rw [Int.add_mul, Int.one_mul]
theorem mark_loop {α : Type} (z : α) (g : α → Int → α) (c : Int) (hc : 0 ≤ c) (L : List α → Int → Int → Option (Int × List α))
    (hL : ∀ l k i, 0 ≤ i → i < (l.length : Int) → 0 ≤ k → k + c ≤ 4611686018427387904 → L l k i = L (l.set i.toNat (g (l.getD i.toNat z) k)) (k + c) (wrap64 (i + 1))) (hE : ∀ l k i, (l.length : Int) ≤ i → L l k i = some (k, l)) :
    ∀ (n : Nat) (l : List α) (k i : Int), ((l.length : Int) - i).toNat = n → 0 ≤ i → i ≤ l.length → (l.length : Int) ≤ 9223372036854775806 → 0 ≤ k → k + n * c ≤ 4611686018427387904 →
      ∃ l', L l k i = some (k + n * c, l') ∧ l'.length = l.length ∧ (∀ j : Nat, j < i.toNat → l'[j]? = l[j]?) ∧ (∀ j : Nat, i.toNat ≤ j → j < l.length → ∃ x, l'[j]? = some (g x (k + (j - i) * c)))
  | 0, l, k, i, h, h0, h1, hn, hk, hkn => ⟨l, by rw [hE l k i (by omega)]; simp, rfl, fun _ _ => rfl, fun j h2 h3 => by omega⟩
  | n + 1, l, k, i, h, h0, h1, hn, hk, hkn => by
    have hlt : i < (l.length : Int) := by omega
    have hm : ((n + 1 : Nat) : Int) * c = n * c + c := by rw [Int.natCast_add, Int.add_mul]; simp
    have hnc : 0 ≤ (n : Int) * c := Int.mul_nonneg (by omega) hc
    rw [hm] at hkn
    obtain ⟨l', e1, e2, e3, e4⟩ := mark_loop z g c hc L hL hE n (l.set i.toNat (g (l.getD i.toNat z) k)) (k + c) (i + 1) (by simp; omega) (by omega) (by simp; omega) (by simpa using hn) (by omega) (by omega)
    refine ⟨l', ?_, by simpa using e2, fun j hj => ?_, fun j h2 h3 => ?_⟩
    · rw [hL l k i h0 hlt hk (by omega), wrap_id (by omega) (by omega), e1, hm]
      congr 2
      omega
    · rw [e3 j (by omega), List.getElem?_set_ne (by omega)]
    · by_cases e : j = i.toNat
      · subst e
        refine ⟨l.getD i.toNat z, ?_⟩
        rw [e3 i.toNat (by omega), List.getElem?_set_self (by omega), show ((i.toNat : Int) - i) = 0 by omega]
        simp
      · obtain ⟨x, hx⟩ := e4 j (by omega) (by simpa using h3)
        refine ⟨x, ?_⟩
        rw [hx]
        congr 2
        have : ((j : Int) - (i + 1)) * c + c = (j - i) * c := by rw [int_succ_mul]; congr 1; omega
        omega
theorem held_loop {α : Type} (z : α) (chk : α → Int → Bool) (c : Int) (hc : 0 ≤ c) (l : List α) (hn : (l.length : Int) ≤ 9223372036854775806) (H : Int → Int → Option Int)
    (hH : ∀ k i, 0 ≤ i → i < (l.length : Int) → 0 ≤ k → k + c ≤ 4611686018427387904 → chk (l.getD i.toNat z) k = true → H k i = H (k + c) (wrap64 (i + 1))) (hE : ∀ k i, (l.length : Int) ≤ i → H k i = some k) :
    ∀ (n : Nat) (k i : Int), ((l.length : Int) - i).toNat = n → 0 ≤ i → i ≤ l.length → 0 ≤ k → k + n * c ≤ 4611686018427387904 →
      (∀ j : Nat, i.toNat ≤ j → j < l.length → chk (l.getD j z) (k + (j - i) * c) = true) → H k i = some (k + n * c)
  | 0, k, i, h, h0, h1, hk, hkn, _ => by rw [hE k i (by omega)]; simp
  | n + 1, k, i, h, h0, h1, hk, hkn, hj => by
    have hlt : i < (l.length : Int) := by omega
    have hm : ((n + 1 : Nat) : Int) * c = n * c + c := by rw [Int.natCast_add, Int.add_mul]; simp
    have hnc : 0 ≤ (n : Int) * c := Int.mul_nonneg (by omega) hc
    rw [hm] at hkn ⊢
    have h2 := hj i.toNat (Nat.le_refl _) (by omega)
    rw [show ((i.toNat : Int) - i) = 0 by omega, Int.zero_mul, Int.add_zero] at h2
    rw [hH k i h0 hlt hk (by omega) h2, wrap_id (by omega) (by omega)]
    rw [held_loop z chk c hc l hn H hH hE n (k + c) (i + 1) (by omega) (by omega) (by omega) (by omega) (by omega) (fun j h3 h4 => by
      have h5 := hj j (by omega) h4
      have : ((j : Int) - (i + 1)) * c + c = (j - i) * c := by rw [int_succ_mul]; congr 1; omega
      rw [show k + c + ((j : Int) - (i + 1)) * c = k + (j - i) * c by omega]
      exact h5)]
    congr 1
    omega
/-- What is marked is held: the two loops together, from the begin. -/
theorem mark_held {α : Type} (z : α) (g : α → Int → α) (chk : α → Int → Bool) (c : Int) (hc : 0 ≤ c) (hg : ∀ x k, 0 ≤ k → k + c ≤ 4611686018427387904 → chk (g x k) k = true) (L : List α → Int → Int → Option (Int × List α)) (H : List α → Int → Int → Option Int)
    (hL : ∀ l k i, 0 ≤ i → i < (l.length : Int) → 0 ≤ k → k + c ≤ 4611686018427387904 → L l k i = L (l.set i.toNat (g (l.getD i.toNat z) k)) (k + c) (wrap64 (i + 1))) (hE : ∀ l k i, (l.length : Int) ≤ i → L l k i = some (k, l))
    (hH : ∀ l k i, 0 ≤ i → i < (l.length : Int) → 0 ≤ k → k + c ≤ 4611686018427387904 → chk (l.getD i.toNat z) k = true → H l k i = H l (k + c) (wrap64 (i + 1))) (hE2 : ∀ l k i, (l.length : Int) ≤ i → H l k i = some k)
    (l : List α) (k : Int) (hn : (l.length : Int) ≤ 9223372036854775806) (hk : 0 ≤ k) (hkn : k + l.length * c ≤ 4611686018427387904) :
    ∃ l', L l k 0 = some (k + l.length * c, l') ∧ l'.length = l.length ∧ H l' k 0 = some (k + l.length * c) := by
  obtain ⟨l', e1, e2, e3, e4⟩ := mark_loop z g c hc L hL hE l.length l k 0 (by omega) (by omega) (by omega) hn hk hkn
  refine ⟨l', e1, e2, ?_⟩
  rw [← e2]
  refine held_loop z chk c hc l' (by omega) (H l') (hH l') (hE2 l') l'.length k 0 (by omega) (by omega) (by omega) hk (by rw [e2]; exact hkn) (fun j h2 h3 => ?_)
  obtain ⟨x, hx⟩ := e4 j (by omega) (by omega)
  rw [List.getD, hx]
  simp only [Option.getD_some]
  have hb : (j : Int) * c + c ≤ l.length * c := by
    rw [int_succ_mul]
    exact Int.mul_le_mul_of_nonneg_right (by omega) hc
  have hj0 : 0 ≤ (j : Int) * c := Int.mul_nonneg (by omega) hc
  have h0 : ((j : Int) - 0) = j := by omega
  rw [h0]
  exact hg x _ (by omega) (by omega)
end Go.Proofs.YtadablpppkjdbaaDoorW.PrintWords
end

section
namespace Go.Proofs.YtadablpppkjdbaaDoor.B
open Go.RowKit Go.Proofs.YtadablpppkjdbaaDoorW.PrintWords
def turnF (x n : Int) : Int := Go.bits .or .u32 (shr .u32 x n) (shl .u32 x (32 - n))
theorem u64_small (n : Int) (h0 : 0 ≤ n) (h1 : n < 18446744073709551616) : IntKind.u64.wrap n = n := by
  unfold IntKind.wrap
  simp [IntKind.bits, IntKind.signed]
  omega
theorem turn_v (x n : Int) (h0 : 0 ≤ n) (h1 : n ≤ 32) : spec_l01Turn.v x n = some (turnF x n) := by
  rw [spec_l01Turn.v_eq, if_pos h0, u64_small (32 - n) (by omega) (by omega), if_pos (by omega)]
  rfl
theorem block_l3 (v : List Int) (hv : v.length = 8) : ∀ (k i : Nat) (h : List Int), 8 - i = k → i ≤ 8 → h.length = 8 → ∃ r, spec_l01Block.lv3 h v i = some r ∧ r.length = 8
  | 0, i, h, hk, hi, hh => by
    rw [spec_l01Block.lv3_eq, if_neg (by omega)]
    exact ⟨h, rfl, hh⟩
  | k + 1, i, h, hk, hi, hh => by
    obtain ⟨r, e, hr⟩ := block_l3 v hv k (i + 1) (h.set (i : Int).toNat (((rd h i) + (rd v i)) % 4294967296)) (by omega) (by omega) (by rw [List.length_set]; exact hh)
    have w : wrap64 ((i : Int) + 1) = ((i + 1 : Nat) : Int) := by rw [wrap_id (by omega) (by omega)]; omega
    rw [spec_l01Block.lv3_eq, w, e]
    clear w
    rw [if_pos (by omega), if_pos (by omega), if_pos (by omega), if_pos (by omega)]
    exact ⟨r, rfl, hr⟩
theorem block_l2 (h ks ws : List Int) (hh : h.length = 8) (hk : ks.length = 64) (hw : ws.length = 64) : ∀ (k i : Nat) (v : List Int), 64 - i = k → i ≤ 64 → v.length = 8 → ∃ r, spec_l01Block.lv2 h ks ws v i = some r ∧ r.length = 8
  | 0, i, v, hi0, hi, hv => by
    rw [spec_l01Block.lv2_eq, if_neg (by omega)]
    exact block_l3 v hv 8 0 h rfl (by omega) hh
  | k + 1, i, v, hi0, hi, hv => by
    have ih := fun v' => block_l2 h ks ws hh hk hw k (i + 1) v' (by omega) (by omega)
    have w : wrap64 ((i : Int) + 1) = ((i + 1 : Nat) : Int) := by rw [wrap_id (by omega) (by omega)]; omega
    rw [spec_l01Block.lv2_eq, w]
    clear w
    have c1 : (i : Int) < 64 := by omega
    have c2 : (4 : Int) < (v.length : Int) := by omega
    have c3 : (0 : Int) < (v.length : Int) := by omega
    have c4 : (7 : Int) < (v.length : Int) := by omega
    have c5 : (5 : Int) < (v.length : Int) := by omega
    have c6 : (6 : Int) < (v.length : Int) := by omega
    have c7 : (0 : Int) ≤ (i : Int) := by omega
    have c8 : (i : Int) < (ks.length : Int) := by omega
    have c9 : (i : Int) < (ws.length : Int) := by omega
    have d1 : (1 : Int) < (v.length : Int) := by omega
    have d2 : (2 : Int) < (v.length : Int) := by omega
    have d3 : (3 : Int) < (v.length : Int) := by omega
    have t1 : ∀ x, spec_l01Turn.v x 6 = some (turnF x 6) := fun x => turn_v x 6 (by omega) (by omega)
    have t2 : ∀ x, spec_l01Turn.v x 11 = some (turnF x 11) := fun x => turn_v x 11 (by omega) (by omega)
    have t3 : ∀ x, spec_l01Turn.v x 25 = some (turnF x 25) := fun x => turn_v x 25 (by omega) (by omega)
    have t4 : ∀ x, spec_l01Turn.v x 2 = some (turnF x 2) := fun x => turn_v x 2 (by omega) (by omega)
    have t5 : ∀ x, spec_l01Turn.v x 13 = some (turnF x 13) := fun x => turn_v x 13 (by omega) (by omega)
    have t6 : ∀ x, spec_l01Turn.v x 22 = some (turnF x 22) := fun x => turn_v x 22 (by omega) (by omega)
    simp only [if_pos c1, if_pos c2, if_pos c3, if_pos c4, if_pos c5, if_pos c6, if_pos c7, if_pos c8, if_pos c9, if_pos d1, if_pos d2, if_pos d3, t1, t2, t3, t4, t5, t6, Option.bind_some]
    exact ih _ rfl
theorem block_l1 (h ks : List Int) (hh : h.length = 8) (hk : ks.length = 64) : ∀ (k i : Nat) (ws : List Int), 64 - i = k → 16 ≤ i → i ≤ 64 → ws.length = 64 → ∃ r, spec_l01Block.lv1 h ks ws i = some r ∧ r.length = 8
  | 0, i, ws, hi0, h16, hi, hw => by
    rw [spec_l01Block.lv1_eq, if_neg (by omega), Option.bind_some, if_pos (by simp; omega)]
    exact block_l2 h ks ws hh hk hw 64 0 _ rfl (by omega) (by simpa using hh)
  | k + 1, i, ws, hi0, h16, hi, hw => by
    have ih := fun ws' => block_l1 h ks hh hk k (i + 1) ws' (by omega) (by omega) (by omega)
    have c1 : (i : Int) < 64 := by omega
    have c2 : (0 : Int) ≤ (i : Int) - 15 := by omega
    have c3 : (i : Int) - 15 < (ws.length : Int) := by omega
    have c4 : (0 : Int) ≤ (i : Int) - 2 := by omega
    have c5 : (i : Int) - 2 < (ws.length : Int) := by omega
    have c6 : (0 : Int) ≤ (i : Int) - 16 := by omega
    have c7 : (i : Int) - 16 < (ws.length : Int) := by omega
    have c8 : (0 : Int) ≤ (i : Int) - 7 := by omega
    have c9 : (i : Int) - 7 < (ws.length : Int) := by omega
    have d1 : (0 : Int) ≤ (i : Int) := by omega
    have d2 : (i : Int) < (ws.length : Int) := by omega
    have t1 : ∀ x, spec_l01Turn.v x 7 = some (turnF x 7) := fun x => turn_v x 7 (by omega) (by omega)
    have t2 : ∀ x, spec_l01Turn.v x 18 = some (turnF x 18) := fun x => turn_v x 18 (by omega) (by omega)
    have t3 : ∀ x, spec_l01Turn.v x 17 = some (turnF x 17) := fun x => turn_v x 17 (by omega) (by omega)
    have t4 : ∀ x, spec_l01Turn.v x 19 = some (turnF x 19) := fun x => turn_v x 19 (by omega) (by omega)
    have w : wrap64 ((i : Int) + 1) = ((i + 1 : Nat) : Int) := by rw [wrap_id (by omega) (by omega)]; omega
    have w1 : wrap64 ((i : Int) - 15) = (i : Int) - 15 := wrap_id (by omega) (by omega)
    have w2 : wrap64 ((i : Int) - 2) = (i : Int) - 2 := wrap_id (by omega) (by omega)
    have w3 : wrap64 ((i : Int) - 16) = (i : Int) - 16 := wrap_id (by omega) (by omega)
    have w4 : wrap64 ((i : Int) - 7) = (i : Int) - 7 := wrap_id (by omega) (by omega)
    rw [spec_l01Block.lv1_eq]
    simp only [w, w1, w2, w3, w4, if_pos c1, if_pos c2, if_pos c3, if_pos c4, if_pos c5, if_pos c6, if_pos c7, if_pos c8, if_pos c9, if_pos d1, if_pos d2, t1, t2, t3, t4, Option.bind_some]
    clear w w1 w2 w3 w4
    exact ih _ (by rw [List.length_set]; exact hw)
theorem block_l0 (h b ks : List Int) (hh : h.length = 8) (hb : b.length = 64) (hk : ks.length = 64) : ∀ (k i : Nat) (ws : List Int), 16 - i = k → i ≤ 16 → ws.length = 64 → ∃ r, spec_l01Block.lv0 h b ks ws i = some r ∧ r.length = 8
  | 0, i, ws, hi0, hi, hw => by
    rw [spec_l01Block.lv0_eq, if_neg (by omega)]
    exact block_l1 h ks hh hk 48 16 ws rfl (by omega) (by omega) hw
  | k + 1, i, ws, hi0, hi, hw => by
    have ih := fun ws' => block_l0 h b ks hh hb hk k (i + 1) ws' (by omega) (by omega)
    have c1 : (i : Int) < 16 := by omega
    have c2 : (0 : Int) ≤ 4 * (i : Int) := by omega
    have c3 : 4 * (i : Int) < (b.length : Int) := by omega
    have c4 : (0 : Int) ≤ 4 * (i : Int) + 1 := by omega
    have c5 : 4 * (i : Int) + 1 < (b.length : Int) := by omega
    have c6 : (0 : Int) ≤ 4 * (i : Int) + 2 := by omega
    have c7 : 4 * (i : Int) + 2 < (b.length : Int) := by omega
    have c8 : (0 : Int) ≤ 4 * (i : Int) + 3 := by omega
    have c9 : 4 * (i : Int) + 3 < (b.length : Int) := by omega
    have d1 : (0 : Int) ≤ (i : Int) := by omega
    have d2 : (i : Int) < (ws.length : Int) := by omega
    have w : wrap64 ((i : Int) + 1) = ((i + 1 : Nat) : Int) := by rw [wrap_id (by omega) (by omega)]; omega
    have w0 : wrap64 (4 * (i : Int)) = 4 * (i : Int) := wrap_id (by omega) (by omega)
    have w1 : wrap64 (4 * (i : Int) + 1) = 4 * (i : Int) + 1 := wrap_id (by omega) (by omega)
    have w2 : wrap64 (4 * (i : Int) + 2) = 4 * (i : Int) + 2 := wrap_id (by omega) (by omega)
    have w3 : wrap64 (4 * (i : Int) + 3) = 4 * (i : Int) + 3 := wrap_id (by omega) (by omega)
    rw [spec_l01Block.lv0_eq]
    simp only [w, w0, w1, w2, w3, if_pos c1, if_pos c2, if_pos c3, if_pos c4, if_pos c5, if_pos c6, if_pos c7, if_pos c8, if_pos c9, if_pos d1, if_pos d2]
    clear w w0 w1 w2 w3
    exact ih _ (by rw [List.length_set]; exact hw)
theorem block_v (h b ks : List Int) (hh : h.length = 8) (hb : b.length = 64) (hk : ks.length = 64) : ∃ r, spec_l01Block.v h b ks = some r ∧ r.length = 8 := by
  rw [spec_l01Block.v_eq, if_pos ⟨hh, hb, hk⟩, if_pos (by omega)]
  exact block_l0 h b ks hh hb hk 16 0 _ rfl (by omega) (by simp)
theorem hash_l3 (h : List Int) (hh : h.length = 8) : ∀ (k i : Nat) (out : List Int), 8 - i = k → i ≤ 8 → out.length = 4 * i → ∃ t, spec_l01Hash.lv3 h out i = some t ∧ t.size = 32
  | 0, i, out, hi0, hi, ho => by
    rw [spec_l01Hash.lv3_eq, if_neg (by omega)]
    exact ⟨_, rfl, by rw [strOf_size]; omega⟩
  | k + 1, i, out, hi0, hi, ho => by
    have ih := fun out' => hash_l3 h hh k (i + 1) out' (by omega) (by omega)
    have w : wrap64 ((i : Int) + 1) = ((i + 1 : Nat) : Int) := by rw [wrap_id (by omega) (by omega)]; omega
    rw [spec_l01Hash.lv3_eq, w]
    clear w
    rw [if_pos (by omega), if_pos (by omega), if_pos (by omega), Option.bind_some, if_pos (by simp; omega)]
    exact ih _ (by simp; omega)
theorem hash_l2 (all ks : List Int) (hk : ks.length = 64) (n : Nat) (ha : all.length = 64 * n) (hn : n ≤ 1000000) : ∀ (k i : Nat) (h : List Int), n - i = k → i ≤ n → h.length = 8 → ∃ t, spec_l01Hash.lv2 h all ks ((64 * i : Nat) : Int) = some t ∧ t.size = 32
  | 0, i, h, hi0, hi, hh => by
    rw [spec_l01Hash.lv2_eq, if_neg (by omega)]
    exact hash_l3 h hh 8 0 [] rfl (by omega) rfl
  | k + 1, i, h, hi0, hi, hh => by
    have ih := fun h' => hash_l2 all ks hk n ha hn k (i + 1) h' (by omega) (by omega)
    obtain ⟨r, e, hr⟩ := block_v h ((all.take (64 * (i + 1))).drop (64 * i)) ks hh (by rw [List.length_drop, List.length_take]; omega) hk
    have w : wrap64 (((64 * i : Nat) : Int) + 64) = ((64 * (i + 1) : Nat) : Int) := by rw [wrap_id (by omega) (by omega)]; omega
    rw [spec_l01Hash.lv2_eq, w]
    clear w
    simp only [Int.toNat_natCast]
    rw [if_pos (by omega), if_pos (by omega), if_pos (by omega), if_pos (by omega), e, Option.bind_some]
    exact ih _ hr
theorem hash_l1 (x h : List Int) (hh : h.length = 8) : ∀ (k : Nat) (all : List Int), k ≤ 8 → all.length + k ≤ 60000000 → (all.length + k) % 64 = 0 → ∃ t, spec_l01Hash.lv1 x h all ((k : Int) - 1) = some t ∧ t.size = 32
  | 0, all, hk, ha, hm => by
    rw [spec_l01Hash.lv1_eq, if_neg (by omega), spec_l01Consts.v_eq, Option.bind_some]
    exact hash_l2 all _ rfl (all.length / 64) (by omega) (by omega) (all.length / 64) 0 h rfl (by omega) hh
  | k + 1, all, hk, ha, hm => by
    have ih := fun a => hash_l1 x h hh k (all ++ [a]) (by omega) (by simp; omega) (by simp; omega)
    have e : (((k + 1 : Nat) : Int) - 1) = (k : Int) := by omega
    have c1 : (k : Int) ≥ 0 := by omega
    have c2 : all.length < 140737488355328 := by omega
    have w : wrap64 ((k : Int) - 1) = (k : Int) - 1 := wrap_id (by omega) (by omega)
    have w1 : IntKind.u64.wrap (wrap64 (8 * (k : Int))) = 8 * (k : Int) := by
      rw [show wrap64 (8 * (k : Int)) = 8 * (k : Int) from wrap_id (by omega) (by omega), u64_small _ (by omega) (by omega)]
    have c3 : (0 : Int) ≤ 8 * (k : Int) := by clear w w1; omega
    rw [e, spec_l01Hash.lv1_eq, w, w1]
    clear w w1
    rw [if_pos c1, if_pos c3, if_pos c2]
    exact ih _
theorem hash_l0 (x h : List Int) (hh : h.length = 8) : ∀ (k : Nat) (all : List Int), (all.length + k) % 64 = 56 → k ≤ 64 → all.length + k ≤ 50000000 → ∃ t, spec_l01Hash.lv0 x h all = some t ∧ t.size = 32
  | 0, all, hm, hk, ha => by
    rw [spec_l01Hash.lv0_eq, if_pos (by omega)]
    exact hash_l1 x h hh 8 all (by omega) (by omega) (by omega)
  | k + 1, all, hm, hk, ha => by
    rw [spec_l01Hash.lv0_eq]
    by_cases c : ((all.length : Int) % 64) = 56
    · rw [if_pos c]
      exact hash_l1 x h hh 8 all (by omega) (by omega) (by omega)
    · rw [if_neg c, if_pos (by omega)]
      exact hash_l0 x h hh k (all ++ [0]) (by simp; omega) (by omega) (by simp; omega)
theorem hash_v (x : List Int) (hx : x.length ≤ 40000000) : ∃ t, spec_l01Hash.v x = some t ∧ t.size = 32 := by
  rw [spec_l01Hash.v_eq, Option.bind_some, if_pos (by simp; omega), Option.bind_some, if_pos (by simp; omega)]
  refine hash_l0 x _ rfl ((56 + 64 - (x.length + 1) % 64) % 64) _ ?_ (by omega) ?_
  · simp; omega
  · simp; omega
theorem bytesOf_rd (s : ByteArray) (i : Int) (h0 : 0 ≤ i) (h1 : i < s.size) : rd (bytesOf s) i = bt s i := by
  unfold rd bt
  rw [dif_pos (by omega)]
  unfold bytesOf
  rw [List.getD, List.getElem?_map, List.getElem?_eq_getElem (by rw [Array.length_toList]; show _ < s.size; omega)]
  simp
  rfl
theorem bytes_append (a b : ByteArray) : bytesOf (a ++ b) = bytesOf a ++ bytesOf b := by
  unfold bytesOf
  rw [ByteArray.data_append, Array.toList_append, List.map_append]
theorem str_append (a b : List Int) : strOfNums (a ++ b) = strOfNums a ++ strOfNums b := by
  apply ByteArray.ext
  apply Array.toList_inj.1
  rw [ByteArray.data_append, Array.toList_append, strOfNums_data, strOfNums_data, strOfNums_data, List.map_append]
/-- n in k bytes, the high one first. -/
def beL (n : Int) : Nat → List Int
  | 0 => []
  | k + 1 => beL (n / 256) k ++ [n % 256]
theorem beL_len (n : Int) (k : Nat) : (beL n k).length = k := by
  induction k generalizing n with
  | zero => rfl
  | succ k ih => simp [beL, ih]
theorem impl_number1 (n : Int) : impl_number.v n 1 = some (strOfNums (beL n 1)) := by
  have w0 : wrap64 (1 - 1) = 0 := by rw [wrap_id (by omega) (by omega)]; rfl
  have w1 : wrap64 (0 - 1) = -1 := by rw [wrap_id (by omega) (by omega)]; rfl
  rw [impl_number.v_eq, if_pos (by omega), if_pos (by simp), w0, impl_number.lv0_eq, if_pos (by omega), if_pos (by omega), if_pos (by simp), w1, impl_number.lv0_eq, if_neg (by omega)]
  rfl
theorem rdOf_at (l : List ByteArray) (i : Nat) (h : i < l.length) : rdOf ByteArray.empty l i = l[i] := by
  unfold rdOf
  rw [Int.toNat_natCast, List.getD_eq_getElem?_getD, List.getElem?_eq_getElem h]
  rfl
theorem be1 (n : Int) : beL n 1 = [n % 256] := rfl
theorem hash_one (t : ByteArray) (h : t.size ≤ 40000000) : ∃ r, spec_l01Hash.v (bytesOf t) = some r ∧ impl_hash.v t = some r ∧ r.size = 32 := by
  obtain ⟨r, h1, h2⟩ := hash_v (bytesOf t) (by rw [bytesOf_length]; exact h)
  exact ⟨r, h1, by rw [impl_hash.v_eq, if_pos h, h1], h2⟩
theorem root_seed (n : Int) : ∃ t, spec_l12Seed.v n = some t ∧ impl_nodeSeed.v n = some t ∧ t.size = 32 := by
  have h1 : (strOfNums [n % 256]).size = 1 := by rw [strOf_size]; rfl
  have h9 : (⟨#[110, 111, 100, 101, 32, 115, 101, 101, 100]⟩ : ByteArray).size = 9 := rfl
  obtain ⟨s, hs⟩ : ∃ s, s = (⟨#[110, 111, 100, 101, 32, 115, 101, 101, 100]⟩ : ByteArray) ++ strOfNums [n % 256] := ⟨_, rfl⟩
  have hz : s.size = 10 := by rw [hs, ByteArray.size_append, h1, h9]
  obtain ⟨t, ht, hi, h32⟩ := hash_one s (by omega)
  refine ⟨t, ?_, ?_, h32⟩
  · rw [spec_l12Seed.v_eq, Option.bind_some, ← hs, h1, hz, if_pos (by decide), if_pos (by decide), ht, Option.bind_some]
  · rw [impl_nodeSeed.v_eq, impl_number1, Option.bind_some, be1, ← hs, h1, if_pos (by decide), hi, Option.bind_some]
theorem ba_assoc (a b c : ByteArray) : (a ++ b) ++ c = a ++ (b ++ c) := by
  apply ByteArray.ext
  simp only [ByteArray.data_append, Array.append_assoc]
theorem secret_one (s : ByteArray) (hs : s.size ≤ 1000) (a b c : Int) : ∃ t, spec_l03Secret.v s a b c = some t ∧ impl_secret.v s a b c = some t ∧ t.size = 32 := by
  have z1 : ∀ n : Int, (strOfNums (beL n 1)).size = 1 := fun n => by rw [strOf_size, beL_len]
  have z6 : (⟨#[115, 101, 99, 114, 101, 116]⟩ : ByteArray).size = 6 := rfl
  obtain ⟨p, hp⟩ : ∃ p, p = (⟨#[115, 101, 99, 114, 101, 116]⟩ : ByteArray) ++ s := ⟨_, rfl⟩
  have zp : p.size = 6 + s.size := by rw [hp, ByteArray.size_append, z6]
  obtain ⟨X, hX⟩ : ∃ X, X = ((p ++ strOfNums (beL a 1)) ++ strOfNums (beL b 1)) ++ strOfNums (beL c 1) := ⟨_, rfl⟩
  have x1 : (p ++ strOfNums (beL a 1)).size = 7 + s.size := by rw [ByteArray.size_append, z1, zp]; omega
  have x2 : ((p ++ strOfNums (beL a 1)) ++ strOfNums (beL b 1)).size = 8 + s.size := by rw [ByteArray.size_append, z1, x1]; omega
  have x3 : X.size = 9 + s.size := by rw [hX, ByteArray.size_append, z1, x2]; omega
  have hX2 : p ++ strOfNums [a % 256, b % 256, c % 256] = X := by
    rw [hX, be1, be1, be1, show ([a % 256, b % 256, c % 256] : List Int) = [a % 256] ++ ([b % 256] ++ [c % 256]) from rfl, str_append, str_append, ba_assoc, ba_assoc]
  have z3 : (strOfNums [a % 256, b % 256, c % 256]).size = 3 := by rw [strOf_size]; rfl
  obtain ⟨t, h1, h2, h3⟩ := hash_one X (by omega)
  refine ⟨t, ?_, ?_, h3⟩
  · rw [spec_l03Secret.v_eq, ← hp, if_pos (by omega), Option.bind_some, zp, z3, if_pos (by omega), hX2, x3, if_pos (by omega), h1, Option.bind_some]
  · rw [impl_secret.v_eq, ← hp, if_pos (by omega), impl_number1, Option.bind_some, zp, z1, if_pos (by omega), impl_number1, Option.bind_some, x1, z1, if_pos (by omega), impl_number1, Option.bind_some, x2, z1, if_pos (by omega), ← hX, h2, Option.bind_some]
theorem key_l (s : ByteArray) (hs : s.size ≤ 1000) (a : Int) : ∀ (d : Nat) (i : Int) (x : ByteArray), (32 - i).toNat = d → 0 ≤ i → i ≤ 32 → (x.size : Int) = 3 + 64 * i → ∃ t, spec_l03Key.lv0 s a (bytesOf x) i = some t ∧ impl_oneTimeKey.lv0 s a x i = some t ∧ t.size = 32
  | 0, i, x, h, h0, h1, hx => by
    obtain ⟨t, e1, e2, e3⟩ := hash_one x (by omega)
    exact ⟨t, by rw [spec_l03Key.lv0_eq, if_neg (by omega), e1, Option.bind_some], by rw [impl_oneTimeKey.lv0_eq, if_neg (by omega), e2, Option.bind_some], e3⟩
  | d + 1, i, x, h, h0, h1, hx => by
    obtain ⟨s0, a1, a2, a3⟩ := secret_one s hs a i 0
    obtain ⟨k0, b1, b2, b3⟩ := hash_one s0 (by omega)
    obtain ⟨s1, c1, c2, c3⟩ := secret_one s hs a i 1
    obtain ⟨k1, d1, d2, d3⟩ := hash_one s1 (by omega)
    have hz : (k0 ++ k1).size = 64 := by rw [ByteArray.size_append, b3, d3]
    obtain ⟨t, e1, e2, e3⟩ := key_l s hs a d (i + 1) (x ++ (k0 ++ k1)) (by omega) (by omega) (by omega) (by rw [ByteArray.size_append, hz]; omega)
    have hb : (bytesOf x ++ bytesOf k0) ++ bytesOf k1 = bytesOf (x ++ (k0 ++ k1)) := by rw [bytes_append, bytes_append, List.append_assoc]
    refine ⟨t, ?_, ?_, e3⟩
    · rw [spec_l03Key.lv0_eq, if_pos (by omega), spec_l03Key.lv1_eq, if_pos (by decide), a1, Option.bind_some, if_pos (by omega), b1, Option.bind_some, if_pos (by rw [bytesOf_length]; omega), wrap_id (x := 0 + 1) (by omega) (by omega),
        spec_l03Key.lv1_eq, if_pos (by decide), show (0 + 1 : Int) = 1 from rfl, c1, Option.bind_some, if_pos (by omega), d1, Option.bind_some, if_pos (by rw [List.length_append, bytesOf_length, bytesOf_length]; omega), wrap_id (x := 1 + 1) (by omega) (by omega),
        spec_l03Key.lv1_eq, if_neg (by decide), wrap_id (x := i + 1) (by omega) (by omega), hb, e1]
    · rw [impl_oneTimeKey.lv0_eq, if_pos (by omega), a2, Option.bind_some, b2, Option.bind_some, c2, Option.bind_some, d2, Option.bind_some, b3, d3, if_pos (by decide), hz, if_pos (by omega), wrap_id (x := i + 1) (by omega) (by omega), e2]
theorem onekey_one (s : ByteArray) (hs : s.size ≤ 1000) (a : Int) : ∃ t, spec_l03Key.v s a = some t ∧ impl_oneTimeKey.v s a = some t ∧ t.size = 32 := by
  obtain ⟨t, h1, h2, h3⟩ := key_l s hs a _ 0 ⟨#[107, 101, 121]⟩ rfl (by omega) (by omega) (by decide)
  refine ⟨t, ?_, ?_, h3⟩
  · rw [spec_l03Key.v_eq, ← h1, show bytesOf (⟨#[107, 101, 121]⟩ : ByteArray) = [107, 101, 121] by decide]
  · rw [impl_oneTimeKey.v_eq, h2]
theorem keys_l (s : ByteArray) (hs : s.size ≤ 1000) : ∀ (d : Nat) (i : Int) (l : List ByteArray), (8 - i).toNat = d → 0 ≤ i → i ≤ 8 → (l.length : Int) = i → (∀ y ∈ l, y.size = 32) → ∃ r, spec_l03Keys.lv0 s l i = some r ∧ impl_keys.lv0 s l i = some r ∧ r.length = 8 ∧ ∀ y ∈ r, y.size = 32
  | 0, i, l, h, h0, h1, hl, hy => ⟨l, by rw [spec_l03Keys.lv0_eq, if_neg (by omega)], by rw [impl_keys.lv0_eq, if_neg (by omega)], by omega, hy⟩
  | d + 1, i, l, h, h0, h1, hl, hy => by
    obtain ⟨t, e1, e2, e3⟩ := onekey_one s hs i
    obtain ⟨r, f1, f2, f3, f4⟩ := keys_l s hs d (i + 1) (l ++ [t]) (by omega) (by omega) (by omega) (by simp; omega) (fun y hm => by
      rcases List.mem_append.1 hm with h | h
      · exact hy y h
      · rw [List.mem_singleton.1 h]; exact e3)
    refine ⟨r, ?_, ?_, f3, f4⟩
    · rw [spec_l03Keys.lv0_eq, if_pos (by omega), e1, Option.bind_some, if_pos (by omega), wrap_id (x := i + 1) (by omega) (by omega), f1]
    · rw [impl_keys.lv0_eq, if_pos (by omega), e2, Option.bind_some, if_pos (by omega), wrap_id (x := i + 1) (by omega) (by omega), f2]
theorem node_one (a b : ByteArray) (ha : a.size = 32) (hb : b.size = 32) : ∃ t, spec_l03Node.v a b = some t ∧ impl_node.v a b = some t ∧ t.size = 32 := by
  have z4 : (⟨#[110, 111, 100, 101]⟩ : ByteArray).size = 4 := rfl
  obtain ⟨p, hp⟩ : ∃ p, p = (⟨#[110, 111, 100, 101]⟩ : ByteArray) ++ a := ⟨_, rfl⟩
  have zp : p.size = 36 := by rw [hp, ByteArray.size_append, z4, ha]
  obtain ⟨X, hX⟩ : ∃ X, X = p ++ b := ⟨_, rfl⟩
  have zX : X.size = 68 := by rw [hX, ByteArray.size_append, zp, hb]
  obtain ⟨t, h1, h2, h3⟩ := hash_one X (by omega)
  refine ⟨t, ?_, ?_, h3⟩
  · rw [spec_l03Node.v_eq, ← hp, ← hX, ha, if_pos (by decide), zp, hb, if_pos (by decide), zX, if_pos (by decide), h1, Option.bind_some]
  · rw [impl_node.v_eq, ← hp, ← hX, ha, if_pos (by decide), zp, hb, if_pos (by decide), h2, Option.bind_some]
theorem level_l (l : List ByteArray) (m : Nat) (hm : l.length = 2 * m) (hm2 : m ≤ 1000) (hy : ∀ y ∈ l, y.size = 32) : ∀ (d j : Nat) (acc : List ByteArray), m - j = d → j ≤ m → acc.length = j → (∀ y ∈ acc, y.size = 32) → ∃ r, spec_l03Level.lv0 l acc ((2 * j : Nat) : Int) = some r ∧ impl_above.lv0 l acc ((2 * j : Nat) : Int) = some r ∧ r.length = m ∧ ∀ y ∈ r, y.size = 32
  | 0, j, acc, h, h0, ha, hc => ⟨acc, by rw [spec_l03Level.lv0_eq, if_neg (by omega)], by rw [impl_above.lv0_eq, if_neg (by omega)], by omega, hc⟩
  | d + 1, j, acc, h, h0, ha, hc => by
    have g1 : rdOf ByteArray.empty l ((2 * j : Nat) : Int) ∈ l := by rw [rdOf_at l (2 * j) (by omega)]; exact List.getElem_mem _
    have g2 : rdOf ByteArray.empty l (((2 * j + 1 : Nat)) : Int) ∈ l := by rw [rdOf_at l (2 * j + 1) (by omega)]; exact List.getElem_mem _
    obtain ⟨t, e1, e2, e3⟩ := node_one _ _ (hy _ g1) (hy _ g2)
    obtain ⟨r, f1, f2, f3, f4⟩ := level_l l m hm hm2 hy d (j + 1) (acc ++ [t]) (by omega) (by omega) (by simp; omega) (fun y hm => by
      rcases List.mem_append.1 hm with h | h
      · exact hc y h
      · rw [List.mem_singleton.1 h]; exact e3)
    have w1 : wrap64 (((2 * j : Nat) : Int) + 1) = ((2 * j + 1 : Nat) : Int) := by rw [wrap_id (by omega) (by omega)]; omega
    have w2 : wrap64 (((2 * j : Nat) : Int) + 2) = ((2 * (j + 1) : Nat) : Int) := by rw [wrap_id (by omega) (by omega)]; omega
    refine ⟨r, ?_, ?_, f3, f4⟩
    · rw [spec_l03Level.lv0_eq, w1, w2, if_pos (by omega), if_pos (by omega), if_pos (by omega), if_pos (by omega), e1, Option.bind_some, if_pos (by omega), f1]
    · rw [impl_above.lv0_eq, w1, w2, if_pos (by omega), if_pos (by omega), if_pos (by omega), if_pos (by omega), e2, Option.bind_some, if_pos (by omega), f2]
def bitF (t : ByteArray) (i k : Int) : Int := (48 + (Go.bits .and .u8 (shr .u8 (bt t i) k) 1)) % 256
def bitsL (t : ByteArray) (i : Int) : Nat → List Int
  | 0 => []
  | d + 1 => bitF t i d :: bitsL t i d
theorem bitsL_len (t : ByteArray) (i : Int) : ∀ d, (bitsL t i d).length = d
  | 0 => rfl
  | d + 1 => by rw [bitsL, List.length_cons, bitsL_len t i d]
def allL (t : ByteArray) : Nat → Int → List Int
  | 0, _ => []
  | n + 1, i => bitsL t i 8 ++ allL t n (i + 1)
theorem hb_in (t : ByteArray) (i : Int) (h0 : 0 ≤ i) (h1 : i < t.size) (ht : t.size = 32) : ∀ (d : Nat) (x : List Int), d ≤ 8 → x.length ≤ 1000 - d → impl_hashBits.lv1 t x i ((d : Int) - 1) 32 i = impl_hashBits.lv0 t (x ++ bitsL t i d) 32 (i + 1)
  | 0, x, hd, hx => by
    rw [impl_hashBits.lv1_eq, if_neg (by omega), wrap_id (x := i + 1) (by omega) (by omega), bitsL, List.append_nil]
  | d + 1, x, hd, hx => by
    have e : ((d + 1 : Nat) : Int) - 1 = (d : Int) := by omega
    have w : wrap64 ((d : Int) - 1) = (d : Int) - 1 := wrap_id (by omega) (by omega)
    rw [impl_hashBits.lv1_eq, e, if_pos (by omega), if_pos h0, if_pos h1, if_pos (by omega), if_pos (by omega), w]
    clear w
    rw [hb_in t i h0 h1 ht d _ (by omega) (by rw [List.length_append]; simp; omega), List.append_assoc]
    rfl
theorem hb_out (t : ByteArray) (ht : t.size = 32) : ∀ (n : Nat) (i : Int) (x : List Int), (32 - i).toNat = n → 0 ≤ i → i ≤ 32 → (x.length : Int) = 8 * i → impl_hashBits.lv0 t x 32 i = some (strOfNums (x ++ allL t n i))
  | 0, i, x, h, h0, h1, hx => by rw [impl_hashBits.lv0_eq, if_neg (by omega), allL, List.append_nil]
  | n + 1, i, x, h, h0, h1, hx => by
    rw [impl_hashBits.lv0_eq, if_pos (by omega)]
    have := hb_in t i h0 (by omega) ht 8 x (by omega) (by omega)
    rw [show ((8 : Nat) : Int) - 1 = 7 from rfl] at this
    rw [this, hb_out t ht n (i + 1) _ (by omega) (by omega) (by omega) (by rw [List.length_append, bitsL_len]; omega), List.append_assoc]
    rfl
theorem hashBits_v (t : ByteArray) (ht : t.size = 32) : impl_hashBits.v t = some (strOfNums (allL t 32 0)) := by
  rw [impl_hashBits.v_eq, if_pos (by omega)]
  have := hb_out t ht 32 0 [] (by omega) (by omega) (by omega) (by simp)
  rw [List.nil_append] at this
  rw [ht]
  exact this
theorem sb_in (t : ByteArray) (ht : t.size = 32) (i : Int) (h0 : 0 ≤ i) (h1 : i < 4) : ∀ (d : Nat) (x : List Int), d ≤ 8 → x.length ≤ 1000 - d → spec_l03Bits.lv0 t x (8 * i + (8 - d)) = spec_l03Bits.lv0 t (x ++ bitsL t i d) (8 * (i + 1))
  | 0, x, hd, hx => by
    rw [bitsL, List.append_nil]
    congr 1
    omega
  | d + 1, x, hd, hx => by
    have q1 : Int.tdiv (8 * i + (8 - ((d + 1 : Nat) : Int))) 8 = i := by rw [Int.tdiv_eq_ediv_of_nonneg (by omega)]; omega
    have q2 : Int.tmod (8 * i + (8 - ((d + 1 : Nat) : Int))) 8 = 7 - d := by rw [Int.tmod_eq_emod_of_nonneg (by omega)]; omega
    have w1 : wrap64 i = i := wrap_id (by omega) (by omega)
    have w2 : wrap64 (7 - (7 - (d : Int))) = d := by rw [wrap_id (by omega) (by omega)]; omega
    have w3 : IntKind.u64.wrap (d : Int) = d := u64_small _ (by omega) (by omega)
    have w4 : wrap64 (8 * i + (8 - ((d + 1 : Nat) : Int)) + 1) = 8 * i + (8 - (d : Int)) := by rw [wrap_id (by omega) (by omega)]; omega
    rw [spec_l03Bits.lv0_eq, if_pos (by omega), q1, q2, w1, w2, w3, w4]
    clear w1 w2 w3 w4 q1 q2
    rw [if_pos h0, if_pos (by omega), if_pos (by omega), if_pos (by omega), sb_in t ht i h0 h1 d _ (by omega) (by rw [List.length_append]; simp; omega), List.append_assoc]
    rfl
theorem specBits_l (t : ByteArray) (ht : t.size = 32) : spec_l03Bits.lv0 t [] 0 = some (strOfNums (bitsL t 0 8 ++ (bitsL t 1 8 ++ (bitsL t 2 8 ++ bitsL t 3 8)))) := by
  have s0 := sb_in t ht 0 (by omega) (by omega) 8 [] (by omega) (by simp)
  have s1 := sb_in t ht 1 (by omega) (by omega) 8 (bitsL t 0 8) (by omega) (by rw [bitsL_len]; omega)
  have s2 := sb_in t ht 2 (by omega) (by omega) 8 (bitsL t 0 8 ++ bitsL t 1 8) (by omega) (by rw [List.length_append, bitsL_len, bitsL_len]; omega)
  have s3 := sb_in t ht 3 (by omega) (by omega) 8 (bitsL t 0 8 ++ bitsL t 1 8 ++ bitsL t 2 8) (by omega) (by simp only [List.length_append, bitsL_len]; omega)
  simp only [List.nil_append] at s0
  have e0 : spec_l03Bits.lv0 t [] 0 = spec_l03Bits.lv0 t (bitsL t 0 8) 8 := s0
  have e1 : spec_l03Bits.lv0 t (bitsL t 0 8) 8 = spec_l03Bits.lv0 t (bitsL t 0 8 ++ bitsL t 1 8) 16 := s1
  have e2 : spec_l03Bits.lv0 t (bitsL t 0 8 ++ bitsL t 1 8) 16 = spec_l03Bits.lv0 t (bitsL t 0 8 ++ bitsL t 1 8 ++ bitsL t 2 8) 24 := s2
  have e3 : spec_l03Bits.lv0 t (bitsL t 0 8 ++ bitsL t 1 8 ++ bitsL t 2 8) 24 = spec_l03Bits.lv0 t (bitsL t 0 8 ++ bitsL t 1 8 ++ bitsL t 2 8 ++ bitsL t 3 8) 32 := s3
  rw [e0, e1, e2, e3, spec_l03Bits.lv0_eq, if_neg (by omega)]
  simp only [List.append_assoc]
theorem bits_one (m : ByteArray) (hm : m.size ≤ 30000000) : ∃ s, spec_l03Bits.v m = some s ∧ impl_messageBits.v m = some s ∧ s.size = 32 := by
  have z : (⟨#[100, 105, 103, 101, 115, 116]⟩ : ByteArray).size = 6 := rfl
  have hz : ((⟨#[100, 105, 103, 101, 115, 116]⟩ : ByteArray) ++ m).size = 6 + m.size := by rw [ByteArray.size_append, z]
  obtain ⟨t, t1, t2, t3⟩ := hash_one ((⟨#[100, 105, 103, 101, 115, 116]⟩ : ByteArray) ++ m) (by omega)
  have hA : (allL t 32 0).length = 256 := by
    have : ∀ n i, (allL t n i).length = 8 * n := by
      intro n
      induction n with
      | zero => intro i; rfl
      | succ n ih => intro i; rw [allL, List.length_append, bitsL_len, ih]; omega
    rw [this]
  have hsz : (strOfNums (allL t 32 0)).size = 256 := by rw [strOf_size, hA]
  rw [spec_l03Bits.v_eq, impl_messageBits.v_eq, if_pos (by omega), if_pos (by omega), if_pos (by omega), t1, t2, Option.bind_some, Option.bind_some, specBits_l t t3, hashBits_v t t3, Option.bind_some, if_pos (by omega), if_pos (by omega)]
  refine ⟨_, rfl, ?_, by rw [strOf_size]; simp only [List.length_append, bitsL_len]⟩
  rw [show ((strOfNums (allL t 32 0)).extract 0 32) = strOfNums (((allL t 32 0).take 32).drop 0) from strOf_extract _ _ _, List.drop_zero]
  have ha : allL t 32 0 = (bitsL t 0 8 ++ (bitsL t 1 8 ++ (bitsL t 2 8 ++ bitsL t 3 8))) ++ allL t 28 4 := by
    simp only [List.append_assoc]
    rfl
  rw [ha, List.take_left' (by simp only [List.length_append, bitsL_len])]
abbrev Sig4 := Int × List ByteArray × List ByteArray × List ByteArray
theorem xor_one : ∀ n : Fin 8, Go.bits .xor .i64 ((n.val : Nat) : Int) 1 = if n.val % 2 = 0 then ((n.val + 1 : Nat) : Int) else ((n.val - 1 : Nat) : Int) := by decide
theorem xor_in (k n : Nat) (hk : 1 ≤ k) (hk3 : k ≤ 3) (hn : n < 2 ^ k) : 0 ≤ Go.bits .xor .i64 (n : Int) 1 ∧ Go.bits .xor .i64 (n : Int) 1 < ((2 ^ k : Nat) : Int) := by
  have h8 : n < 8 := Nat.lt_of_lt_of_le hn (Nat.pow_le_pow_right (by decide) hk3)
  rw [show ((n : Nat) : Int) = (((⟨n, h8⟩ : Fin 8).val : Nat) : Int) from rfl, xor_one]
  have he : 2 ^ k = 2 * 2 ^ (k - 1) := by rw [← Nat.pow_succ']; congr 1; omega
  show 0 ≤ (if n % 2 = 0 then ((n + 1 : Nat) : Int) else ((n - 1 : Nat) : Int)) ∧ (if n % 2 = 0 then ((n + 1 : Nat) : Int) else ((n - 1 : Nat) : Int)) < _
  split <;> omega
theorem sign_path (a : Int) (o r : List ByteArray) : ∀ (k : Nat) (l : List ByteArray) (n : Nat) (p : List ByteArray), k ≤ 3 → l.length = 2 ^ k → (∀ y ∈ l, y.size = 32) → n < 2 ^ k → p.length + k ≤ 1000 →
    ∃ q : List ByteArray, spec_l03Sign.lv1 n l a o r p = some (a, o, r, q) ∧ impl_signAt.lv1 n l a o r p = some (a, o, r, q) ∧ q.length ≤ p.length + k
  | 0, l, n, p, hk, hl, hy, hn, hp => by
    have hl1 : l.length = 1 := by simpa using hl
    exact ⟨p, by rw [spec_l03Sign.lv1_eq, if_neg (by omega)], by rw [impl_signAt.lv1_eq, if_neg (by omega)], by omega⟩
  | k + 1, l, n, p, hk, hl, hy, hn, hp => by
    have h0 : 0 < 2 ^ k := Nat.pow_pos (by decide)
    have hb : 2 ^ k ≤ 2 ^ 3 := Nat.pow_le_pow_right (by decide) (by omega)
    have hl2 : l.length = 2 * 2 ^ k := by rw [hl, Nat.pow_succ, Nat.mul_comm]
    obtain ⟨r', e1, e2, e3, e4⟩ := level_l l (2 ^ k) hl2 (by omega) hy _ 0 [] rfl (by omega) rfl (fun y h => by cases h)
    obtain ⟨x1, x2⟩ := xor_in (k + 1) n (by omega) (by omega) hn
    rw [← hl] at x2
    have w : wrap64 (Int.tdiv (n : Int) 2) = ((n / 2 : Nat) : Int) := by rw [Int.tdiv_eq_ediv_of_nonneg (by omega), wrap_id (by omega) (by omega)]; omega
    have hn2 : n / 2 < 2 ^ k := by rw [hl2] at hl; omega
    obtain ⟨q, q1, q2, q3⟩ := sign_path a o r k r' (n / 2) (p ++ [rdOf ByteArray.empty l (Go.bits .xor .i64 (n : Int) 1)]) (by omega) e3 e4 hn2 (by rw [List.length_append]; simp; omega)
    refine ⟨q, ?_, ?_, by rw [List.length_append] at q3; simp at q3; omega⟩
    · rw [spec_l03Sign.lv1_eq, if_pos (by omega), if_pos x1, if_pos x2, if_pos (by omega), spec_l03Level.v_eq, show (0 : Int) = ((2 * 0 : Nat) : Int) from rfl, e1, Option.bind_some, w]
      exact q1
    · rw [impl_signAt.lv1_eq, if_pos (by omega), if_pos x1, if_pos x2, if_pos (by omega), impl_above.v_eq, show (0 : Int) = ((2 * 0 : Nat) : Int) from rfl, e2, Option.bind_some, w]
      exact q2
theorem sign_l (s b : ByteArray) (hs : s.size ≤ 1000) (hb : b.size = 32) (n : Nat) (hn : n < 8) : ∀ (d : Nat) (i : Int) (o r : List ByteArray), (32 - i).toNat = d → 0 ≤ i → i ≤ 32 → (o.length : Int) = i → (r.length : Int) = i →
    ∃ t : Sig4, spec_l03Sign.lv0 s n b i n o r [] = some t ∧ impl_signAt.lv0 s n (bytesOf b) 32 i n o r = some t ∧ t.2.1.length ≤ 32 ∧ t.2.2.1.length ≤ 32 ∧ t.2.2.2.length ≤ 3
  | 0, i, o, r, h, h0, h1, ho, hr => by
    obtain ⟨l, e1, e2, e3, e4⟩ := keys_l s hs _ 0 [] rfl (by omega) (by omega) rfl (fun y h => by cases h)
    obtain ⟨q, q1, q2, q3⟩ := sign_path n o r 3 l n [] (by omega) e3 e4 hn (by simp)
    refine ⟨(n, o, r, q), ?_, ?_, by show o.length ≤ 32; omega, by show r.length ≤ 32; omega, by simpa using q3⟩
    · rw [spec_l03Sign.lv0_eq, if_neg (by omega), spec_l03Keys.v_eq, e1, Option.bind_some]; exact q1
    · rw [impl_signAt.lv0_eq, if_neg (by omega), impl_keys.v_eq, e2, Option.bind_some]; exact q2
  | d + 1, i, o, r, h, h0, h1, ho, hr => by
    have hbl : (bytesOf b).length = 32 := by rw [bytesOf_length, hb]
    have hrd : rd (bytesOf b) i = bt b i := bytesOf_rd b i h0 (by omega)
    obtain ⟨t1, a1, a2, a3⟩ := secret_one s hs n i (((bt b i) - 48) % 256)
    obtain ⟨t2, b1, b2, b3⟩ := secret_one s hs n i (1 - (((bt b i) - 48) % 256))
    obtain ⟨t3, c1, c2, c3⟩ := hash_one t2 (by omega)
    obtain ⟨t, f1, f2, f3⟩ := sign_l s b hs hb n hn d (i + 1) (o ++ [t1]) (r ++ [t3]) (by omega) (by omega) (by omega) (by rw [List.length_append]; simp; omega) (by rw [List.length_append]; simp; omega)
    have w : wrap64 (i + 1) = i + 1 := wrap_id (by omega) (by omega)
    refine ⟨t, ?_, ?_, f3⟩
    · rw [spec_l03Sign.lv0_eq, if_pos (by omega), if_pos h0, if_pos (by omega), a1, Option.bind_some, if_pos (by omega), b1, Option.bind_some, if_pos (by omega), c1, Option.bind_some, if_pos (by omega), w]
      exact f1
    · rw [impl_signAt.lv0_eq, if_pos (by omega), if_pos h0, if_pos (by omega), hrd, a2, Option.bind_some, if_pos (by omega), b2, Option.bind_some, c2, Option.bind_some, if_pos (by omega), w]
      exact f2
theorem sign_one (s m : ByteArray) (hs : s.size ≤ 1000) (hm : m.size ≤ 30000000) (n : Nat) (hn : n < 8) : ∃ t : Sig4, spec_l03Sign.v s n m = some t ∧ impl_signAt.v s n m = some t ∧ t.2.1.length ≤ 32 ∧ t.2.2.1.length ≤ 32 ∧ t.2.2.2.length ≤ 3 := by
  obtain ⟨b, b1, b2, b3⟩ := bits_one m hm
  obtain ⟨t, t1, t2, t3⟩ := sign_l s b hs b3 n hn _ 0 [] [] rfl (by omega) (by omega) rfl rfl
  have hbl : ((bytesOf b).length : Int) = 32 := by rw [bytesOf_length, b3]; rfl
  refine ⟨t, ?_, ?_, t3⟩
  · rw [spec_l03Sign.v_eq, b1, Option.bind_some]; exact t1
  · rw [impl_signAt.v_eq, b2, Option.bind_some, if_pos (by omega), Option.bind_some, hbl]; exact t2
theorem markText_l : ∀ (m : Nat) (x : Int) (s : ByteArray), 0 ≤ x → x < 10 ^ m → x ≤ 9223372036854775807 → s.size + m ≤ 1000000 → ∃ r, laws_markText.lv0 x s = some r
  | 0, x, s, h0, h1, h2, h3 => ⟨_, by rw [laws_markText.lv0_eq, if_neg (by simp at h1; omega), if_pos (by omega)]⟩
  | m + 1, x, s, h0, h1, h2, h3 => by
    by_cases hx : x > 0
    · have h4 : (strOfNums [(wrap64 (48 + (Int.tmod x 10))) % 256]).size = 1 := by rw [strOf_size]; rfl
      have h5 : Int.tdiv x 10 = x / 10 := Int.tdiv_eq_ediv_of_nonneg h0
      obtain ⟨r, hr⟩ := markText_l m (x / 10) ((strOfNums [(wrap64 (48 + (Int.tmod x 10))) % 256]) ++ s) (by omega) (by rw [Int.pow_succ] at h1; omega) (by omega) (by rw [ByteArray.size_append, h4]; omega)
      refine ⟨r, ?_⟩
      rw [laws_markText.lv0_eq, if_pos hx]
      simp only [Option.bind_some]
      rw [if_pos (by rw [h4]; omega), h5, wrap_id (by omega) (by omega), hr]
    · exact ⟨_, by rw [laws_markText.lv0_eq, if_neg hx, if_pos (by omega)]⟩
noncomputable def mtext (k : Int) : ByteArray := (laws_markText.v k).getD ⟨#[]⟩
theorem markText_v (k : Int) (h : 0 ≤ k) (h2 : k ≤ 9223372036854775807) : laws_markText.v k = some (mtext k) := by
  have : ∃ r, laws_markText.v k = some r := by
    rw [laws_markText.v_eq]
    by_cases hk : k ≤ 0
    · exact ⟨_, by rw [if_pos hk]⟩
    · rw [if_neg hk]
      exact markText_l 19 k ⟨#[]⟩ h (by omega) h2 (by show 0 + 19 ≤ _; omega)
  obtain ⟨r, hr⟩ := this
  rw [mtext, hr]; rfl
theorem strings_heldK (l : List ByteArray) (k : Int) (hk : 0 ≤ k) (hk2 : k ≤ 1000000000000000) (h : l.length ≤ 281474976710656) : ∃ l', laws_markStringS.v l k = some (k + (l.length : Int), l') ∧ laws_heldStringS.v l' k = some (k + (l.length : Int)) := by
  obtain ⟨l', h1, h2, h3⟩ := mark_held ByteArray.empty (fun _ k => mtext k) (fun x k => decide (x = mtext k)) 1 (by omega) (fun x k _ _ => by simp) (fun l k i => laws_markStringS.lv0 l k i) (fun l k i => laws_heldStringS.lv0 l k i) (fun l k i h0 h1 h2 h3 => by
    show laws_markStringS.lv0 l k i = _
    rw [laws_markStringS.lv0_eq, if_pos h1, markText_v k h2 (by omega)]
    simp only [Option.bind_some]
    rw [if_pos h0, wrap_id (x := k + 1) (by omega) (by omega)]) (fun l k i h0 => by
    show laws_markStringS.lv0 l k i = _
    rw [laws_markStringS.lv0_eq, if_neg (by omega)]) (fun l k i h0 h1 h2 h3 h4 => by
    show laws_heldStringS.lv0 l k i = _
    rw [laws_heldStringS.lv0_eq, if_pos h1, if_pos h0, markText_v k h2 (by omega)]
    simp only [Option.bind_some]
    rw [if_pos (by rw [ba_inj]; exact of_decide_eq_true h4), wrap_id (x := k + 1) (by omega) (by omega)]) (fun l k i h0 => by
    show laws_heldStringS.lv0 l k i = _
    rw [laws_heldStringS.lv0_eq, if_neg (by omega)]) l k (by omega) hk (by omega)
  exact ⟨l', by rw [laws_markStringS.v_eq]; simpa using h1, by rw [laws_heldStringS.v_eq]; simpa using h3⟩
/-- A number's text. -/
def decB (n : Nat) : ByteArray := ⟨(Go.Lib.decDigits n).toArray⟩
theorem decB_small (n : Nat) (h : n < 10) : decB n = strOfNums [(wrap64 (48 + (n : Int))) % 256] := by
  have w : wrap64 (48 + (n : Int)) = 48 + (n : Int) := wrap_id (by omega) (by omega)
  unfold decB
  rw [Go.Lib.decDigits, dif_pos h, w]
  have : n = 0 ∨ n = 1 ∨ n = 2 ∨ n = 3 ∨ n = 4 ∨ n = 5 ∨ n = 6 ∨ n = 7 ∨ n = 8 ∨ n = 9 := by omega
  rcases this with rfl | rfl | rfl | rfl | rfl | rfl | rfl | rfl | rfl | rfl <;> rfl
theorem decB_size_one (n : Nat) (h : n < 10) : (decB n).size = 1 := by
  rw [decB_small n h, strOf_size]; rfl
theorem decB_big (n : Nat) (h : ¬ n < 10) : decB n = decB (n / 10) ++ decB (n % 10) := by
  have h2 : n % 10 < 10 := Nat.mod_lt _ (by omega)
  show (⟨(Go.Lib.decDigits n).toArray⟩ : ByteArray) = (⟨(Go.Lib.decDigits (n / 10)).toArray⟩ : ByteArray) ++ (⟨(Go.Lib.decDigits (n % 10)).toArray⟩ : ByteArray)
  rw [Go.Lib.decDigits, dif_neg h, Go.Lib.decDigits.eq_1 (n % 10), dif_pos h2]
  refine ba_inj.1 ?_
  rw [ba_toList, ba_toList, ByteArray.data_append]
  simp
theorem decB_le : ∀ (N n : Nat), n ≤ N → (decB n).size ≤ n + 1
  | 0, n, h => by rw [decB_size_one n (by omega)]; omega
  | N + 1, n, h => by
    by_cases h1 : n < 10
    · rw [decB_size_one n h1]; omega
    · have ih := decB_le N (n / 10) (by omega)
      rw [decB_big n h1, ByteArray.size_append, decB_size_one (n % 10) (Nat.mod_lt _ (by omega))]
      omega
theorem itoa_v (n : Nat) (h : n ≤ 9223372036854775807) : strconv_Itoa.v n = some (decB n) := by
  rw [strconv_Itoa.v_eq, if_pos (by omega)]
  show some (⟨(Go.Lib.itoa (n : Int)).toArray⟩ : ByteArray) = _
  unfold Go.Lib.itoa
  rw [if_neg (by omega), Int.toNat_natCast]
  rfl
theorem digits_v : ∀ (N n : Nat), n ≤ N → n ≤ 1000000000000000 → spec_l00Digits.v n = some (decB n)
  | 0, n, h, hn => by
    rw [spec_l00Digits.v_eq, if_neg (by omega), if_neg (by omega), if_pos (by omega), decB_small n (by omega)]
  | N + 1, n, h, hn => by
    by_cases h1 : n < 10
    · rw [spec_l00Digits.v_eq, if_neg (by omega), if_neg (by omega), if_pos (by omega), decB_small n h1]
    · have hd : Int.tdiv (n : Int) 10 = ((n / 10 : Nat) : Int) := by rw [Int.tdiv_eq_ediv_of_nonneg (by omega)]; omega
      have hm : Int.tmod (n : Int) 10 = ((n % 10 : Nat) : Int) := by rw [Int.tmod_eq_emod_of_nonneg (by omega)]; omega
      have w : wrap64 ((n / 10 : Nat) : Int) = ((n / 10 : Nat) : Int) := wrap_id (by omega) (by omega)
      have ih := digits_v N (n / 10) (by omega) (by omega)
      have hl := decB_le (n / 10) (n / 10) (by omega)
      have h2 : n % 10 < 10 := Nat.mod_lt _ (by omega)
      rw [spec_l00Digits.v_eq, if_neg (by omega), if_neg (by omega), if_neg (by omega), hd, hm, w]
      clear w hd hm
      rw [ih, Option.bind_some, Option.bind_some, ← decB_small (n % 10) h2, decB_size_one (n % 10) h2, if_pos (by omega), ← decB_big n h1]
theorem spec_l01In_v (n low high : Int) : spec_l01In.v n low high = some (inB n low high) := by
  rw [spec_l01In.v_eq]; unfold inB; split <;> simp <;> omega
theorem impl_within_v (n low high : Int) : impl_within.v n low high = some (inB n low high) := by
  rw [impl_within.v_eq]; unfold inB; split <;> simp <;> omega
theorem spec_l00Letter_v (c : Int) : spec_l00Letter.v c = some (letterB c) := by
  rw [spec_l00Letter.v_eq]; unfold letterB; repeat' split
  all_goals (congr 1; rw [Bool.eq_iff_iff]; simp <;> omega)
theorem impl_isLetter_v (c : Int) : impl_isLetter.v c = some (letterB c) := by
  rw [impl_isLetter.v_eq]; unfold letterB; repeat' split
  all_goals (congr 1; rw [Bool.eq_iff_iff]; simp <;> omega)
theorem spec_l00Digit_v (c : Int) : spec_l00Digit.v c = some (digitB c) := by
  rw [spec_l00Digit.v_eq]; unfold digitB; split <;> simp <;> omega
theorem spec_l00Word_l (s : ByteArray) (hs : s.size ≤ 9223372036854775807) (i : Int) (h : 0 ≤ i) : spec_l00Word.lv0 s i = some (allI (fun j => letterB (bt s j) || digitB (bt s j)) i s.size) := by
  refine loop_all _ s.size (by omega) (fun i h0 h1 => ?_) (fun i h0 h1 => ?_) _ i rfl h
  · rw [spec_l00Word.lv0_eq, if_pos h1, if_pos h0, spec_l00Letter_v, spec_l00Digit_v]
    simp only [Option.bind_some]
    cases letterB (bt s i) <;> cases digitB (bt s i) <;> simp
  · rw [spec_l00Word.lv0_eq, if_neg (by omega)]
theorem impl_NameOK_l (s : ByteArray) (hs : s.size ≤ 9223372036854775807) (i : Int) (h : 0 ≤ i) : impl_NameOK.lv0 s s.size i = some (allI (fun j => letterB (bt s j) || digitB (bt s j)) i s.size) := by
  refine loop_all (L := fun i => impl_NameOK.lv0 s s.size i) _ s.size (by omega) (fun i h0 h1 => ?_) (fun i h0 h1 => ?_) _ i rfl h
  · rw [impl_NameOK.lv0_eq, if_pos h1, if_pos h0, if_pos h1, impl_isLetter_v]
    simp only [Option.bind_some]
    cases letterB (bt s i) <;> simp [digitB]
    by_cases h2 : bt s i < 48
    · simp [h2, show ¬ 48 ≤ bt s i by omega]
    · by_cases h3 : 57 < bt s i
      · simp [h2, h3, show ¬ bt s i ≤ 57 by omega]
      · simp [h2, h3, show 48 ≤ bt s i by omega, show bt s i ≤ 57 by omega]
  · rw [impl_NameOK.lv0_eq, if_neg (by omega)]
theorem spec_NameOK_v (s : ByteArray) (hs : s.size ≤ 9223372036854775807) : spec_NameOK.v s = some (nameB s) := by
  rw [spec_NameOK.v_eq, spec_l00Word.v_eq]
  simp only [spec_l00Letter_v, spec_l00Word.jv0_eq, spec_l00Word_l s hs 1 (by omega), Option.bind_some, nameB]
  by_cases h1 : (s.size : Int) < 1
  · simp [h1]; omega
  · by_cases h2 : (s.size : Int) > 40
    · simp [h1, h2]; omega
    · simp only [if_neg h1, if_neg h2, if_pos (show 0 < (s.size : Int) by omega), Option.bind_some, show (1 ≤ s.size ∧ s.size ≤ 40) = True by simp; omega]
      cases letterB (bt s 0) <;> simp
theorem impl_NameOK_v (s : ByteArray) (hs : s.size ≤ 9223372036854775807) : impl_NameOK.v s = some (nameB s) := by
  rw [impl_NameOK.v_eq]
  simp only [impl_isLetter_v, impl_NameOK.jv0_eq, impl_NameOK_l s hs 0 (by omega), Option.bind_some, nameB]
  by_cases h1 : (s.size : Int) < 1
  · simp [h1]; omega
  · by_cases h2 : (s.size : Int) > 40
    · simp [h1, h2]; omega
    · simp only [if_neg h1, if_neg h2, if_pos (show 0 < (s.size : Int) by omega), Option.bind_some, show (1 ≤ s.size ∧ s.size ≤ 40) = True by simp; omega]
      rw [allI_step (i := 0) (by omega)]
      cases letterB (bt s 0) <;> simp
theorem spec_l02Text_v (s : ByteArray) (n : Int) (hs : s.size ≤ 9223372036854775807) : spec_l02Text.v s n = some (decide ((s.size : Int) ≤ n) && nameB s) := by
  rw [spec_l02Text.v_eq, spec_l01In_v, spec_NameOK_v s hs]
  simp only [Option.bind_some, inB]
  by_cases h : (1 : Int) ≤ s.size ∧ (s.size : Int) ≤ n
  · simp [h]
  · by_cases h2 : (s.size : Int) ≤ n
    · simp [h, h2, nameB, show ¬ (1 ≤ s.size) by omega]
    · simp [h, h2]
theorem impl_isOpName_v (s : ByteArray) (hs : s.size ≤ 9223372036854775807) : impl_isOpName.v s = some (decide ((s.size : Int) ≤ 12) && nameB s) := by
  rw [impl_isOpName.v_eq, impl_NameOK_v s hs]
  by_cases h : (s.size : Int) ≤ 12 <;> simp [h]
theorem grantOK_v (a : ByteArray) (b c d : Int) (ha : a.size ≤ 9223372036854775807) : impl_GrantOK.v a b c d = some ((decide ((a.size : Int) ≤ 12) && nameB a) && (inB b 0 255 && (inB c 1 1000000 && inB d 0 2000000000))) := by
  rw [impl_GrantOK.v_eq, impl_isOpName_v a ha]
  simp only [impl_within_v, Option.bind_some]
  cases (decide ((a.size : Int) ≤ 12) && nameB a) <;> cases inB b 0 255 <;> cases inB c 1 1000000 <;> simp
theorem spec_grantOK_v (a : ByteArray) (b c d : Int) (ha : a.size ≤ 9223372036854775807) : spec_GrantOK.v a b c d = some ((decide ((a.size : Int) ≤ 12) && nameB a) && (inB b 0 255 && (inB c 1 1000000 && inB d 0 2000000000))) := by
  rw [spec_GrantOK.v_eq, spec_l02Text_v a 12 ha]
  simp only [spec_l01In_v, Option.bind_some]
  cases (decide ((a.size : Int) ≤ 12) && nameB a) <;> cases inB b 0 255 <;> cases inB c 1 1000000 <;> simp
def grantB (a : ByteArray) (b c d : Int) : Bool := (decide ((a.size : Int) ≤ 12) && nameB a) && (inB b 0 255 && (inB c 1 1000000 && inB d 0 2000000000))
theorem grantB_facts {a : ByteArray} {b c d : Int} (h : grantB a b c d = true) : a.size ≤ 12 ∧ 0 ≤ b ∧ b ≤ 255 ∧ 1 ≤ c ∧ c ≤ 1000000 ∧ 0 ≤ d ∧ d ≤ 2000000000 := by
  unfold grantB inB at h
  simp only [Bool.and_eq_true, decide_eq_true_eq] at h
  omega
theorem eqS_v (l : List ByteArray) (h : l.length ≤ 281474976710656) : laws_eqStringS.v l l = some true := by
  rw [laws_eqStringS.v_eq, if_pos rfl, loop_all (L := fun i => laws_eqStringS.lv0 l l i) (fun _ => true) l.length (by omega) (fun i h0 h1 => by
    show laws_eqStringS.lv0 l l i = _
    rw [laws_eqStringS.lv0_eq, if_pos h1, if_pos h0, if_pos h1, if_pos rfl]; rfl) (fun i h0 h1 => by
    show laws_eqStringS.lv0 l l i = _
    rw [laws_eqStringS.lv0_eq, if_neg (by omega)]) _ 0 rfl (by omega), (allI_iff _ _ _ _ rfl).2 (fun _ _ _ => rfl)]
theorem decB_pow : ∀ (k n : Nat), n < 10 ^ (k + 1) → (decB n).size ≤ k + 1
  | 0, n, h => by rw [decB_size_one n (by omega)]; omega
  | k + 1, n, h => by
    by_cases h1 : n < 10
    · rw [decB_size_one n h1]; omega
    · have h2 : n / 10 < 10 ^ (k + 1) := by rw [Nat.pow_succ] at h; omega
      have := decB_pow k (n / 10) h2
      rw [decB_big n h1, ByteArray.size_append, decB_size_one (n % 10) (Nat.mod_lt _ (by omega))]
      omega
theorem digits_s (n : Int) (h0 : 0 ≤ n) (h1 : n ≤ 2000000000) : ∃ t, spec_l00Digits.v n = some t ∧ strconv_Itoa.v n = some t ∧ t.size ≤ 10 := by
  obtain ⟨m, rfl⟩ : ∃ m : Nat, n = m := ⟨n.toNat, by omega⟩
  have := decB_pow 9 m (by have : (10 : Nat) ^ (9 + 1) = 10000000000 := by decide
                           omega)
  exact ⟨decB m, digits_v m m (by omega) (by omega), itoa_v m (by omega), this⟩
theorem grantText_small (a : ByteArray) (b c d : Int) (h : grantB a b c d = true) : ∃ t, spec_l12Text.v a b c d = some t ∧ impl_grantText.v a b c d = some t ∧ t.size ≤ 1000 := by
  obtain ⟨h0, h1, h2, h3, h4, h5, h6⟩ := grantB_facts h
  obtain ⟨x, x1, x2, x3⟩ := digits_s b h1 (by omega)
  obtain ⟨y, y1, y2, y3⟩ := digits_s c (by omega) (by omega)
  obtain ⟨z, z1, z2, z3⟩ := digits_s d h5 (by omega)
  have k6 : (⟨#[103, 114, 97, 110, 116, 32]⟩ : ByteArray).size = 6 := rfl
  have k1 : (⟨#[32]⟩ : ByteArray).size = 1 := rfl
  rw [spec_l12Text.v_eq, impl_grantText.v_eq, x1, x2, y1, y2, z1, z2]
  simp only [Option.bind_some, ByteArray.size_append, k6, k1]
  rw [if_pos (by omega), if_pos (by omega), if_pos (by omega), if_pos (by omega), if_pos (by omega), if_pos (by omega), if_pos (by omega)]
  exact ⟨_, rfl, rfl, by simp only [ByteArray.size_append, k6, k1]; omega⟩
abbrev Sig5 := Int × List ByteArray × List ByteArray × List ByteArray × Int
theorem signGrant_eq (x y : Int) (a : ByteArray) (b c d : Int) (ha : a.size ≤ 9223372036854775807) : ∃ r : Sig5, spec_SignGrant.v x y a b c d = some r ∧ impl_SignGrant.v x y a b c d = some r ∧ r.2.1.length ≤ 32 ∧ r.2.2.1.length ≤ 32 ∧ r.2.2.2.1.length ≤ 3 := by
  rw [spec_SignGrant.v_eq, impl_SignGrant.v_eq, grantOK_v a b c d ha, spec_grantOK_v a b c d ha]
  simp only [Option.bind_some, spec_l01In_v, impl_within_v, impl_isIndex.v_eq, spec_SignGrant.jv0_eq, impl_SignGrant.jv0_eq]
  by_cases hg : ((decide ((a.size : Int) ≤ 12) && nameB a) && (inB b 0 255 && (inB c 1 1000000 && inB d 0 2000000000))) = true
  · rw [if_pos hg, if_pos hg]
    obtain ⟨m, m1, m2, m3⟩ := grantText_small a b c d hg
    obtain ⟨s, s1, s2, s3⟩ := root_seed x
    by_cases hx : inB x 0 6 = true
    · rw [if_pos hx, if_pos hx]
      by_cases hy : inB y 0 7 = true
      · have hy2 : 0 ≤ y ∧ y ≤ 7 := by
          unfold inB at hy
          simp at hy
          omega
        obtain ⟨n, rfl⟩ : ∃ n : Nat, y = n := ⟨y.toNat, by omega⟩
        rw [hy]
        simp only [Bool.not_true, Bool.false_eq_true, if_false, s1, s2, m1, m2, Option.bind_some]
        obtain ⟨t, t1, t2, t3⟩ := sign_one s m (by omega) (by omega) n (by omega)
        rw [t1, t2]
        exact ⟨_, rfl, rfl, t3⟩
      · rw [Bool.not_eq_true] at hy
        rw [hy]
        exact ⟨_, rfl, rfl, by simp⟩
    · rw [if_neg hx, if_neg hx]
      exact ⟨_, rfl, rfl, by simp⟩
  · rw [if_neg hg, if_neg hg]
    exact ⟨_, rfl, rfl, by simp⟩
theorem FnExactSignGrant_pure (a0 : Int) (a1 : Int) (y2 : S53) : (Lit.int .i64 a0).wf = true → (Lit.int .i64 a1).wf = true → good53 y2 → laws_FnExactSignGrant.v a0 a1 y2.f0 y2.f1 y2.f2 y2.f3 = some true := by
  intro _ _ hg
  have ha : y2.f0.size ≤ 9223372036854775807 := hg.1
  have hsz : ∃ t, laws_szGrant.v y2.f0 y2.f1 y2.f2 y2.f3 1048576 = some t := by
    rw [laws_szGrant.v_eq]
    split <;> exact ⟨_, rfl⟩
  obtain ⟨t, e⟩ := hsz
  rw [laws_FnExactSignGrant.v_eq, e, Option.bind_some]
  by_cases h0 : t < 0
  · rw [if_pos h0]
  obtain ⟨r, r1, r2, r3, r4, r5⟩ := signGrant_eq a0 a1 y2.f0 y2.f1 y2.f2 y2.f3 ha
  obtain ⟨p1, m1, n1⟩ := strings_heldK r.2.1 1 (by omega) (by omega) (by omega)
  obtain ⟨p2, m2, n2⟩ := strings_heldK r.2.2.1 (1 + (r.2.1.length : Int)) (by omega) (by omega) (by omega)
  obtain ⟨p3, m3, n3⟩ := strings_heldK r.2.2.2.1 (1 + (r.2.1.length : Int) + (r.2.2.1.length : Int)) (by omega) (by omega) (by omega)
  have c1 : ¬ ((1 : Int) + (r.2.1.length : Int) < 0) := by omega
  have c2 : ¬ ((1 : Int) + (r.2.1.length : Int) + (r.2.2.1.length : Int) < 0) := by omega
  have c3 : ¬ ((1 : Int) + (r.2.1.length : Int) + (r.2.2.1.length : Int) + (r.2.2.2.1.length : Int) < 0) := by omega
  simp only [if_neg h0, laws_toGrant.v_eq, Option.bind_some, r1, r2, if_true, bne_self_eq_false, laws_FnExactSignGrant.jv0_eq, laws_FnExactSignGrant.jv1_eq, laws_eqKeySignature.v_eq, laws_markKeySignature.v_eq, laws_heldKeySignature.v_eq, eqS_v r.2.1 (show r.2.1.length ≤ 281474976710656 by omega), eqS_v r.2.2.1 (show r.2.2.1.length ≤ 281474976710656 by omega), eqS_v r.2.2.2.1 (show r.2.2.2.1.length ≤ 281474976710656 by omega), m1, m2, m3, n1, n2, n3, if_neg c1, if_neg c2, if_neg c3, Bool.false_eq_true, if_false]
end Go.Proofs.YtadablpppkjdbaaDoor.B
end
