/- A part of the proof that FnExactProofsOf returns true at every input: plain functions, contracts and lemmas. No conditions. -/
import Derived.Test.YtadablpppkjdbaaDoorQProofsOfa
set_option linter.unusedVariables false
set_option linter.unusedSimpArgs false
set_option linter.unusedSectionVars false
section
namespace Go.Proofs.YtadablpppkjdbaaDoor.A
open Go.RowKit Go.Proofs.YtadablpppkjdbaaDoorW.PrintWords Go.Proofs.YtadablpppkjdbaaDoorW.PrintLast Go.Proofs.YtadablpppkjdbaaDoorW.PrintMore
attribute [local go_sem] max2_int min2_int max_two min_two max_three min_three max_four min_four
def spec_l00Join.l0 : Nat → List ByteArray → ByteArray → ByteArray → Int → Option (ByteArray)
  | 0, _, _, _, _ => none
  | k + 1, x0, x1, x5, x6 => if x6 < (x0.length : Int) then (if x6 > 0 then (if x5.size + x1.size ≤ 9223372036854775807 then (if 0 ≤ x6 then (if (x5 ++ x1).size + (rdOf ByteArray.empty x0 x6).size ≤ 9223372036854775807 then (spec_l00Join.l0 k x0 x1 ((x5 ++ x1) ++ (rdOf ByteArray.empty x0 x6)) (wrap64 (x6 + 1))) else (none)) else (none)) else (none)) else (if 0 ≤ x6 then (if x5.size + (rdOf ByteArray.empty x0 x6).size ≤ 9223372036854775807 then (spec_l00Join.l0 k x0 x1 (x5 ++ (rdOf ByteArray.empty x0 x6)) (wrap64 (x6 + 1))) else (none)) else (none))) else (some x5)
def spec_l00Join.f (k : Nat) (l0 : List ByteArray) (a1 : ByteArray) : Option (ByteArray) := spec_l00Join.l0 k l0 a1 (⟨#[]⟩ : ByteArray) 0
theorem spec_l00Join.mono_l : ∀ k, (∀ y0 y1 y2 y3, LeO (spec_l00Join.l0 k y0 y1 y2 y3) (spec_l00Join.l0 (k + 1) y0 y1 y2 y3))
  | 0 => fun _ _ _ _ r h => by simp [spec_l00Join.l0] at h
  | k + 1 => by
    have ih0 := spec_l00Join.mono_l k
    · intro y0 y1 y2 y3
      unfold spec_l00Join.l0
      repeat' first
      | (with_reducible exact ih0 _ _ _ _)
      | (with_reducible exact LeO.refl _)
      | (with_reducible exact LeO.none _)
      | (with_reducible refine LeO.ite ?_ ?_)
      | (with_reducible refine LeO.bind ?_ (fun _ => ?_))
      | exact ih0 _ _ _ _
      | exact LeO.none _
      | refine LeO.ite ?_ ?_
      | refine LeO.bind ?_ (fun _ => ?_)
theorem spec_l00Join.mono : ∀ a0 a1 k, LeO (spec_l00Join.f k a0 a1) (spec_l00Join.f (k + 1) a0 a1) := by
  intro a0 a1 k
  have ih0 := spec_l00Join.mono_l k
  unfold spec_l00Join.f
  repeat' first
      | (with_reducible exact ih0 _ _ _ _)
      | (with_reducible exact LeO.refl _)
      | (with_reducible exact LeO.none _)
      | (with_reducible refine LeO.ite ?_ ?_)
      | (with_reducible refine LeO.bind ?_ (fun _ => ?_))
      | exact ih0 _ _ _ _
      | exact LeO.none _
      | refine LeO.ite ?_ ?_
      | refine LeO.bind ?_ (fun _ => ?_)
noncomputable def spec_l00Join.lv0 (x0 : List ByteArray) (x1 : ByteArray) (x5 : ByteArray) (x6 : Int) : Option (ByteArray) := lim (fun k_ => spec_l00Join.l0 k_ x0 x1 x5 x6)
noncomputable def spec_l00Join.v (l0 : List ByteArray) (a1 : ByteArray) : Option (ByteArray) := lim (fun k_ => spec_l00Join.f k_ l0 a1)
theorem spec_l00Join.lv0_lim (x0 : List ByteArray) (x1 : ByteArray) (x5 : ByteArray) (x6 : Int) : LimIs (fun k_ => spec_l00Join.l0 k_ x0 x1 x5 x6) (spec_l00Join.lv0 x0 x1 x5 x6) := lim_is (fun k_ => (spec_l00Join.mono_l k_) x0 x1 x5 x6)
theorem spec_l00Join.v_lim (l0 : List ByteArray) (a1 : ByteArray) : LimIs (fun k_ => spec_l00Join.f k_ l0 a1) (spec_l00Join.v l0 a1) := lim_is (fun k_ => spec_l00Join.mono l0 a1 k_)
theorem spec_l00Join.lv0_eq (x0 : List ByteArray) (x1 : ByteArray) (x5 : ByteArray) (x6 : Int) : spec_l00Join.lv0 x0 x1 x5 x6 = (if x6 < (x0.length : Int) then (if x6 > 0 then (if x5.size + x1.size ≤ 9223372036854775807 then (if 0 ≤ x6 then (if (x5 ++ x1).size + (rdOf ByteArray.empty x0 x6).size ≤ 9223372036854775807 then (spec_l00Join.lv0 x0 x1 ((x5 ++ x1) ++ (rdOf ByteArray.empty x0 x6)) (wrap64 (x6 + 1))) else (none)) else (none)) else (none)) else (if 0 ≤ x6 then (if x5.size + (rdOf ByteArray.empty x0 x6).size ≤ 9223372036854775807 then (spec_l00Join.lv0 x0 x1 (x5 ++ (rdOf ByteArray.empty x0 x6)) (wrap64 (x6 + 1))) else (none)) else (none))) else (some x5) : Option (ByteArray)) := by
  refine LimIs.eq (spec_l00Join.lv0_lim x0 x1 x5 x6) ?_
  refine LimIs.step (fun k_ => (spec_l00Join.mono_l k_) x0 x1 x5 x6) ?_
  simp only [spec_l00Join.l0]
  repeat' (with_reducible first | exact spec_l00Join.lv0_lim _ _ _ _ | exact LimIs.const _ | refine LimIs.ite ?_ ?_ | refine LimIs.bind ?_ (fun _ => ?_))
theorem spec_l00Join.v_eq (l0 : List ByteArray) (a1 : ByteArray) : spec_l00Join.v l0 a1 = (spec_l00Join.lv0 l0 a1 (⟨#[]⟩ : ByteArray) 0 : Option (ByteArray)) := by
  refine LimIs.eq (spec_l00Join.v_lim l0 a1) ?_
  simp only [spec_l00Join.f]
  repeat' (with_reducible first | exact spec_l00Join.lv0_lim _ _ _ _ | exact LimIs.const _ | refine LimIs.ite ?_ ?_ | refine LimIs.bind ?_ (fun _ => ?_))
def spec_l10Proofs.l0 : Nat → List ByteArray → List ByteArray → Int → Option (List ByteArray)
  | 0, _, _, _ => none
  | k + 1, x0, x3, x4 => if x4 < (x0.length : Int) then ((spec_l09Path.f k x0 x4).bind fun t361 => ((spec_l00Join.f k t361 (⟨#[]⟩ : ByteArray)).bind fun t364 => (if x3.length < 8796093022208 then (spec_l10Proofs.l0 k x0 (x3 ++ [t364]) (wrap64 (x4 + 1))) else (none)))) else (some x3)
def spec_l10Proofs.f (k : Nat) (l0 : List ByteArray) : Option (List ByteArray) := spec_l10Proofs.l0 k l0 (([] : List ByteArray)) 0
theorem spec_l10Proofs.mono_l : ∀ k, (∀ y0 y1 y2, LeO (spec_l10Proofs.l0 k y0 y1 y2) (spec_l10Proofs.l0 (k + 1) y0 y1 y2))
  | 0 => fun _ _ _ r h => by simp [spec_l10Proofs.l0] at h
  | k + 1 => by
    have ih0 := spec_l10Proofs.mono_l k
    · intro y0 y1 y2
      unfold spec_l10Proofs.l0
      repeat' first
      | (with_reducible exact ih0 _ _ _)
      | (with_reducible exact spec_l00Join.mono _ _ _)
      | (with_reducible exact spec_l09Path.mono _ _ _)
      | (with_reducible exact LeO.refl _)
      | (with_reducible exact LeO.none _)
      | (with_reducible refine LeO.ite ?_ ?_)
      | (with_reducible refine LeO.bind ?_ (fun _ => ?_))
      | exact ih0 _ _ _
      | exact spec_l00Join.mono _ _ _
      | exact spec_l09Path.mono _ _ _
      | exact LeO.none _
      | refine LeO.ite ?_ ?_
      | refine LeO.bind ?_ (fun _ => ?_)
theorem spec_l10Proofs.mono : ∀ a0 k, LeO (spec_l10Proofs.f k a0) (spec_l10Proofs.f (k + 1) a0) := by
  intro a0 k
  have ih0 := spec_l10Proofs.mono_l k
  unfold spec_l10Proofs.f
  repeat' first
      | (with_reducible exact ih0 _ _ _)
      | (with_reducible exact spec_l00Join.mono _ _ _)
      | (with_reducible exact spec_l09Path.mono _ _ _)
      | (with_reducible exact LeO.refl _)
      | (with_reducible exact LeO.none _)
      | (with_reducible refine LeO.ite ?_ ?_)
      | (with_reducible refine LeO.bind ?_ (fun _ => ?_))
      | exact ih0 _ _ _
      | exact spec_l00Join.mono _ _ _
      | exact spec_l09Path.mono _ _ _
      | exact LeO.none _
      | refine LeO.ite ?_ ?_
      | refine LeO.bind ?_ (fun _ => ?_)
noncomputable def spec_l10Proofs.lv0 (x0 : List ByteArray) (x3 : List ByteArray) (x4 : Int) : Option (List ByteArray) := lim (fun k_ => spec_l10Proofs.l0 k_ x0 x3 x4)
noncomputable def spec_l10Proofs.v (l0 : List ByteArray) : Option (List ByteArray) := lim (fun k_ => spec_l10Proofs.f k_ l0)
theorem spec_l10Proofs.lv0_lim (x0 : List ByteArray) (x3 : List ByteArray) (x4 : Int) : LimIs (fun k_ => spec_l10Proofs.l0 k_ x0 x3 x4) (spec_l10Proofs.lv0 x0 x3 x4) := lim_is (fun k_ => (spec_l10Proofs.mono_l k_) x0 x3 x4)
theorem spec_l10Proofs.v_lim (l0 : List ByteArray) : LimIs (fun k_ => spec_l10Proofs.f k_ l0) (spec_l10Proofs.v l0) := lim_is (fun k_ => spec_l10Proofs.mono l0 k_)
theorem spec_l10Proofs.lv0_eq (x0 : List ByteArray) (x3 : List ByteArray) (x4 : Int) : spec_l10Proofs.lv0 x0 x3 x4 = (if x4 < (x0.length : Int) then ((spec_l09Path.v x0 x4).bind fun t361 => ((spec_l00Join.v t361 (⟨#[]⟩ : ByteArray)).bind fun t364 => (if x3.length < 8796093022208 then (spec_l10Proofs.lv0 x0 (x3 ++ [t364]) (wrap64 (x4 + 1))) else (none)))) else (some x3) : Option (List ByteArray)) := by
  refine LimIs.eq (spec_l10Proofs.lv0_lim x0 x3 x4) ?_
  refine LimIs.step (fun k_ => (spec_l10Proofs.mono_l k_) x0 x3 x4) ?_
  simp only [spec_l10Proofs.l0]
  repeat' (with_reducible first | exact spec_l00Join.v_lim _ _ | exact spec_l09Path.v_lim _ _ | exact spec_l10Proofs.lv0_lim _ _ _ | exact LimIs.const _ | refine LimIs.ite ?_ ?_ | refine LimIs.bind ?_ (fun _ => ?_))
theorem spec_l10Proofs.v_eq (l0 : List ByteArray) : spec_l10Proofs.v l0 = (spec_l10Proofs.lv0 l0 (([] : List ByteArray)) 0 : Option (List ByteArray)) := by
  refine LimIs.eq (spec_l10Proofs.v_lim l0) ?_
  simp only [spec_l10Proofs.f]
  repeat' (with_reducible first | exact spec_l10Proofs.lv0_lim _ _ _ | exact LimIs.const _ | refine LimIs.ite ?_ ?_ | refine LimIs.bind ?_ (fun _ => ?_))
def spec_ProofsOf.f (k : Nat) (l0 : List ByteArray) : Option (List ByteArray × Int) := if (l0.length : Int) > 4096 then (some ((([] : List ByteArray)), 2)) else ((spec_l09OK.f k l0).bind fun t371 => (if t371 = true then ((spec_l10Proofs.f k l0).bind fun t372 => (some (t372, 0))) else (some ((([] : List ByteArray)), 1))))
theorem spec_ProofsOf.mono : ∀ a0 k, LeO (spec_ProofsOf.f k a0) (spec_ProofsOf.f (k + 1) a0) := by
  intro a0 k
  unfold spec_ProofsOf.f
  repeat' first
      | (with_reducible exact spec_l09OK.mono _ _)
      | (with_reducible exact spec_l10Proofs.mono _ _)
      | (with_reducible exact LeO.refl _)
      | (with_reducible exact LeO.none _)
      | (with_reducible refine LeO.ite ?_ ?_)
      | (with_reducible refine LeO.bind ?_ (fun _ => ?_))
      | exact spec_l09OK.mono _ _
      | exact spec_l10Proofs.mono _ _
      | exact LeO.none _
      | refine LeO.ite ?_ ?_
      | refine LeO.bind ?_ (fun _ => ?_)
noncomputable def spec_ProofsOf.v (l0 : List ByteArray) : Option (List ByteArray × Int) := lim (fun k_ => spec_ProofsOf.f k_ l0)
theorem spec_ProofsOf.v_lim (l0 : List ByteArray) : LimIs (fun k_ => spec_ProofsOf.f k_ l0) (spec_ProofsOf.v l0) := lim_is (fun k_ => spec_ProofsOf.mono l0 k_)
theorem spec_ProofsOf.v_eq (l0 : List ByteArray) : spec_ProofsOf.v l0 = (if (l0.length : Int) > 4096 then (some ((([] : List ByteArray)), 2)) else ((spec_l09OK.v l0).bind fun t371 => (if t371 = true then ((spec_l10Proofs.v l0).bind fun t372 => (some (t372, 0))) else (some ((([] : List ByteArray)), 1)))) : Option (List ByteArray × Int)) := by
  refine LimIs.eq (spec_ProofsOf.v_lim l0) ?_
  simp only [spec_ProofsOf.f]
  repeat' (with_reducible first | exact spec_l09OK.v_lim _ | exact spec_l10Proofs.v_lim _ | exact LimIs.const _ | refine LimIs.ite ?_ ?_ | refine LimIs.bind ?_ (fun _ => ?_))
def impl_ProofsOf.l0 : Nat → List ByteArray → List ByteArray → Int → Int → Option (List ByteArray × Int)
  | 0, _, _, _, _ => none
  | k + 1, x0, x4, x12, x13 => if x13 < x12 then ((impl_prove.f k x0 x13).bind fun t380 => ((strings_Join.f t380 (⟨#[]⟩ : ByteArray)).bind fun t383 => (if x4.length < 8796093022208 then (impl_ProofsOf.l0 k x0 (x4 ++ [t383]) x12 (wrap64 (x13 + 1))) else (none)))) else (some (x4, 0))
def impl_ProofsOf.f (k : Nat) (l0 : List ByteArray) : Option (List ByteArray × Int) := (impl_isLongList_string.f l0).bind fun t378 => (if t378 = true then (some (([] : List ByteArray), 2)) else ((impl_arePieces.f k l0).bind fun t379 => (if t379 = true then (impl_ProofsOf.l0 k l0 ([] : List ByteArray) (l0.length : Int) 0) else (some (([] : List ByteArray), 1)))))
theorem impl_ProofsOf.mono_l : ∀ k, (∀ y0 y1 y2 y3, LeO (impl_ProofsOf.l0 k y0 y1 y2 y3) (impl_ProofsOf.l0 (k + 1) y0 y1 y2 y3))
  | 0 => fun _ _ _ _ r h => by simp [impl_ProofsOf.l0] at h
  | k + 1 => by
    have ih0 := impl_ProofsOf.mono_l k
    · intro y0 y1 y2 y3
      unfold impl_ProofsOf.l0
      repeat' first
      | (with_reducible exact ih0 _ _ _ _)
      | (with_reducible exact impl_arePieces.mono _ _)
      | (with_reducible exact impl_prove.mono _ _ _)
      | (with_reducible exact LeO.refl _)
      | (with_reducible exact LeO.none _)
      | (with_reducible refine LeO.ite ?_ ?_)
      | (with_reducible refine LeO.bind ?_ (fun _ => ?_))
      | exact ih0 _ _ _ _
      | exact impl_arePieces.mono _ _
      | exact impl_prove.mono _ _ _
      | exact LeO.none _
      | refine LeO.ite ?_ ?_
      | refine LeO.bind ?_ (fun _ => ?_)
theorem impl_ProofsOf.mono : ∀ a0 k, LeO (impl_ProofsOf.f k a0) (impl_ProofsOf.f (k + 1) a0) := by
  intro a0 k
  have ih0 := impl_ProofsOf.mono_l k
  unfold impl_ProofsOf.f
  repeat' first
      | (with_reducible exact ih0 _ _ _ _)
      | (with_reducible exact impl_arePieces.mono _ _)
      | (with_reducible exact impl_prove.mono _ _ _)
      | (with_reducible exact LeO.refl _)
      | (with_reducible exact LeO.none _)
      | (with_reducible refine LeO.ite ?_ ?_)
      | (with_reducible refine LeO.bind ?_ (fun _ => ?_))
      | exact ih0 _ _ _ _
      | exact impl_arePieces.mono _ _
      | exact impl_prove.mono _ _ _
      | exact LeO.none _
      | refine LeO.ite ?_ ?_
      | refine LeO.bind ?_ (fun _ => ?_)
noncomputable def impl_ProofsOf.lv0 (x0 : List ByteArray) (x4 : List ByteArray) (x12 : Int) (x13 : Int) : Option (List ByteArray × Int) := lim (fun k_ => impl_ProofsOf.l0 k_ x0 x4 x12 x13)
noncomputable def impl_ProofsOf.v (l0 : List ByteArray) : Option (List ByteArray × Int) := lim (fun k_ => impl_ProofsOf.f k_ l0)
theorem impl_ProofsOf.lv0_lim (x0 : List ByteArray) (x4 : List ByteArray) (x12 : Int) (x13 : Int) : LimIs (fun k_ => impl_ProofsOf.l0 k_ x0 x4 x12 x13) (impl_ProofsOf.lv0 x0 x4 x12 x13) := lim_is (fun k_ => (impl_ProofsOf.mono_l k_) x0 x4 x12 x13)
theorem impl_ProofsOf.v_lim (l0 : List ByteArray) : LimIs (fun k_ => impl_ProofsOf.f k_ l0) (impl_ProofsOf.v l0) := lim_is (fun k_ => impl_ProofsOf.mono l0 k_)
theorem impl_ProofsOf.lv0_eq (x0 : List ByteArray) (x4 : List ByteArray) (x12 : Int) (x13 : Int) : impl_ProofsOf.lv0 x0 x4 x12 x13 = (if x13 < x12 then ((impl_prove.v x0 x13).bind fun t380 => ((strings_Join.v t380 (⟨#[]⟩ : ByteArray)).bind fun t383 => (if x4.length < 8796093022208 then (impl_ProofsOf.lv0 x0 (x4 ++ [t383]) x12 (wrap64 (x13 + 1))) else (none)))) else (some (x4, 0)) : Option (List ByteArray × Int)) := by
  refine LimIs.eq (impl_ProofsOf.lv0_lim x0 x4 x12 x13) ?_
  refine LimIs.step (fun k_ => (impl_ProofsOf.mono_l k_) x0 x4 x12 x13) ?_
  simp only [impl_ProofsOf.l0]
  repeat' (with_reducible first | exact impl_ProofsOf.lv0_lim _ _ _ _ | exact impl_prove.v_lim _ _ | exact strings_Join.v_lim _ _ | exact LimIs.const _ | refine LimIs.ite ?_ ?_ | refine LimIs.bind ?_ (fun _ => ?_))
theorem impl_ProofsOf.v_eq (l0 : List ByteArray) : impl_ProofsOf.v l0 = ((impl_isLongList_string.v l0).bind fun t378 => (if t378 = true then (some (([] : List ByteArray), 2)) else ((impl_arePieces.v l0).bind fun t379 => (if t379 = true then (impl_ProofsOf.lv0 l0 ([] : List ByteArray) (l0.length : Int) 0) else (some (([] : List ByteArray), 1))))) : Option (List ByteArray × Int)) := by
  refine LimIs.eq (impl_ProofsOf.v_lim l0) ?_
  simp only [impl_ProofsOf.f]
  repeat' (with_reducible first | exact impl_ProofsOf.lv0_lim _ _ _ _ | exact impl_arePieces.v_lim _ | exact impl_isLongList_string.v_lim _ | exact LimIs.const _ | refine LimIs.ite ?_ ?_ | refine LimIs.bind ?_ (fun _ => ?_))
mutual
def laws_FnExactProofsOf.j0 : Nat → List ByteArray → List ByteArray → Int → List ByteArray → List ByteArray → Int → Bool → Option (Bool)
  | 0, _, _, _, _, _, _, _ => none
  | k + 1, x0, x4, x5, x6, x7, x8, x40 => if x40 = true then (some false) else ((laws_toStringS.f k x0).bind fun t403 => ((laws_eqStringS.f k x6 t403).bind fun t406 => (if t406 = true then ((laws_markStringS.f k x6 1).bind fun bt407 => (if bt407.1 < 0 then (laws_FnExactProofsOf.j1 k x0 x4 x5 x7 true) else ((laws_eqStringS.f k x7 x4).bind fun t409 => (if t409 = true then (laws_FnExactProofsOf.j1 k x0 x4 x5 x7 (x8 != x5)) else (laws_FnExactProofsOf.j1 k x0 x4 x5 x7 true))))) else (some false))))
def laws_FnExactProofsOf.j1 : Nat → List ByteArray → List ByteArray → Int → List ByteArray → Bool → Option (Bool)
  | 0, _, _, _, _, _ => none
  | k + 1, x0, x4, x5, x7, x61 => if x61 = true then (some false) else ((laws_markStringS.f k x7 1).bind fun bt410 => ((laws_heldStringS.f k bt410.2 1).bind fun t412 => (if t412 < 0 then (some false) else (if t412 = bt410.1 then ((laws_toStringS.f k x0).bind fun t413 => ((impl_ProofsOf.f k t413).bind fun bt416 => ((laws_eqStringS.f k bt416.1 x4).bind fun t420 => (if t420 = true then (laws_FnExactProofsOf.j2 k bt410.2 bt410.1 (bt416.2 != x5)) else (laws_FnExactProofsOf.j2 k bt410.2 bt410.1 true))))) else (some false)))))
def laws_FnExactProofsOf.j2 : Nat → List ByteArray → Int → Bool → Option (Bool)
  | 0, _, _, _ => none
  | k + 1, x7, x10, x87 => if x87 = true then (some false) else ((laws_heldStringS.f k x7 1).bind fun t421 => (if t421 < 0 then (some false) else (if t421 = x10 then (some true) else (some false))))
end
def laws_FnExactProofsOf.f (k : Nat) (l0 : List ByteArray) : Option (Bool) := (laws_szStringS.f k l0 1048576).bind fun t387 => (if t387 < 0 then (some true) else ((laws_toStringS.f k l0).bind fun t388 => ((spec_ProofsOf.f k t388).bind fun bt391 => ((laws_toStringS.f k l0).bind fun t395 => ((impl_ProofsOf.f k t395).bind fun bt398 => ((laws_eqStringS.f k bt398.1 bt391.1).bind fun t402 => (if t402 = true then (laws_FnExactProofsOf.j0 k l0 bt391.1 bt391.2 t395 bt398.1 bt398.2 (bt398.2 != bt391.2)) else (laws_FnExactProofsOf.j0 k l0 bt391.1 bt391.2 t395 bt398.1 bt398.2 true))))))))
theorem laws_FnExactProofsOf.mono_l : ∀ k, (∀ y0 y1 y2 y3 y4 y5 y6, LeO (laws_FnExactProofsOf.j0 k y0 y1 y2 y3 y4 y5 y6) (laws_FnExactProofsOf.j0 (k + 1) y0 y1 y2 y3 y4 y5 y6)) ∧ (∀ y0 y1 y2 y3 y4, LeO (laws_FnExactProofsOf.j1 k y0 y1 y2 y3 y4) (laws_FnExactProofsOf.j1 (k + 1) y0 y1 y2 y3 y4)) ∧ (∀ y0 y1 y2, LeO (laws_FnExactProofsOf.j2 k y0 y1 y2) (laws_FnExactProofsOf.j2 (k + 1) y0 y1 y2))
  | 0 => ⟨fun _ _ _ _ _ _ _ r h => by simp [laws_FnExactProofsOf.j0] at h, fun _ _ _ _ _ r h => by simp [laws_FnExactProofsOf.j1] at h, fun _ _ _ r h => by simp [laws_FnExactProofsOf.j2] at h⟩
  | k + 1 => by
    obtain ⟨ih0, ih1, ih2⟩ := laws_FnExactProofsOf.mono_l k
    refine ⟨?_, ?_, ?_⟩
    · intro y0 y1 y2 y3 y4 y5 y6
      unfold laws_FnExactProofsOf.j0
      repeat' first
      | (with_reducible exact ih0 _ _ _ _ _ _ _)
      | (with_reducible exact ih1 _ _ _ _ _)
      | (with_reducible exact ih2 _ _ _)
      | (with_reducible exact impl_ProofsOf.mono _ _)
      | (with_reducible exact laws_eqStringS.mono _ _ _)
      | (with_reducible exact laws_heldStringS.mono _ _ _)
      | (with_reducible exact laws_markStringS.mono _ _ _)
      | (with_reducible exact laws_szStringS.mono _ _ _)
      | (with_reducible exact laws_toStringS.mono _ _)
      | (with_reducible exact spec_ProofsOf.mono _ _)
      | (with_reducible exact LeO.refl _)
      | (with_reducible exact LeO.none _)
      | (with_reducible refine LeO.ite ?_ ?_)
      | (with_reducible refine LeO.bind ?_ (fun _ => ?_))
      | exact ih0 _ _ _ _ _ _ _
      | exact ih1 _ _ _ _ _
      | exact ih2 _ _ _
      | exact impl_ProofsOf.mono _ _
      | exact laws_eqStringS.mono _ _ _
      | exact laws_heldStringS.mono _ _ _
      | exact laws_markStringS.mono _ _ _
      | exact laws_szStringS.mono _ _ _
      | exact laws_toStringS.mono _ _
      | exact spec_ProofsOf.mono _ _
      | exact LeO.none _
      | refine LeO.ite ?_ ?_
      | refine LeO.bind ?_ (fun _ => ?_)
    · intro y0 y1 y2 y3 y4
      unfold laws_FnExactProofsOf.j1
      repeat' first
      | (with_reducible exact ih0 _ _ _ _ _ _ _)
      | (with_reducible exact ih1 _ _ _ _ _)
      | (with_reducible exact ih2 _ _ _)
      | (with_reducible exact impl_ProofsOf.mono _ _)
      | (with_reducible exact laws_eqStringS.mono _ _ _)
      | (with_reducible exact laws_heldStringS.mono _ _ _)
      | (with_reducible exact laws_markStringS.mono _ _ _)
      | (with_reducible exact laws_szStringS.mono _ _ _)
      | (with_reducible exact laws_toStringS.mono _ _)
      | (with_reducible exact spec_ProofsOf.mono _ _)
      | (with_reducible exact LeO.refl _)
      | (with_reducible exact LeO.none _)
      | (with_reducible refine LeO.ite ?_ ?_)
      | (with_reducible refine LeO.bind ?_ (fun _ => ?_))
      | exact ih0 _ _ _ _ _ _ _
      | exact ih1 _ _ _ _ _
      | exact ih2 _ _ _
      | exact impl_ProofsOf.mono _ _
      | exact laws_eqStringS.mono _ _ _
      | exact laws_heldStringS.mono _ _ _
      | exact laws_markStringS.mono _ _ _
      | exact laws_szStringS.mono _ _ _
      | exact laws_toStringS.mono _ _
      | exact spec_ProofsOf.mono _ _
      | exact LeO.none _
      | refine LeO.ite ?_ ?_
      | refine LeO.bind ?_ (fun _ => ?_)
    · intro y0 y1 y2
      unfold laws_FnExactProofsOf.j2
      repeat' first
      | (with_reducible exact ih0 _ _ _ _ _ _ _)
      | (with_reducible exact ih1 _ _ _ _ _)
      | (with_reducible exact ih2 _ _ _)
      | (with_reducible exact impl_ProofsOf.mono _ _)
      | (with_reducible exact laws_eqStringS.mono _ _ _)
      | (with_reducible exact laws_heldStringS.mono _ _ _)
      | (with_reducible exact laws_markStringS.mono _ _ _)
      | (with_reducible exact laws_szStringS.mono _ _ _)
      | (with_reducible exact laws_toStringS.mono _ _)
      | (with_reducible exact spec_ProofsOf.mono _ _)
      | (with_reducible exact LeO.refl _)
      | (with_reducible exact LeO.none _)
      | (with_reducible refine LeO.ite ?_ ?_)
      | (with_reducible refine LeO.bind ?_ (fun _ => ?_))
      | exact ih0 _ _ _ _ _ _ _
      | exact ih1 _ _ _ _ _
      | exact ih2 _ _ _
      | exact impl_ProofsOf.mono _ _
      | exact laws_eqStringS.mono _ _ _
      | exact laws_heldStringS.mono _ _ _
      | exact laws_markStringS.mono _ _ _
      | exact laws_szStringS.mono _ _ _
      | exact laws_toStringS.mono _ _
      | exact spec_ProofsOf.mono _ _
      | exact LeO.none _
      | refine LeO.ite ?_ ?_
      | refine LeO.bind ?_ (fun _ => ?_)
theorem laws_FnExactProofsOf.mono : ∀ a0 k, LeO (laws_FnExactProofsOf.f k a0) (laws_FnExactProofsOf.f (k + 1) a0) := by
  intro a0 k
  obtain ⟨ih0, ih1, ih2⟩ := laws_FnExactProofsOf.mono_l k
  unfold laws_FnExactProofsOf.f
  repeat' first
      | (with_reducible exact ih0 _ _ _ _ _ _ _)
      | (with_reducible exact ih1 _ _ _ _ _)
      | (with_reducible exact ih2 _ _ _)
      | (with_reducible exact impl_ProofsOf.mono _ _)
      | (with_reducible exact laws_eqStringS.mono _ _ _)
      | (with_reducible exact laws_heldStringS.mono _ _ _)
      | (with_reducible exact laws_markStringS.mono _ _ _)
      | (with_reducible exact laws_szStringS.mono _ _ _)
      | (with_reducible exact laws_toStringS.mono _ _)
      | (with_reducible exact spec_ProofsOf.mono _ _)
      | (with_reducible exact LeO.refl _)
      | (with_reducible exact LeO.none _)
      | (with_reducible refine LeO.ite ?_ ?_)
      | (with_reducible refine LeO.bind ?_ (fun _ => ?_))
      | exact ih0 _ _ _ _ _ _ _
      | exact ih1 _ _ _ _ _
      | exact ih2 _ _ _
      | exact impl_ProofsOf.mono _ _
      | exact laws_eqStringS.mono _ _ _
      | exact laws_heldStringS.mono _ _ _
      | exact laws_markStringS.mono _ _ _
      | exact laws_szStringS.mono _ _ _
      | exact laws_toStringS.mono _ _
      | exact spec_ProofsOf.mono _ _
      | exact LeO.none _
      | refine LeO.ite ?_ ?_
      | refine LeO.bind ?_ (fun _ => ?_)
noncomputable def laws_FnExactProofsOf.jv0 (x0 : List ByteArray) (x4 : List ByteArray) (x5 : Int) (x6 : List ByteArray) (x7 : List ByteArray) (x8 : Int) (x40 : Bool) : Option (Bool) := lim (fun k_ => laws_FnExactProofsOf.j0 k_ x0 x4 x5 x6 x7 x8 x40)
noncomputable def laws_FnExactProofsOf.jv1 (x0 : List ByteArray) (x4 : List ByteArray) (x5 : Int) (x7 : List ByteArray) (x61 : Bool) : Option (Bool) := lim (fun k_ => laws_FnExactProofsOf.j1 k_ x0 x4 x5 x7 x61)
noncomputable def laws_FnExactProofsOf.jv2 (x7 : List ByteArray) (x10 : Int) (x87 : Bool) : Option (Bool) := lim (fun k_ => laws_FnExactProofsOf.j2 k_ x7 x10 x87)
noncomputable def laws_FnExactProofsOf.v (l0 : List ByteArray) : Option (Bool) := lim (fun k_ => laws_FnExactProofsOf.f k_ l0)
theorem laws_FnExactProofsOf.jv0_lim (x0 : List ByteArray) (x4 : List ByteArray) (x5 : Int) (x6 : List ByteArray) (x7 : List ByteArray) (x8 : Int) (x40 : Bool) : LimIs (fun k_ => laws_FnExactProofsOf.j0 k_ x0 x4 x5 x6 x7 x8 x40) (laws_FnExactProofsOf.jv0 x0 x4 x5 x6 x7 x8 x40) := lim_is (fun k_ => (laws_FnExactProofsOf.mono_l k_).1 x0 x4 x5 x6 x7 x8 x40)
theorem laws_FnExactProofsOf.jv1_lim (x0 : List ByteArray) (x4 : List ByteArray) (x5 : Int) (x7 : List ByteArray) (x61 : Bool) : LimIs (fun k_ => laws_FnExactProofsOf.j1 k_ x0 x4 x5 x7 x61) (laws_FnExactProofsOf.jv1 x0 x4 x5 x7 x61) := lim_is (fun k_ => (laws_FnExactProofsOf.mono_l k_).2.1 x0 x4 x5 x7 x61)
theorem laws_FnExactProofsOf.jv2_lim (x7 : List ByteArray) (x10 : Int) (x87 : Bool) : LimIs (fun k_ => laws_FnExactProofsOf.j2 k_ x7 x10 x87) (laws_FnExactProofsOf.jv2 x7 x10 x87) := lim_is (fun k_ => (laws_FnExactProofsOf.mono_l k_).2.2 x7 x10 x87)
theorem laws_FnExactProofsOf.v_lim (l0 : List ByteArray) : LimIs (fun k_ => laws_FnExactProofsOf.f k_ l0) (laws_FnExactProofsOf.v l0) := lim_is (fun k_ => laws_FnExactProofsOf.mono l0 k_)
theorem laws_FnExactProofsOf.jv0_eq (x0 : List ByteArray) (x4 : List ByteArray) (x5 : Int) (x6 : List ByteArray) (x7 : List ByteArray) (x8 : Int) (x40 : Bool) : laws_FnExactProofsOf.jv0 x0 x4 x5 x6 x7 x8 x40 = (if x40 = true then (some false) else ((laws_toStringS.v x0).bind fun t403 => ((laws_eqStringS.v x6 t403).bind fun t406 => (if t406 = true then ((laws_markStringS.v x6 1).bind fun bt407 => (if bt407.1 < 0 then (laws_FnExactProofsOf.jv1 x0 x4 x5 x7 true) else ((laws_eqStringS.v x7 x4).bind fun t409 => (if t409 = true then (laws_FnExactProofsOf.jv1 x0 x4 x5 x7 (x8 != x5)) else (laws_FnExactProofsOf.jv1 x0 x4 x5 x7 true))))) else (some false)))) : Option (Bool)) := by
  refine LimIs.eq (laws_FnExactProofsOf.jv0_lim x0 x4 x5 x6 x7 x8 x40) ?_
  refine LimIs.step (fun k_ => (laws_FnExactProofsOf.mono_l k_).1 x0 x4 x5 x6 x7 x8 x40) ?_
  simp only [laws_FnExactProofsOf.j0]
  repeat' (with_reducible first | exact laws_FnExactProofsOf.jv1_lim _ _ _ _ _ | exact laws_eqStringS.v_lim _ _ | exact laws_markStringS.v_lim _ _ | exact laws_toStringS.v_lim _ | exact LimIs.const _ | refine LimIs.ite ?_ ?_ | refine LimIs.bind ?_ (fun _ => ?_))
theorem laws_FnExactProofsOf.jv1_eq (x0 : List ByteArray) (x4 : List ByteArray) (x5 : Int) (x7 : List ByteArray) (x61 : Bool) : laws_FnExactProofsOf.jv1 x0 x4 x5 x7 x61 = (if x61 = true then (some false) else ((laws_markStringS.v x7 1).bind fun bt410 => ((laws_heldStringS.v bt410.2 1).bind fun t412 => (if t412 < 0 then (some false) else (if t412 = bt410.1 then ((laws_toStringS.v x0).bind fun t413 => ((impl_ProofsOf.v t413).bind fun bt416 => ((laws_eqStringS.v bt416.1 x4).bind fun t420 => (if t420 = true then (laws_FnExactProofsOf.jv2 bt410.2 bt410.1 (bt416.2 != x5)) else (laws_FnExactProofsOf.jv2 bt410.2 bt410.1 true))))) else (some false))))) : Option (Bool)) := by
  refine LimIs.eq (laws_FnExactProofsOf.jv1_lim x0 x4 x5 x7 x61) ?_
  refine LimIs.step (fun k_ => (laws_FnExactProofsOf.mono_l k_).2.1 x0 x4 x5 x7 x61) ?_
  simp only [laws_FnExactProofsOf.j1]
  repeat' (with_reducible first | exact impl_ProofsOf.v_lim _ | exact laws_FnExactProofsOf.jv2_lim _ _ _ | exact laws_eqStringS.v_lim _ _ | exact laws_heldStringS.v_lim _ _ | exact laws_markStringS.v_lim _ _ | exact laws_toStringS.v_lim _ | exact LimIs.const _ | refine LimIs.ite ?_ ?_ | refine LimIs.bind ?_ (fun _ => ?_))
theorem laws_FnExactProofsOf.jv2_eq (x7 : List ByteArray) (x10 : Int) (x87 : Bool) : laws_FnExactProofsOf.jv2 x7 x10 x87 = (if x87 = true then (some false) else ((laws_heldStringS.v x7 1).bind fun t421 => (if t421 < 0 then (some false) else (if t421 = x10 then (some true) else (some false)))) : Option (Bool)) := by
  refine LimIs.eq (laws_FnExactProofsOf.jv2_lim x7 x10 x87) ?_
  refine LimIs.step (fun k_ => (laws_FnExactProofsOf.mono_l k_).2.2 x7 x10 x87) ?_
  simp only [laws_FnExactProofsOf.j2]
  repeat' (with_reducible first | exact laws_heldStringS.v_lim _ _ | exact LimIs.const _ | refine LimIs.ite ?_ ?_ | refine LimIs.bind ?_ (fun _ => ?_))
theorem laws_FnExactProofsOf.v_eq (l0 : List ByteArray) : laws_FnExactProofsOf.v l0 = ((laws_szStringS.v l0 1048576).bind fun t387 => (if t387 < 0 then (some true) else ((laws_toStringS.v l0).bind fun t388 => ((spec_ProofsOf.v t388).bind fun bt391 => ((laws_toStringS.v l0).bind fun t395 => ((impl_ProofsOf.v t395).bind fun bt398 => ((laws_eqStringS.v bt398.1 bt391.1).bind fun t402 => (if t402 = true then (laws_FnExactProofsOf.jv0 l0 bt391.1 bt391.2 t395 bt398.1 bt398.2 (bt398.2 != bt391.2)) else (laws_FnExactProofsOf.jv0 l0 bt391.1 bt391.2 t395 bt398.1 bt398.2 true)))))))) : Option (Bool)) := by
  refine LimIs.eq (laws_FnExactProofsOf.v_lim l0) ?_
  simp only [laws_FnExactProofsOf.f]
  repeat' (with_reducible first | exact impl_ProofsOf.v_lim _ | exact laws_FnExactProofsOf.jv0_lim _ _ _ _ _ _ _ | exact laws_eqStringS.v_lim _ _ | exact laws_szStringS.v_lim _ _ | exact laws_toStringS.v_lim _ | exact spec_ProofsOf.v_lim _ | exact LimIs.const _ | refine LimIs.ite ?_ ?_ | refine LimIs.bind ?_ (fun _ => ?_))
end Go.Proofs.YtadablpppkjdbaaDoor.A
end

section
namespace Go.Proofs.YtadablpppkjdbaaDoorW.PrintWords
open Go.RowKit
theorem add0 (g j : Nat) : (⟨g, 0, none⟩ : Addr).add j = ⟨g, j, none⟩ := by rw [add_plain]; first | done | rw [Nat.zero_add]
/-- Block g holds the bytes l at its head; it has cap cells, none of them marked. -/
structure Bm (W : World) (g cap : Nat) (l : List Int) : Prop where
  cell : ∀ j, j < l.length → W.cell? ⟨g, j, none⟩ = some (.int .u8 (l.getD j 0))
  there : ∀ j, j < cap → (W.cell? ⟨g, j, none⟩).isSome = true
  free : ∀ j, j < cap → W.frozen? ⟨g, j, none⟩ = false
  room : l.length ≤ cap
theorem Bm.at {W W' : World} {g cap : Nat} {l : List Int} (h : Bm W g cap l) (e : W'.heap[g]? = W.heap[g]?) : Bm W' g cap l :=
  ⟨fun j hj => (World.cell?_of_block (a := ⟨g, j, none⟩) e).trans (h.cell j hj), fun j hj => by rw [World.cell?_of_block (a := ⟨g, j, none⟩) e]; exact h.there j hj, fun j hj => (World.frozen?_of_block (a := ⟨g, j, none⟩) e).trans (h.free j hj), h.room⟩
theorem Bm.conv (W : World) (e : Nat) (s : ByteArray) : Bm (Lib.bytesWorld W e s) W.heap.size (grownCap W s.size 0 e) (bytesOf s) := by
  have hc : s.size ≤ grownCap W s.size 0 e := grownCap_ge _ _ _ _
  have hsz : (Lib.bytesCells W e s).size = grownCap W s.size 0 e := by simp [Lib.bytesCells]; omega
  refine ⟨fun j hj => ?_, fun j hj => ?_, fun j hj => ?_, by rw [bytesOf_length]; exact hc⟩
  · rw [bytesOf_length] at hj
    rw [Lib.bytesWorld_cell W e s j hj]
    simp [bytesOf, List.getD, hj]
  · unfold World.cell?
    rw [Lib.bytesWorld_at_new]
    simp [hsz, hj]
  · unfold World.frozen?
    rw [Lib.bytesWorld_at_new]
    simp [hsz]
    omega
section
variable {P : Program} {ops : Array Oper} {rest : List Oper} {o : Oper} {a : Act} {Q : Exit → Act → World → Prop}
theorem Bm.grown {W : World} {g cap : Nat} {l ys : List Int} {e : Nat} {n : Nat} {fill : List Value} (h : Bm W g cap l) (hn : n = l.length + ys.length) :
    ∀ w1, w1.heap[W.heap.size]? = some (.cells (((nums .u8 l) ++ (nums .u8 ys) ++ fill).toArray) e (0, 0)) → Bm w1 W.heap.size (n + fill.length) (l ++ ys) := by
  intro w1 hw
  have hl : (nums .u8 l ++ nums .u8 ys ++ fill).length = n + fill.length := by simp [nums]; omega
  refine ⟨fun j hj => ?_, fun j hj => ?_, fun j hj => ?_, by simp; omega⟩
  · unfold World.cell?
    rw [hw]
    rw [List.length_append] at hj
    simp only [Option.isSome_none, Bool.false_eq_true, if_false, List.getElem?_toArray]
    rw [← nums_append, List.getElem?_append_left (by simp [nums]; omega)]
    have hjl : j < (l ++ ys).length := by rw [List.length_append]; exact hj
    simp only [nums, List.getElem?_map, List.getElem?_eq_getElem hjl, Option.map_some, List.getD, Option.getD_some]
  · unfold World.cell?
    rw [hw]
    simp only [Option.isSome_none, Bool.false_eq_true, if_false, List.getElem?_toArray]
    rw [List.getElem?_eq_getElem (by omega)]
    rfl
  · unfold World.frozen?
    rw [hw]
    simp
theorem Bm.set {W : World} {g cap : Nat} {l ys : List Int} (h : Bm W g cap l) (hr : l.length + ys.length ≤ cap) : Bm (W.setCells g l.length (nums .u8 ys)) g cap (l ++ ys) := by
  have hlen : (nums .u8 ys).length = ys.length := nums_length _ _
  refine ⟨fun j hj => ?_, fun j hj => ?_, fun j hj => ?_, by simp; omega⟩
  · rw [List.length_append] at hj
    by_cases c : j < l.length
    · rw [World.cell?_setCells_out g _ _ _ _ (fun _ _ => by dsimp only; omega), h.cell j c]
      simp [List.getD, List.getElem?_append_left c]
    · have := World.cell?_setCells_in g (nums .u8 ys) l.length W (fun i hi => h.there _ (by omega)) (j - l.length) (by omega)
      rw [show l.length + (j - l.length) = j by omega] at this
      rw [this]
      simp [nums, List.getD, List.getElem?_append_right (show l.length ≤ j by omega), List.getElem?_eq_getElem (show j - l.length < ys.length by omega)]
  · by_cases c : l.length ≤ j ∧ j < l.length + ys.length
    · have := World.cell?_setCells_in g (nums .u8 ys) l.length W (fun i hi => h.there _ (by omega)) (j - l.length) (by omega)
      rw [show l.length + (j - l.length) = j by omega] at this
      rw [this]
      rfl
    · rw [World.cell?_setCells_out g _ _ _ _ (fun _ _ => by dsimp only; omega)]
      exact h.there j hj
  · rw [World.frozen?_setCells]
    exact h.free j hj
theorem setCells_old (b : Nat) : ∀ (vs : List Value) (o : Nat) (w : World), (w.setCells b o vs).os = w.os ∧ (w.setCells b o vs).tape = w.tape ∧ (w.setCells b o vs).output = w.output ∧ (w.setCells b o vs).heap.size = w.heap.size ∧ ∀ k, k ≠ b → (w.setCells b o vs).heap[k]? = w.heap[k]?
  | [], _, w => ⟨rfl, rfl, rfl, rfl, fun _ _ => rfl⟩
  | v :: r, o, w => by
    obtain ⟨h1, h2, h3, h4, h5⟩ := setCells_old b r (o + 1) (w.setCell ⟨b, o, none⟩ v)
    refine ⟨h1, h2, h3, ?_, fun k hk => ?_⟩
    · rw [World.setCells, h4]; simp [World.setCell]
    · rw [World.setCells, h5 k hk]
      simp [World.setCell, Array.getElem?_modify, Ne.symm hk]
/-- An append to such a row. -/
theorem run_append_bm {W : World} {g cap : Nat} {l : List Int} (t u ty e : TypeId) (ht : P.underlying t = some (.slice e)) (hu : P.underlying u = some .string ∨ P.underlying u = some (.slice e)) (hinfo : (P.info? e).map (fun i => (i.zero, i.size, i.bytes)) = some (some (.int .u8 0), 1, 1))
    (x : Value) (ys : List Int) (hlen : ∀ W', (Builtin.lenOf x).run P W' = .ok ys.length W') (hf : ∀ W', W'.heap = W.heap → (Builtin.firstCells 1 ys.length x).run P W' = .ok (nums .u8 ys).toArray W')
    (HB : Bm W g cap l) (hl : l.length + ys.length ≤ 140737488355328) :
    ∃ g' cap' w1, (Builtin.append_ #[t, u] ty #[.slice (some ⟨g, 0, none⟩) l.length cap, x]).run P W = .ok (.slice (some ⟨g', 0, none⟩) (l.length + ys.length) cap') w1 ∧ Bm w1 g' cap' (l ++ ys) ∧ W.grownBy w1 (some g) ∧ (g' = g ∨ W.heap.size ≤ g') := by
  obtain ⟨i, hi, hzz⟩ := Option.map_eq_some_iff.1 hinfo
  simp only [Prod.mk.injEq] at hzz
  obtain ⟨hz, hs1, hb1⟩ := hzz
  have hnl : (nums .u8 ys).length = ys.length := nums_length _ _
  have hnl2 : (nums .u8 l).length = l.length := nums_length _ _
  by_cases hroom : l.length + ys.length ≤ cap
  · have hst := run_storeCells_cells (P := P) g l.length (nums .u8 ys) 0 W (fun j hj => HB.there _ (by omega)) (fun j hj => HB.free _ (by omega)) (fun v hv => by
      obtain ⟨z, _, rfl⟩ := List.mem_map.1 hv; rfl)
    simp only [Nat.add_zero] at hst
    refine ⟨g, cap, W.setCells g l.length (nums .u8 ys), ?_, HB.set hroom, ?_, Or.inl rfl⟩
    · rcases hu with hu | hu <;> simp [Builtin.append_, run_underlying ht, run_underlying hu, sizeOf, typeInfo, hi, hs1, hlen, hroom, hf W rfl, add0, hst]
    · obtain ⟨h1, h2, h3, h4, h5⟩ := setCells_old g (nums .u8 ys) l.length W
      exact ⟨h1, h2, h3, by omega, fun k hk hn => h5 k (by intro e; exact hn (by rw [e]))⟩
  · have h63' : ¬ (9223372036854775807 < ((l.length : Int) + (ys.length : Int))) := by omega
    have hfit : Builtin.nextslicecap (l.length + ys.length) cap * i.bytes ≤ 281474976710656 := by rw [hb1]; exact growslice_fits (by omega) (by omega)
    have h48' : ¬ (281474976710656 < Builtin.nextslicecap (l.length + ys.length) cap * i.bytes) := by omega
    have hfo := run_firstCells_some (P := P) W.drew 1 l.length ⟨g, 0, none⟩ l.length cap (nums .u8 l) (by omega) (fun j v hj => by
      rw [add0]
      have hjl : j < l.length := by
        have := (List.getElem?_eq_some_iff.1 hj).1
        omega
      have := HB.cell j hjl
      simp only [nums, List.getElem?_map, List.getElem?_eq_getElem hjl, Option.map_some, Option.some.injEq] at hj
      subst hj
      simpa [List.getD, hjl] using this)
    have hfs := hf W.drew rfl
    have hr : (Builtin.append_ #[t, u] ty #[.slice (some ⟨g, 0, none⟩) l.length cap, x]).run P W = .ok (.slice (some ⟨W.heap.size, 0, none⟩) (l.length + ys.length) (grownCap W (l.length + ys.length) cap e))
        (W.drew.alloc (.cells ((nums .u8 l).toArray ++ (nums .u8 ys).toArray ++ Builtin.zeroCells #[.int .u8 0] (grownCap W (l.length + ys.length) cap e - (l.length + ys.length))) e)) := by
      rw [← hs1] at hfo hfs
      have hzc : (Value.int .u8 0).cells = #[.int .u8 0] := rfl
      rcases hu with hu | hu <;> simp [Builtin.append_, run_underlying ht, run_underlying hu, sizeOf, typeInfo, zeroValue, hi, hz, hlen, hroom, h63', h48', Question.forced, hfs, hfo, newRow, grownCap, hzc]
      all_goals (congr 2; apply Array.ext'; simp [List.append_assoc])
    have hge : l.length + ys.length ≤ grownCap W (l.length + ys.length) cap e := grownCap_ge _ _ _ _
    refine ⟨W.heap.size, _, _, hr, ?_, ?_, Or.inr (Nat.le_refl _)⟩
    · have := HB.grown (e := e) (ys := ys) (n := l.length + ys.length) (fill := (Builtin.zeroCells #[.int .u8 0] (grownCap W (l.length + ys.length) cap e - (l.length + ys.length))).toList) rfl (W.drew.alloc (.cells ((nums .u8 l).toArray ++ (nums .u8 ys).toArray ++ Builtin.zeroCells #[.int .u8 0] (grownCap W (l.length + ys.length) cap e - (l.length + ys.length))) e)) (by
        simp [World.alloc, World.drew, -World.alloc_eq, -World.drew_eq])
      have hz2 : (Builtin.zeroCells #[.int .u8 0] (grownCap W (l.length + ys.length) cap e - (l.length + ys.length))).toList.length = grownCap W (l.length + ys.length) cap e - (l.length + ys.length) := by simp [Builtin.zeroCells]
      rw [hz2, show l.length + ys.length + (grownCap W (l.length + ys.length) cap e - (l.length + ys.length)) = grownCap W (l.length + ys.length) cap e by omega] at this
      exact this
    · exact ⟨rfl, rfl, rfl, by simp [World.alloc, World.drew, -World.alloc_eq, -World.drew_eq], fun k hk hn => by
        have : W.heap.size ≠ k := by omega
        simp [World.alloc, World.drew, -World.alloc_eq, -World.drew_eq, Array.getElem?_push, Ne.symm this]⟩
end
end Go.Proofs.YtadablpppkjdbaaDoorW.PrintWords
end

section
namespace Go.Proofs.YtadablpppkjdbaaDoorW.PrintWords
open Go.RowKit
/-- What a walk keeps of a row of bytes of its own: block g, behind block n. -/
structure Hs (w W : World) (n g cap : Nat) (l : List Int) : Prop where
  row : Bm W g cap l
  mine : n ≤ g
  lt : g < W.heap.size
  below : Below n w W
theorem Hs.alloc {w W : World} {n g cap : Nat} {l : List Int} (h : Hs w W n g cap l) (o : Obj) : Hs w (W.alloc o) n g cap l := by
  have hs : (W.alloc o).heap.size = W.heap.size + 1 := by simp [World.alloc, -World.alloc_eq]
  have e : ∀ k, k < W.heap.size → (W.alloc o).heap[k]? = W.heap[k]? := fun k hk => by
    have : W.heap.size ≠ k := by omega
    simp [World.alloc, -World.alloc_eq, Array.getElem?_push, Ne.symm this]
  refine ⟨h.row.at (e _ h.lt), h.mine, by rw [hs]; have := h.lt; omega, ⟨h.below.os, h.below.tape, h.below.output, by rw [hs]; have := h.below.size; omega, fun k hk => ?_⟩⟩
  rw [e k (by have := h.mine; have := h.lt; omega)]
  exact h.below.block k hk
theorem Hs.on {w W W' : World} {n g cap : Nat} {l : List Int} (h : Hs w W n g cap l) (b : Below W.heap.size W W') : Hs w W' n g cap l := by
  have := h.lt
  have := h.mine
  exact ⟨h.row.at (b.block g h.lt), h.mine, by have := b.size; omega, ⟨b.os.trans h.below.os, b.tape.trans h.below.tape, b.output.trans h.below.output, Nat.le_trans h.below.size b.size, fun k hk => (b.block k (by omega)).trans (h.below.block k hk)⟩⟩
section
variable {P : Program} {ops : Array Oper} {rest : List Oper} {o : Oper} {a : Act} {Q : Exit → Act → World → Prop}
theorem conv_hs {w : World} (e : Nat) (hgd : o.guard = none) (src dst : TypeId) (x : Operand) (ho : o.op = .convert src dst x) (s : ByteArray) (hx : a.eval x = .string s)
    (hs : P.underlying src = some .string) (ht : P.underlying dst = some (.slice e)) (he : P.underlying e = some (.int .u8))
    (h : ∀ g cap w1, Hs w w1 w.heap.size g cap (bytesOf s) → wpList P ops Q rest (a.put o.dst (.slice (some ⟨g, 0, none⟩) s.size cap)) w1) : wpList P ops Q (o :: rest) a w := by
  have hrun : (execOp a.eval o).run P w = .ok (.value (.slice (some ⟨w.heap.size, 0, none⟩) s.size (grownCap w s.size 0 e))) (Lib.bytesWorld w e s) := by
    simp [execOp, ho, hx, Lib.run_convert_string_bytes w src dst e s hs ht he]
  exact Kd.event_run hgd hrun (h _ _ _ ⟨Bm.conv w e s, Nat.le_refl _, by rw [Lib.bytesWorld_size]; omega, ⟨rfl, rfl, rfl, by rw [Lib.bytesWorld_size]; omega, fun i hi => Lib.bytesWorld_at_old w e s i (by omega)⟩⟩)
theorem Hs.after {w W w1 : World} {n g g' cap cap' : Nat} {l l' : List Int} (h : Hs w W n g cap l) (hb : Bm w1 g' cap' l') (hc : 0 < cap') (hg : W.grownBy w1 (some g)) (hat : g' = g ∨ W.heap.size ≤ g') : Hs w w1 n g' cap' l' := by
  have h1 := h.lt
  have h2 := h.mine
  refine ⟨hb, by rcases hat with rfl | h3 <;> omega, ?_, ⟨hg.os.trans h.below.os, hg.tape.trans h.below.tape, hg.output.trans h.below.output, Nat.le_trans h.below.size hg.size, fun k hk => ?_⟩⟩
  · obtain ⟨v, hv⟩ := Option.isSome_iff_exists.1 (hb.there 0 hc)
    exact World.block_lt_of_cell? w1 _ hv
  · rw [hg.block k (by omega) (by intro e; injection e with e; omega)]
    exact h.below.block k hk
theorem append1_hs {w W : World} {n g cap : Nat} {l : List Int} (t e : TypeId) (hgd : o.guard = none) (s x : Operand) (ho : o.op = .call { callee := .builtin .append, args := #[s, x], argTypes := #[t, t] })
    (ht : P.underlying t = some (.slice e)) (hinfo : (P.info? e).map (fun i => (i.zero, i.size, i.bytes)) = some (some (.int .u8 0), 1, 1)) (z : Int)
    (hs : a.eval s = .slice (some ⟨g, 0, none⟩) l.length cap) (hx : a.eval x = .slice (some ⟨W.heap.size, 0, none⟩) 1 1) (HB : Hs w W n g cap l) (hl : l.length + 1 ≤ 140737488355328)
    (h : ∀ g' cap' w1, Hs w w1 n g' cap' (l ++ [z]) → wpList P ops Q rest (a.put o.dst (.slice (some ⟨g', 0, none⟩) (l ++ [z]).length cap')) w1) :
    wpList P ops Q (o :: rest) a (W.alloc (.cells #[.int .u8 z] e)) := by
  have H2 := HB.alloc (.cells #[.int .u8 z] e)
  obtain ⟨g', cap', w1, hr, hb, hg, hat⟩ := run_append_bm (P := P) (W := W.alloc (.cells #[.int .u8 z] e)) t t o.type e ht (Or.inr ht) hinfo (.slice (some ⟨W.heap.size, 0, none⟩) 1 1) [z] (fun W' => by simp [Builtin.lenOf]) (fun W' hW => by
    have hc : W'.cell? ⟨W.heap.size, 0, none⟩ = some (.int .u8 z) := by
      unfold World.cell?
      rw [hW]
      simp [World.alloc, -World.alloc_eq]
    exact run_firstCells_some (P := P) W' 1 1 ⟨W.heap.size, 0, none⟩ 1 1 (nums .u8 [z]) (by simp [nums]) (fun j v hj => by
      cases j with
      | zero => rw [add0]; rw [hc]; simpa [nums] using hj
      | succ j => simp [nums] at hj)) H2.row (by simpa using hl)
  refine wpList_plain hgd fun K hK => ?_
  unfold Oper.wp execOp
  simp only [ho, resolve, invoke, builtin, Sem.run_bind, Sem.run_pure, Result.andThen_ok, List.map_toArray, List.map_cons, List.map_nil, hs, hx, hr]
  refine hK _ _ ?_
  have := h g' cap' w1 (H2.after hb (by have := hb.room; rw [List.length_append, List.length_singleton] at this; omega) hg hat)
  rwa [List.length_append] at this
theorem appendS_hs {w W : World} {n g cap : Nat} {l : List Int} (t u e : TypeId) (hgd : o.guard = none) (s x : Operand) (ho : o.op = .call { callee := .builtin .append, args := #[s, x], argTypes := #[t, u] })
    (ht : P.underlying t = some (.slice e)) (hu : P.underlying u = some .string) (hinfo : (P.info? e).map (fun i => (i.zero, i.size, i.bytes)) = some (some (.int .u8 0), 1, 1)) (y : ByteArray)
    (hs : a.eval s = .slice (some ⟨g, 0, none⟩) l.length cap) (hx : a.eval x = .string y) (hy : 0 < y.size) (HB : Hs w W n g cap l) (hl : l.length + y.size ≤ 140737488355328)
    (h : ∀ g' cap' w1, Hs w w1 n g' cap' (l ++ bytesOf y) → wpList P ops Q rest (a.put o.dst (.slice (some ⟨g', 0, none⟩) (l ++ bytesOf y).length cap')) w1) :
    wpList P ops Q (o :: rest) a W := by
  have hyl : (bytesOf y).length = y.size := bytesOf_length y
  obtain ⟨g', cap', w1, hr, hb, hg, hat⟩ := run_append_bm (P := P) (W := W) t u o.type e ht (Or.inl hu) hinfo (.string y) (bytesOf y) (fun W' => by simp [Builtin.lenOf, hyl]) (fun W' hW => by
    rw [hyl, Lib.run_firstCells_string (P := P) W' 1 y]
    congr 1
    simp [nums, bytesOf, Lib.strCells]) HB.row (by omega)
  refine wpList_plain hgd fun K hK => ?_
  unfold Oper.wp execOp
  simp only [ho, resolve, invoke, builtin, Sem.run_bind, Sem.run_pure, Result.andThen_ok, List.map_toArray, List.map_cons, List.map_nil, hs, hx, hr]
  refine hK _ _ ?_
  have := h g' cap' w1 (HB.after hb (by have := hb.room; rw [List.length_append] at this; omega) hg hat)
  rwa [List.length_append] at this
end
end Go.Proofs.YtadablpppkjdbaaDoorW.PrintWords
end

section
namespace Go.Proofs.YtadablpppkjdbaaDoorW.PrintWords
open Go.RowKit
section
variable {P : Program} {ops : Array Oper} {rest : List Oper} {o : Oper} {a : Act} {Q : Exit → Act → World → Prop}
theorem lit_at (w : World) (o : Obj) : (w.alloc o).heap[w.heap.size]? = some o := by simp [World.alloc, -World.alloc_eq]
theorem lit_old (w : World) (o : Obj) {k : Nat} (hk : k < w.heap.size) : (w.alloc o).heap[k]? = w.heap[k]? := by
  have : w.heap.size ≠ k := by omega
  simp [World.alloc, -World.alloc_eq, Array.getElem?_push, Ne.symm this]
theorem lit_size (w : World) (o : Obj) : (w.alloc o).heap.size = w.heap.size + 1 := by simp [World.alloc, -World.alloc_eq]
theorem lit_bm (w : World) (e : TypeId) (l : List Int) (p : Nat × Nat) (hp : l.length ≤ p.1) : Bm (w.alloc (.cells (nums .u8 l).toArray e p)) w.heap.size l.length l := by
  have hn : (nums .u8 l).length = l.length := nums_length _ _
  refine ⟨fun j hj => ?_, fun j hj => ?_, fun j hj => ?_, Nat.le_refl _⟩
  · unfold World.cell?
    rw [lit_at]
    simp [nums, List.getD, hj]
  · unfold World.cell?
    rw [lit_at]
    simp [nums, hj]
  · unfold World.frozen?
    rw [lit_at]
    obtain ⟨p1, p2⟩ := p
    simp
    intro h
    omega
theorem conv_lit {w : World} (t e : TypeId) {C : Array Value} {n : Nat} (hgd : o.guard = none) (x : Operand) (ho : o.op = .convert t t x)
    (ht : P.underlying t = some (.slice e)) (he : P.underlying e = some (.int .u8)) (hx : a.eval x = .slice (some ⟨w.heap.size, 0, none⟩) n n)
    (h : wpList P ops Q rest (a.put o.dst (.slice (some ⟨w.heap.size, 0, none⟩) n n)) (w.alloc (.cells C e (C.size, C.size + 1)))) : wpList P ops Q (o :: rest) a (w.alloc (.cells C e)) := by
  have hrun : (execOp a.eval o).run P (w.alloc (.cells C e)) = .ok (.value (.slice (some ⟨w.heap.size, 0, none⟩) n n)) (w.alloc (.cells C e (C.size, C.size + 1))) := by
    have h1 := Lib.run_convert_bytes_const (P := P) w t e C n n ht he
    simp only [execOp, ho, hx, Sem.run_bind, h1, Result.andThen_ok, Sem.run_pure]
  exact Kd.event_run hgd hrun h
theorem convlit_hs {w : World} (t e : TypeId) (l : List Int) {C : Array Value} {n : Nat} (hgd : o.guard = none) (x : Operand) (ho : o.op = .convert t t x)
    (ht : P.underlying t = some (.slice e)) (he : P.underlying e = some (.int .u8)) (hC : C = (nums .u8 l).toArray) (hn : n = l.length) (h0 : 0 < l.length) (hx : a.eval x = .slice (some ⟨w.heap.size, 0, none⟩) n n)
    (h : ∀ g cap w1, Hs w w1 w.heap.size g cap l → wpList P ops Q rest (a.put o.dst (.slice (some ⟨g, 0, none⟩) l.length cap)) w1) : wpList P ops Q (o :: rest) a (w.alloc (.cells C e)) := by
  subst hC hn
  refine conv_lit t e hgd x ho ht he hx (h _ _ _ ⟨lit_bm w e l _ (by simp [nums]), Nat.le_refl _, by rw [lit_size]; omega, ⟨rfl, rfl, rfl, by rw [lit_size]; omega, fun k hk => lit_old w _ hk⟩⟩)
theorem bmC {W : World} {g cap : Nat} {l : List Int} (h : Bm W g cap l) (hl : l.length ≤ 140737488355328) : Kd.C (Kd.int .u8) W (some ⟨g, 0, none⟩) l.length l :=
  Kd.C_of_reads (enc := Value.int .u8) (d := (0 : Int)) (h1 := fun _ => rfl) ⟨rfl, by omega, fun hn => ⟨⟨g, 0, none⟩, rfl, fun j hj => by rw [add0]; exact h.cell j hj⟩⟩
end
end Go.Proofs.YtadablpppkjdbaaDoorW.PrintWords
end

section
namespace Go.Proofs.YtadablpppkjdbaaDoor.A
open Go.RowKit Go.Proofs.YtadablpppkjdbaaDoorW.PrintWords Go.Proofs.YtadablpppkjdbaaDoorW.PrintLast Go.Proofs.YtadablpppkjdbaaDoorW.PrintMore
attribute [local go_sem] max2_int min2_int max_two min_two max_three min_three max_four min_four
end Go.Proofs.YtadablpppkjdbaaDoor.A
end

section
namespace Go.Proofs.YtadablpppkjdbaaDoorW.PrintWords
open Go.RowKit
theorem wrap_id {x : Int} (h0 : -9223372036854775808 ≤ x) (h1 : x ≤ 9223372036854775807) : wrap64 x = x := by unfold wrap64; omega
/-- p at d places from i on. -/
def allB (p : Int → Bool) : Nat → Int → Bool
  | 0, _ => true
  | d + 1, i => p i && allB p d (i + 1)
def allI (p : Int → Bool) (i n : Int) : Bool := allB p (n - i).toNat i
theorem allI_step {p : Int → Bool} {i n : Int} (h : i < n) : allI p i n = (p i && allI p (i + 1) n) := by
  unfold allI
  obtain ⟨d, hd⟩ : ∃ d : Nat, (n - i).toNat = d + 1 := ⟨(n - i).toNat - 1, by omega⟩
  rw [hd, show (n - (i + 1)).toNat = d by omega]
  rfl
theorem allI_end {p : Int → Bool} {i n : Int} (h : n ≤ i) : allI p i n = true := by
  unfold allI
  rw [show (n - i).toNat = 0 by omega]
  rfl
theorem allI_iff (p : Int → Bool) (n : Int) : ∀ (d : Nat) (i : Int), (n - i).toNat = d → (allI p i n = true ↔ ∀ j, i ≤ j → j < n → p j = true)
  | 0, i, h => by
    rw [allI_end (by omega)]
    exact ⟨fun _ j h1 h2 => by omega, fun _ => rfl⟩
  | d + 1, i, h => by
    rw [allI_step (by omega), Bool.and_eq_true, allI_iff p n d (i + 1) (by omega)]
    refine ⟨fun ⟨h1, h2⟩ j h3 h4 => ?_, fun h1 => ⟨h1 i (by omega) (by omega), fun j h3 h4 => h1 j (by omega) h4⟩⟩
    by_cases e : j = i
    · rw [e]; exact h1
    · exact h2 j (by omega) h4
/-- A loop that asks p at each place. -/
theorem loop_all {L : Int → Option Bool} (p : Int → Bool) (n : Int) (hn : n ≤ 9223372036854775807) (hL : ∀ i, 0 ≤ i → i < n → L i = if p i = true then L (wrap64 (i + 1)) else some false) (hE : ∀ i, 0 ≤ i → n ≤ i → L i = some true) :
    ∀ (d : Nat) (i : Int), (n - i).toNat = d → 0 ≤ i → L i = some (allI p i n)
  | 0, i, h, h0 => by rw [hE i h0 (by omega), allI_end (by omega)]
  | d + 1, i, h, h0 => by
    rw [hL i h0 (by omega), allI_step (by omega), wrap_id (by omega) (by omega), loop_all p n hn hL hE d (i + 1) (by omega) (by omega)]
    cases p i <;> simp
def inB (n low high : Int) : Bool := decide (low ≤ n ∧ n ≤ high)
theorem ba_toList (a : ByteArray) : a.toList = a.data.toList := ByteArray.toList_eq a
theorem ba_inj {a b : ByteArray} : a.toList = b.toList ↔ a = b := by
  rw [ba_toList, ba_toList]
  refine ⟨fun h => ?_, fun h => by rw [h]⟩
  cases a; cases b
  simp only [ByteArray.mk.injEq]
  exact Array.toList_inj.1 h
theorem strOf_size (l : List Int) : (strOfNums l).size = l.length := by
  show (strOfNums l).data.size = _
  simp [strOfNums]
theorem strOf_extract (l : List Int) (i j : Nat) : (strOfNums l).extract i j = strOfNums ((l.take j).drop i) := by
  apply ByteArray.ext
  rw [ByteArray.data_extract]
  simp [strOfNums]
  rw [List.drop_take]
theorem int_succ_mul (a c : Int) : a * c + c = (a + 1) * c := by rw [Int.add_mul, Int.one_mul]
theorem copy_loop {α β : Type} (d : α) (g : α → β) (l : List α) (hn : l.length ≤ 9223372036854775806) (L : List β → Int → Option (List β))
    (hL : ∀ acc i, 0 ≤ i → i < (l.length : Int) → acc.length = l.length → L acc i = L (acc.set i.toNat (g (l.getD i.toNat d))) (wrap64 (i + 1))) (hE : ∀ acc i, (l.length : Int) ≤ i → L acc i = some acc) :
    ∀ (n : Nat) (acc : List β) (i : Int), ((l.length : Int) - i).toNat = n → 0 ≤ i → i ≤ l.length → acc.length = l.length → (∀ j : Nat, j < i.toNat → acc[j]? = (l.map g)[j]?) → L acc i = some (l.map g)
  | 0, acc, i, h, h0, h1, ha, hj => by
    rw [hE acc i (by omega)]
    congr 1
    apply List.ext_getElem?
    intro j
    by_cases hjl : j < l.length
    · exact hj j (by omega)
    · rw [List.getElem?_eq_none (by omega), List.getElem?_eq_none (by simp; omega)]
  | n + 1, acc, i, h, h0, h1, ha, hj => by
    have hlt : i < (l.length : Int) := by omega
    rw [hL acc i h0 hlt ha, wrap_id (by omega) (by omega)]
    refine copy_loop d g l hn L hL hE n _ (i + 1) (by omega) (by omega) (by omega) (by simp [ha]) (fun j hj2 => ?_)
    by_cases e : j = i.toNat
    · subst e
      rw [List.getElem?_set_self (by omega), List.getElem?_map, List.getElem?_eq_getElem (by omega : i.toNat < l.length)]
      simp [List.getD, List.getElem?_eq_getElem (by omega : i.toNat < l.length)]
    · rw [List.getElem?_set_ne (by omega)]
      exact hj j (by omega)
theorem mark_loop {α : Type} (z : α) (g : α → Int → α) (c : Int) (hc : 0 ≤ c) (L : List α → Int → Int → Option (Int × List α))
    (hL : ∀ l k i, 0 ≤ i → i < (l.length : Int) → 0 ≤ k → k + c ≤ 4611686018427387904 → L l k i = L (l.set i.toNat (g (l.getD i.toNat z) k)) (k + c) (wrap64 (i + 1))) (hE : ∀ l k i, (l.length : Int) ≤ i → L l k i = some (k, l)) :
    ∀ (n : Nat) (l : List α) (k i : Int), ((l.length : Int) - i).toNat = n → 0 ≤ i → i ≤ l.length → (l.length : Int) ≤ 9223372036854775806 → 0 ≤ k → k + n * c ≤ 4611686018427387904 →
      ∃ l', L l k i = some (k + n * c, l') ∧ l'.length = l.length ∧ (∀ j : Nat, j < i.toNat → l'[j]? = l[j]?) ∧ (∀ j : Nat, i.toNat ≤ j → j < l.length → ∃ x, l'[j]? = some (g x (k + (j - i) * c)))
  | 0, l, k, i, h, h0, h1, hn, hk, hkn => ⟨l, by rw [hE l k i (by omega)]; simp, rfl, fun _ _ => rfl, fun j h2 h3 => by omega⟩
  | n + 1, l, k, i, h, h0, h1, hn, hk, hkn => by
    have hlt : i < (l.length : Int) := by omega
    have hm : ((n + 1 : Nat) : Int) * c = n * c + c := by rw [Int.natCast_add, Int.add_mul]; simp
    have hnc : 0 ≤ (n : Int) * c := Int.mul_nonneg (by omega) hc
    rw [hm] at hkn
    obtain ⟨l', e1, e2, e3, e4⟩ := mark_loop z g c hc L hL hE n (l.set i.toNat (g (l.getD i.toNat z) k)) (k + c) (i + 1) (by simp; omega) (by omega) (by simp; omega) (by simpa using hn) (by omega) (by omega)
    refine ⟨l', ?_, by simpa using e2, fun j hj => ?_, fun j h2 h3 => ?_⟩
    · rw [hL l k i h0 hlt hk (by omega), wrap_id (by omega) (by omega), e1, hm]
      congr 2
      omega
    · rw [e3 j (by omega), List.getElem?_set_ne (by omega)]
    · by_cases e : j = i.toNat
      · subst e
        refine ⟨l.getD i.toNat z, ?_⟩
        rw [e3 i.toNat (by omega), List.getElem?_set_self (by omega), show ((i.toNat : Int) - i) = 0 by omega]
        simp
      · obtain ⟨x, hx⟩ := e4 j (by omega) (by simpa using h3)
        refine ⟨x, ?_⟩
        rw [hx]
        congr 2
        have : ((j : Int) - (i + 1)) * c + c = (j - i) * c := by rw [int_succ_mul]; congr 1; omega
        omega
theorem held_loop {α : Type} (z : α) (chk : α → Int → Bool) (c : Int) (hc : 0 ≤ c) (l : List α) (hn : (l.length : Int) ≤ 9223372036854775806) (H : Int → Int → Option Int)
    (hH : ∀ k i, 0 ≤ i → i < (l.length : Int) → 0 ≤ k → k + c ≤ 4611686018427387904 → chk (l.getD i.toNat z) k = true → H k i = H (k + c) (wrap64 (i + 1))) (hE : ∀ k i, (l.length : Int) ≤ i → H k i = some k) :
    ∀ (n : Nat) (k i : Int), ((l.length : Int) - i).toNat = n → 0 ≤ i → i ≤ l.length → 0 ≤ k → k + n * c ≤ 4611686018427387904 →
      (∀ j : Nat, i.toNat ≤ j → j < l.length → chk (l.getD j z) (k + (j - i) * c) = true) → H k i = some (k + n * c)
  | 0, k, i, h, h0, h1, hk, hkn, _ => by rw [hE k i (by omega)]; simp
  | n + 1, k, i, h, h0, h1, hk, hkn, hj => by
    have hlt : i < (l.length : Int) := by omega
    have hm : ((n + 1 : Nat) : Int) * c = n * c + c := by rw [Int.natCast_add, Int.add_mul]; simp
    have hnc : 0 ≤ (n : Int) * c := Int.mul_nonneg (by omega) hc
    rw [hm] at hkn ⊢
    have h2 := hj i.toNat (Nat.le_refl _) (by omega)
    rw [show ((i.toNat : Int) - i) = 0 by omega, Int.zero_mul, Int.add_zero] at h2
    rw [hH k i h0 hlt hk (by omega) h2, wrap_id (by omega) (by omega)]
    rw [held_loop z chk c hc l hn H hH hE n (k + c) (i + 1) (by omega) (by omega) (by omega) (by omega) (by omega) (fun j h3 h4 => by
      have h5 := hj j (by omega) h4
      have : ((j : Int) - (i + 1)) * c + c = (j - i) * c := by rw [int_succ_mul]; congr 1; omega
      rw [show k + c + ((j : Int) - (i + 1)) * c = k + (j - i) * c by omega]
      exact h5)]
    congr 1
    omega
/-- What is marked is held: the two loops together, from the begin. -/
theorem mark_held {α : Type} (z : α) (g : α → Int → α) (chk : α → Int → Bool) (c : Int) (hc : 0 ≤ c) (hg : ∀ x k, 0 ≤ k → k + c ≤ 4611686018427387904 → chk (g x k) k = true) (L : List α → Int → Int → Option (Int × List α)) (H : List α → Int → Int → Option Int)
    (hL : ∀ l k i, 0 ≤ i → i < (l.length : Int) → 0 ≤ k → k + c ≤ 4611686018427387904 → L l k i = L (l.set i.toNat (g (l.getD i.toNat z) k)) (k + c) (wrap64 (i + 1))) (hE : ∀ l k i, (l.length : Int) ≤ i → L l k i = some (k, l))
    (hH : ∀ l k i, 0 ≤ i → i < (l.length : Int) → 0 ≤ k → k + c ≤ 4611686018427387904 → chk (l.getD i.toNat z) k = true → H l k i = H l (k + c) (wrap64 (i + 1))) (hE2 : ∀ l k i, (l.length : Int) ≤ i → H l k i = some k)
    (l : List α) (k : Int) (hn : (l.length : Int) ≤ 9223372036854775806) (hk : 0 ≤ k) (hkn : k + l.length * c ≤ 4611686018427387904) :
    ∃ l', L l k 0 = some (k + l.length * c, l') ∧ l'.length = l.length ∧ H l' k 0 = some (k + l.length * c) := by
  obtain ⟨l', e1, e2, e3, e4⟩ := mark_loop z g c hc L hL hE l.length l k 0 (by omega) (by omega) (by omega) hn hk hkn
  refine ⟨l', e1, e2, ?_⟩
  rw [← e2]
  refine held_loop z chk c hc l' (by omega) (H l') (hH l') (hE2 l') l'.length k 0 (by omega) (by omega) (by omega) hk (by rw [e2]; exact hkn) (fun j h2 h3 => ?_)
  obtain ⟨x, hx⟩ := e4 j (by omega) (by omega)
  rw [List.getD, hx]
  simp only [Option.getD_some]
  have hb : (j : Int) * c + c ≤ l.length * c := by
    rw [int_succ_mul]
    exact Int.mul_le_mul_of_nonneg_right (by omega) hc
  have hj0 : 0 ≤ (j : Int) * c := Int.mul_nonneg (by omega) hc
  have h0 : ((j : Int) - 0) = j := by omega
  rw [h0]
  exact hg x _ (by omega) (by omega)
end Go.Proofs.YtadablpppkjdbaaDoorW.PrintWords
end

section
namespace Go.Proofs.YtadablpppkjdbaaDoor.A
open Go.RowKit Go.Proofs.YtadablpppkjdbaaDoorW.PrintWords
def turnF (x n : Int) : Int := Go.bits .or .u32 (shr .u32 x n) (shl .u32 x (32 - n))
theorem u64_small (n : Int) (h0 : 0 ≤ n) (h1 : n < 18446744073709551616) : IntKind.u64.wrap n = n := by
  unfold IntKind.wrap
  simp [IntKind.bits, IntKind.signed]
  omega
theorem turn_v (x n : Int) (h0 : 0 ≤ n) (h1 : n ≤ 32) : spec_l01Turn.v x n = some (turnF x n) := by
  rw [spec_l01Turn.v_eq, if_pos h0, u64_small (32 - n) (by omega) (by omega), if_pos (by omega)]
  rfl
theorem block_l3 (v : List Int) (hv : v.length = 8) : ∀ (k i : Nat) (h : List Int), 8 - i = k → i ≤ 8 → h.length = 8 → ∃ r, spec_l01Block.lv3 h v i = some r ∧ r.length = 8
  | 0, i, h, hk, hi, hh => by
    rw [spec_l01Block.lv3_eq, if_neg (by omega)]
    exact ⟨h, rfl, hh⟩
  | k + 1, i, h, hk, hi, hh => by
    obtain ⟨r, e, hr⟩ := block_l3 v hv k (i + 1) (h.set (i : Int).toNat (((rd h i) + (rd v i)) % 4294967296)) (by omega) (by omega) (by rw [List.length_set]; exact hh)
    have w : wrap64 ((i : Int) + 1) = ((i + 1 : Nat) : Int) := by rw [wrap_id (by omega) (by omega)]; omega
    rw [spec_l01Block.lv3_eq, w, e]
    clear w
    rw [if_pos (by omega), if_pos (by omega), if_pos (by omega), if_pos (by omega)]
    exact ⟨r, rfl, hr⟩
theorem block_l2 (h ks ws : List Int) (hh : h.length = 8) (hk : ks.length = 64) (hw : ws.length = 64) : ∀ (k i : Nat) (v : List Int), 64 - i = k → i ≤ 64 → v.length = 8 → ∃ r, spec_l01Block.lv2 h ks ws v i = some r ∧ r.length = 8
  | 0, i, v, hi0, hi, hv => by
    rw [spec_l01Block.lv2_eq, if_neg (by omega)]
    exact block_l3 v hv 8 0 h rfl (by omega) hh
  | k + 1, i, v, hi0, hi, hv => by
    have ih := fun v' => block_l2 h ks ws hh hk hw k (i + 1) v' (by omega) (by omega)
    have w : wrap64 ((i : Int) + 1) = ((i + 1 : Nat) : Int) := by rw [wrap_id (by omega) (by omega)]; omega
    rw [spec_l01Block.lv2_eq, w]
    clear w
    have c1 : (i : Int) < 64 := by omega
    have c2 : (4 : Int) < (v.length : Int) := by omega
    have c3 : (0 : Int) < (v.length : Int) := by omega
    have c4 : (7 : Int) < (v.length : Int) := by omega
    have c5 : (5 : Int) < (v.length : Int) := by omega
    have c6 : (6 : Int) < (v.length : Int) := by omega
    have c7 : (0 : Int) ≤ (i : Int) := by omega
    have c8 : (i : Int) < (ks.length : Int) := by omega
    have c9 : (i : Int) < (ws.length : Int) := by omega
    have d1 : (1 : Int) < (v.length : Int) := by omega
    have d2 : (2 : Int) < (v.length : Int) := by omega
    have d3 : (3 : Int) < (v.length : Int) := by omega
    have t1 : ∀ x, spec_l01Turn.v x 6 = some (turnF x 6) := fun x => turn_v x 6 (by omega) (by omega)
    have t2 : ∀ x, spec_l01Turn.v x 11 = some (turnF x 11) := fun x => turn_v x 11 (by omega) (by omega)
    have t3 : ∀ x, spec_l01Turn.v x 25 = some (turnF x 25) := fun x => turn_v x 25 (by omega) (by omega)
    have t4 : ∀ x, spec_l01Turn.v x 2 = some (turnF x 2) := fun x => turn_v x 2 (by omega) (by omega)
    have t5 : ∀ x, spec_l01Turn.v x 13 = some (turnF x 13) := fun x => turn_v x 13 (by omega) (by omega)
    have t6 : ∀ x, spec_l01Turn.v x 22 = some (turnF x 22) := fun x => turn_v x 22 (by omega) (by omega)
    simp only [if_pos c1, if_pos c2, if_pos c3, if_pos c4, if_pos c5, if_pos c6, if_pos c7, if_pos c8, if_pos c9, if_pos d1, if_pos d2, if_pos d3, t1, t2, t3, t4, t5, t6, Option.bind_some]
    exact ih _ rfl
theorem block_l1 (h ks : List Int) (hh : h.length = 8) (hk : ks.length = 64) : ∀ (k i : Nat) (ws : List Int), 64 - i = k → 16 ≤ i → i ≤ 64 → ws.length = 64 → ∃ r, spec_l01Block.lv1 h ks ws i = some r ∧ r.length = 8
  | 0, i, ws, hi0, h16, hi, hw => by
    rw [spec_l01Block.lv1_eq, if_neg (by omega), Option.bind_some, if_pos (by simp; omega)]
    exact block_l2 h ks ws hh hk hw 64 0 _ rfl (by omega) (by simpa using hh)
  | k + 1, i, ws, hi0, h16, hi, hw => by
    have ih := fun ws' => block_l1 h ks hh hk k (i + 1) ws' (by omega) (by omega) (by omega)
    have c1 : (i : Int) < 64 := by omega
    have c2 : (0 : Int) ≤ (i : Int) - 15 := by omega
    have c3 : (i : Int) - 15 < (ws.length : Int) := by omega
    have c4 : (0 : Int) ≤ (i : Int) - 2 := by omega
    have c5 : (i : Int) - 2 < (ws.length : Int) := by omega
    have c6 : (0 : Int) ≤ (i : Int) - 16 := by omega
    have c7 : (i : Int) - 16 < (ws.length : Int) := by omega
    have c8 : (0 : Int) ≤ (i : Int) - 7 := by omega
    have c9 : (i : Int) - 7 < (ws.length : Int) := by omega
    have d1 : (0 : Int) ≤ (i : Int) := by omega
    have d2 : (i : Int) < (ws.length : Int) := by omega
    have t1 : ∀ x, spec_l01Turn.v x 7 = some (turnF x 7) := fun x => turn_v x 7 (by omega) (by omega)
    have t2 : ∀ x, spec_l01Turn.v x 18 = some (turnF x 18) := fun x => turn_v x 18 (by omega) (by omega)
    have t3 : ∀ x, spec_l01Turn.v x 17 = some (turnF x 17) := fun x => turn_v x 17 (by omega) (by omega)
    have t4 : ∀ x, spec_l01Turn.v x 19 = some (turnF x 19) := fun x => turn_v x 19 (by omega) (by omega)
    have w : wrap64 ((i : Int) + 1) = ((i + 1 : Nat) : Int) := by rw [wrap_id (by omega) (by omega)]; omega
    have w1 : wrap64 ((i : Int) - 15) = (i : Int) - 15 := wrap_id (by omega) (by omega)
    have w2 : wrap64 ((i : Int) - 2) = (i : Int) - 2 := wrap_id (by omega) (by omega)
    have w3 : wrap64 ((i : Int) - 16) = (i : Int) - 16 := wrap_id (by omega) (by omega)
    have w4 : wrap64 ((i : Int) - 7) = (i : Int) - 7 := wrap_id (by omega) (by omega)
    rw [spec_l01Block.lv1_eq]
    simp only [w, w1, w2, w3, w4, if_pos c1, if_pos c2, if_pos c3, if_pos c4, if_pos c5, if_pos c6, if_pos c7, if_pos c8, if_pos c9, if_pos d1, if_pos d2, t1, t2, t3, t4, Option.bind_some]
    clear w w1 w2 w3 w4
    exact ih _ (by rw [List.length_set]; exact hw)
theorem block_l0 (h b ks : List Int) (hh : h.length = 8) (hb : b.length = 64) (hk : ks.length = 64) : ∀ (k i : Nat) (ws : List Int), 16 - i = k → i ≤ 16 → ws.length = 64 → ∃ r, spec_l01Block.lv0 h b ks ws i = some r ∧ r.length = 8
  | 0, i, ws, hi0, hi, hw => by
    rw [spec_l01Block.lv0_eq, if_neg (by omega)]
    exact block_l1 h ks hh hk 48 16 ws rfl (by omega) (by omega) hw
  | k + 1, i, ws, hi0, hi, hw => by
    have ih := fun ws' => block_l0 h b ks hh hb hk k (i + 1) ws' (by omega) (by omega)
    have c1 : (i : Int) < 16 := by omega
    have c2 : (0 : Int) ≤ 4 * (i : Int) := by omega
    have c3 : 4 * (i : Int) < (b.length : Int) := by omega
    have c4 : (0 : Int) ≤ 4 * (i : Int) + 1 := by omega
    have c5 : 4 * (i : Int) + 1 < (b.length : Int) := by omega
    have c6 : (0 : Int) ≤ 4 * (i : Int) + 2 := by omega
    have c7 : 4 * (i : Int) + 2 < (b.length : Int) := by omega
    have c8 : (0 : Int) ≤ 4 * (i : Int) + 3 := by omega
    have c9 : 4 * (i : Int) + 3 < (b.length : Int) := by omega
    have d1 : (0 : Int) ≤ (i : Int) := by omega
    have d2 : (i : Int) < (ws.length : Int) := by omega
    have w : wrap64 ((i : Int) + 1) = ((i + 1 : Nat) : Int) := by rw [wrap_id (by omega) (by omega)]; omega
    have w0 : wrap64 (4 * (i : Int)) = 4 * (i : Int) := wrap_id (by omega) (by omega)
    have w1 : wrap64 (4 * (i : Int) + 1) = 4 * (i : Int) + 1 := wrap_id (by omega) (by omega)
    have w2 : wrap64 (4 * (i : Int) + 2) = 4 * (i : Int) + 2 := wrap_id (by omega) (by omega)
    have w3 : wrap64 (4 * (i : Int) + 3) = 4 * (i : Int) + 3 := wrap_id (by omega) (by omega)
    rw [spec_l01Block.lv0_eq]
    simp only [w, w0, w1, w2, w3, if_pos c1, if_pos c2, if_pos c3, if_pos c4, if_pos c5, if_pos c6, if_pos c7, if_pos c8, if_pos c9, if_pos d1, if_pos d2]
    clear w w0 w1 w2 w3
    exact ih _ (by rw [List.length_set]; exact hw)
theorem block_v (h b ks : List Int) (hh : h.length = 8) (hb : b.length = 64) (hk : ks.length = 64) : ∃ r, spec_l01Block.v h b ks = some r ∧ r.length = 8 := by
  rw [spec_l01Block.v_eq, if_pos ⟨hh, hb, hk⟩, if_pos (by omega)]
  exact block_l0 h b ks hh hb hk 16 0 _ rfl (by omega) (by simp)
theorem hash_l3 (h : List Int) (hh : h.length = 8) : ∀ (k i : Nat) (out : List Int), 8 - i = k → i ≤ 8 → out.length = 4 * i → ∃ t, spec_l01Hash.lv3 h out i = some t ∧ t.size = 32
  | 0, i, out, hi0, hi, ho => by
    rw [spec_l01Hash.lv3_eq, if_neg (by omega)]
    exact ⟨_, rfl, by rw [strOf_size]; omega⟩
  | k + 1, i, out, hi0, hi, ho => by
    have ih := fun out' => hash_l3 h hh k (i + 1) out' (by omega) (by omega)
    have w : wrap64 ((i : Int) + 1) = ((i + 1 : Nat) : Int) := by rw [wrap_id (by omega) (by omega)]; omega
    rw [spec_l01Hash.lv3_eq, w]
    clear w
    rw [if_pos (by omega), if_pos (by omega), if_pos (by omega), Option.bind_some, if_pos (by simp; omega)]
    exact ih _ (by simp; omega)
theorem hash_l2 (all ks : List Int) (hk : ks.length = 64) (n : Nat) (ha : all.length = 64 * n) (hn : n ≤ 1000000) : ∀ (k i : Nat) (h : List Int), n - i = k → i ≤ n → h.length = 8 → ∃ t, spec_l01Hash.lv2 h all ks ((64 * i : Nat) : Int) = some t ∧ t.size = 32
  | 0, i, h, hi0, hi, hh => by
    rw [spec_l01Hash.lv2_eq, if_neg (by omega)]
    exact hash_l3 h hh 8 0 [] rfl (by omega) rfl
  | k + 1, i, h, hi0, hi, hh => by
    have ih := fun h' => hash_l2 all ks hk n ha hn k (i + 1) h' (by omega) (by omega)
    obtain ⟨r, e, hr⟩ := block_v h ((all.take (64 * (i + 1))).drop (64 * i)) ks hh (by rw [List.length_drop, List.length_take]; omega) hk
    have w : wrap64 (((64 * i : Nat) : Int) + 64) = ((64 * (i + 1) : Nat) : Int) := by rw [wrap_id (by omega) (by omega)]; omega
    rw [spec_l01Hash.lv2_eq, w]
    clear w
    simp only [Int.toNat_natCast]
    rw [if_pos (by omega), if_pos (by omega), if_pos (by omega), if_pos (by omega), e, Option.bind_some]
    exact ih _ hr
theorem hash_l1 (x h : List Int) (hh : h.length = 8) : ∀ (k : Nat) (all : List Int), k ≤ 8 → all.length + k ≤ 60000000 → (all.length + k) % 64 = 0 → ∃ t, spec_l01Hash.lv1 x h all ((k : Int) - 1) = some t ∧ t.size = 32
  | 0, all, hk, ha, hm => by
    rw [spec_l01Hash.lv1_eq, if_neg (by omega), spec_l01Consts.v_eq, Option.bind_some]
    exact hash_l2 all _ rfl (all.length / 64) (by omega) (by omega) (all.length / 64) 0 h rfl (by omega) hh
  | k + 1, all, hk, ha, hm => by
    have ih := fun a => hash_l1 x h hh k (all ++ [a]) (by omega) (by simp; omega) (by simp; omega)
    have e : (((k + 1 : Nat) : Int) - 1) = (k : Int) := by omega
    have c1 : (k : Int) ≥ 0 := by omega
    have c2 : all.length < 140737488355328 := by omega
    have w : wrap64 ((k : Int) - 1) = (k : Int) - 1 := wrap_id (by omega) (by omega)
    have w1 : IntKind.u64.wrap (wrap64 (8 * (k : Int))) = 8 * (k : Int) := by
      rw [show wrap64 (8 * (k : Int)) = 8 * (k : Int) from wrap_id (by omega) (by omega), u64_small _ (by omega) (by omega)]
    have c3 : (0 : Int) ≤ 8 * (k : Int) := by clear w w1; omega
    rw [e, spec_l01Hash.lv1_eq, w, w1]
    clear w w1
    rw [if_pos c1, if_pos c3, if_pos c2]
    exact ih _
theorem hash_l0 (x h : List Int) (hh : h.length = 8) : ∀ (k : Nat) (all : List Int), (all.length + k) % 64 = 56 → k ≤ 64 → all.length + k ≤ 50000000 → ∃ t, spec_l01Hash.lv0 x h all = some t ∧ t.size = 32
  | 0, all, hm, hk, ha => by
    rw [spec_l01Hash.lv0_eq, if_pos (by omega)]
    exact hash_l1 x h hh 8 all (by omega) (by omega) (by omega)
  | k + 1, all, hm, hk, ha => by
    rw [spec_l01Hash.lv0_eq]
    by_cases c : ((all.length : Int) % 64) = 56
    · rw [if_pos c]
      exact hash_l1 x h hh 8 all (by omega) (by omega) (by omega)
    · rw [if_neg c, if_pos (by omega)]
      exact hash_l0 x h hh k (all ++ [0]) (by simp; omega) (by omega) (by simp; omega)
theorem hash_v (x : List Int) (hx : x.length ≤ 40000000) : ∃ t, spec_l01Hash.v x = some t ∧ t.size = 32 := by
  rw [spec_l01Hash.v_eq, Option.bind_some, if_pos (by simp; omega), Option.bind_some, if_pos (by simp; omega)]
  refine hash_l0 x _ rfl ((56 + 64 - (x.length + 1) % 64) % 64) _ ?_ (by omega) ?_
  · simp; omega
  · simp; omega
theorem str_bytes (s : ByteArray) : strOfNums (bytesOf s) = s := by
  apply ByteArray.ext
  apply Array.toList_inj.1
  rw [strOfNums_data]
  unfold bytesOf
  rw [List.map_map]
  conv => rhs; rw [← List.map_id s.data.toList]
  apply List.map_congr_left
  intro y _
  simp only [Function.comp, id]
  rw [Int.toNat_natCast]
  exact UInt8.ofNat_toNat
theorem str_append (a b : List Int) : strOfNums (a ++ b) = strOfNums a ++ strOfNums b := by
  apply ByteArray.ext
  apply Array.toList_inj.1
  rw [ByteArray.data_append, Array.toList_append, strOfNums_data, strOfNums_data, strOfNums_data, List.map_append]
theorem ext_mid (a b c : List Int) : (strOfNums (a ++ (b ++ c))).extract a.length (a.length + b.length) = strOfNums b := by
  rw [strOf_extract, ← List.append_assoc, show a.length + b.length = (a ++ b).length by rw [List.length_append], List.take_left, List.drop_left]
theorem rdOf_at (l : List ByteArray) (i : Nat) (h : i < l.length) : rdOf ByteArray.empty l i = l[i] := by
  unfold rdOf
  rw [Int.toNat_natCast, List.getD_eq_getElem?_getD, List.getElem?_eq_getElem h]
  rfl
theorem hash_one (t : ByteArray) (h : t.size ≤ 40000000) : ∃ r, spec_l01Hash.v (bytesOf t) = some r ∧ impl_hash.v t = some r ∧ r.size = 32 := by
  obtain ⟨r, h1, h2⟩ := hash_v (bytesOf t) (by rw [bytesOf_length]; exact h)
  exact ⟨r, h1, by rw [impl_hash.v_eq, if_pos h, h1], h2⟩
theorem node_any (a b : ByteArray) (ha : a.size ≤ 32) (hb : b.size ≤ 32) : ∃ t, spec_l03Node.v a b = some t ∧ impl_node.v a b = some t ∧ t.size = 32 := by
  have z4 : (⟨#[110, 111, 100, 101]⟩ : ByteArray).size = 4 := rfl
  obtain ⟨p, hp⟩ : ∃ p, p = (⟨#[110, 111, 100, 101]⟩ : ByteArray) ++ a := ⟨_, rfl⟩
  have zp : p.size = 4 + a.size := by rw [hp, ByteArray.size_append, z4]
  obtain ⟨X, hX⟩ : ∃ X, X = p ++ b := ⟨_, rfl⟩
  have zX : X.size = 4 + a.size + b.size := by rw [hX, ByteArray.size_append, zp]
  obtain ⟨t, h1, h2, h3⟩ := hash_one X (by omega)
  refine ⟨t, ?_, ?_, h3⟩
  · rw [spec_l03Node.v_eq, ← hp, ← hX, if_pos (by omega), if_pos (by omega), if_pos (by omega), h1, Option.bind_some]
  · rw [impl_node.v_eq, ← hp, ← hX, if_pos (by omega), if_pos (by omega), h2, Option.bind_some]
theorem half_l (n : Int) (hn : n ≤ 64) : ∀ (d : Nat) (k : Int), (n - k).toNat ≤ d → 1 ≤ k → (k = 1 ∨ k < n) → ∃ r, spec_l09Half.lv0 n k = some r ∧ impl_half.lv0 n k = some r ∧ 1 ≤ r ∧ (2 ≤ n → r < n)
  | 0, k, h, h1, h2 => by
    refine ⟨k, ?_, ?_, h1, fun h3 => by omega⟩
    · rw [spec_l09Half.lv0_eq, wrap_id (by omega) (by omega), if_neg (by omega)]
    · rw [impl_half.lv0_eq, wrap_id (by omega) (by omega), if_neg (by omega)]
  | d + 1, k, h, h1, h2 => by
    by_cases c : 2 * k < n
    · obtain ⟨r, e1, e2, e3, e4⟩ := half_l n hn d (k * 2) (by omega) (by omega) (by omega)
      refine ⟨r, ?_, ?_, e3, e4⟩
      · rw [spec_l09Half.lv0_eq, wrap_id (x := 2 * k) (by omega) (by omega), if_pos c, wrap_id (by omega) (by omega), e1]
      · rw [impl_half.lv0_eq, wrap_id (x := 2 * k) (by omega) (by omega), if_pos c, wrap_id (by omega) (by omega), e2]
    · by_cases hk : k ≤ 100
      · refine ⟨k, ?_, ?_, h1, fun h3 => by omega⟩
        · rw [spec_l09Half.lv0_eq, wrap_id (by omega) (by omega), if_neg c]
        · rw [impl_half.lv0_eq, wrap_id (by omega) (by omega), if_neg c]
      · omega
theorem half_one (n : Int) (hn : n ≤ 64) : ∃ r, spec_l09Half.v n = some r ∧ impl_half.v n = some r ∧ 1 ≤ r ∧ (2 ≤ n → r < n) := by
  rw [spec_l09Half.v_eq, impl_half.v_eq]
  exact half_l n hn _ 1 (Nat.le_refl _) (by omega) (Or.inl rfl)
theorem leaf_one (s : ByteArray) (h : s.size ≤ 65536) : ∃ t, spec_l09Leaf.v s = some t ∧ impl_pieceRoot.v s = some t ∧ t.size = 32 := by
  have z5 : (⟨#[112, 105, 101, 99, 101]⟩ : ByteArray).size = 5 := rfl
  obtain ⟨X, hX⟩ : ∃ X, X = (⟨#[112, 105, 101, 99, 101]⟩ : ByteArray) ++ s := ⟨_, rfl⟩
  have zX : X.size = 5 + s.size := by rw [hX, ByteArray.size_append, z5]
  obtain ⟨t, h1, h2, h3⟩ := hash_one X (by omega)
  refine ⟨t, ?_, ?_, h3⟩
  · rw [spec_l09Leaf.v_eq, ← hX, if_pos (by omega), if_pos (by omega), h1, Option.bind_some]
  · rw [impl_pieceRoot.v_eq, ← hX, if_pos (by omega), h2, Option.bind_some]
theorem toS_v (l : List ByteArray) (h : l.length ≤ 1048576) : laws_toStringS.v l = some l := by
  rw [laws_toStringS.v_eq, if_pos (by omega), if_pos (by omega)]
  have h1 := copy_loop ByteArray.empty id l (by omega) (fun acc i => laws_toStringS.lv0 l acc i) (fun acc i h0 h1 h2 => by
    show laws_toStringS.lv0 l acc i = _
    rw [laws_toStringS.lv0_eq, if_pos h1, if_pos h0, if_pos (by omega)]; rfl) (fun acc i h0 => by
    show laws_toStringS.lv0 l acc i = _
    rw [laws_toStringS.lv0_eq, if_neg (by omega)]) l.length (List.replicate ((l.length : Int) : Int).toNat ⟨#[]⟩) 0 (by omega) (by omega) (by omega) (by simp) (fun j hj => by omega)
  simpa using h1
theorem eqS_v (l : List ByteArray) (h : l.length ≤ 281474976710656) : laws_eqStringS.v l l = some true := by
  rw [laws_eqStringS.v_eq, if_pos rfl, loop_all (L := fun i => laws_eqStringS.lv0 l l i) (fun _ => true) l.length (by omega) (fun i h0 h1 => by
    show laws_eqStringS.lv0 l l i = _
    rw [laws_eqStringS.lv0_eq, if_pos h1, if_pos h0, if_pos h1, if_pos rfl]; rfl) (fun i h0 h1 => by
    show laws_eqStringS.lv0 l l i = _
    rw [laws_eqStringS.lv0_eq, if_neg (by omega)]) _ 0 rfl (by omega), (allI_iff _ _ _ _ rfl).2 (fun _ _ _ => rfl)]
def cutM : Nat → ByteArray → List ByteArray
  | 0, _ => []
  | d + 1, s => if s.size = 0 then [] else s.extract 0 (min s.size 32) :: cutM d (s.extract (min s.size 32) s.size)
theorem cutM_len : ∀ (d : Nat) (s : ByteArray), (cutM d s).length ≤ s.size
  | 0, s => by simp [cutM]
  | d + 1, s => by
    unfold cutM
    split
    · simp
    · have := cutM_len d (s.extract (min s.size 32) s.size)
      rw [ByteArray.size_extract] at this
      simp only [List.length_cons]
      omega
theorem ba_nil (s : ByteArray) : s.toList = [] ↔ s.size = 0 := by
  rw [ba_toList]
  constructor
  · intro h; show s.data.size = 0; rw [← Array.length_toList, h]; rfl
  · intro h; have h2 : s.data.toList.length = 0 := by rw [Array.length_toList]; exact h
    exact List.eq_nil_of_length_eq_zero h2
theorem impl_cut_l : ∀ (d : Nat) (s : ByteArray) (acc : List ByteArray), s.size ≤ d → acc.length + s.size ≤ 8796093022207 → impl_cut.lv0 s acc = some (acc ++ cutM d s)
  | 0, s, acc, h, hb => by rw [impl_cut.lv0_eq, if_pos ((ba_nil s).2 (by omega))]; simp [cutM]
  | d + 1, s, acc, h, hb => by
    rw [impl_cut.lv0_eq]
    unfold cutM
    by_cases h0 : s.size = 0
    · rw [if_pos ((ba_nil s).2 h0), if_pos h0]; simp
    · have hm : mn (s.size : Int) 32 = ((min s.size 32 : Nat) : Int) := by unfold mn; split <;> omega
      rw [if_neg (fun h => h0 ((ba_nil s).1 h)), if_neg h0, hm, if_pos (by omega), if_pos (by omega), if_pos (by omega), Int.toNat_natCast]
      rw [impl_cut_l d _ _ (by rw [ByteArray.size_extract]; omega) (by rw [ByteArray.size_extract]; simp; omega)]
      simp
theorem impl_cut_v (s : ByteArray) (h : s.size ≤ 8796093022207) : impl_cut.v s = some (cutM s.size s) := by
  rw [impl_cut.v_eq, impl_cut_l s.size s [] (Nat.le_refl _) (by simpa using h)]; simp
theorem spec_l01In_v (n low high : Int) : spec_l01In.v n low high = some (inB n low high) := by
  rw [spec_l01In.v_eq]; unfold inB; split <;> simp <;> omega
def sumz : List ByteArray → Nat
  | [] => 0
  | x :: r => x.size + sumz r
theorem szT_l (l : List ByteArray) (hl : l.length ≤ 9223372036854775806) (hg : ∀ y ∈ l, y.size ≤ 9223372036854775807) : ∀ (d i : Nat) (x : Int), l.length - i = d → i ≤ l.length → 0 ≤ x → x ≤ 1048576 → ∃ t, laws_szStringS.lv0 l x i = some t ∧ (¬ t < 0 → (sumz (l.drop i) : Int) ≤ x)
  | 0, i, x, h, hi, hx, hx2 => ⟨x, by rw [laws_szStringS.lv0_eq, if_neg (by omega)], fun _ => by rw [List.drop_eq_nil_of_le (by omega)]; exact hx⟩
  | d + 1, i, x, h, hi, hx, hx2 => by
    have hlt : i < l.length := by omega
    have hs := hg _ (List.getElem_mem hlt)
    have w : wrap64 ((i : Int) + 1) = ((i + 1 : Nat) : Int) := by rw [wrap_id (by omega) (by omega)]; omega
    rw [laws_szStringS.lv0_eq, if_pos (by omega), if_pos (by omega), rdOf_at l i hlt, wrap_id (x := x - _) (by omega) (by omega), w]
    clear w
    by_cases h2 : x - ((l[i]).size : Int) < 0
    · rw [if_pos h2]; exact ⟨-1, rfl, fun h => by omega⟩
    · rw [if_neg h2]
      obtain ⟨t, e, ht⟩ := szT_l l hl hg d (i + 1) (x - (l[i].size : Int)) (by omega) (by omega) (by omega) (by omega)
      refine ⟨t, e, fun q => ?_⟩
      have := ht q
      rw [List.drop_eq_getElem_cons hlt]
      show ((l[i].size + sumz (l.drop (i + 1)) : Nat) : Int) ≤ x
      omega
theorem szT_v (l : List ByteArray) (hl : l.length ≤ 9223372036854775807) (hg : ∀ y ∈ l, y.size ≤ 9223372036854775807) : ∃ t, laws_szStringS.v l 1048576 = some t ∧ (¬ t < 0 → l.length ≤ 1048576 ∧ sumz l ≤ 1048576) := by
  rw [laws_szStringS.v_eq, wrap_id (by omega) (by omega)]
  by_cases h2 : (1048576 : Int) - (l.length : Int) < 0
  · rw [if_pos h2]; exact ⟨-1, rfl, fun h => by omega⟩
  · obtain ⟨t, e, ht⟩ := szT_l l (by omega) hg _ 0 (1048576 - (l.length : Int)) rfl (by omega) (by omega) (by omega)
    rw [if_neg h2]
    refine ⟨t, e, fun q => ?_⟩
    have := ht q
    rw [List.drop_zero] at this
    omega
/-- All texts, one behind the other. -/
def J (l : List ByteArray) : ByteArray := joinL l ⟨#[]⟩
theorem J_data (l : List ByteArray) : (J l).data.toList = (l.map (·.data.toList)).flatten := by
  show ([] : List UInt8).intercalate (l.map (·.data.toList)) = _
  induction l with
  | nil => rfl
  | cons x r ih =>
    cases r with
    | nil => simp [List.intercalate]
    | cons y t =>
      have : ([] : List UInt8).intercalate ((x :: y :: t).map (·.data.toList)) = x.data.toList ++ ([] : List UInt8).intercalate ((y :: t).map (·.data.toList)) := by
        simp [List.intercalate, List.intersperse]
      rw [this, ih]
      simp
theorem J_nil : J [] = ⟨#[]⟩ := rfl
theorem J_cons (x : ByteArray) (r : List ByteArray) : J (x :: r) = x ++ J r := by
  refine ba_inj.1 ?_
  rw [ba_toList, ba_toList, J_data, ByteArray.data_append, Array.toList_append, J_data]
  simp
theorem J_size : ∀ l : List ByteArray, (J l).size = sumz l
  | [] => rfl
  | x :: r => by rw [J_cons, ByteArray.size_append, J_size r]; rfl
def okP : List ByteArray → Bool
  | [] => true
  | x :: r => if r = [] then decide (1 ≤ x.size ∧ x.size ≤ 32) else decide (x.size = 32) && okP r
theorem ext_left (a b : ByteArray) : (a ++ b).extract 0 a.size = a := by
  have h := ext_mid [] (bytesOf a) (bytesOf b)
  simp only [List.length_nil, List.nil_append, bytesOf_length, Nat.zero_add] at h
  rw [str_append, str_bytes, str_bytes] at h
  exact h
theorem ext_right (a b : ByteArray) : (a ++ b).extract a.size (a ++ b).size = b := by
  have h := ext_mid (bytesOf a) (bytesOf b) []
  simp only [List.append_nil, bytesOf_length] at h
  rw [str_append, str_bytes, str_bytes] at h
  rw [ByteArray.size_append]
  exact h
theorem cutM_empty : ∀ (d : Nat) (s : ByteArray), s.size = 0 → cutM d s = []
  | 0, s, h => rfl
  | d + 1, s, h => by unfold cutM; rw [if_pos h]
theorem cut_ok : ∀ (l : List ByteArray) (d : Nat), (J l).size ≤ d → (cutM d (J l) = l ↔ okP l = true)
  | [], d, h => by rw [cutM_empty d (J []) rfl]; simp [okP]
  | x :: r, d, h => by
    have hz : (J (x :: r)).size = x.size + (J r).size := by rw [J_cons, ByteArray.size_append]
    unfold okP
    by_cases h0 : (J (x :: r)).size = 0
    · rw [cutM_empty d _ h0]
      constructor
      · intro e; cases e
      · intro e
        by_cases hr : r = []
        · rw [if_pos hr, decide_eq_true_eq] at e; omega
        · rw [if_neg hr, Bool.and_eq_true, decide_eq_true_eq] at e; omega
    · obtain ⟨d', rfl⟩ : ∃ d', d = d' + 1 := ⟨d - 1, by omega⟩
      have e1 : cutM (d' + 1) (J (x :: r)) = (J (x :: r)).extract 0 (min (J (x :: r)).size 32) :: cutM d' ((J (x :: r)).extract (min (J (x :: r)).size 32) (J (x :: r)).size) := by
        show (if (J (x :: r)).size = 0 then [] else _) = _
        rw [if_neg h0]
      rw [e1]
      constructor
      · intro e
        injection e with ea eb
        have hx : x.size = min (J (x :: r)).size 32 := by
          have := congrArg ByteArray.size ea
          rw [ByteArray.size_extract] at this
          omega
        rw [← hx, J_cons, ext_right] at eb
        have ih := (cut_ok r d' (by omega)).1 eb
        by_cases hr : r = []
        · rw [if_pos hr, decide_eq_true_eq]
          subst hr
          have : (J []).size = 0 := rfl
          omega
        · rw [if_neg hr, ih, Bool.and_true, decide_eq_true_eq]
          rcases Nat.lt_or_ge x.size 32 with hlt | hge
          · have hj : (J r).size = 0 := by omega
            rw [cutM_empty d' _ hj] at eb
            exact absurd eb.symm hr
          · omega
      · intro e
        by_cases hr : r = []
        · rw [if_pos hr, decide_eq_true_eq] at e
          subst hr
          have hj : (J []).size = 0 := rfl
          rw [show min (J [x]).size 32 = x.size by omega, J_cons, ext_right, cutM_empty d' _ hj, ext_left]
        · rw [if_neg hr, Bool.and_eq_true, decide_eq_true_eq] at e
          have ih := (cut_ok r d' (by omega)).2 e.2
          rw [show min (J (x :: r)).size 32 = x.size by omega, J_cons, ext_right, ext_left, ih]
theorem equalS_l (a b : List ByteArray) (hl : a.length = b.length) (h : a.length ≤ 1000000000) : ∀ (d i : Nat), a.length - i = d → i ≤ a.length → slices_Equal_string_string.lv0 a b a.length i = some (decide (a.drop i = b.drop i))
  | 0, i, hd, hi => by
    rw [slices_Equal_string_string.lv0_eq, if_neg (by omega), List.drop_eq_nil_of_le (by omega), List.drop_eq_nil_of_le (by omega)]
    simp
  | d + 1, i, hd, hi => by
    have ha : i < a.length := by omega
    have hb : i < b.length := by omega
    have w : wrap64 ((i : Int) + 1) = ((i + 1 : Nat) : Int) := by rw [wrap_id (by omega) (by omega)]; omega
    rw [slices_Equal_string_string.lv0_eq, w]
    clear w
    rw [if_pos (by omega), if_pos (by omega), if_pos (by omega), if_pos (by omega), rdOf_at a i ha, rdOf_at b i hb, List.drop_eq_getElem_cons ha, List.drop_eq_getElem_cons hb, equalS_l a b hl h d (i + 1) (by omega) (by omega)]
    by_cases e : a[i] = b[i]
    · rw [if_pos (by rw [e]), e]
      refine congrArg some (decide_eq_decide.2 ?_)
      rw [List.cons.injEq]
      exact ⟨fun h => ⟨rfl, h⟩, fun h => h.2⟩
    · rw [if_neg (fun q => e (ba_inj.1 q)), decide_eq_false (fun q => e (List.cons.inj q).1)]
theorem equalS_v (a b : List ByteArray) (h : a.length ≤ 1000000000) : slices_Equal_string_string.v a b = some (decide (a = b)) := by
  rw [slices_Equal_string_string.v_eq]
  by_cases hl : a.length = b.length
  · rw [if_pos (by omega)]
    have := equalS_l a b hl h a.length 0 rfl (by omega)
    rw [show ((0 : Nat) : Int) = 0 from rfl, List.drop_zero, List.drop_zero] at this
    exact this
  · rw [if_neg (by omega), decide_eq_false (fun e => hl (by rw [e]))]
theorem okS_l (l : List ByteArray) (hl : l.length ≤ 64) (hz : ∀ y ∈ l, y.size ≤ 1048576) : ∀ (d i : Nat), l.length - i = d → i ≤ l.length → spec_l09OK.lv0 l i = some (okP (l.drop i))
  | 0, i, hd, hi => by
    rw [spec_l09OK.lv0_eq, if_neg (by omega), List.drop_eq_nil_of_le (by omega)]
    rfl
  | d + 1, i, hd, hi => by
    have ha : i < l.length := by omega
    have w : wrap64 ((i : Int) + 1) = ((i + 1 : Nat) : Int) := by rw [wrap_id (by omega) (by omega)]; omega
    have w2 : wrap64 ((l.length : Int) - 1) = ((l.length : Int) - 1) := wrap_id (by omega) (by omega)
    rw [spec_l09OK.lv0_eq, w, w2]
    clear w w2
    rw [if_pos (by omega), if_pos (by omega), rdOf_at l i ha, spec_l01In_v, Option.bind_some, okS_l l hl hz d (i + 1) (by omega) (by omega), List.drop_eq_getElem_cons ha]
    unfold inB
    rw [okP]
    by_cases h1 : (1 : Int) ≤ (l[i].size : Int) ∧ (l[i].size : Int) ≤ 32
    · rw [decide_eq_true h1, if_pos rfl]
      by_cases h2 : (i : Int) < (l.length : Int) - 1
      · have hr : l.drop (i + 1) ≠ [] := fun e => by have := congrArg List.length e; rw [List.length_drop] at this; simp at this; omega
        rw [if_pos h2, if_neg hr]
        by_cases h3 : (l[i].size : Int) = 32
        · rw [if_pos h3, decide_eq_true (by omega), Bool.true_and]
        · rw [if_neg h3, decide_eq_false (by omega), Bool.false_and]
      · have hr : l.drop (i + 1) = [] := List.drop_eq_nil_of_le (by omega)
        rw [if_neg h2, hr, if_pos rfl, decide_eq_true (by omega)]
        rfl
    · rw [decide_eq_false h1, if_neg (by simp)]
      by_cases hr : l.drop (i + 1) = []
      · rw [if_pos hr, decide_eq_false (by omega)]
      · rw [if_neg hr, decide_eq_false (by omega), Bool.false_and]
theorem sumz_mem : ∀ (l : List ByteArray), ∀ y ∈ l, y.size ≤ sumz l
  | x :: r, y, h => by
    rcases List.mem_cons.1 h with rfl | h
    · show y.size ≤ y.size + sumz r; omega
    · have := sumz_mem r y h
      show y.size ≤ x.size + sumz r; omega
theorem pieces_one (l : List ByteArray) (hz : sumz l ≤ 1048576) : impl_arePieces.v l = some (decide (l.length ≤ 64) && okP l) ∧ spec_l09OK.v l = some (decide (l.length ≤ 64) && okP l) := by
  rw [impl_arePieces.v_eq, spec_l09OK.v_eq]
  by_cases h : l.length ≤ 64
  · have hJ := J_size l
    have hc := cutM_len (J l).size (J l)
    refine ⟨?_, ?_⟩
    · rw [if_pos (by omega), strings_Join.v_eq, if_pos ⟨by show (J l).size ≤ _; omega, by omega⟩, Option.bind_some]
      show (impl_cut.v (J l)).bind _ = _
      rw [impl_cut_v (J l) (by omega), Option.bind_some, equalS_v _ _ (by omega), Option.bind_some, decide_eq_true h, Bool.true_and]
      have := cut_ok l (J l).size (Nat.le_refl _)
      cases hq : okP l with
      | true => rw [decide_eq_true (this.2 hq)]
      | false => rw [decide_eq_false (fun e => by rw [this.1 e] at hq; cases hq)]
    · rw [if_neg (by omega)]
      have := okS_l l h (fun y hy => by have := sumz_mem l y hy; omega) l.length 0 rfl (by omega)
      rw [show ((0 : Nat) : Int) = 0 from rfl, List.drop_zero] at this
      rw [this, decide_eq_true h, Bool.true_and]
  · rw [if_neg (by omega), if_pos (by omega), decide_eq_false h, Bool.false_and]
    exact ⟨rfl, rfl⟩
theorem okP_size : ∀ (l : List ByteArray), okP l = true → ∀ y ∈ l, y.size ≤ 32
  | x :: r, h, y, hy => by
    rw [okP] at h
    by_cases hr : r = []
    · subst hr
      rw [if_pos rfl, decide_eq_true_eq] at h
      rw [List.mem_singleton.1 hy]; omega
    · rw [if_neg hr, Bool.and_eq_true, decide_eq_true_eq] at h
      rcases List.mem_cons.1 hy with rfl | hy
      · omega
      · exact okP_size r h.2 y hy
theorem root_one : ∀ (N : Nat) (l : List ByteArray), l.length ≤ N → l.length ≤ 64 → (∀ y ∈ l, y.size ≤ 32) → ∃ t, spec_l09Root.v l = some t ∧ impl_piecesRoot.v l = some t ∧ t.size = 32
  | 0, l, hN, h64, hy => by
    have : l = [] := List.length_eq_zero_iff.1 (by omega)
    subst this
    obtain ⟨t, h1, h2, h3⟩ := hash_one (⟨#[110, 111, 116, 104, 105, 110, 103]⟩ : ByteArray) (by decide)
    refine ⟨t, ?_, ?_, h3⟩
    · rw [spec_l09Root.v_eq, if_pos (show (([] : List ByteArray).length : Int) = 0 from rfl)]
      have : bytesOf (⟨#[110, 111, 116, 104, 105, 110, 103]⟩ : ByteArray) = [110, 111, 116, 104, 105, 110, 103] := by decide
      rw [← this, h1, Option.bind_some]
    · rw [impl_piecesRoot.v_eq, if_pos (show (([] : List ByteArray).length : Int) = 0 from rfl), h2, Option.bind_some]
  | N + 1, l, hN, h64, hy => by
    by_cases h0 : l.length = 0
    · exact root_one N l (by omega) h64 hy
    · by_cases h1 : l.length = 1
      · have hm : (rdOf ByteArray.empty l 0).size ≤ 32 := by
          have := rdOf_at l 0 (by omega)
          rw [show ((0 : Nat) : Int) = 0 from rfl] at this
          rw [this]; exact hy _ (List.getElem_mem _)
        obtain ⟨t, e1, e2, e3⟩ := leaf_one (rdOf ByteArray.empty l 0) (by omega)
        refine ⟨t, ?_, ?_, e3⟩
        · rw [spec_l09Root.v_eq, if_neg (by omega), if_pos (by omega), if_pos (by omega), e1, Option.bind_some]
        · rw [impl_piecesRoot.v_eq, if_neg (by omega), if_pos (by omega), if_pos (by omega), e2, Option.bind_some]
      · obtain ⟨r, r1, r2, r3, r4⟩ := half_one l.length (by omega)
        have r5 := r4 (by omega)
        obtain ⟨a, a1, a2, a3⟩ := root_one N (l.take r.toNat) (by rw [List.length_take]; omega) (by rw [List.length_take]; omega) (fun y h => hy y (List.mem_of_mem_take h))
        obtain ⟨b, b1, b2, b3⟩ := root_one N (l.drop r.toNat) (by rw [List.length_drop]; omega) (by rw [List.length_drop]; omega) (fun y h => hy y (List.mem_of_mem_drop h))
        obtain ⟨t, t1, t2, t3⟩ := node_any a b (by omega) (by omega)
        refine ⟨t, ?_, ?_, t3⟩
        · rw [spec_l09Root.v_eq, if_neg (by omega), if_neg (by omega), r1, Option.bind_some, if_pos (by omega), if_pos (by omega), a1, Option.bind_some, b1, Option.bind_some, t1, Option.bind_some]
        · rw [impl_piecesRoot.v_eq, if_neg (by omega), if_neg (by omega), r2, Option.bind_some, if_pos (by omega), if_pos (by omega), a2, Option.bind_some, b2, Option.bind_some, t2, Option.bind_some]
theorem path_one : ∀ (N : Nat) (l : List ByteArray) (at_ : Int), l.length ≤ N → 1 ≤ l.length → l.length ≤ 64 → 0 ≤ at_ → at_ < l.length → (∀ y ∈ l, y.size ≤ 32) → ∃ p : List ByteArray, spec_l09Path.v l at_ = some p ∧ impl_prove.v l at_ = some p ∧ p.length ≤ l.length ∧ (∀ y ∈ p, y.size = 32)
  | 0, l, at_, hN, h1, h64, h0, hlt, hy => by omega
  | N + 1, l, at_, hN, h1, h64, h0, hlt, hy => by
    rw [spec_l09Path.v_eq, impl_prove.v_eq]
    by_cases c1 : (l.length : Int) = 1
    · rw [if_pos c1, if_pos c1]
      exact ⟨[], rfl, rfl, by simp, fun y h => by cases h⟩
    · obtain ⟨r, r1, r2, r3, r4⟩ := half_one l.length (by omega)
      have r5 := r4 (by omega)
      rw [if_neg c1, if_neg c1, r1, r2, Option.bind_some, Option.bind_some]
      have ht : (l.take r.toNat).length = r.toNat := by rw [List.length_take]; omega
      have hd : (l.drop r.toNat).length = l.length - r.toNat := List.length_drop
      obtain ⟨a, a1, a2, a3⟩ := root_one N (l.take r.toNat) (by omega) (by omega) (fun y h => hy y (List.mem_of_mem_take h))
      obtain ⟨b, b1, b2, b3⟩ := root_one N (l.drop r.toNat) (by omega) (by omega) (fun y h => hy y (List.mem_of_mem_drop h))
      by_cases c2 : at_ < r
      · obtain ⟨p, p1, p2, p3, p4⟩ := path_one N (l.take r.toNat) at_ (by omega) (by omega) (by omega) h0 (by omega) (fun y h => hy y (List.mem_of_mem_take h))
        refine ⟨p ++ [b], ?_, ?_, by rw [List.length_append, List.length_singleton]; omega, fun y h => ?_⟩
        · simp only [if_pos c2, if_pos (show (0 : Int) ≤ r by omega), if_pos (show r ≤ (l.length : Int) by omega), p1, b1, Option.bind_some]
          rw [if_pos (by omega)]
        · simp only [if_pos c2, if_pos (show (0 : Int) ≤ r by omega), if_pos (show r ≤ (l.length : Int) by omega), p2, b2, Option.bind_some]
          rw [if_pos (by omega)]
        · rcases List.mem_append.1 h with h | h
          · exact p4 y h
          · rw [List.mem_singleton.1 h]; exact b3
      · have w : wrap64 (at_ - r) = at_ - r := wrap_id (by omega) (by omega)
        obtain ⟨p, p1, p2, p3, p4⟩ := path_one N (l.drop r.toNat) (at_ - r) (by omega) (by omega) (by omega) (by omega) (by omega) (fun y h => hy y (List.mem_of_mem_drop h))
        refine ⟨p ++ [a], ?_, ?_, by rw [List.length_append, List.length_singleton]; omega, fun y h => ?_⟩
        · simp only [if_neg c2, w, if_pos (show (0 : Int) ≤ r by omega), if_pos (show r ≤ (l.length : Int) by omega), p1, a1, Option.bind_some]
          rw [if_pos (by omega)]
        · simp only [if_neg c2, w, if_pos (show (0 : Int) ≤ r by omega), if_pos (show r ≤ (l.length : Int) by omega), p2, a2, Option.bind_some]
          rw [if_pos (by omega)]
        · rcases List.mem_append.1 h with h | h
          · exact p4 y h
          · rw [List.mem_singleton.1 h]; exact a3
theorem markText_l : ∀ (m : Nat) (x : Int) (s : ByteArray), 0 ≤ x → x < 10 ^ m → x ≤ 9223372036854775807 → s.size + m ≤ 1000000 → ∃ r, laws_markText.lv0 x s = some r
  | 0, x, s, h0, h1, h2, h3 => ⟨_, by rw [laws_markText.lv0_eq, if_neg (by simp at h1; omega), if_pos (by omega)]⟩
  | m + 1, x, s, h0, h1, h2, h3 => by
    by_cases hx : x > 0
    · have h4 : (strOfNums [(wrap64 (48 + (Int.tmod x 10))) % 256]).size = 1 := by rw [strOf_size]; rfl
      have h5 : Int.tdiv x 10 = x / 10 := Int.tdiv_eq_ediv_of_nonneg h0
      obtain ⟨r, hr⟩ := markText_l m (x / 10) ((strOfNums [(wrap64 (48 + (Int.tmod x 10))) % 256]) ++ s) (by omega) (by rw [Int.pow_succ] at h1; omega) (by omega) (by rw [ByteArray.size_append, h4]; omega)
      refine ⟨r, ?_⟩
      rw [laws_markText.lv0_eq, if_pos hx]
      simp only [Option.bind_some]
      rw [if_pos (by rw [h4]; omega), h5, wrap_id (by omega) (by omega), hr]
    · exact ⟨_, by rw [laws_markText.lv0_eq, if_neg hx, if_pos (by omega)]⟩
noncomputable def mtext (k : Int) : ByteArray := (laws_markText.v k).getD ⟨#[]⟩
theorem markText_v (k : Int) (h : 0 ≤ k) (h2 : k ≤ 9223372036854775807) : laws_markText.v k = some (mtext k) := by
  have : ∃ r, laws_markText.v k = some r := by
    rw [laws_markText.v_eq]
    by_cases hk : k ≤ 0
    · exact ⟨_, by rw [if_pos hk]⟩
    · rw [if_neg hk]
      exact markText_l 19 k ⟨#[]⟩ h (by omega) h2 (by show 0 + 19 ≤ _; omega)
  obtain ⟨r, hr⟩ := this
  rw [mtext, hr]; rfl
theorem strings_held (l : List ByteArray) (h : l.length ≤ 281474976710656) : ∃ l', laws_markStringS.v l 1 = some (1 + (l.length : Int), l') ∧ laws_heldStringS.v l' 1 = some (1 + (l.length : Int)) := by
  obtain ⟨l', h1, h2, h3⟩ := mark_held ByteArray.empty (fun _ k => mtext k) (fun x k => decide (x = mtext k)) 1 (by omega) (fun x k _ _ => by simp) (fun l k i => laws_markStringS.lv0 l k i) (fun l k i => laws_heldStringS.lv0 l k i) (fun l k i h0 h1 h2 h3 => by
    show laws_markStringS.lv0 l k i = _
    rw [laws_markStringS.lv0_eq, if_pos h1, markText_v k h2 (by omega)]
    simp only [Option.bind_some]
    rw [if_pos h0, wrap_id (x := k + 1) (by omega) (by omega)]) (fun l k i h0 => by
    show laws_markStringS.lv0 l k i = _
    rw [laws_markStringS.lv0_eq, if_neg (by omega)]) (fun l k i h0 h1 h2 h3 h4 => by
    show laws_heldStringS.lv0 l k i = _
    rw [laws_heldStringS.lv0_eq, if_pos h1, if_pos h0, markText_v k h2 (by omega)]
    simp only [Option.bind_some]
    rw [if_pos (by rw [ba_inj]; exact of_decide_eq_true h4), wrap_id (x := k + 1) (by omega) (by omega)]) (fun l k i h0 => by
    show laws_heldStringS.lv0 l k i = _
    rw [laws_heldStringS.lv0_eq, if_neg (by omega)]) l 1 (by omega) (by omega) (by omega)
  exact ⟨l', by rw [laws_markStringS.v_eq]; simpa using h1, by rw [laws_heldStringS.v_eq]; simpa using h3⟩
theorem join_l (p : List ByteArray) (hp : p.length ≤ 64) (hy : ∀ y ∈ p, y.size = 32) : ∀ (d i : Nat) (x : ByteArray), p.length - i = d → i ≤ p.length → x.size = 32 * i → spec_l00Join.lv0 p ⟨#[]⟩ x i = some (x ++ J (p.drop i))
  | 0, i, x, hd, hi, hx => by
    rw [spec_l00Join.lv0_eq, if_neg (by omega), List.drop_eq_nil_of_le (by omega), J_nil]
    refine congrArg some (ba_inj.1 ?_)
    rw [ba_toList, ba_toList, ByteArray.data_append]
    simp
  | d + 1, i, x, hd, hi, hx => by
    have hlt : i < p.length := by omega
    have hs : p[i].size = 32 := hy _ (List.getElem_mem hlt)
    have w : wrap64 ((i : Int) + 1) = ((i + 1 : Nat) : Int) := by rw [wrap_id (by omega) (by omega)]; omega
    have e0 : x ++ (⟨#[]⟩ : ByteArray) = x := by
      refine ba_inj.1 ?_
      rw [ba_toList, ba_toList, ByteArray.data_append]
      simp
    have z0 : (⟨#[]⟩ : ByteArray).size = 0 := rfl
    have ih := join_l p hp hy d (i + 1) (x ++ p[i]) (by omega) (by omega) (by rw [ByteArray.size_append]; omega)
    rw [spec_l00Join.lv0_eq, w]
    clear w
    rw [if_pos (by omega), rdOf_at p i hlt, e0, List.drop_eq_getElem_cons hlt, J_cons, ← ByteArray.append_assoc, ← ih]
    by_cases h0 : (i : Int) > 0
    · rw [if_pos h0, if_pos (by rw [z0]; omega), if_pos (by omega), if_pos (by omega)]
    · rw [if_neg h0, if_pos (by omega), if_pos (by omega)]
theorem join_one (p : List ByteArray) (hp : p.length ≤ 64) (hy : ∀ y ∈ p, y.size = 32) : spec_l00Join.v p ⟨#[]⟩ = some (J p) ∧ strings_Join.v p ⟨#[]⟩ = some (J p) := by
  have hz : ∀ q : List ByteArray, (∀ y ∈ q, y.size = 32) → sumz q = 32 * q.length := by
    intro q
    induction q with
    | nil => intro _; rfl
    | cons x r ih =>
      intro h
      show x.size + sumz r = 32 * (r.length + 1)
      rw [ih (fun y h2 => h y (List.mem_cons_of_mem _ h2)), h x List.mem_cons_self]
      omega
  refine ⟨?_, ?_⟩
  · rw [spec_l00Join.v_eq]
    have := join_l p hp hy p.length 0 ⟨#[]⟩ rfl (by omega) rfl
    rw [show ((0 : Nat) : Int) = 0 from rfl, List.drop_zero] at this
    rw [this]
    refine congrArg some (ba_inj.1 ?_)
    rw [ba_toList, ba_toList, ByteArray.data_append]
    simp
  · have h1 := J_size p
    have h2 := hz p hy
    rw [strings_Join.v_eq, if_pos ⟨by show (J p).size ≤ _; omega, by omega⟩]
    rfl
theorem proofs_l (l : List ByteArray) (h64 : l.length ≤ 64) (hy : ∀ y ∈ l, y.size ≤ 32) : ∀ (d i : Nat) (x : List ByteArray), l.length - i = d → i ≤ l.length → x.length = i → ∃ r : List ByteArray, spec_l10Proofs.lv0 l x i = some r ∧ impl_ProofsOf.lv0 l x l.length i = some (r, 0) ∧ r.length ≤ 64
  | 0, i, x, hd, hi, hx => ⟨x, by rw [spec_l10Proofs.lv0_eq, if_neg (by omega)], by rw [impl_ProofsOf.lv0_eq, if_neg (by omega)], by omega⟩
  | d + 1, i, x, hd, hi, hx => by
    obtain ⟨p, p1, p2, p3, p4⟩ := path_one l.length l i (Nat.le_refl _) (by omega) h64 (by omega) (by omega) hy
    obtain ⟨j1, j2⟩ := join_one p (by omega) p4
    obtain ⟨r, r1, r2, r3⟩ := proofs_l l h64 hy d (i + 1) (x ++ [J p]) (by omega) (by omega) (by rw [List.length_append, List.length_singleton]; omega)
    have w : wrap64 ((i : Int) + 1) = ((i + 1 : Nat) : Int) := by rw [wrap_id (by omega) (by omega)]; omega
    refine ⟨r, ?_, ?_, r3⟩
    · rw [spec_l10Proofs.lv0_eq, w, if_pos (by omega), p1, Option.bind_some, j1, Option.bind_some, if_pos (by omega), r1]
    · rw [impl_ProofsOf.lv0_eq, w, if_pos (by omega), p2, Option.bind_some, j2, Option.bind_some, if_pos (by omega), r2]
theorem proofs_eq (l : List ByteArray) (hz : sumz l ≤ 1048576) : ∃ r : List ByteArray × Int, spec_ProofsOf.v l = some r ∧ impl_ProofsOf.v l = some r ∧ r.1.length ≤ 64 := by
  rw [spec_ProofsOf.v_eq, impl_ProofsOf.v_eq, impl_isLongList_string.v_eq, Option.bind_some]
  by_cases h : (l.length : Int) > 4096
  · rw [if_pos h]
    exact ⟨_, rfl, by simp [h], by simp⟩
  · rw [if_neg h]
    obtain ⟨p1, p2⟩ := pieces_one l hz
    rw [p1, p2, if_neg (by simpa using h), Option.bind_some, Option.bind_some]
    cases hb : (decide (l.length ≤ 64) && okP l) with
    | false => exact ⟨_, rfl, rfl, by simp⟩
    | true =>
      rw [Bool.and_eq_true, decide_eq_true_eq] at hb
      obtain ⟨r, r1, r2, r3⟩ := proofs_l l hb.1 (okP_size l hb.2) l.length 0 [] rfl (by omega) rfl
      have r1' : spec_l10Proofs.v l = some r := by rw [spec_l10Proofs.v_eq]; exact r1
      have r2' : impl_ProofsOf.lv0 l [] l.length 0 = some (r, 0) := r2
      rw [if_pos rfl, if_pos rfl, r1', r2']
      exact ⟨_, rfl, rfl, r3⟩
theorem FnExactProofsOf_pure (y0 : List ByteArray) : (y0.length ≤ 9223372036854775807 ∧ ∀ y ∈ y0, y.size ≤ 9223372036854775807) → laws_FnExactProofsOf.v y0 = some true := by
  intro h
  obtain ⟨t, e, ht⟩ := szT_v y0 h.1 h.2
  rw [laws_FnExactProofsOf.v_eq, e, Option.bind_some]
  by_cases h0 : t < 0
  · rw [if_pos h0]
  obtain ⟨hl, hz⟩ := ht h0
  obtain ⟨r, r1, r2, r3⟩ := proofs_eq y0 hz
  obtain ⟨b', hb1, -⟩ := strings_held y0 (by omega)
  obtain ⟨s', hs1, hs2⟩ := strings_held r.1 (by omega)
  simp only [if_neg h0, toS_v y0 hl, Option.bind_some, r1, r2, if_true, bne_self_eq_false, laws_FnExactProofsOf.jv0_eq, laws_FnExactProofsOf.jv1_eq, laws_FnExactProofsOf.jv2_eq, eqS_v y0 (show y0.length ≤ 281474976710656 by omega), eqS_v r.1 (show r.1.length ≤ 281474976710656 by omega), hb1, hs1, hs2, Bool.false_eq_true, if_false, if_neg (show ¬ (1 + (y0.length : Int)) < 0 by omega), if_neg (show ¬ (1 + (r.1.length : Int)) < 0 by omega)]
end Go.Proofs.YtadablpppkjdbaaDoor.A
end
