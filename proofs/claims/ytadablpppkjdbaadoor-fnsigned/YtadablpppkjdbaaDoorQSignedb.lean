/- A part of the proof that FnSigned returns true at every input: plain functions, contracts and lemmas. No conditions. -/
import Derived.Test.YtadablpppkjdbaaDoorQSigneda
set_option linter.unusedVariables false
set_option linter.unusedSimpArgs false
set_option linter.unusedSectionVars false
section
namespace Go.Proofs.YtadablpppkjdbaaDoor.A
open Go.RowKit Go.Proofs.YtadablpppkjdbaaDoorW.PrintWords Go.Proofs.YtadablpppkjdbaaDoorW.PrintLast Go.Proofs.YtadablpppkjdbaaDoorW.PrintMore
attribute [local go_sem] max2_int min2_int max_two min_two max_three min_three max_four min_four
def spec_l00Source.f (l0 : List Int) : Option (List Int × Int × Int) := some (l0, 0, (l0.length : Int) % 1000)
def spec_l00Source.v (l0 : List Int) : Option (List Int × Int × Int) := spec_l00Source.f l0
theorem spec_l00Source.v_lim (l0 : List Int) : LimIs (fun _ => spec_l00Source.f l0) (spec_l00Source.v l0) := LimIs.const _
theorem spec_l00Source.v_eq (l0 : List Int) : spec_l00Source.v l0 = (some (l0, 0, (l0.length : Int) % 1000) : Option (List Int × Int × Int)) := rfl
def spec_l00Src_byte.f (s0_0 : List Int) (s0_1 : Int) (s0_2 : Int) : Option (Int × Int × Int) := if (wrap64 (s0_1 + 1)) ≤ (s0_0.length : Int) then (if 0 ≤ (wrap64 ((wrap64 (s0_1 + 1)) - 1)) then (if (wrap64 ((wrap64 (s0_1 + 1)) - 1)) < (s0_0.length : Int) then (some (wrap64 (rd s0_0 (wrap64 ((wrap64 (s0_1 + 1)) - 1))), wrap64 (s0_1 + 1), Int.tmod (wrap64 ((wrap64 ((wrap64 (s0_2 * 31)) + (wrap64 (rd s0_0 (wrap64 ((wrap64 (s0_1 + 1)) - 1)))))) + 7)) 2147483648)) else (none)) else (none)) else (if (wrap64 (s0_1 + 1)) > 3000 then (some (0, wrap64 (s0_1 + 1), s0_2)) else (some (Int.tmod (wrap64 (Int.tdiv (Int.tmod (wrap64 ((wrap64 (s0_2 * 1103515245)) + 12345)) 2147483648) 65536)) 256, wrap64 (s0_1 + 1), Int.tmod (wrap64 ((wrap64 (s0_2 * 1103515245)) + 12345)) 2147483648)))
def spec_l00Src_byte.v (s0_0 : List Int) (s0_1 : Int) (s0_2 : Int) : Option (Int × Int × Int) := spec_l00Src_byte.f s0_0 s0_1 s0_2
theorem spec_l00Src_byte.v_eq (s0_0 : List Int) (s0_1 : Int) (s0_2 : Int) : spec_l00Src_byte.v s0_0 s0_1 s0_2 = (if (wrap64 (s0_1 + 1)) ≤ (s0_0.length : Int) then (if 0 ≤ (wrap64 ((wrap64 (s0_1 + 1)) - 1)) then (if (wrap64 ((wrap64 (s0_1 + 1)) - 1)) < (s0_0.length : Int) then (some (wrap64 (rd s0_0 (wrap64 ((wrap64 (s0_1 + 1)) - 1))), wrap64 (s0_1 + 1), Int.tmod (wrap64 ((wrap64 ((wrap64 (s0_2 * 31)) + (wrap64 (rd s0_0 (wrap64 ((wrap64 (s0_1 + 1)) - 1)))))) + 7)) 2147483648)) else (none)) else (none)) else (if (wrap64 (s0_1 + 1)) > 3000 then (some (0, wrap64 (s0_1 + 1), s0_2)) else (some (Int.tmod (wrap64 (Int.tdiv (Int.tmod (wrap64 ((wrap64 (s0_2 * 1103515245)) + 12345)) 2147483648) 65536)) 256, wrap64 (s0_1 + 1), Int.tmod (wrap64 ((wrap64 (s0_2 * 1103515245)) + 12345)) 2147483648))) : Option (Int × Int × Int)) := rfl
def spec_l00Src_next.f (s0_0 : List Int) (s0_1 : Int) (s0_2 : Int) (a1 : Int) : Option (Int × Int × Int) := if a1 ≤ 1 then (some (0, s0_1, s0_2)) else (if a1 ≤ 256 then ((spec_l00Src_byte.f s0_0 s0_1 s0_2).bind fun bt425 => (if a1 = 0 then (none) else (some (Int.tmod bt425.1 a1, bt425.2.1, bt425.2.2)))) else ((spec_l00Src_byte.f s0_0 s0_1 s0_2).bind fun bt428 => ((spec_l00Src_byte.f s0_0 bt428.2.1 bt428.2.2).bind fun bt431 => ((spec_l00Src_byte.f s0_0 bt431.2.1 bt431.2.2).bind fun bt434 => (if a1 = 0 then (none) else (some (Int.tmod (wrap64 ((wrap64 ((wrap64 (bt428.1 * 65536)) + (wrap64 (bt431.1 * 256)))) + bt434.1)) a1, bt434.2.1, bt434.2.2)))))))
def spec_l00Src_next.v (s0_0 : List Int) (s0_1 : Int) (s0_2 : Int) (a1 : Int) : Option (Int × Int × Int) := spec_l00Src_next.f s0_0 s0_1 s0_2 a1
theorem spec_l00Src_next.v_lim (s0_0 : List Int) (s0_1 : Int) (s0_2 : Int) (a1 : Int) : LimIs (fun _ => spec_l00Src_next.f s0_0 s0_1 s0_2 a1) (spec_l00Src_next.v s0_0 s0_1 s0_2 a1) := LimIs.const _
theorem spec_l00Src_next.v_eq (s0_0 : List Int) (s0_1 : Int) (s0_2 : Int) (a1 : Int) : spec_l00Src_next.v s0_0 s0_1 s0_2 a1 = (if a1 ≤ 1 then (some (0, s0_1, s0_2)) else (if a1 ≤ 256 then ((spec_l00Src_byte.v s0_0 s0_1 s0_2).bind fun bt425 => (if a1 = 0 then (none) else (some (Int.tmod bt425.1 a1, bt425.2.1, bt425.2.2)))) else ((spec_l00Src_byte.v s0_0 s0_1 s0_2).bind fun bt428 => ((spec_l00Src_byte.v s0_0 bt428.2.1 bt428.2.2).bind fun bt431 => ((spec_l00Src_byte.v s0_0 bt431.2.1 bt431.2.2).bind fun bt434 => (if a1 = 0 then (none) else (some (Int.tmod (wrap64 ((wrap64 ((wrap64 (bt428.1 * 65536)) + (wrap64 (bt431.1 * 256)))) + bt434.1)) a1, bt434.2.1, bt434.2.2))))))) : Option (Int × Int × Int)) := rfl
def spec_l02Number.l0 : Nat → Int → List Int → Int → Option (List Int)
  | 0, _, _, _ => none
  | k + 1, x0, x5, x6 => if x6 ≥ 0 then (if 0 ≤ (IntKind.u64.wrap (wrap64 (8 * x6))) then (if x5.length < 140737488355328 then (spec_l02Number.l0 k x0 (x5 ++ [(shr .i64 x0 (IntKind.u64.wrap (wrap64 (8 * x6)))) % 256]) (wrap64 (x6 - 1))) else (none)) else (none)) else (some x5)
def spec_l02Number.f (k : Nat) (a0 : Int) (a1 : Int) : Option (List Int) := spec_l02Number.l0 k a0 (([] : List Int)) (wrap64 (a1 - 1))
theorem spec_l02Number.mono_l : ∀ k, (∀ y0 y1 y2, LeO (spec_l02Number.l0 k y0 y1 y2) (spec_l02Number.l0 (k + 1) y0 y1 y2))
  | 0 => fun _ _ _ r h => by simp [spec_l02Number.l0] at h
  | k + 1 => by
    have ih0 := spec_l02Number.mono_l k
    · intro y0 y1 y2
      unfold spec_l02Number.l0
      repeat' first
      | (with_reducible exact ih0 _ _ _)
      | (with_reducible exact LeO.refl _)
      | (with_reducible exact LeO.none _)
      | (with_reducible refine LeO.ite ?_ ?_)
      | (with_reducible refine LeO.bind ?_ (fun _ => ?_))
      | exact ih0 _ _ _
      | exact LeO.none _
      | refine LeO.ite ?_ ?_
      | refine LeO.bind ?_ (fun _ => ?_)
theorem spec_l02Number.mono : ∀ a0 a1 k, LeO (spec_l02Number.f k a0 a1) (spec_l02Number.f (k + 1) a0 a1) := by
  intro a0 a1 k
  have ih0 := spec_l02Number.mono_l k
  unfold spec_l02Number.f
  repeat' first
      | (with_reducible exact ih0 _ _ _)
      | (with_reducible exact LeO.refl _)
      | (with_reducible exact LeO.none _)
      | (with_reducible refine LeO.ite ?_ ?_)
      | (with_reducible refine LeO.bind ?_ (fun _ => ?_))
      | exact ih0 _ _ _
      | exact LeO.none _
      | refine LeO.ite ?_ ?_
      | refine LeO.bind ?_ (fun _ => ?_)
noncomputable def spec_l02Number.lv0 (x0 : Int) (x5 : List Int) (x6 : Int) : Option (List Int) := lim (fun k_ => spec_l02Number.l0 k_ x0 x5 x6)
noncomputable def spec_l02Number.v (a0 : Int) (a1 : Int) : Option (List Int) := lim (fun k_ => spec_l02Number.f k_ a0 a1)
theorem spec_l02Number.lv0_lim (x0 : Int) (x5 : List Int) (x6 : Int) : LimIs (fun k_ => spec_l02Number.l0 k_ x0 x5 x6) (spec_l02Number.lv0 x0 x5 x6) := lim_is (fun k_ => (spec_l02Number.mono_l k_) x0 x5 x6)
theorem spec_l02Number.v_lim (a0 : Int) (a1 : Int) : LimIs (fun k_ => spec_l02Number.f k_ a0 a1) (spec_l02Number.v a0 a1) := lim_is (fun k_ => spec_l02Number.mono a0 a1 k_)
theorem spec_l02Number.lv0_eq (x0 : Int) (x5 : List Int) (x6 : Int) : spec_l02Number.lv0 x0 x5 x6 = (if x6 ≥ 0 then (if 0 ≤ (IntKind.u64.wrap (wrap64 (8 * x6))) then (if x5.length < 140737488355328 then (spec_l02Number.lv0 x0 (x5 ++ [(shr .i64 x0 (IntKind.u64.wrap (wrap64 (8 * x6)))) % 256]) (wrap64 (x6 - 1))) else (none)) else (none)) else (some x5) : Option (List Int)) := by
  refine LimIs.eq (spec_l02Number.lv0_lim x0 x5 x6) ?_
  refine LimIs.step (fun k_ => (spec_l02Number.mono_l k_) x0 x5 x6) ?_
  simp only [spec_l02Number.l0]
  repeat' (with_reducible first | exact spec_l02Number.lv0_lim _ _ _ | exact LimIs.const _ | refine LimIs.ite ?_ ?_ | refine LimIs.bind ?_ (fun _ => ?_))
theorem spec_l02Number.v_eq (a0 : Int) (a1 : Int) : spec_l02Number.v a0 a1 = (spec_l02Number.lv0 a0 (([] : List Int)) (wrap64 (a1 - 1)) : Option (List Int)) := by
  refine LimIs.eq (spec_l02Number.v_lim a0 a1) ?_
  simp only [spec_l02Number.f]
  repeat' (with_reducible first | exact spec_l02Number.lv0_lim _ _ _ | exact LimIs.const _ | refine LimIs.ite ?_ ?_ | refine LimIs.bind ?_ (fun _ => ?_))
def spec_l02Request.f (k : Nat) (a0_0 : Int) (a0_1 : Int) (a0_2 : Int) (a0_3 : Int) (a0_4 : ByteArray) : Option (List Int) := (some (([(a0_0) % 256] : List Int) : List Int)).bind fun y444 => ((spec_l02Number.f k a0_1 2).bind fun t447 => (if y444.length + t447.length < 140737488355328 then ((some (y444 ++ t447 : List Int)).bind fun y450 => (if y450.length < 140737488355328 then ((some (y450 ++ [(a0_2) % 256] : List Int)).bind fun y453 => ((spec_l02Number.f k a0_3 2).bind fun t456 => (if y453.length + t456.length < 140737488355328 then ((some (y453 ++ t456 : List Int)).bind fun y459 => (if y459.length < 140737488355328 then ((some (y459 ++ [((a0_4.size : Int)) % 256] : List Int)).bind fun y462 => (if y462.length + a0_4.size < 140737488355328 then (some (y462 ++ bytesOf a0_4)) else (none))) else (none))) else (none)))) else (none))) else (none)))
theorem spec_l02Request.mono : ∀ a0 a1 a2 a3 a4 k, LeO (spec_l02Request.f k a0 a1 a2 a3 a4) (spec_l02Request.f (k + 1) a0 a1 a2 a3 a4) := by
  intro a0 a1 a2 a3 a4 k
  unfold spec_l02Request.f
  repeat' first
      | (with_reducible exact spec_l02Number.mono _ _ _)
      | (with_reducible exact LeO.refl _)
      | (with_reducible exact LeO.none _)
      | (with_reducible refine LeO.ite ?_ ?_)
      | (with_reducible refine LeO.bind ?_ (fun _ => ?_))
      | exact spec_l02Number.mono _ _ _
      | exact LeO.none _
      | refine LeO.ite ?_ ?_
      | refine LeO.bind ?_ (fun _ => ?_)
noncomputable def spec_l02Request.v (a0_0 : Int) (a0_1 : Int) (a0_2 : Int) (a0_3 : Int) (a0_4 : ByteArray) : Option (List Int) := lim (fun k_ => spec_l02Request.f k_ a0_0 a0_1 a0_2 a0_3 a0_4)
theorem spec_l02Request.v_lim (a0_0 : Int) (a0_1 : Int) (a0_2 : Int) (a0_3 : Int) (a0_4 : ByteArray) : LimIs (fun k_ => spec_l02Request.f k_ a0_0 a0_1 a0_2 a0_3 a0_4) (spec_l02Request.v a0_0 a0_1 a0_2 a0_3 a0_4) := lim_is (fun k_ => spec_l02Request.mono a0_0 a0_1 a0_2 a0_3 a0_4 k_)
theorem spec_l02Request.v_eq (a0_0 : Int) (a0_1 : Int) (a0_2 : Int) (a0_3 : Int) (a0_4 : ByteArray) : spec_l02Request.v a0_0 a0_1 a0_2 a0_3 a0_4 = ((some (([(a0_0) % 256] : List Int) : List Int)).bind fun y444 => ((spec_l02Number.v a0_1 2).bind fun t447 => (if y444.length + t447.length < 140737488355328 then ((some (y444 ++ t447 : List Int)).bind fun y450 => (if y450.length < 140737488355328 then ((some (y450 ++ [(a0_2) % 256] : List Int)).bind fun y453 => ((spec_l02Number.v a0_3 2).bind fun t456 => (if y453.length + t456.length < 140737488355328 then ((some (y453 ++ t456 : List Int)).bind fun y459 => (if y459.length < 140737488355328 then ((some (y459 ++ [((a0_4.size : Int)) % 256] : List Int)).bind fun y462 => (if y462.length + a0_4.size < 140737488355328 then (some (y462 ++ bytesOf a0_4)) else (none))) else (none))) else (none)))) else (none))) else (none))) : Option (List Int)) := by
  refine LimIs.eq (spec_l02Request.v_lim a0_0 a0_1 a0_2 a0_3 a0_4) ?_
  simp only [spec_l02Request.f]
  repeat' (with_reducible first | exact spec_l02Number.v_lim _ _ | exact LimIs.const _ | refine LimIs.ite ?_ ?_ | refine LimIs.bind ?_ (fun _ => ?_))
def spec_l02Batch.l0 : Nat → List Int → Int → Bool → Int → Int → Int → Int → ByteArray → List (S182) → Option (List Int)
  | 0, _, _, _, _, _, _, _, _, _ => none
  | k + 1, x3, x4, x469000, x469001, x469002, x469003, x469004, x469005, x469006 => if x4 < (x469006.length : Int) then (if 0 ≤ x4 then (if x3.length < 140737488355328 then ((some (x3 ++ [((rd_T182 x469006 x4).f0) % 256] : List Int)).bind fun y476 => ((spec_l02Number.f k ((rd_T182 x469006 x4).f1) 4).bind fun t480 => (if y476.length + t480.length < 140737488355328 then ((some (y476 ++ t480 : List Int)).bind fun y483 => (if y483.length + ((rd_T182 x469006 x4).f2).size < 140737488355328 then (spec_l02Batch.l0 k (y483 ++ bytesOf ((rd_T182 x469006 x4).f2)) (wrap64 (x4 + 1)) x469000 x469001 x469002 x469003 x469004 x469005 x469006) else (none))) else (none)))) else (none)) else (none)) else ((spec_l02Request.f k x469001 x469002 x469003 x469004 x469005).bind fun t490 => (if x3.length + t490.length < 140737488355328 then (some (x3 ++ t490)) else (none)))
def spec_l02Batch.f (k : Nat) (a0_0 : Bool) (a0_1 : Int) (a0_2 : Int) (a0_3 : Int) (a0_4 : Int) (a0_5 : ByteArray) (l0_6 : List (S182)) : Option (List Int) := if a0_0 = true then (some (([0] : List Int))) else (spec_l02Batch.l0 k (([(wrap64 (1 + (l0_6.length : Int))) % 256] : List Int)) 0 a0_0 a0_1 a0_2 a0_3 a0_4 a0_5 l0_6)
theorem spec_l02Batch.mono_l : ∀ k, (∀ y0 y1 y2 y3 y4 y5 y6 y7 y8, LeO (spec_l02Batch.l0 k y0 y1 y2 y3 y4 y5 y6 y7 y8) (spec_l02Batch.l0 (k + 1) y0 y1 y2 y3 y4 y5 y6 y7 y8))
  | 0 => fun _ _ _ _ _ _ _ _ _ r h => by simp [spec_l02Batch.l0] at h
  | k + 1 => by
    have ih0 := spec_l02Batch.mono_l k
    · intro y0 y1 y2 y3 y4 y5 y6 y7 y8
      unfold spec_l02Batch.l0
      repeat' first
      | (with_reducible exact ih0 _ _ _ _ _ _ _ _ _)
      | (with_reducible exact spec_l02Number.mono _ _ _)
      | (with_reducible exact spec_l02Request.mono _ _ _ _ _ _)
      | (with_reducible exact LeO.refl _)
      | (with_reducible exact LeO.none _)
      | (with_reducible refine LeO.ite ?_ ?_)
      | (with_reducible refine LeO.bind ?_ (fun _ => ?_))
      | exact ih0 _ _ _ _ _ _ _ _ _
      | exact spec_l02Number.mono _ _ _
      | exact spec_l02Request.mono _ _ _ _ _ _
      | exact LeO.none _
      | refine LeO.ite ?_ ?_
      | refine LeO.bind ?_ (fun _ => ?_)
theorem spec_l02Batch.mono : ∀ a0 a1 a2 a3 a4 a5 a6 k, LeO (spec_l02Batch.f k a0 a1 a2 a3 a4 a5 a6) (spec_l02Batch.f (k + 1) a0 a1 a2 a3 a4 a5 a6) := by
  intro a0 a1 a2 a3 a4 a5 a6 k
  have ih0 := spec_l02Batch.mono_l k
  unfold spec_l02Batch.f
  repeat' first
      | (with_reducible exact ih0 _ _ _ _ _ _ _ _ _)
      | (with_reducible exact spec_l02Number.mono _ _ _)
      | (with_reducible exact spec_l02Request.mono _ _ _ _ _ _)
      | (with_reducible exact LeO.refl _)
      | (with_reducible exact LeO.none _)
      | (with_reducible refine LeO.ite ?_ ?_)
      | (with_reducible refine LeO.bind ?_ (fun _ => ?_))
      | exact ih0 _ _ _ _ _ _ _ _ _
      | exact spec_l02Number.mono _ _ _
      | exact spec_l02Request.mono _ _ _ _ _ _
      | exact LeO.none _
      | refine LeO.ite ?_ ?_
      | refine LeO.bind ?_ (fun _ => ?_)
noncomputable def spec_l02Batch.lv0 (x3 : List Int) (x4 : Int) (x469000 : Bool) (x469001 : Int) (x469002 : Int) (x469003 : Int) (x469004 : Int) (x469005 : ByteArray) (x469006 : List (S182)) : Option (List Int) := lim (fun k_ => spec_l02Batch.l0 k_ x3 x4 x469000 x469001 x469002 x469003 x469004 x469005 x469006)
noncomputable def spec_l02Batch.v (a0_0 : Bool) (a0_1 : Int) (a0_2 : Int) (a0_3 : Int) (a0_4 : Int) (a0_5 : ByteArray) (l0_6 : List (S182)) : Option (List Int) := lim (fun k_ => spec_l02Batch.f k_ a0_0 a0_1 a0_2 a0_3 a0_4 a0_5 l0_6)
theorem spec_l02Batch.lv0_lim (x3 : List Int) (x4 : Int) (x469000 : Bool) (x469001 : Int) (x469002 : Int) (x469003 : Int) (x469004 : Int) (x469005 : ByteArray) (x469006 : List (S182)) : LimIs (fun k_ => spec_l02Batch.l0 k_ x3 x4 x469000 x469001 x469002 x469003 x469004 x469005 x469006) (spec_l02Batch.lv0 x3 x4 x469000 x469001 x469002 x469003 x469004 x469005 x469006) := lim_is (fun k_ => (spec_l02Batch.mono_l k_) x3 x4 x469000 x469001 x469002 x469003 x469004 x469005 x469006)
theorem spec_l02Batch.v_lim (a0_0 : Bool) (a0_1 : Int) (a0_2 : Int) (a0_3 : Int) (a0_4 : Int) (a0_5 : ByteArray) (l0_6 : List (S182)) : LimIs (fun k_ => spec_l02Batch.f k_ a0_0 a0_1 a0_2 a0_3 a0_4 a0_5 l0_6) (spec_l02Batch.v a0_0 a0_1 a0_2 a0_3 a0_4 a0_5 l0_6) := lim_is (fun k_ => spec_l02Batch.mono a0_0 a0_1 a0_2 a0_3 a0_4 a0_5 l0_6 k_)
theorem spec_l02Batch.lv0_eq (x3 : List Int) (x4 : Int) (x469000 : Bool) (x469001 : Int) (x469002 : Int) (x469003 : Int) (x469004 : Int) (x469005 : ByteArray) (x469006 : List (S182)) : spec_l02Batch.lv0 x3 x4 x469000 x469001 x469002 x469003 x469004 x469005 x469006 = (if x4 < (x469006.length : Int) then (if 0 ≤ x4 then (if x3.length < 140737488355328 then ((some (x3 ++ [((rd_T182 x469006 x4).f0) % 256] : List Int)).bind fun y476 => ((spec_l02Number.v ((rd_T182 x469006 x4).f1) 4).bind fun t480 => (if y476.length + t480.length < 140737488355328 then ((some (y476 ++ t480 : List Int)).bind fun y483 => (if y483.length + ((rd_T182 x469006 x4).f2).size < 140737488355328 then (spec_l02Batch.lv0 (y483 ++ bytesOf ((rd_T182 x469006 x4).f2)) (wrap64 (x4 + 1)) x469000 x469001 x469002 x469003 x469004 x469005 x469006) else (none))) else (none)))) else (none)) else (none)) else ((spec_l02Request.v x469001 x469002 x469003 x469004 x469005).bind fun t490 => (if x3.length + t490.length < 140737488355328 then (some (x3 ++ t490)) else (none))) : Option (List Int)) := by
  refine LimIs.eq (spec_l02Batch.lv0_lim x3 x4 x469000 x469001 x469002 x469003 x469004 x469005 x469006) ?_
  refine LimIs.step (fun k_ => (spec_l02Batch.mono_l k_) x3 x4 x469000 x469001 x469002 x469003 x469004 x469005 x469006) ?_
  simp only [spec_l02Batch.l0]
  repeat' (with_reducible first | exact spec_l02Batch.lv0_lim _ _ _ _ _ _ _ _ _ | exact spec_l02Number.v_lim _ _ | exact spec_l02Request.v_lim _ _ _ _ _ | exact LimIs.const _ | refine LimIs.ite ?_ ?_ | refine LimIs.bind ?_ (fun _ => ?_))
theorem spec_l02Batch.v_eq (a0_0 : Bool) (a0_1 : Int) (a0_2 : Int) (a0_3 : Int) (a0_4 : Int) (a0_5 : ByteArray) (l0_6 : List (S182)) : spec_l02Batch.v a0_0 a0_1 a0_2 a0_3 a0_4 a0_5 l0_6 = (if a0_0 = true then (some (([0] : List Int))) else (spec_l02Batch.lv0 (([(wrap64 (1 + (l0_6.length : Int))) % 256] : List Int)) 0 a0_0 a0_1 a0_2 a0_3 a0_4 a0_5 l0_6) : Option (List Int)) := by
  refine LimIs.eq (spec_l02Batch.v_lim a0_0 a0_1 a0_2 a0_3 a0_4 a0_5 l0_6) ?_
  simp only [spec_l02Batch.f]
  repeat' (with_reducible first | exact spec_l02Batch.lv0_lim _ _ _ _ _ _ _ _ _ | exact LimIs.const _ | refine LimIs.ite ?_ ?_ | refine LimIs.bind ?_ (fun _ => ?_))
def spec_l00Src_chance.f (s0_0 : List Int) (s0_1 : Int) (s0_2 : Int) (a1 : Int) : Option (Bool × Int × Int) := (spec_l00Src_next.f s0_0 s0_1 s0_2 a1).bind fun bt496 => (some ((bt496.1 == (wrap64 (a1 - 1))), bt496.2.1, bt496.2.2))
def spec_l00Src_chance.v (s0_0 : List Int) (s0_1 : Int) (s0_2 : Int) (a1 : Int) : Option (Bool × Int × Int) := spec_l00Src_chance.f s0_0 s0_1 s0_2 a1
theorem spec_l00Src_chance.v_lim (s0_0 : List Int) (s0_1 : Int) (s0_2 : Int) (a1 : Int) : LimIs (fun _ => spec_l00Src_chance.f s0_0 s0_1 s0_2 a1) (spec_l00Src_chance.v s0_0 s0_1 s0_2 a1) := LimIs.const _
theorem spec_l00Src_chance.v_eq (s0_0 : List Int) (s0_1 : Int) (s0_2 : Int) (a1 : Int) : spec_l00Src_chance.v s0_0 s0_1 s0_2 a1 = ((spec_l00Src_next.v s0_0 s0_1 s0_2 a1).bind fun bt496 => (some ((bt496.1 == (wrap64 (a1 - 1))), bt496.2.1, bt496.2.2)) : Option (Bool × Int × Int)) := rfl
def spec_l00Src_pick.f (s0_0 : List Int) (s0_1 : Int) (s0_2 : Int) (l1 : List ByteArray) : Option (ByteArray × Int × Int) := if (l1.length : Int) = 0 then (some ((⟨#[]⟩ : ByteArray), s0_1, s0_2)) else ((spec_l00Src_next.f s0_0 s0_1 s0_2 (l1.length : Int)).bind fun bt499 => (if 0 ≤ bt499.1 then (if bt499.1 < (l1.length : Int) then (some (rdOf ByteArray.empty l1 bt499.1, bt499.2.1, bt499.2.2)) else (none)) else (none)))
def spec_l00Src_pick.v (s0_0 : List Int) (s0_1 : Int) (s0_2 : Int) (l1 : List ByteArray) : Option (ByteArray × Int × Int) := spec_l00Src_pick.f s0_0 s0_1 s0_2 l1
theorem spec_l00Src_pick.v_eq (s0_0 : List Int) (s0_1 : Int) (s0_2 : Int) (l1 : List ByteArray) : spec_l00Src_pick.v s0_0 s0_1 s0_2 l1 = (if (l1.length : Int) = 0 then (some ((⟨#[]⟩ : ByteArray), s0_1, s0_2)) else ((spec_l00Src_next.v s0_0 s0_1 s0_2 (l1.length : Int)).bind fun bt499 => (if 0 ≤ bt499.1 then (if bt499.1 < (l1.length : Int) then (some (rdOf ByteArray.empty l1 bt499.1, bt499.2.1, bt499.2.2)) else (none)) else (none))) : Option (ByteArray × Int × Int)) := rfl
def spec_l00Src_request.f (s0_0 : List Int) (s0_1 : Int) (s0_2 : Int) : Option (Int × Int × Int × Int × ByteArray × Int × Int) := (spec_l00Src_next.f s0_0 s0_1 s0_2 3).bind fun bt504 => ((spec_l00Src_next.f s0_0 bt504.2.1 bt504.2.2 5).bind fun bt507 => ((spec_l00Src_next.f s0_0 bt507.2.1 bt507.2.2 4).bind fun bt510 => ((spec_l00Src_pick.f s0_0 bt510.2.1 bt510.2.2 (([(⟨#[97]⟩ : ByteArray), (⟨#[98]⟩ : ByteArray), (⟨#[108, 111, 99, 107]⟩ : ByteArray)] : List ByteArray))).bind fun bt516 => (if (wrap64 (1 + bt510.1)) = 1 then ((spec_l00Src_next.f s0_0 bt516.2.1 bt516.2.2 30).bind fun bt520 => (some (bt504.1, wrap64 (1 + bt507.1), wrap64 (1 + bt510.1), wrap64 (1 + bt520.1), bt516.1, bt520.2.1, bt520.2.2))) else (if (wrap64 (1 + bt510.1)) = 3 then ((spec_l00Src_next.f s0_0 bt516.2.1 bt516.2.2 30).bind fun bt523 => (some (bt504.1, wrap64 (1 + bt507.1), wrap64 (1 + bt510.1), wrap64 (1 + bt523.1), bt516.1, bt523.2.1, bt523.2.2))) else (some (bt504.1, wrap64 (1 + bt507.1), wrap64 (1 + bt510.1), 0, bt516.1, bt516.2.1, bt516.2.2)))))))
def spec_l00Src_request.v (s0_0 : List Int) (s0_1 : Int) (s0_2 : Int) : Option (Int × Int × Int × Int × ByteArray × Int × Int) := spec_l00Src_request.f s0_0 s0_1 s0_2
theorem spec_l00Src_request.v_lim (s0_0 : List Int) (s0_1 : Int) (s0_2 : Int) : LimIs (fun _ => spec_l00Src_request.f s0_0 s0_1 s0_2) (spec_l00Src_request.v s0_0 s0_1 s0_2) := LimIs.const _
theorem spec_l00Src_request.v_eq (s0_0 : List Int) (s0_1 : Int) (s0_2 : Int) : spec_l00Src_request.v s0_0 s0_1 s0_2 = ((spec_l00Src_next.v s0_0 s0_1 s0_2 3).bind fun bt504 => ((spec_l00Src_next.v s0_0 bt504.2.1 bt504.2.2 5).bind fun bt507 => ((spec_l00Src_next.v s0_0 bt507.2.1 bt507.2.2 4).bind fun bt510 => ((spec_l00Src_pick.v s0_0 bt510.2.1 bt510.2.2 (([(⟨#[97]⟩ : ByteArray), (⟨#[98]⟩ : ByteArray), (⟨#[108, 111, 99, 107]⟩ : ByteArray)] : List ByteArray))).bind fun bt516 => (if (wrap64 (1 + bt510.1)) = 1 then ((spec_l00Src_next.v s0_0 bt516.2.1 bt516.2.2 30).bind fun bt520 => (some (bt504.1, wrap64 (1 + bt507.1), wrap64 (1 + bt510.1), wrap64 (1 + bt520.1), bt516.1, bt520.2.1, bt520.2.2))) else (if (wrap64 (1 + bt510.1)) = 3 then ((spec_l00Src_next.v s0_0 bt516.2.1 bt516.2.2 30).bind fun bt523 => (some (bt504.1, wrap64 (1 + bt507.1), wrap64 (1 + bt510.1), wrap64 (1 + bt523.1), bt516.1, bt523.2.1, bt523.2.2))) else (some (bt504.1, wrap64 (1 + bt507.1), wrap64 (1 + bt510.1), 0, bt516.1, bt516.2.1, bt516.2.2))))))) : Option (Int × Int × Int × Int × ByteArray × Int × Int)) := rfl
def spec_l00Src_batch.l0 : Nat → Int → List Int → Int → Int → Bool → Int → Int → Int → Int → ByteArray → List (S182) → Option (Bool × Int × Int × Int × Int × ByteArray × (List (S182)) × Int × Int)
  | 0, _, _, _, _, _, _, _, _, _, _, _ => none
  | k + 1, x4, x1000, x1001, x1002, x544000, x544001, x544002, x544003, x544004, x544005, x544006 => if x4 < 4 then ((spec_l00Src_chance.f x1000 x1001 x1002 4).bind fun bt544 => (if bt544.1 = true then (spec_l00Src_batch.l0 k (wrap64 (x4 + 1)) x1000 bt544.2.1 bt544.2.2 x544000 x544001 x544002 x544003 x544004 x544005 x544006) else ((spec_l00Src_next.f x1000 bt544.2.1 bt544.2.2 100).bind fun bt547 => ((spec_l01Hash.f k (([(x4) % 256] : List Int))).bind fun t553 => (if 0 ≤ 8 then (if 8 ≤ (t553.size : Int) then (if x544006.length < 4398046511104 then (spec_l00Src_batch.l0 k (wrap64 (x4 + 1)) x1000 bt547.2.1 bt547.2.2 x544000 x544001 x544002 x544003 x544004 x544005 (x544006 ++ [(⟨x4, bt547.1, t553.extract 0 8⟩ : S182)])) else (none)) else (none)) else (none)))))) else (some (x544000, x544001, x544002, x544003, x544004, x544005, x544006, x1001, x1002))
def spec_l00Src_batch.f (k : Nat) (s0_0 : List Int) (s0_1 : Int) (s0_2 : Int) : Option (Bool × Int × Int × Int × Int × ByteArray × (List (S182)) × Int × Int) := (spec_l00Src_chance.f s0_0 s0_1 s0_2 6).bind fun bt527 => (if bt527.1 = true then (some (true, 0, 0, 0, 0, (⟨#[]⟩ : ByteArray), (([] : List (S182))), bt527.2.1, bt527.2.2)) else ((spec_l00Src_request.f s0_0 bt527.2.1 bt527.2.2).bind fun bt533 => (spec_l00Src_batch.l0 k 0 s0_0 bt533.2.2.2.2.2.1 bt533.2.2.2.2.2.2 false bt533.1 bt533.2.1 bt533.2.2.1 bt533.2.2.2.1 bt533.2.2.2.2.1 (([] : List (S182))))))
theorem spec_l00Src_batch.mono_l : ∀ k, (∀ y0 y1 y2 y3 y4 y5 y6 y7 y8 y9 y10, LeO (spec_l00Src_batch.l0 k y0 y1 y2 y3 y4 y5 y6 y7 y8 y9 y10) (spec_l00Src_batch.l0 (k + 1) y0 y1 y2 y3 y4 y5 y6 y7 y8 y9 y10))
  | 0 => fun _ _ _ _ _ _ _ _ _ _ _ r h => by simp [spec_l00Src_batch.l0] at h
  | k + 1 => by
    have ih0 := spec_l00Src_batch.mono_l k
    · intro y0 y1 y2 y3 y4 y5 y6 y7 y8 y9 y10
      unfold spec_l00Src_batch.l0
      repeat' first
      | (with_reducible exact ih0 _ _ _ _ _ _ _ _ _ _ _)
      | (with_reducible exact spec_l01Hash.mono _ _)
      | (with_reducible exact LeO.refl _)
      | (with_reducible exact LeO.none _)
      | (with_reducible refine LeO.ite ?_ ?_)
      | (with_reducible refine LeO.bind ?_ (fun _ => ?_))
      | exact ih0 _ _ _ _ _ _ _ _ _ _ _
      | exact spec_l01Hash.mono _ _
      | exact LeO.none _
      | refine LeO.ite ?_ ?_
      | refine LeO.bind ?_ (fun _ => ?_)
theorem spec_l00Src_batch.mono : ∀ a0 a1 a2 k, LeO (spec_l00Src_batch.f k a0 a1 a2) (spec_l00Src_batch.f (k + 1) a0 a1 a2) := by
  intro a0 a1 a2 k
  have ih0 := spec_l00Src_batch.mono_l k
  unfold spec_l00Src_batch.f
  repeat' first
      | (with_reducible exact ih0 _ _ _ _ _ _ _ _ _ _ _)
      | (with_reducible exact spec_l01Hash.mono _ _)
      | (with_reducible exact LeO.refl _)
      | (with_reducible exact LeO.none _)
      | (with_reducible refine LeO.ite ?_ ?_)
      | (with_reducible refine LeO.bind ?_ (fun _ => ?_))
      | exact ih0 _ _ _ _ _ _ _ _ _ _ _
      | exact spec_l01Hash.mono _ _
      | exact LeO.none _
      | refine LeO.ite ?_ ?_
      | refine LeO.bind ?_ (fun _ => ?_)
noncomputable def spec_l00Src_batch.lv0 (x4 : Int) (x1000 : List Int) (x1001 : Int) (x1002 : Int) (x544000 : Bool) (x544001 : Int) (x544002 : Int) (x544003 : Int) (x544004 : Int) (x544005 : ByteArray) (x544006 : List (S182)) : Option (Bool × Int × Int × Int × Int × ByteArray × (List (S182)) × Int × Int) := lim (fun k_ => spec_l00Src_batch.l0 k_ x4 x1000 x1001 x1002 x544000 x544001 x544002 x544003 x544004 x544005 x544006)
noncomputable def spec_l00Src_batch.v (s0_0 : List Int) (s0_1 : Int) (s0_2 : Int) : Option (Bool × Int × Int × Int × Int × ByteArray × (List (S182)) × Int × Int) := lim (fun k_ => spec_l00Src_batch.f k_ s0_0 s0_1 s0_2)
theorem spec_l00Src_batch.lv0_lim (x4 : Int) (x1000 : List Int) (x1001 : Int) (x1002 : Int) (x544000 : Bool) (x544001 : Int) (x544002 : Int) (x544003 : Int) (x544004 : Int) (x544005 : ByteArray) (x544006 : List (S182)) : LimIs (fun k_ => spec_l00Src_batch.l0 k_ x4 x1000 x1001 x1002 x544000 x544001 x544002 x544003 x544004 x544005 x544006) (spec_l00Src_batch.lv0 x4 x1000 x1001 x1002 x544000 x544001 x544002 x544003 x544004 x544005 x544006) := lim_is (fun k_ => (spec_l00Src_batch.mono_l k_) x4 x1000 x1001 x1002 x544000 x544001 x544002 x544003 x544004 x544005 x544006)
theorem spec_l00Src_batch.v_lim (s0_0 : List Int) (s0_1 : Int) (s0_2 : Int) : LimIs (fun k_ => spec_l00Src_batch.f k_ s0_0 s0_1 s0_2) (spec_l00Src_batch.v s0_0 s0_1 s0_2) := lim_is (fun k_ => spec_l00Src_batch.mono s0_0 s0_1 s0_2 k_)
theorem spec_l00Src_batch.lv0_eq (x4 : Int) (x1000 : List Int) (x1001 : Int) (x1002 : Int) (x544000 : Bool) (x544001 : Int) (x544002 : Int) (x544003 : Int) (x544004 : Int) (x544005 : ByteArray) (x544006 : List (S182)) : spec_l00Src_batch.lv0 x4 x1000 x1001 x1002 x544000 x544001 x544002 x544003 x544004 x544005 x544006 = (if x4 < 4 then ((spec_l00Src_chance.v x1000 x1001 x1002 4).bind fun bt544 => (if bt544.1 = true then (spec_l00Src_batch.lv0 (wrap64 (x4 + 1)) x1000 bt544.2.1 bt544.2.2 x544000 x544001 x544002 x544003 x544004 x544005 x544006) else ((spec_l00Src_next.v x1000 bt544.2.1 bt544.2.2 100).bind fun bt547 => ((spec_l01Hash.v (([(x4) % 256] : List Int))).bind fun t553 => (if 0 ≤ 8 then (if 8 ≤ (t553.size : Int) then (if x544006.length < 4398046511104 then (spec_l00Src_batch.lv0 (wrap64 (x4 + 1)) x1000 bt547.2.1 bt547.2.2 x544000 x544001 x544002 x544003 x544004 x544005 (x544006 ++ [(⟨x4, bt547.1, t553.extract 0 8⟩ : S182)])) else (none)) else (none)) else (none)))))) else (some (x544000, x544001, x544002, x544003, x544004, x544005, x544006, x1001, x1002)) : Option (Bool × Int × Int × Int × Int × ByteArray × (List (S182)) × Int × Int)) := by
  refine LimIs.eq (spec_l00Src_batch.lv0_lim x4 x1000 x1001 x1002 x544000 x544001 x544002 x544003 x544004 x544005 x544006) ?_
  refine LimIs.step (fun k_ => (spec_l00Src_batch.mono_l k_) x4 x1000 x1001 x1002 x544000 x544001 x544002 x544003 x544004 x544005 x544006) ?_
  simp only [spec_l00Src_batch.l0]
  repeat' (with_reducible first | exact spec_l00Src_batch.lv0_lim _ _ _ _ _ _ _ _ _ _ _ | exact spec_l00Src_chance.v_lim _ _ _ _ | exact spec_l00Src_next.v_lim _ _ _ _ | exact spec_l01Hash.v_lim _ | exact LimIs.const _ | refine LimIs.ite ?_ ?_ | refine LimIs.bind ?_ (fun _ => ?_))
theorem spec_l00Src_batch.v_eq (s0_0 : List Int) (s0_1 : Int) (s0_2 : Int) : spec_l00Src_batch.v s0_0 s0_1 s0_2 = ((spec_l00Src_chance.v s0_0 s0_1 s0_2 6).bind fun bt527 => (if bt527.1 = true then (some (true, 0, 0, 0, 0, (⟨#[]⟩ : ByteArray), (([] : List (S182))), bt527.2.1, bt527.2.2)) else ((spec_l00Src_request.v s0_0 bt527.2.1 bt527.2.2).bind fun bt533 => (spec_l00Src_batch.lv0 0 s0_0 bt533.2.2.2.2.2.1 bt533.2.2.2.2.2.2 false bt533.1 bt533.2.1 bt533.2.2.1 bt533.2.2.2.1 bt533.2.2.2.2.1 (([] : List (S182)))))) : Option (Bool × Int × Int × Int × Int × ByteArray × (List (S182)) × Int × Int)) := by
  refine LimIs.eq (spec_l00Src_batch.v_lim s0_0 s0_1 s0_2) ?_
  simp only [spec_l00Src_batch.f]
  repeat' (with_reducible first | exact spec_l00Src_batch.lv0_lim _ _ _ _ _ _ _ _ _ _ _ | exact spec_l00Src_chance.v_lim _ _ _ _ | exact spec_l00Src_request.v_lim _ _ _ | exact LimIs.const _ | refine LimIs.ite ?_ ?_ | refine LimIs.bind ?_ (fun _ => ?_))
def spec_l02List.l0 : Nat → List ByteArray → List Int → Int → Option (List Int)
  | 0, _, _, _ => none
  | k + 1, x0, x3, x4 => if x4 < (x0.length : Int) then (if 0 ≤ x4 then ((spec_l02Number.f k ((rdOf ByteArray.empty x0 x4).size : Int) 2).bind fun t561 => (if x3.length + t561.length < 140737488355328 then ((some (x3 ++ t561 : List Int)).bind fun y564 => (if y564.length + (rdOf ByteArray.empty x0 x4).size < 140737488355328 then (spec_l02List.l0 k x0 (y564 ++ bytesOf (rdOf ByteArray.empty x0 x4)) (wrap64 (x4 + 1))) else (none))) else (none))) else (none)) else (some x3)
def spec_l02List.f (k : Nat) (l0 : List ByteArray) : Option (List Int) := spec_l02List.l0 k l0 (([((l0.length : Int)) % 256] : List Int)) 0
theorem spec_l02List.mono_l : ∀ k, (∀ y0 y1 y2, LeO (spec_l02List.l0 k y0 y1 y2) (spec_l02List.l0 (k + 1) y0 y1 y2))
  | 0 => fun _ _ _ r h => by simp [spec_l02List.l0] at h
  | k + 1 => by
    have ih0 := spec_l02List.mono_l k
    · intro y0 y1 y2
      unfold spec_l02List.l0
      repeat' first
      | (with_reducible exact ih0 _ _ _)
      | (with_reducible exact spec_l02Number.mono _ _ _)
      | (with_reducible exact LeO.refl _)
      | (with_reducible exact LeO.none _)
      | (with_reducible refine LeO.ite ?_ ?_)
      | (with_reducible refine LeO.bind ?_ (fun _ => ?_))
      | exact ih0 _ _ _
      | exact spec_l02Number.mono _ _ _
      | exact LeO.none _
      | refine LeO.ite ?_ ?_
      | refine LeO.bind ?_ (fun _ => ?_)
theorem spec_l02List.mono : ∀ a0 k, LeO (spec_l02List.f k a0) (spec_l02List.f (k + 1) a0) := by
  intro a0 k
  have ih0 := spec_l02List.mono_l k
  unfold spec_l02List.f
  repeat' first
      | (with_reducible exact ih0 _ _ _)
      | (with_reducible exact spec_l02Number.mono _ _ _)
      | (with_reducible exact LeO.refl _)
      | (with_reducible exact LeO.none _)
      | (with_reducible refine LeO.ite ?_ ?_)
      | (with_reducible refine LeO.bind ?_ (fun _ => ?_))
      | exact ih0 _ _ _
      | exact spec_l02Number.mono _ _ _
      | exact LeO.none _
      | refine LeO.ite ?_ ?_
      | refine LeO.bind ?_ (fun _ => ?_)
noncomputable def spec_l02List.lv0 (x0 : List ByteArray) (x3 : List Int) (x4 : Int) : Option (List Int) := lim (fun k_ => spec_l02List.l0 k_ x0 x3 x4)
noncomputable def spec_l02List.v (l0 : List ByteArray) : Option (List Int) := lim (fun k_ => spec_l02List.f k_ l0)
theorem spec_l02List.lv0_lim (x0 : List ByteArray) (x3 : List Int) (x4 : Int) : LimIs (fun k_ => spec_l02List.l0 k_ x0 x3 x4) (spec_l02List.lv0 x0 x3 x4) := lim_is (fun k_ => (spec_l02List.mono_l k_) x0 x3 x4)
theorem spec_l02List.v_lim (l0 : List ByteArray) : LimIs (fun k_ => spec_l02List.f k_ l0) (spec_l02List.v l0) := lim_is (fun k_ => spec_l02List.mono l0 k_)
theorem spec_l02List.lv0_eq (x0 : List ByteArray) (x3 : List Int) (x4 : Int) : spec_l02List.lv0 x0 x3 x4 = (if x4 < (x0.length : Int) then (if 0 ≤ x4 then ((spec_l02Number.v ((rdOf ByteArray.empty x0 x4).size : Int) 2).bind fun t561 => (if x3.length + t561.length < 140737488355328 then ((some (x3 ++ t561 : List Int)).bind fun y564 => (if y564.length + (rdOf ByteArray.empty x0 x4).size < 140737488355328 then (spec_l02List.lv0 x0 (y564 ++ bytesOf (rdOf ByteArray.empty x0 x4)) (wrap64 (x4 + 1))) else (none))) else (none))) else (none)) else (some x3) : Option (List Int)) := by
  refine LimIs.eq (spec_l02List.lv0_lim x0 x3 x4) ?_
  refine LimIs.step (fun k_ => (spec_l02List.mono_l k_) x0 x3 x4) ?_
  simp only [spec_l02List.l0]
  repeat' (with_reducible first | exact spec_l02List.lv0_lim _ _ _ | exact spec_l02Number.v_lim _ _ | exact LimIs.const _ | refine LimIs.ite ?_ ?_ | refine LimIs.bind ?_ (fun _ => ?_))
theorem spec_l02List.v_eq (l0 : List ByteArray) : spec_l02List.v l0 = (spec_l02List.lv0 l0 (([((l0.length : Int)) % 256] : List Int)) 0 : Option (List Int)) := by
  refine LimIs.eq (spec_l02List.v_lim l0) ?_
  simp only [spec_l02List.f]
  repeat' (with_reducible first | exact spec_l02List.lv0_lim _ _ _ | exact LimIs.const _ | refine LimIs.ite ?_ ?_ | refine LimIs.bind ?_ (fun _ => ?_))
def spec_l00Src_message.j0 : Nat → List Int → Int → Int → Int → Int → Int → Int → ByteArray → ByteArray → ByteArray → Option (Int × Int × Int × Int × ByteArray × ByteArray × ByteArray × Int × Int)
  | 0, _, _, _, _, _, _, _, _, _, _ => none
  | k + 1, x1000, x1001, x1002, x589000, x589001, x589002, x589003, x589004, x589005, x589006 => if x589000 = 1 then ((spec_l00Src_batch.f k x1000 x1001 x1002).bind fun bt599 => ((spec_l02Batch.f k bt599.1 bt599.2.1 bt599.2.2.1 bt599.2.2.2.1 bt599.2.2.2.2.1 bt599.2.2.2.2.2.1 bt599.2.2.2.2.2.2.1).bind fun t610 => (if x589000 ≥ 4 then ((spec_l02List.f k (([(⟨#[111, 110, 101]⟩ : ByteArray), (⟨#[116, 119, 111]⟩ : ByteArray)] : List ByteArray))).bind fun t616 => (some (x589000, x589001, x589002, x589003, x589004, strOfNums t616, x589006, bt599.2.2.2.2.2.2.2.1, bt599.2.2.2.2.2.2.2.2))) else (some (x589000, x589001, x589002, x589003, x589004, strOfNums t610, x589006, bt599.2.2.2.2.2.2.2.1, bt599.2.2.2.2.2.2.2.2))))) else (if x589000 ≥ 4 then ((spec_l02List.f k (([(⟨#[111, 110, 101]⟩ : ByteArray), (⟨#[116, 119, 111]⟩ : ByteArray)] : List ByteArray))).bind fun t622 => (some (x589000, x589001, x589002, x589003, x589004, strOfNums t622, x589006, x1001, x1002))) else (some (x589000, x589001, x589002, x589003, x589004, x589005, x589006, x1001, x1002)))
def spec_l00Src_message.f (k : Nat) (s0_0 : List Int) (s0_1 : Int) (s0_2 : Int) : Option (Int × Int × Int × Int × ByteArray × ByteArray × ByteArray × Int × Int) := (spec_l00Src_next.f s0_0 s0_1 s0_2 5).bind fun bt572 => ((spec_l00Src_next.f s0_0 bt572.2.1 bt572.2.2 4).bind fun bt575 => ((spec_l00Src_next.f s0_0 bt575.2.1 bt575.2.2 4).bind fun bt578 => ((spec_l00Src_next.f s0_0 bt578.2.1 bt578.2.2 9).bind fun bt581 => ((spec_l01Hash.f k (([(bt581.1) % 256] : List Int))).bind fun t587 => (if 0 ≤ 8 then (if 8 ≤ (t587.size : Int) then (if (wrap64 (1 + bt572.1)) ≤ 3 then ((spec_l00Src_next.f s0_0 bt581.2.1 bt581.2.2 4).bind fun bt589 => ((spec_l00Src_next.f s0_0 bt589.2.1 bt589.2.2 4).bind fun bt592 => ((spec_l01Hash.f k (([(bt592.1) % 256] : List Int))).bind fun t598 => (spec_l00Src_message.j0 k s0_0 bt592.2.1 bt592.2.2 (wrap64 (1 + bt572.1)) bt575.1 (wrap64 (1 + bt589.1)) bt578.1 t598 (⟨#[]⟩ : ByteArray) (t587.extract 0 8))))) else (spec_l00Src_message.j0 k s0_0 bt581.2.1 bt581.2.2 (wrap64 (1 + bt572.1)) bt575.1 0 bt578.1 (⟨#[]⟩ : ByteArray) (⟨#[]⟩ : ByteArray) (t587.extract 0 8))) else (none)) else (none))))))
theorem spec_l00Src_message.mono_l : ∀ k, (∀ y0 y1 y2 y3 y4 y5 y6 y7 y8 y9, LeO (spec_l00Src_message.j0 k y0 y1 y2 y3 y4 y5 y6 y7 y8 y9) (spec_l00Src_message.j0 (k + 1) y0 y1 y2 y3 y4 y5 y6 y7 y8 y9))
  | 0 => fun _ _ _ _ _ _ _ _ _ _ r h => by simp [spec_l00Src_message.j0] at h
  | k + 1 => by
    have ih0 := spec_l00Src_message.mono_l k
    · intro y0 y1 y2 y3 y4 y5 y6 y7 y8 y9
      unfold spec_l00Src_message.j0
      repeat' first
      | (with_reducible exact ih0 _ _ _ _ _ _ _ _ _ _)
      | (with_reducible exact spec_l00Src_batch.mono _ _ _ _)
      | (with_reducible exact spec_l01Hash.mono _ _)
      | (with_reducible exact spec_l02Batch.mono _ _ _ _ _ _ _ _)
      | (with_reducible exact spec_l02List.mono _ _)
      | (with_reducible exact LeO.refl _)
      | (with_reducible exact LeO.none _)
      | (with_reducible refine LeO.ite ?_ ?_)
      | (with_reducible refine LeO.bind ?_ (fun _ => ?_))
      | exact ih0 _ _ _ _ _ _ _ _ _ _
      | exact spec_l00Src_batch.mono _ _ _ _
      | exact spec_l01Hash.mono _ _
      | exact spec_l02Batch.mono _ _ _ _ _ _ _ _
      | exact spec_l02List.mono _ _
      | exact LeO.none _
      | refine LeO.ite ?_ ?_
      | refine LeO.bind ?_ (fun _ => ?_)
theorem spec_l00Src_message.mono : ∀ a0 a1 a2 k, LeO (spec_l00Src_message.f k a0 a1 a2) (spec_l00Src_message.f (k + 1) a0 a1 a2) := by
  intro a0 a1 a2 k
  have ih0 := spec_l00Src_message.mono_l k
  unfold spec_l00Src_message.f
  repeat' first
      | (with_reducible exact ih0 _ _ _ _ _ _ _ _ _ _)
      | (with_reducible exact spec_l00Src_batch.mono _ _ _ _)
      | (with_reducible exact spec_l01Hash.mono _ _)
      | (with_reducible exact spec_l02Batch.mono _ _ _ _ _ _ _ _)
      | (with_reducible exact spec_l02List.mono _ _)
      | (with_reducible exact LeO.refl _)
      | (with_reducible exact LeO.none _)
      | (with_reducible refine LeO.ite ?_ ?_)
      | (with_reducible refine LeO.bind ?_ (fun _ => ?_))
      | exact ih0 _ _ _ _ _ _ _ _ _ _
      | exact spec_l00Src_batch.mono _ _ _ _
      | exact spec_l01Hash.mono _ _
      | exact spec_l02Batch.mono _ _ _ _ _ _ _ _
      | exact spec_l02List.mono _ _
      | exact LeO.none _
      | refine LeO.ite ?_ ?_
      | refine LeO.bind ?_ (fun _ => ?_)
noncomputable def spec_l00Src_message.jv0 (x1000 : List Int) (x1001 : Int) (x1002 : Int) (x589000 : Int) (x589001 : Int) (x589002 : Int) (x589003 : Int) (x589004 : ByteArray) (x589005 : ByteArray) (x589006 : ByteArray) : Option (Int × Int × Int × Int × ByteArray × ByteArray × ByteArray × Int × Int) := lim (fun k_ => spec_l00Src_message.j0 k_ x1000 x1001 x1002 x589000 x589001 x589002 x589003 x589004 x589005 x589006)
noncomputable def spec_l00Src_message.v (s0_0 : List Int) (s0_1 : Int) (s0_2 : Int) : Option (Int × Int × Int × Int × ByteArray × ByteArray × ByteArray × Int × Int) := lim (fun k_ => spec_l00Src_message.f k_ s0_0 s0_1 s0_2)
theorem spec_l00Src_message.jv0_lim (x1000 : List Int) (x1001 : Int) (x1002 : Int) (x589000 : Int) (x589001 : Int) (x589002 : Int) (x589003 : Int) (x589004 : ByteArray) (x589005 : ByteArray) (x589006 : ByteArray) : LimIs (fun k_ => spec_l00Src_message.j0 k_ x1000 x1001 x1002 x589000 x589001 x589002 x589003 x589004 x589005 x589006) (spec_l00Src_message.jv0 x1000 x1001 x1002 x589000 x589001 x589002 x589003 x589004 x589005 x589006) := lim_is (fun k_ => (spec_l00Src_message.mono_l k_) x1000 x1001 x1002 x589000 x589001 x589002 x589003 x589004 x589005 x589006)
theorem spec_l00Src_message.v_lim (s0_0 : List Int) (s0_1 : Int) (s0_2 : Int) : LimIs (fun k_ => spec_l00Src_message.f k_ s0_0 s0_1 s0_2) (spec_l00Src_message.v s0_0 s0_1 s0_2) := lim_is (fun k_ => spec_l00Src_message.mono s0_0 s0_1 s0_2 k_)
theorem spec_l00Src_message.jv0_eq (x1000 : List Int) (x1001 : Int) (x1002 : Int) (x589000 : Int) (x589001 : Int) (x589002 : Int) (x589003 : Int) (x589004 : ByteArray) (x589005 : ByteArray) (x589006 : ByteArray) : spec_l00Src_message.jv0 x1000 x1001 x1002 x589000 x589001 x589002 x589003 x589004 x589005 x589006 = (if x589000 = 1 then ((spec_l00Src_batch.v x1000 x1001 x1002).bind fun bt599 => ((spec_l02Batch.v bt599.1 bt599.2.1 bt599.2.2.1 bt599.2.2.2.1 bt599.2.2.2.2.1 bt599.2.2.2.2.2.1 bt599.2.2.2.2.2.2.1).bind fun t610 => (if x589000 ≥ 4 then ((spec_l02List.v (([(⟨#[111, 110, 101]⟩ : ByteArray), (⟨#[116, 119, 111]⟩ : ByteArray)] : List ByteArray))).bind fun t616 => (some (x589000, x589001, x589002, x589003, x589004, strOfNums t616, x589006, bt599.2.2.2.2.2.2.2.1, bt599.2.2.2.2.2.2.2.2))) else (some (x589000, x589001, x589002, x589003, x589004, strOfNums t610, x589006, bt599.2.2.2.2.2.2.2.1, bt599.2.2.2.2.2.2.2.2))))) else (if x589000 ≥ 4 then ((spec_l02List.v (([(⟨#[111, 110, 101]⟩ : ByteArray), (⟨#[116, 119, 111]⟩ : ByteArray)] : List ByteArray))).bind fun t622 => (some (x589000, x589001, x589002, x589003, x589004, strOfNums t622, x589006, x1001, x1002))) else (some (x589000, x589001, x589002, x589003, x589004, x589005, x589006, x1001, x1002))) : Option (Int × Int × Int × Int × ByteArray × ByteArray × ByteArray × Int × Int)) := by
  refine LimIs.eq (spec_l00Src_message.jv0_lim x1000 x1001 x1002 x589000 x589001 x589002 x589003 x589004 x589005 x589006) ?_
  refine LimIs.step (fun k_ => (spec_l00Src_message.mono_l k_) x1000 x1001 x1002 x589000 x589001 x589002 x589003 x589004 x589005 x589006) ?_
  simp only [spec_l00Src_message.j0]
  repeat' (with_reducible first | exact spec_l00Src_batch.v_lim _ _ _ | exact spec_l02Batch.v_lim _ _ _ _ _ _ _ | exact spec_l02List.v_lim _ | exact LimIs.const _ | refine LimIs.ite ?_ ?_ | refine LimIs.bind ?_ (fun _ => ?_))
theorem spec_l00Src_message.v_eq (s0_0 : List Int) (s0_1 : Int) (s0_2 : Int) : spec_l00Src_message.v s0_0 s0_1 s0_2 = ((spec_l00Src_next.v s0_0 s0_1 s0_2 5).bind fun bt572 => ((spec_l00Src_next.v s0_0 bt572.2.1 bt572.2.2 4).bind fun bt575 => ((spec_l00Src_next.v s0_0 bt575.2.1 bt575.2.2 4).bind fun bt578 => ((spec_l00Src_next.v s0_0 bt578.2.1 bt578.2.2 9).bind fun bt581 => ((spec_l01Hash.v (([(bt581.1) % 256] : List Int))).bind fun t587 => (if 0 ≤ 8 then (if 8 ≤ (t587.size : Int) then (if (wrap64 (1 + bt572.1)) ≤ 3 then ((spec_l00Src_next.v s0_0 bt581.2.1 bt581.2.2 4).bind fun bt589 => ((spec_l00Src_next.v s0_0 bt589.2.1 bt589.2.2 4).bind fun bt592 => ((spec_l01Hash.v (([(bt592.1) % 256] : List Int))).bind fun t598 => (spec_l00Src_message.jv0 s0_0 bt592.2.1 bt592.2.2 (wrap64 (1 + bt572.1)) bt575.1 (wrap64 (1 + bt589.1)) bt578.1 t598 (⟨#[]⟩ : ByteArray) (t587.extract 0 8))))) else (spec_l00Src_message.jv0 s0_0 bt581.2.1 bt581.2.2 (wrap64 (1 + bt572.1)) bt575.1 0 bt578.1 (⟨#[]⟩ : ByteArray) (⟨#[]⟩ : ByteArray) (t587.extract 0 8))) else (none)) else (none)))))) : Option (Int × Int × Int × Int × ByteArray × ByteArray × ByteArray × Int × Int)) := by
  refine LimIs.eq (spec_l00Src_message.v_lim s0_0 s0_1 s0_2) ?_
  simp only [spec_l00Src_message.f]
  repeat' (with_reducible first | exact spec_l00Src_message.jv0_lim _ _ _ _ _ _ _ _ _ _ | exact spec_l00Src_next.v_lim _ _ _ _ | exact spec_l01Hash.v_lim _ | exact LimIs.const _ | refine LimIs.ite ?_ ?_ | refine LimIs.bind ?_ (fun _ => ?_))
def spec_MessageOf.f (k : Nat) (l0 : List Int) : Option (Int × Int × Int × Int × ByteArray × ByteArray × ByteArray) := (spec_l00Source.f l0).bind fun bt626 => ((spec_l00Src_message.f k bt626.1 bt626.2.1 bt626.2.2).bind fun bt630 => (some (bt630.1, bt630.2.1, bt630.2.2.1, bt630.2.2.2.1, bt630.2.2.2.2.1, bt630.2.2.2.2.2.1, bt630.2.2.2.2.2.2.1)))
theorem spec_MessageOf.mono : ∀ a0 k, LeO (spec_MessageOf.f k a0) (spec_MessageOf.f (k + 1) a0) := by
  intro a0 k
  unfold spec_MessageOf.f
  repeat' first
      | (with_reducible exact spec_l00Src_message.mono _ _ _ _)
      | (with_reducible exact LeO.refl _)
      | (with_reducible exact LeO.none _)
      | (with_reducible refine LeO.ite ?_ ?_)
      | (with_reducible refine LeO.bind ?_ (fun _ => ?_))
      | exact spec_l00Src_message.mono _ _ _ _
      | exact LeO.none _
      | refine LeO.ite ?_ ?_
      | refine LeO.bind ?_ (fun _ => ?_)
noncomputable def spec_MessageOf.v (l0 : List Int) : Option (Int × Int × Int × Int × ByteArray × ByteArray × ByteArray) := lim (fun k_ => spec_MessageOf.f k_ l0)
theorem spec_MessageOf.v_lim (l0 : List Int) : LimIs (fun k_ => spec_MessageOf.f k_ l0) (spec_MessageOf.v l0) := lim_is (fun k_ => spec_MessageOf.mono l0 k_)
theorem spec_MessageOf.v_eq (l0 : List Int) : spec_MessageOf.v l0 = ((spec_l00Source.v l0).bind fun bt626 => ((spec_l00Src_message.v bt626.1 bt626.2.1 bt626.2.2).bind fun bt630 => (some (bt630.1, bt630.2.1, bt630.2.2.1, bt630.2.2.2.1, bt630.2.2.2.2.1, bt630.2.2.2.2.2.1, bt630.2.2.2.2.2.2.1))) : Option (Int × Int × Int × Int × ByteArray × ByteArray × ByteArray)) := by
  refine LimIs.eq (spec_MessageOf.v_lim l0) ?_
  simp only [spec_MessageOf.f]
  repeat' (with_reducible first | exact spec_l00Source.v_lim _ | exact spec_l00Src_message.v_lim _ _ _ | exact LimIs.const _ | refine LimIs.ite ?_ ?_ | refine LimIs.bind ?_ (fun _ => ?_))
def laws_at.f (l0 : List Int) (a1 : Int) (a2 : Int) : Option (Int) := if a2 ≤ 1 then (some 0) else (if (l0.length : Int) = 0 then (if a2 = 0 then (none) else (some (Int.tmod (wrap64 (a1 * 7)) a2))) else (if 0 ≤ (Int.tmod a1 (l0.length : Int)) then (if (Int.tmod a1 (l0.length : Int)) < (l0.length : Int) then (if 0 ≤ (Int.tmod (wrap64 (a1 + 1)) (l0.length : Int)) then (if (Int.tmod (wrap64 (a1 + 1)) (l0.length : Int)) < (l0.length : Int) then (if a2 = 0 then (none) else (some (Int.tmod (wrap64 ((wrap64 ((wrap64 ((wrap64 (rd l0 (Int.tmod a1 (l0.length : Int)))) * 31)) + (wrap64 (rd l0 (Int.tmod (wrap64 (a1 + 1)) (l0.length : Int)))))) + (wrap64 (Int.tdiv a1 (l0.length : Int))))) a2))) else (none)) else (none)) else (none)) else (none)))
def laws_at.v (l0 : List Int) (a1 : Int) (a2 : Int) : Option (Int) := laws_at.f l0 a1 a2
theorem laws_at.v_lim (l0 : List Int) (a1 : Int) (a2 : Int) : LimIs (fun _ => laws_at.f l0 a1 a2) (laws_at.v l0 a1 a2) := LimIs.const _
theorem laws_at.v_eq (l0 : List Int) (a1 : Int) (a2 : Int) : laws_at.v l0 a1 a2 = (if a2 ≤ 1 then (some 0) else (if (l0.length : Int) = 0 then (if a2 = 0 then (none) else (some (Int.tmod (wrap64 (a1 * 7)) a2))) else (if 0 ≤ (Int.tmod a1 (l0.length : Int)) then (if (Int.tmod a1 (l0.length : Int)) < (l0.length : Int) then (if 0 ≤ (Int.tmod (wrap64 (a1 + 1)) (l0.length : Int)) then (if (Int.tmod (wrap64 (a1 + 1)) (l0.length : Int)) < (l0.length : Int) then (if a2 = 0 then (none) else (some (Int.tmod (wrap64 ((wrap64 ((wrap64 ((wrap64 (rd l0 (Int.tmod a1 (l0.length : Int)))) * 31)) + (wrap64 (rd l0 (Int.tmod (wrap64 (a1 + 1)) (l0.length : Int)))))) + (wrap64 (Int.tdiv a1 (l0.length : Int))))) a2))) else (none)) else (none)) else (none)) else (none))) : Option (Int)) := rfl
def impl_isHash.f (a0 : ByteArray) : Option (Bool) := some ((a0.size : Int) == 32)
def impl_isHash.v (a0 : ByteArray) : Option (Bool) := impl_isHash.f a0
theorem impl_isHash.v_lim (a0 : ByteArray) : LimIs (fun _ => impl_isHash.f a0) (impl_isHash.v a0) := LimIs.const _
theorem impl_isHash.v_eq (a0 : ByteArray) : impl_isHash.v a0 = (some ((a0.size : Int) == 32) : Option (Bool)) := rfl
mutual
def impl_MessageOK.j0 : Nat → Bool → Int → Int → Int → Int → ByteArray → ByteArray → ByteArray → Option (Bool)
  | 0, _, _, _, _, _, _, _, _ => none
  | k + 1, x24, x642000, x642001, x642002, x642003, x642004, x642005, x642006 => if x24 = true then (some false) else (if x642000 = 1 then (impl_MessageOK.j1 k x642000 (x642000 == 1) x642000 x642001 x642002 x642003 x642004 x642005 x642006) else (if x642000 = 2 then (impl_MessageOK.j1 k x642000 (x642000 == 2) x642000 x642001 x642002 x642003 x642004 x642005 x642006) else (impl_MessageOK.j1 k x642000 (x642000 == 3) x642000 x642001 x642002 x642003 x642004 x642005 x642006)))
def impl_MessageOK.j1 : Nat → Int → Bool → Int → Int → Int → Int → ByteArray → ByteArray → ByteArray → Option (Bool)
  | 0, _, _, _, _, _, _, _, _, _ => none
  | k + 1, x26, x27, x642000, x642001, x642002, x642003, x642004, x642005, x642006 => if x27 = true then ((impl_within.f x642002 1 8).bind fun t644 => (if t644 = true then ((impl_isHash.f x642004).bind fun t645 => (if t645 = true then (some ((x642005.toList != ([] : List UInt8)) == (x642000 == 1))) else (some false))) else (some false))) else (if x26 = 4 then (if x642002 = 0 then (some (x642004.toList == ([] : List UInt8))) else (some false)) else (if x26 = 5 then (if x642002 = 0 then (some (x642004.toList == ([] : List UInt8))) else (some false)) else (some false)))
end
def impl_MessageOK.f (k : Nat) (a0_0 : Int) (a0_1 : Int) (a0_2 : Int) (a0_3 : Int) (a0_4 : ByteArray) (a0_5 : ByteArray) (a0_6 : ByteArray) : Option (Bool) := (impl_within.f a0_1 0 20).bind fun t642 => (if t642 = true then ((impl_within.f a0_3 0 6).bind fun t643 => (if t643 = true then (if (a0_6.size : Int) = 8 then (impl_MessageOK.j0 k (decide ((a0_5.size : Int) > 20000)) a0_0 a0_1 a0_2 a0_3 a0_4 a0_5 a0_6) else (impl_MessageOK.j0 k true a0_0 a0_1 a0_2 a0_3 a0_4 a0_5 a0_6)) else (impl_MessageOK.j0 k true a0_0 a0_1 a0_2 a0_3 a0_4 a0_5 a0_6))) else (impl_MessageOK.j0 k true a0_0 a0_1 a0_2 a0_3 a0_4 a0_5 a0_6))
theorem impl_MessageOK.mono_l : ∀ k, (∀ y0 y1 y2 y3 y4 y5 y6 y7, LeO (impl_MessageOK.j0 k y0 y1 y2 y3 y4 y5 y6 y7) (impl_MessageOK.j0 (k + 1) y0 y1 y2 y3 y4 y5 y6 y7)) ∧ (∀ y0 y1 y2 y3 y4 y5 y6 y7 y8, LeO (impl_MessageOK.j1 k y0 y1 y2 y3 y4 y5 y6 y7 y8) (impl_MessageOK.j1 (k + 1) y0 y1 y2 y3 y4 y5 y6 y7 y8))
  | 0 => ⟨fun _ _ _ _ _ _ _ _ r h => by simp [impl_MessageOK.j0] at h, fun _ _ _ _ _ _ _ _ _ r h => by simp [impl_MessageOK.j1] at h⟩
  | k + 1 => by
    obtain ⟨ih0, ih1⟩ := impl_MessageOK.mono_l k
    refine ⟨?_, ?_⟩
    · intro y0 y1 y2 y3 y4 y5 y6 y7
      unfold impl_MessageOK.j0
      repeat' first
      | (with_reducible exact ih0 _ _ _ _ _ _ _ _)
      | (with_reducible exact ih1 _ _ _ _ _ _ _ _ _)
      | (with_reducible exact LeO.refl _)
      | (with_reducible exact LeO.none _)
      | (with_reducible refine LeO.ite ?_ ?_)
      | (with_reducible refine LeO.bind ?_ (fun _ => ?_))
      | exact ih0 _ _ _ _ _ _ _ _
      | exact ih1 _ _ _ _ _ _ _ _ _
      | exact LeO.none _
      | refine LeO.ite ?_ ?_
      | refine LeO.bind ?_ (fun _ => ?_)
    · intro y0 y1 y2 y3 y4 y5 y6 y7 y8
      unfold impl_MessageOK.j1
      repeat' first
      | (with_reducible exact ih0 _ _ _ _ _ _ _ _)
      | (with_reducible exact ih1 _ _ _ _ _ _ _ _ _)
      | (with_reducible exact LeO.refl _)
      | (with_reducible exact LeO.none _)
      | (with_reducible refine LeO.ite ?_ ?_)
      | (with_reducible refine LeO.bind ?_ (fun _ => ?_))
      | exact ih0 _ _ _ _ _ _ _ _
      | exact ih1 _ _ _ _ _ _ _ _ _
      | exact LeO.none _
      | refine LeO.ite ?_ ?_
      | refine LeO.bind ?_ (fun _ => ?_)
theorem impl_MessageOK.mono : ∀ a0 a1 a2 a3 a4 a5 a6 k, LeO (impl_MessageOK.f k a0 a1 a2 a3 a4 a5 a6) (impl_MessageOK.f (k + 1) a0 a1 a2 a3 a4 a5 a6) := by
  intro a0 a1 a2 a3 a4 a5 a6 k
  obtain ⟨ih0, ih1⟩ := impl_MessageOK.mono_l k
  unfold impl_MessageOK.f
  repeat' first
      | (with_reducible exact ih0 _ _ _ _ _ _ _ _)
      | (with_reducible exact ih1 _ _ _ _ _ _ _ _ _)
      | (with_reducible exact LeO.refl _)
      | (with_reducible exact LeO.none _)
      | (with_reducible refine LeO.ite ?_ ?_)
      | (with_reducible refine LeO.bind ?_ (fun _ => ?_))
      | exact ih0 _ _ _ _ _ _ _ _
      | exact ih1 _ _ _ _ _ _ _ _ _
      | exact LeO.none _
      | refine LeO.ite ?_ ?_
      | refine LeO.bind ?_ (fun _ => ?_)
noncomputable def impl_MessageOK.jv0 (x24 : Bool) (x642000 : Int) (x642001 : Int) (x642002 : Int) (x642003 : Int) (x642004 : ByteArray) (x642005 : ByteArray) (x642006 : ByteArray) : Option (Bool) := lim (fun k_ => impl_MessageOK.j0 k_ x24 x642000 x642001 x642002 x642003 x642004 x642005 x642006)
noncomputable def impl_MessageOK.jv1 (x26 : Int) (x27 : Bool) (x642000 : Int) (x642001 : Int) (x642002 : Int) (x642003 : Int) (x642004 : ByteArray) (x642005 : ByteArray) (x642006 : ByteArray) : Option (Bool) := lim (fun k_ => impl_MessageOK.j1 k_ x26 x27 x642000 x642001 x642002 x642003 x642004 x642005 x642006)
noncomputable def impl_MessageOK.v (a0_0 : Int) (a0_1 : Int) (a0_2 : Int) (a0_3 : Int) (a0_4 : ByteArray) (a0_5 : ByteArray) (a0_6 : ByteArray) : Option (Bool) := lim (fun k_ => impl_MessageOK.f k_ a0_0 a0_1 a0_2 a0_3 a0_4 a0_5 a0_6)
theorem impl_MessageOK.jv0_lim (x24 : Bool) (x642000 : Int) (x642001 : Int) (x642002 : Int) (x642003 : Int) (x642004 : ByteArray) (x642005 : ByteArray) (x642006 : ByteArray) : LimIs (fun k_ => impl_MessageOK.j0 k_ x24 x642000 x642001 x642002 x642003 x642004 x642005 x642006) (impl_MessageOK.jv0 x24 x642000 x642001 x642002 x642003 x642004 x642005 x642006) := lim_is (fun k_ => (impl_MessageOK.mono_l k_).1 x24 x642000 x642001 x642002 x642003 x642004 x642005 x642006)
theorem impl_MessageOK.jv1_lim (x26 : Int) (x27 : Bool) (x642000 : Int) (x642001 : Int) (x642002 : Int) (x642003 : Int) (x642004 : ByteArray) (x642005 : ByteArray) (x642006 : ByteArray) : LimIs (fun k_ => impl_MessageOK.j1 k_ x26 x27 x642000 x642001 x642002 x642003 x642004 x642005 x642006) (impl_MessageOK.jv1 x26 x27 x642000 x642001 x642002 x642003 x642004 x642005 x642006) := lim_is (fun k_ => (impl_MessageOK.mono_l k_).2 x26 x27 x642000 x642001 x642002 x642003 x642004 x642005 x642006)
theorem impl_MessageOK.v_lim (a0_0 : Int) (a0_1 : Int) (a0_2 : Int) (a0_3 : Int) (a0_4 : ByteArray) (a0_5 : ByteArray) (a0_6 : ByteArray) : LimIs (fun k_ => impl_MessageOK.f k_ a0_0 a0_1 a0_2 a0_3 a0_4 a0_5 a0_6) (impl_MessageOK.v a0_0 a0_1 a0_2 a0_3 a0_4 a0_5 a0_6) := lim_is (fun k_ => impl_MessageOK.mono a0_0 a0_1 a0_2 a0_3 a0_4 a0_5 a0_6 k_)
theorem impl_MessageOK.jv0_eq (x24 : Bool) (x642000 : Int) (x642001 : Int) (x642002 : Int) (x642003 : Int) (x642004 : ByteArray) (x642005 : ByteArray) (x642006 : ByteArray) : impl_MessageOK.jv0 x24 x642000 x642001 x642002 x642003 x642004 x642005 x642006 = (if x24 = true then (some false) else (if x642000 = 1 then (impl_MessageOK.jv1 x642000 (x642000 == 1) x642000 x642001 x642002 x642003 x642004 x642005 x642006) else (if x642000 = 2 then (impl_MessageOK.jv1 x642000 (x642000 == 2) x642000 x642001 x642002 x642003 x642004 x642005 x642006) else (impl_MessageOK.jv1 x642000 (x642000 == 3) x642000 x642001 x642002 x642003 x642004 x642005 x642006))) : Option (Bool)) := by
  refine LimIs.eq (impl_MessageOK.jv0_lim x24 x642000 x642001 x642002 x642003 x642004 x642005 x642006) ?_
  refine LimIs.step (fun k_ => (impl_MessageOK.mono_l k_).1 x24 x642000 x642001 x642002 x642003 x642004 x642005 x642006) ?_
  simp only [impl_MessageOK.j0]
  repeat' (with_reducible first | exact impl_MessageOK.jv1_lim _ _ _ _ _ _ _ _ _ | exact LimIs.const _ | refine LimIs.ite ?_ ?_ | refine LimIs.bind ?_ (fun _ => ?_))
theorem impl_MessageOK.jv1_eq (x26 : Int) (x27 : Bool) (x642000 : Int) (x642001 : Int) (x642002 : Int) (x642003 : Int) (x642004 : ByteArray) (x642005 : ByteArray) (x642006 : ByteArray) : impl_MessageOK.jv1 x26 x27 x642000 x642001 x642002 x642003 x642004 x642005 x642006 = (if x27 = true then ((impl_within.v x642002 1 8).bind fun t644 => (if t644 = true then ((impl_isHash.v x642004).bind fun t645 => (if t645 = true then (some ((x642005.toList != ([] : List UInt8)) == (x642000 == 1))) else (some false))) else (some false))) else (if x26 = 4 then (if x642002 = 0 then (some (x642004.toList == ([] : List UInt8))) else (some false)) else (if x26 = 5 then (if x642002 = 0 then (some (x642004.toList == ([] : List UInt8))) else (some false)) else (some false))) : Option (Bool)) := by
  refine LimIs.eq (impl_MessageOK.jv1_lim x26 x27 x642000 x642001 x642002 x642003 x642004 x642005 x642006) ?_
  refine LimIs.step (fun k_ => (impl_MessageOK.mono_l k_).2 x26 x27 x642000 x642001 x642002 x642003 x642004 x642005 x642006) ?_
  simp only [impl_MessageOK.j1]
  repeat' (with_reducible first | exact impl_isHash.v_lim _ | exact impl_within.v_lim _ _ _ | exact LimIs.const _ | refine LimIs.ite ?_ ?_ | refine LimIs.bind ?_ (fun _ => ?_))
theorem impl_MessageOK.v_eq (a0_0 : Int) (a0_1 : Int) (a0_2 : Int) (a0_3 : Int) (a0_4 : ByteArray) (a0_5 : ByteArray) (a0_6 : ByteArray) : impl_MessageOK.v a0_0 a0_1 a0_2 a0_3 a0_4 a0_5 a0_6 = ((impl_within.v a0_1 0 20).bind fun t642 => (if t642 = true then ((impl_within.v a0_3 0 6).bind fun t643 => (if t643 = true then (if (a0_6.size : Int) = 8 then (impl_MessageOK.jv0 (decide ((a0_5.size : Int) > 20000)) a0_0 a0_1 a0_2 a0_3 a0_4 a0_5 a0_6) else (impl_MessageOK.jv0 true a0_0 a0_1 a0_2 a0_3 a0_4 a0_5 a0_6)) else (impl_MessageOK.jv0 true a0_0 a0_1 a0_2 a0_3 a0_4 a0_5 a0_6))) else (impl_MessageOK.jv0 true a0_0 a0_1 a0_2 a0_3 a0_4 a0_5 a0_6)) : Option (Bool)) := by
  refine LimIs.eq (impl_MessageOK.v_lim a0_0 a0_1 a0_2 a0_3 a0_4 a0_5 a0_6) ?_
  simp only [impl_MessageOK.f]
  repeat' (with_reducible first | exact impl_MessageOK.jv0_lim _ _ _ _ _ _ _ _ | exact impl_within.v_lim _ _ _ | exact LimIs.const _ | refine LimIs.ite ?_ ?_ | refine LimIs.bind ?_ (fun _ => ?_))
def impl_mark.f (k : Nat) (a0 : Int) (a1 : ByteArray) : Option (ByteArray) := (impl_number.f k a0 1).bind fun t646 => (if 8 + t646.size ≤ 9223372036854775807 then ((impl_hash.f k ((⟨#[110, 111, 100, 101, 32, 107, 101, 121]⟩ : ByteArray) ++ t646)).bind fun t647 => (if t647.size + a1.size ≤ 9223372036854775807 then ((impl_hash.f k (t647 ++ a1)).bind fun t648 => (if 0 ≤ 8 then (if 8 ≤ (t648.size : Int) then (some (t648.extract 0 8)) else (none)) else (none))) else (none))) else (none))
theorem impl_mark.mono : ∀ a0 a1 k, LeO (impl_mark.f k a0 a1) (impl_mark.f (k + 1) a0 a1) := by
  intro a0 a1 k
  unfold impl_mark.f
  repeat' first
      | (with_reducible exact impl_hash.mono _ _)
      | (with_reducible exact impl_number.mono _ _ _)
      | (with_reducible exact LeO.refl _)
      | (with_reducible exact LeO.none _)
      | (with_reducible refine LeO.ite ?_ ?_)
      | (with_reducible refine LeO.bind ?_ (fun _ => ?_))
      | exact impl_hash.mono _ _
      | exact impl_number.mono _ _ _
      | exact LeO.none _
      | refine LeO.ite ?_ ?_
      | refine LeO.bind ?_ (fun _ => ?_)
noncomputable def impl_mark.v (a0 : Int) (a1 : ByteArray) : Option (ByteArray) := lim (fun k_ => impl_mark.f k_ a0 a1)
theorem impl_mark.v_lim (a0 : Int) (a1 : ByteArray) : LimIs (fun k_ => impl_mark.f k_ a0 a1) (impl_mark.v a0 a1) := lim_is (fun k_ => impl_mark.mono a0 a1 k_)
theorem impl_mark.v_eq (a0 : Int) (a1 : ByteArray) : impl_mark.v a0 a1 = ((impl_number.v a0 1).bind fun t646 => (if 8 + t646.size ≤ 9223372036854775807 then ((impl_hash.v ((⟨#[110, 111, 100, 101, 32, 107, 101, 121]⟩ : ByteArray) ++ t646)).bind fun t647 => (if t647.size + a1.size ≤ 9223372036854775807 then ((impl_hash.v (t647 ++ a1)).bind fun t648 => (if 0 ≤ 8 then (if 8 ≤ (t648.size : Int) then (some (t648.extract 0 8)) else (none)) else (none))) else (none))) else (none)) : Option (ByteArray)) := by
  refine LimIs.eq (impl_mark.v_lim a0 a1) ?_
  simp only [impl_mark.f]
  repeat' (with_reducible first | exact impl_hash.v_lim _ | exact impl_number.v_lim _ _ | exact LimIs.const _ | refine LimIs.ite ?_ ?_ | refine LimIs.bind ?_ (fun _ => ?_))
def impl_bareText.f (k : Nat) (a0_0 : Int) (a0_1 : Int) (a0_2 : Int) (a0_3 : Int) (a0_4 : ByteArray) (a0_5 : ByteArray) (a0_6 : ByteArray) : Option (ByteArray) := (impl_number.f k a0_0 1).bind fun t650 => ((impl_number.f k a0_1 1).bind fun t651 => (if t650.size + t651.size ≤ 9223372036854775807 then ((impl_number.f k a0_2 1).bind fun t652 => (if (t650 ++ t651).size + t652.size ≤ 9223372036854775807 then ((impl_number.f k a0_3 1).bind fun t653 => (if ((t650 ++ t651) ++ t652).size + t653.size ≤ 9223372036854775807 then ((impl_number.f k (a0_4.size : Int) 1).bind fun t654 => (if (((t650 ++ t651) ++ t652) ++ t653).size + t654.size ≤ 9223372036854775807 then (if ((((t650 ++ t651) ++ t652) ++ t653) ++ t654).size + a0_4.size ≤ 9223372036854775807 then ((impl_number.f k (a0_5.size : Int) 2).bind fun t655 => (if (((((t650 ++ t651) ++ t652) ++ t653) ++ t654) ++ a0_4).size + t655.size ≤ 9223372036854775807 then (if ((((((t650 ++ t651) ++ t652) ++ t653) ++ t654) ++ a0_4) ++ t655).size + a0_5.size ≤ 9223372036854775807 then (some (((((((t650 ++ t651) ++ t652) ++ t653) ++ t654) ++ a0_4) ++ t655) ++ a0_5)) else (none)) else (none))) else (none)) else (none))) else (none))) else (none))) else (none)))
theorem impl_bareText.mono : ∀ a0 a1 a2 a3 a4 a5 a6 k, LeO (impl_bareText.f k a0 a1 a2 a3 a4 a5 a6) (impl_bareText.f (k + 1) a0 a1 a2 a3 a4 a5 a6) := by
  intro a0 a1 a2 a3 a4 a5 a6 k
  unfold impl_bareText.f
  repeat' first
      | (with_reducible exact impl_number.mono _ _ _)
      | (with_reducible exact LeO.refl _)
      | (with_reducible exact LeO.none _)
      | (with_reducible refine LeO.ite ?_ ?_)
      | (with_reducible refine LeO.bind ?_ (fun _ => ?_))
      | exact impl_number.mono _ _ _
      | exact LeO.none _
      | refine LeO.ite ?_ ?_
      | refine LeO.bind ?_ (fun _ => ?_)
noncomputable def impl_bareText.v (a0_0 : Int) (a0_1 : Int) (a0_2 : Int) (a0_3 : Int) (a0_4 : ByteArray) (a0_5 : ByteArray) (a0_6 : ByteArray) : Option (ByteArray) := lim (fun k_ => impl_bareText.f k_ a0_0 a0_1 a0_2 a0_3 a0_4 a0_5 a0_6)
theorem impl_bareText.v_lim (a0_0 : Int) (a0_1 : Int) (a0_2 : Int) (a0_3 : Int) (a0_4 : ByteArray) (a0_5 : ByteArray) (a0_6 : ByteArray) : LimIs (fun k_ => impl_bareText.f k_ a0_0 a0_1 a0_2 a0_3 a0_4 a0_5 a0_6) (impl_bareText.v a0_0 a0_1 a0_2 a0_3 a0_4 a0_5 a0_6) := lim_is (fun k_ => impl_bareText.mono a0_0 a0_1 a0_2 a0_3 a0_4 a0_5 a0_6 k_)
theorem impl_bareText.v_eq (a0_0 : Int) (a0_1 : Int) (a0_2 : Int) (a0_3 : Int) (a0_4 : ByteArray) (a0_5 : ByteArray) (a0_6 : ByteArray) : impl_bareText.v a0_0 a0_1 a0_2 a0_3 a0_4 a0_5 a0_6 = ((impl_number.v a0_0 1).bind fun t650 => ((impl_number.v a0_1 1).bind fun t651 => (if t650.size + t651.size ≤ 9223372036854775807 then ((impl_number.v a0_2 1).bind fun t652 => (if (t650 ++ t651).size + t652.size ≤ 9223372036854775807 then ((impl_number.v a0_3 1).bind fun t653 => (if ((t650 ++ t651) ++ t652).size + t653.size ≤ 9223372036854775807 then ((impl_number.v (a0_4.size : Int) 1).bind fun t654 => (if (((t650 ++ t651) ++ t652) ++ t653).size + t654.size ≤ 9223372036854775807 then (if ((((t650 ++ t651) ++ t652) ++ t653) ++ t654).size + a0_4.size ≤ 9223372036854775807 then ((impl_number.v (a0_5.size : Int) 2).bind fun t655 => (if (((((t650 ++ t651) ++ t652) ++ t653) ++ t654) ++ a0_4).size + t655.size ≤ 9223372036854775807 then (if ((((((t650 ++ t651) ++ t652) ++ t653) ++ t654) ++ a0_4) ++ t655).size + a0_5.size ≤ 9223372036854775807 then (some (((((((t650 ++ t651) ++ t652) ++ t653) ++ t654) ++ a0_4) ++ t655) ++ a0_5)) else (none)) else (none))) else (none)) else (none))) else (none))) else (none))) else (none))) : Option (ByteArray)) := by
  refine LimIs.eq (impl_bareText.v_lim a0_0 a0_1 a0_2 a0_3 a0_4 a0_5 a0_6) ?_
  simp only [impl_bareText.f]
  repeat' (with_reducible first | exact impl_number.v_lim _ _ | exact LimIs.const _ | refine LimIs.ite ?_ ?_ | refine LimIs.bind ?_ (fun _ => ?_))
def impl_signed.f (k : Nat) (a0 : Int) (a1_0 : Int) (a1_1 : Int) (a1_2 : Int) (a1_3 : Int) (a1_4 : ByteArray) (a1_5 : ByteArray) (a1_6 : ByteArray) : Option (Int × Int × Int × Int × ByteArray × ByteArray × ByteArray) := (impl_bareText.f k a1_0 a1_1 a1_2 a0 a1_4 a1_5 a1_6).bind fun t658 => ((impl_mark.f k a0 t658).bind fun t659 => (some (a1_0, a1_1, a1_2, a0, a1_4, a1_5, t659)))
theorem impl_signed.mono : ∀ a0 a1 a2 a3 a4 a5 a6 a7 k, LeO (impl_signed.f k a0 a1 a2 a3 a4 a5 a6 a7) (impl_signed.f (k + 1) a0 a1 a2 a3 a4 a5 a6 a7) := by
  intro a0 a1 a2 a3 a4 a5 a6 a7 k
  unfold impl_signed.f
  repeat' first
      | (with_reducible exact impl_bareText.mono _ _ _ _ _ _ _ _)
      | (with_reducible exact impl_mark.mono _ _ _)
      | (with_reducible exact LeO.refl _)
      | (with_reducible exact LeO.none _)
      | (with_reducible refine LeO.ite ?_ ?_)
      | (with_reducible refine LeO.bind ?_ (fun _ => ?_))
      | exact impl_bareText.mono _ _ _ _ _ _ _ _
      | exact impl_mark.mono _ _ _
      | exact LeO.none _
      | refine LeO.ite ?_ ?_
      | refine LeO.bind ?_ (fun _ => ?_)
noncomputable def impl_signed.v (a0 : Int) (a1_0 : Int) (a1_1 : Int) (a1_2 : Int) (a1_3 : Int) (a1_4 : ByteArray) (a1_5 : ByteArray) (a1_6 : ByteArray) : Option (Int × Int × Int × Int × ByteArray × ByteArray × ByteArray) := lim (fun k_ => impl_signed.f k_ a0 a1_0 a1_1 a1_2 a1_3 a1_4 a1_5 a1_6)
theorem impl_signed.v_lim (a0 : Int) (a1_0 : Int) (a1_1 : Int) (a1_2 : Int) (a1_3 : Int) (a1_4 : ByteArray) (a1_5 : ByteArray) (a1_6 : ByteArray) : LimIs (fun k_ => impl_signed.f k_ a0 a1_0 a1_1 a1_2 a1_3 a1_4 a1_5 a1_6) (impl_signed.v a0 a1_0 a1_1 a1_2 a1_3 a1_4 a1_5 a1_6) := lim_is (fun k_ => impl_signed.mono a0 a1_0 a1_1 a1_2 a1_3 a1_4 a1_5 a1_6 k_)
theorem impl_signed.v_eq (a0 : Int) (a1_0 : Int) (a1_1 : Int) (a1_2 : Int) (a1_3 : Int) (a1_4 : ByteArray) (a1_5 : ByteArray) (a1_6 : ByteArray) : impl_signed.v a0 a1_0 a1_1 a1_2 a1_3 a1_4 a1_5 a1_6 = ((impl_bareText.v a1_0 a1_1 a1_2 a0 a1_4 a1_5 a1_6).bind fun t658 => ((impl_mark.v a0 t658).bind fun t659 => (some (a1_0, a1_1, a1_2, a0, a1_4, a1_5, t659))) : Option (Int × Int × Int × Int × ByteArray × ByteArray × ByteArray)) := by
  refine LimIs.eq (impl_signed.v_lim a0 a1_0 a1_1 a1_2 a1_3 a1_4 a1_5 a1_6) ?_
  simp only [impl_signed.f]
  repeat' (with_reducible first | exact impl_bareText.v_lim _ _ _ _ _ _ _ | exact impl_mark.v_lim _ _ | exact LimIs.const _ | refine LimIs.ite ?_ ?_ | refine LimIs.bind ?_ (fun _ => ?_))
def impl_SignMessage.f (k : Nat) (a0 : Int) (a1_0 : Int) (a1_1 : Int) (a1_2 : Int) (a1_3 : Int) (a1_4 : ByteArray) (a1_5 : ByteArray) (a1_6 : ByteArray) : Option (Int × Int × Int × Int × ByteArray × ByteArray × ByteArray × Int) := (impl_within.f a0 0 6).bind fun t662 => (if t662 = true then ((impl_number.f k 0 8).bind fun t663 => ((impl_MessageOK.f k a1_0 a1_1 a1_2 a0 a1_4 a1_5 t663).bind fun t664 => (if t664 = true then ((impl_signed.f k a0 a1_0 a1_1 a1_2 a0 a1_4 a1_5 t663).bind fun bt665 => (some (bt665.1, bt665.2.1, bt665.2.2.1, bt665.2.2.2.1, bt665.2.2.2.2.1, bt665.2.2.2.2.2.1, bt665.2.2.2.2.2.2, 0))) else (some (0, 0, 0, 0, (⟨#[]⟩ : ByteArray), (⟨#[]⟩ : ByteArray), (⟨#[]⟩ : ByteArray), 1))))) else (some (0, 0, 0, 0, (⟨#[]⟩ : ByteArray), (⟨#[]⟩ : ByteArray), (⟨#[]⟩ : ByteArray), 4)))
theorem impl_SignMessage.mono : ∀ a0 a1 a2 a3 a4 a5 a6 a7 k, LeO (impl_SignMessage.f k a0 a1 a2 a3 a4 a5 a6 a7) (impl_SignMessage.f (k + 1) a0 a1 a2 a3 a4 a5 a6 a7) := by
  intro a0 a1 a2 a3 a4 a5 a6 a7 k
  unfold impl_SignMessage.f
  repeat' first
      | (with_reducible exact impl_MessageOK.mono _ _ _ _ _ _ _ _)
      | (with_reducible exact impl_number.mono _ _ _)
      | (with_reducible exact impl_signed.mono _ _ _ _ _ _ _ _ _)
      | (with_reducible exact LeO.refl _)
      | (with_reducible exact LeO.none _)
      | (with_reducible refine LeO.ite ?_ ?_)
      | (with_reducible refine LeO.bind ?_ (fun _ => ?_))
      | exact impl_MessageOK.mono _ _ _ _ _ _ _ _
      | exact impl_number.mono _ _ _
      | exact impl_signed.mono _ _ _ _ _ _ _ _ _
      | exact LeO.none _
      | refine LeO.ite ?_ ?_
      | refine LeO.bind ?_ (fun _ => ?_)
noncomputable def impl_SignMessage.v (a0 : Int) (a1_0 : Int) (a1_1 : Int) (a1_2 : Int) (a1_3 : Int) (a1_4 : ByteArray) (a1_5 : ByteArray) (a1_6 : ByteArray) : Option (Int × Int × Int × Int × ByteArray × ByteArray × ByteArray × Int) := lim (fun k_ => impl_SignMessage.f k_ a0 a1_0 a1_1 a1_2 a1_3 a1_4 a1_5 a1_6)
theorem impl_SignMessage.v_lim (a0 : Int) (a1_0 : Int) (a1_1 : Int) (a1_2 : Int) (a1_3 : Int) (a1_4 : ByteArray) (a1_5 : ByteArray) (a1_6 : ByteArray) : LimIs (fun k_ => impl_SignMessage.f k_ a0 a1_0 a1_1 a1_2 a1_3 a1_4 a1_5 a1_6) (impl_SignMessage.v a0 a1_0 a1_1 a1_2 a1_3 a1_4 a1_5 a1_6) := lim_is (fun k_ => impl_SignMessage.mono a0 a1_0 a1_1 a1_2 a1_3 a1_4 a1_5 a1_6 k_)
theorem impl_SignMessage.v_eq (a0 : Int) (a1_0 : Int) (a1_1 : Int) (a1_2 : Int) (a1_3 : Int) (a1_4 : ByteArray) (a1_5 : ByteArray) (a1_6 : ByteArray) : impl_SignMessage.v a0 a1_0 a1_1 a1_2 a1_3 a1_4 a1_5 a1_6 = ((impl_within.v a0 0 6).bind fun t662 => (if t662 = true then ((impl_number.v 0 8).bind fun t663 => ((impl_MessageOK.v a1_0 a1_1 a1_2 a0 a1_4 a1_5 t663).bind fun t664 => (if t664 = true then ((impl_signed.v a0 a1_0 a1_1 a1_2 a0 a1_4 a1_5 t663).bind fun bt665 => (some (bt665.1, bt665.2.1, bt665.2.2.1, bt665.2.2.2.1, bt665.2.2.2.2.1, bt665.2.2.2.2.2.1, bt665.2.2.2.2.2.2, 0))) else (some (0, 0, 0, 0, (⟨#[]⟩ : ByteArray), (⟨#[]⟩ : ByteArray), (⟨#[]⟩ : ByteArray), 1))))) else (some (0, 0, 0, 0, (⟨#[]⟩ : ByteArray), (⟨#[]⟩ : ByteArray), (⟨#[]⟩ : ByteArray), 4))) : Option (Int × Int × Int × Int × ByteArray × ByteArray × ByteArray × Int)) := by
  refine LimIs.eq (impl_SignMessage.v_lim a0 a1_0 a1_1 a1_2 a1_3 a1_4 a1_5 a1_6) ?_
  simp only [impl_SignMessage.f]
  repeat' (with_reducible first | exact impl_MessageOK.v_lim _ _ _ _ _ _ _ | exact impl_number.v_lim _ _ | exact impl_signed.v_lim _ _ _ _ _ _ _ _ | exact impl_within.v_lim _ _ _ | exact LimIs.const _ | refine LimIs.ite ?_ ?_ | refine LimIs.bind ?_ (fun _ => ?_))
def spec_MessageOK.j0 : Nat → Bool → Int → Int → Int → Int → ByteArray → ByteArray → ByteArray → Option (Bool)
  | 0, _, _, _, _, _, _, _, _ => none
  | k + 1, x30, x673000, x673001, x673002, x673003, x673004, x673005, x673006 => if x30 = true then (some false) else (if x673000 = 1 then ((spec_l01In.f x673002 1 8).bind fun t676 => (if t676 = true then (if (x673004.size : Int) = 32 then (some (x673005.toList != ([] : List UInt8))) else (some false)) else (some false))) else (if x673000 = 2 then ((spec_l01In.f x673002 1 8).bind fun t677 => (if t677 = true then (if (x673004.size : Int) = 32 then (some (x673005.toList == ([] : List UInt8))) else (some false)) else (some false))) else (if x673000 = 3 then ((spec_l01In.f x673002 1 8).bind fun t678 => (if t678 = true then (if (x673004.size : Int) = 32 then (some (x673005.toList == ([] : List UInt8))) else (some false)) else (some false))) else (if x673002 = 0 then (some (x673004.toList == ([] : List UInt8))) else (some false)))))
def spec_MessageOK.f (k : Nat) (a0_0 : Int) (a0_1 : Int) (a0_2 : Int) (a0_3 : Int) (a0_4 : ByteArray) (a0_5 : ByteArray) (a0_6 : ByteArray) : Option (Bool) := (spec_l01In.f a0_0 1 5).bind fun t673 => (if t673 = true then ((spec_l01In.f a0_1 0 20).bind fun t674 => (if t674 = true then ((spec_l01In.f a0_3 0 6).bind fun t675 => (if t675 = true then (if (a0_6.size : Int) = 8 then (spec_MessageOK.j0 k (decide ((a0_5.size : Int) > 20000)) a0_0 a0_1 a0_2 a0_3 a0_4 a0_5 a0_6) else (spec_MessageOK.j0 k true a0_0 a0_1 a0_2 a0_3 a0_4 a0_5 a0_6)) else (spec_MessageOK.j0 k true a0_0 a0_1 a0_2 a0_3 a0_4 a0_5 a0_6))) else (spec_MessageOK.j0 k true a0_0 a0_1 a0_2 a0_3 a0_4 a0_5 a0_6))) else (spec_MessageOK.j0 k true a0_0 a0_1 a0_2 a0_3 a0_4 a0_5 a0_6))
theorem spec_MessageOK.mono_l : ∀ k, (∀ y0 y1 y2 y3 y4 y5 y6 y7, LeO (spec_MessageOK.j0 k y0 y1 y2 y3 y4 y5 y6 y7) (spec_MessageOK.j0 (k + 1) y0 y1 y2 y3 y4 y5 y6 y7))
  | 0 => fun _ _ _ _ _ _ _ _ r h => by simp [spec_MessageOK.j0] at h
  | k + 1 => by
    have ih0 := spec_MessageOK.mono_l k
    · intro y0 y1 y2 y3 y4 y5 y6 y7
      unfold spec_MessageOK.j0
      repeat' first
      | (with_reducible exact ih0 _ _ _ _ _ _ _ _)
      | (with_reducible exact LeO.refl _)
      | (with_reducible exact LeO.none _)
      | (with_reducible refine LeO.ite ?_ ?_)
      | (with_reducible refine LeO.bind ?_ (fun _ => ?_))
      | exact ih0 _ _ _ _ _ _ _ _
      | exact LeO.none _
      | refine LeO.ite ?_ ?_
      | refine LeO.bind ?_ (fun _ => ?_)
theorem spec_MessageOK.mono : ∀ a0 a1 a2 a3 a4 a5 a6 k, LeO (spec_MessageOK.f k a0 a1 a2 a3 a4 a5 a6) (spec_MessageOK.f (k + 1) a0 a1 a2 a3 a4 a5 a6) := by
  intro a0 a1 a2 a3 a4 a5 a6 k
  have ih0 := spec_MessageOK.mono_l k
  unfold spec_MessageOK.f
  repeat' first
      | (with_reducible exact ih0 _ _ _ _ _ _ _ _)
      | (with_reducible exact LeO.refl _)
      | (with_reducible exact LeO.none _)
      | (with_reducible refine LeO.ite ?_ ?_)
      | (with_reducible refine LeO.bind ?_ (fun _ => ?_))
      | exact ih0 _ _ _ _ _ _ _ _
      | exact LeO.none _
      | refine LeO.ite ?_ ?_
      | refine LeO.bind ?_ (fun _ => ?_)
noncomputable def spec_MessageOK.jv0 (x30 : Bool) (x673000 : Int) (x673001 : Int) (x673002 : Int) (x673003 : Int) (x673004 : ByteArray) (x673005 : ByteArray) (x673006 : ByteArray) : Option (Bool) := lim (fun k_ => spec_MessageOK.j0 k_ x30 x673000 x673001 x673002 x673003 x673004 x673005 x673006)
noncomputable def spec_MessageOK.v (a0_0 : Int) (a0_1 : Int) (a0_2 : Int) (a0_3 : Int) (a0_4 : ByteArray) (a0_5 : ByteArray) (a0_6 : ByteArray) : Option (Bool) := lim (fun k_ => spec_MessageOK.f k_ a0_0 a0_1 a0_2 a0_3 a0_4 a0_5 a0_6)
theorem spec_MessageOK.jv0_lim (x30 : Bool) (x673000 : Int) (x673001 : Int) (x673002 : Int) (x673003 : Int) (x673004 : ByteArray) (x673005 : ByteArray) (x673006 : ByteArray) : LimIs (fun k_ => spec_MessageOK.j0 k_ x30 x673000 x673001 x673002 x673003 x673004 x673005 x673006) (spec_MessageOK.jv0 x30 x673000 x673001 x673002 x673003 x673004 x673005 x673006) := lim_is (fun k_ => (spec_MessageOK.mono_l k_) x30 x673000 x673001 x673002 x673003 x673004 x673005 x673006)
theorem spec_MessageOK.v_lim (a0_0 : Int) (a0_1 : Int) (a0_2 : Int) (a0_3 : Int) (a0_4 : ByteArray) (a0_5 : ByteArray) (a0_6 : ByteArray) : LimIs (fun k_ => spec_MessageOK.f k_ a0_0 a0_1 a0_2 a0_3 a0_4 a0_5 a0_6) (spec_MessageOK.v a0_0 a0_1 a0_2 a0_3 a0_4 a0_5 a0_6) := lim_is (fun k_ => spec_MessageOK.mono a0_0 a0_1 a0_2 a0_3 a0_4 a0_5 a0_6 k_)
theorem spec_MessageOK.jv0_eq (x30 : Bool) (x673000 : Int) (x673001 : Int) (x673002 : Int) (x673003 : Int) (x673004 : ByteArray) (x673005 : ByteArray) (x673006 : ByteArray) : spec_MessageOK.jv0 x30 x673000 x673001 x673002 x673003 x673004 x673005 x673006 = (if x30 = true then (some false) else (if x673000 = 1 then ((spec_l01In.v x673002 1 8).bind fun t676 => (if t676 = true then (if (x673004.size : Int) = 32 then (some (x673005.toList != ([] : List UInt8))) else (some false)) else (some false))) else (if x673000 = 2 then ((spec_l01In.v x673002 1 8).bind fun t677 => (if t677 = true then (if (x673004.size : Int) = 32 then (some (x673005.toList == ([] : List UInt8))) else (some false)) else (some false))) else (if x673000 = 3 then ((spec_l01In.v x673002 1 8).bind fun t678 => (if t678 = true then (if (x673004.size : Int) = 32 then (some (x673005.toList == ([] : List UInt8))) else (some false)) else (some false))) else (if x673002 = 0 then (some (x673004.toList == ([] : List UInt8))) else (some false))))) : Option (Bool)) := by
  refine LimIs.eq (spec_MessageOK.jv0_lim x30 x673000 x673001 x673002 x673003 x673004 x673005 x673006) ?_
  refine LimIs.step (fun k_ => (spec_MessageOK.mono_l k_) x30 x673000 x673001 x673002 x673003 x673004 x673005 x673006) ?_
  simp only [spec_MessageOK.j0]
  repeat' (with_reducible first | exact spec_l01In.v_lim _ _ _ | exact LimIs.const _ | refine LimIs.ite ?_ ?_ | refine LimIs.bind ?_ (fun _ => ?_))
theorem spec_MessageOK.v_eq (a0_0 : Int) (a0_1 : Int) (a0_2 : Int) (a0_3 : Int) (a0_4 : ByteArray) (a0_5 : ByteArray) (a0_6 : ByteArray) : spec_MessageOK.v a0_0 a0_1 a0_2 a0_3 a0_4 a0_5 a0_6 = ((spec_l01In.v a0_0 1 5).bind fun t673 => (if t673 = true then ((spec_l01In.v a0_1 0 20).bind fun t674 => (if t674 = true then ((spec_l01In.v a0_3 0 6).bind fun t675 => (if t675 = true then (if (a0_6.size : Int) = 8 then (spec_MessageOK.jv0 (decide ((a0_5.size : Int) > 20000)) a0_0 a0_1 a0_2 a0_3 a0_4 a0_5 a0_6) else (spec_MessageOK.jv0 true a0_0 a0_1 a0_2 a0_3 a0_4 a0_5 a0_6)) else (spec_MessageOK.jv0 true a0_0 a0_1 a0_2 a0_3 a0_4 a0_5 a0_6))) else (spec_MessageOK.jv0 true a0_0 a0_1 a0_2 a0_3 a0_4 a0_5 a0_6))) else (spec_MessageOK.jv0 true a0_0 a0_1 a0_2 a0_3 a0_4 a0_5 a0_6)) : Option (Bool)) := by
  refine LimIs.eq (spec_MessageOK.v_lim a0_0 a0_1 a0_2 a0_3 a0_4 a0_5 a0_6) ?_
  simp only [spec_MessageOK.f]
  repeat' (with_reducible first | exact spec_MessageOK.jv0_lim _ _ _ _ _ _ _ _ | exact spec_l01In.v_lim _ _ _ | exact LimIs.const _ | refine LimIs.ite ?_ ?_ | refine LimIs.bind ?_ (fun _ => ?_))
def spec_l04Secret.f (k : Nat) (a0 : Int) : Option (ByteArray) := (some (([(a0) % 256] : List Int) : List Int)).bind fun y679 => (if 8 + (strOfNums y679).size ≤ 9223372036854775807 then (if ((⟨#[110, 111, 100, 101, 32, 107, 101, 121]⟩ : ByteArray) ++ (strOfNums y679)).size ≤ 140737488355328 then ((spec_l01Hash.f k (bytesOf ((⟨#[110, 111, 100, 101, 32, 107, 101, 121]⟩ : ByteArray) ++ (strOfNums y679)))).bind fun t685 => (some t685)) else (none)) else (none))
theorem spec_l04Secret.mono : ∀ a0 k, LeO (spec_l04Secret.f k a0) (spec_l04Secret.f (k + 1) a0) := by
  intro a0 k
  unfold spec_l04Secret.f
  repeat' first
      | (with_reducible exact spec_l01Hash.mono _ _)
      | (with_reducible exact LeO.refl _)
      | (with_reducible exact LeO.none _)
      | (with_reducible refine LeO.ite ?_ ?_)
      | (with_reducible refine LeO.bind ?_ (fun _ => ?_))
      | exact spec_l01Hash.mono _ _
      | exact LeO.none _
      | refine LeO.ite ?_ ?_
      | refine LeO.bind ?_ (fun _ => ?_)
noncomputable def spec_l04Secret.v (a0 : Int) : Option (ByteArray) := lim (fun k_ => spec_l04Secret.f k_ a0)
theorem spec_l04Secret.v_lim (a0 : Int) : LimIs (fun k_ => spec_l04Secret.f k_ a0) (spec_l04Secret.v a0) := lim_is (fun k_ => spec_l04Secret.mono a0 k_)
theorem spec_l04Secret.v_eq (a0 : Int) : spec_l04Secret.v a0 = ((some (([(a0) % 256] : List Int) : List Int)).bind fun y679 => (if 8 + (strOfNums y679).size ≤ 9223372036854775807 then (if ((⟨#[110, 111, 100, 101, 32, 107, 101, 121]⟩ : ByteArray) ++ (strOfNums y679)).size ≤ 140737488355328 then ((spec_l01Hash.v (bytesOf ((⟨#[110, 111, 100, 101, 32, 107, 101, 121]⟩ : ByteArray) ++ (strOfNums y679)))).bind fun t685 => (some t685)) else (none)) else (none)) : Option (ByteArray)) := by
  refine LimIs.eq (spec_l04Secret.v_lim a0) ?_
  simp only [spec_l04Secret.f]
  repeat' (with_reducible first | exact spec_l01Hash.v_lim _ | exact LimIs.const _ | refine LimIs.ite ?_ ?_ | refine LimIs.bind ?_ (fun _ => ?_))
def spec_l04Mac.f (k : Nat) (a0 : Int) (l1 : List Int) : Option (ByteArray) := (spec_l04Secret.f k a0).bind fun t1 => (if t1.size + l1.length < 140737488355328 ∧ 0 < t1.size then ((spec_l01Hash.f k (bytesOf t1 ++ l1)).bind fun t2 => (if 8 ≤ t2.size then (some (t2.extract 0 8)) else (none))) else (none))
theorem spec_l04Mac.mono : ∀ a0 l1 k, LeO (spec_l04Mac.f k a0 l1) (spec_l04Mac.f (k + 1) a0 l1) := by
  intro a0 l1 k
  unfold spec_l04Mac.f
  repeat' first
      | (with_reducible exact spec_l04Secret.mono _ _)
      | (with_reducible exact spec_l01Hash.mono _ _)
      | (with_reducible exact LeO.refl _)
      | refine LeO.ite ?_ ?_
      | refine LeO.bind ?_ (fun _ => ?_)
noncomputable def spec_l04Mac.v (a0 : Int) (l1 : List Int) : Option (ByteArray) := lim (fun k_ => spec_l04Mac.f k_ a0 l1)
theorem spec_l04Mac.v_lim (a0 : Int) (l1 : List Int) : LimIs (fun k_ => spec_l04Mac.f k_ a0 l1) (spec_l04Mac.v a0 l1) := lim_is (fun k_ => spec_l04Mac.mono a0 l1 k_)
theorem spec_l04Mac.v_eq (a0 : Int) (l1 : List Int) : spec_l04Mac.v a0 l1 = ((spec_l04Secret.v a0).bind fun t1 => (if t1.size + l1.length < 140737488355328 ∧ 0 < t1.size then ((spec_l01Hash.v (bytesOf t1 ++ l1)).bind fun t2 => (if 8 ≤ t2.size then (some (t2.extract 0 8)) else (none))) else (none)) : Option (ByteArray)) := by
  refine LimIs.eq (spec_l04Mac.v_lim a0 l1) ?_
  simp only [spec_l04Mac.f]
  repeat' (with_reducible first | exact spec_l01Hash.v_lim _ | exact spec_l04Secret.v_lim _ | exact LimIs.const _ | refine LimIs.ite ?_ ?_ | refine LimIs.bind ?_ (fun _ => ?_))
def spec_l02Plain.f (k : Nat) (a0_0 : Int) (a0_1 : Int) (a0_2 : Int) (a0_3 : Int) (a0_4 : ByteArray) (a0_5 : ByteArray) (a0_6 : ByteArray) : Option (List Int) := (some (([(a0_0) % 256, (a0_1) % 256, (a0_2) % 256, (a0_3) % 256, ((a0_4.size : Int)) % 256] : List Int) : List Int)).bind fun y687 => (if y687.length + a0_4.size < 140737488355328 then ((some (y687 ++ bytesOf a0_4 : List Int)).bind fun y690 => ((spec_l02Number.f k (a0_5.size : Int) 2).bind fun t693 => (if y690.length + t693.length < 140737488355328 then ((some (y690 ++ t693 : List Int)).bind fun y696 => (if y696.length + a0_5.size < 140737488355328 then (some (y696 ++ bytesOf a0_5)) else (none))) else (none)))) else (none))
theorem spec_l02Plain.mono : ∀ a0 a1 a2 a3 a4 a5 a6 k, LeO (spec_l02Plain.f k a0 a1 a2 a3 a4 a5 a6) (spec_l02Plain.f (k + 1) a0 a1 a2 a3 a4 a5 a6) := by
  intro a0 a1 a2 a3 a4 a5 a6 k
  unfold spec_l02Plain.f
  repeat' first
      | (with_reducible exact spec_l02Number.mono _ _ _)
      | (with_reducible exact LeO.refl _)
      | (with_reducible exact LeO.none _)
      | (with_reducible refine LeO.ite ?_ ?_)
      | (with_reducible refine LeO.bind ?_ (fun _ => ?_))
      | exact spec_l02Number.mono _ _ _
      | exact LeO.none _
      | refine LeO.ite ?_ ?_
      | refine LeO.bind ?_ (fun _ => ?_)
noncomputable def spec_l02Plain.v (a0_0 : Int) (a0_1 : Int) (a0_2 : Int) (a0_3 : Int) (a0_4 : ByteArray) (a0_5 : ByteArray) (a0_6 : ByteArray) : Option (List Int) := lim (fun k_ => spec_l02Plain.f k_ a0_0 a0_1 a0_2 a0_3 a0_4 a0_5 a0_6)
theorem spec_l02Plain.v_lim (a0_0 : Int) (a0_1 : Int) (a0_2 : Int) (a0_3 : Int) (a0_4 : ByteArray) (a0_5 : ByteArray) (a0_6 : ByteArray) : LimIs (fun k_ => spec_l02Plain.f k_ a0_0 a0_1 a0_2 a0_3 a0_4 a0_5 a0_6) (spec_l02Plain.v a0_0 a0_1 a0_2 a0_3 a0_4 a0_5 a0_6) := lim_is (fun k_ => spec_l02Plain.mono a0_0 a0_1 a0_2 a0_3 a0_4 a0_5 a0_6 k_)
theorem spec_l02Plain.v_eq (a0_0 : Int) (a0_1 : Int) (a0_2 : Int) (a0_3 : Int) (a0_4 : ByteArray) (a0_5 : ByteArray) (a0_6 : ByteArray) : spec_l02Plain.v a0_0 a0_1 a0_2 a0_3 a0_4 a0_5 a0_6 = ((some (([(a0_0) % 256, (a0_1) % 256, (a0_2) % 256, (a0_3) % 256, ((a0_4.size : Int)) % 256] : List Int) : List Int)).bind fun y687 => (if y687.length + a0_4.size < 140737488355328 then ((some (y687 ++ bytesOf a0_4 : List Int)).bind fun y690 => ((spec_l02Number.v (a0_5.size : Int) 2).bind fun t693 => (if y690.length + t693.length < 140737488355328 then ((some (y690 ++ t693 : List Int)).bind fun y696 => (if y696.length + a0_5.size < 140737488355328 then (some (y696 ++ bytesOf a0_5)) else (none))) else (none)))) else (none)) : Option (List Int)) := by
  refine LimIs.eq (spec_l02Plain.v_lim a0_0 a0_1 a0_2 a0_3 a0_4 a0_5 a0_6) ?_
  simp only [spec_l02Plain.f]
  repeat' (with_reducible first | exact spec_l02Number.v_lim _ _ | exact LimIs.const _ | refine LimIs.ite ?_ ?_ | refine LimIs.bind ?_ (fun _ => ?_))
def spec_l06Sign.f (k : Nat) (a0 : Int) (a1_0 : Int) (a1_1 : Int) (a1_2 : Int) (a1_3 : Int) (a1_4 : ByteArray) (a1_5 : ByteArray) (a1_6 : ByteArray) : Option (Int × Int × Int × Int × ByteArray × ByteArray × ByteArray) := (spec_l02Plain.f k a1_0 a1_1 a1_2 a0 a1_4 a1_5 a1_6).bind fun t704 => ((spec_l04Mac.f k a0 t704).bind fun t707 => (some (a1_0, a1_1, a1_2, a0, a1_4, a1_5, t707)))
theorem spec_l06Sign.mono : ∀ a0 a1 a2 a3 a4 a5 a6 a7 k, LeO (spec_l06Sign.f k a0 a1 a2 a3 a4 a5 a6 a7) (spec_l06Sign.f (k + 1) a0 a1 a2 a3 a4 a5 a6 a7) := by
  intro a0 a1 a2 a3 a4 a5 a6 a7 k
  unfold spec_l06Sign.f
  repeat' first
      | (with_reducible exact spec_l02Plain.mono _ _ _ _ _ _ _ _)
      | (with_reducible exact spec_l04Mac.mono _ _ _)
      | (with_reducible exact LeO.refl _)
      | (with_reducible exact LeO.none _)
      | (with_reducible refine LeO.ite ?_ ?_)
      | (with_reducible refine LeO.bind ?_ (fun _ => ?_))
      | exact spec_l02Plain.mono _ _ _ _ _ _ _ _
      | exact spec_l04Mac.mono _ _ _
      | exact LeO.none _
      | refine LeO.ite ?_ ?_
      | refine LeO.bind ?_ (fun _ => ?_)
noncomputable def spec_l06Sign.v (a0 : Int) (a1_0 : Int) (a1_1 : Int) (a1_2 : Int) (a1_3 : Int) (a1_4 : ByteArray) (a1_5 : ByteArray) (a1_6 : ByteArray) : Option (Int × Int × Int × Int × ByteArray × ByteArray × ByteArray) := lim (fun k_ => spec_l06Sign.f k_ a0 a1_0 a1_1 a1_2 a1_3 a1_4 a1_5 a1_6)
theorem spec_l06Sign.v_lim (a0 : Int) (a1_0 : Int) (a1_1 : Int) (a1_2 : Int) (a1_3 : Int) (a1_4 : ByteArray) (a1_5 : ByteArray) (a1_6 : ByteArray) : LimIs (fun k_ => spec_l06Sign.f k_ a0 a1_0 a1_1 a1_2 a1_3 a1_4 a1_5 a1_6) (spec_l06Sign.v a0 a1_0 a1_1 a1_2 a1_3 a1_4 a1_5 a1_6) := lim_is (fun k_ => spec_l06Sign.mono a0 a1_0 a1_1 a1_2 a1_3 a1_4 a1_5 a1_6 k_)
theorem spec_l06Sign.v_eq (a0 : Int) (a1_0 : Int) (a1_1 : Int) (a1_2 : Int) (a1_3 : Int) (a1_4 : ByteArray) (a1_5 : ByteArray) (a1_6 : ByteArray) : spec_l06Sign.v a0 a1_0 a1_1 a1_2 a1_3 a1_4 a1_5 a1_6 = ((spec_l02Plain.v a1_0 a1_1 a1_2 a0 a1_4 a1_5 a1_6).bind fun t704 => ((spec_l04Mac.v a0 t704).bind fun t707 => (some (a1_0, a1_1, a1_2, a0, a1_4, a1_5, t707))) : Option (Int × Int × Int × Int × ByteArray × ByteArray × ByteArray)) := by
  refine LimIs.eq (spec_l06Sign.v_lim a0 a1_0 a1_1 a1_2 a1_3 a1_4 a1_5 a1_6) ?_
  simp only [spec_l06Sign.f]
  repeat' (with_reducible first | exact spec_l02Plain.v_lim _ _ _ _ _ _ _ | exact spec_l04Mac.v_lim _ _ | exact LimIs.const _ | refine LimIs.ite ?_ ?_ | refine LimIs.bind ?_ (fun _ => ?_))
def spec_SignMessage.f (k : Nat) (a0 : Int) (a1_0 : Int) (a1_1 : Int) (a1_2 : Int) (a1_3 : Int) (a1_4 : ByteArray) (a1_5 : ByteArray) (a1_6 : ByteArray) : Option (Int × Int × Int × Int × ByteArray × ByteArray × ByteArray × Int) := (spec_l01In.f a0 0 6).bind fun t710 => (if t710 = true then ((spec_MessageOK.f k a1_0 a1_1 a1_2 a0 a1_4 a1_5 (⟨#[49, 50, 51, 52, 53, 54, 55, 56]⟩ : ByteArray)).bind fun t711 => (if t711 = true then ((spec_l06Sign.f k a0 a1_0 a1_1 a1_2 a0 a1_4 a1_5 (⟨#[49, 50, 51, 52, 53, 54, 55, 56]⟩ : ByteArray)).bind fun bt712 => (some (bt712.1, bt712.2.1, bt712.2.2.1, bt712.2.2.2.1, bt712.2.2.2.2.1, bt712.2.2.2.2.2.1, bt712.2.2.2.2.2.2, 0))) else (some (0, 0, 0, 0, (⟨#[]⟩ : ByteArray), (⟨#[]⟩ : ByteArray), (⟨#[]⟩ : ByteArray), 1)))) else (some (0, 0, 0, 0, (⟨#[]⟩ : ByteArray), (⟨#[]⟩ : ByteArray), (⟨#[]⟩ : ByteArray), 4)))
theorem spec_SignMessage.mono : ∀ a0 a1 a2 a3 a4 a5 a6 a7 k, LeO (spec_SignMessage.f k a0 a1 a2 a3 a4 a5 a6 a7) (spec_SignMessage.f (k + 1) a0 a1 a2 a3 a4 a5 a6 a7) := by
  intro a0 a1 a2 a3 a4 a5 a6 a7 k
  unfold spec_SignMessage.f
  repeat' first
      | (with_reducible exact spec_MessageOK.mono _ _ _ _ _ _ _ _)
      | (with_reducible exact spec_l06Sign.mono _ _ _ _ _ _ _ _ _)
      | (with_reducible exact LeO.refl _)
      | (with_reducible exact LeO.none _)
      | (with_reducible refine LeO.ite ?_ ?_)
      | (with_reducible refine LeO.bind ?_ (fun _ => ?_))
      | exact spec_MessageOK.mono _ _ _ _ _ _ _ _
      | exact spec_l06Sign.mono _ _ _ _ _ _ _ _ _
      | exact LeO.none _
      | refine LeO.ite ?_ ?_
      | refine LeO.bind ?_ (fun _ => ?_)
noncomputable def spec_SignMessage.v (a0 : Int) (a1_0 : Int) (a1_1 : Int) (a1_2 : Int) (a1_3 : Int) (a1_4 : ByteArray) (a1_5 : ByteArray) (a1_6 : ByteArray) : Option (Int × Int × Int × Int × ByteArray × ByteArray × ByteArray × Int) := lim (fun k_ => spec_SignMessage.f k_ a0 a1_0 a1_1 a1_2 a1_3 a1_4 a1_5 a1_6)
theorem spec_SignMessage.v_lim (a0 : Int) (a1_0 : Int) (a1_1 : Int) (a1_2 : Int) (a1_3 : Int) (a1_4 : ByteArray) (a1_5 : ByteArray) (a1_6 : ByteArray) : LimIs (fun k_ => spec_SignMessage.f k_ a0 a1_0 a1_1 a1_2 a1_3 a1_4 a1_5 a1_6) (spec_SignMessage.v a0 a1_0 a1_1 a1_2 a1_3 a1_4 a1_5 a1_6) := lim_is (fun k_ => spec_SignMessage.mono a0 a1_0 a1_1 a1_2 a1_3 a1_4 a1_5 a1_6 k_)
theorem spec_SignMessage.v_eq (a0 : Int) (a1_0 : Int) (a1_1 : Int) (a1_2 : Int) (a1_3 : Int) (a1_4 : ByteArray) (a1_5 : ByteArray) (a1_6 : ByteArray) : spec_SignMessage.v a0 a1_0 a1_1 a1_2 a1_3 a1_4 a1_5 a1_6 = ((spec_l01In.v a0 0 6).bind fun t710 => (if t710 = true then ((spec_MessageOK.v a1_0 a1_1 a1_2 a0 a1_4 a1_5 (⟨#[49, 50, 51, 52, 53, 54, 55, 56]⟩ : ByteArray)).bind fun t711 => (if t711 = true then ((spec_l06Sign.v a0 a1_0 a1_1 a1_2 a0 a1_4 a1_5 (⟨#[49, 50, 51, 52, 53, 54, 55, 56]⟩ : ByteArray)).bind fun bt712 => (some (bt712.1, bt712.2.1, bt712.2.2.1, bt712.2.2.2.1, bt712.2.2.2.2.1, bt712.2.2.2.2.2.1, bt712.2.2.2.2.2.2, 0))) else (some (0, 0, 0, 0, (⟨#[]⟩ : ByteArray), (⟨#[]⟩ : ByteArray), (⟨#[]⟩ : ByteArray), 1)))) else (some (0, 0, 0, 0, (⟨#[]⟩ : ByteArray), (⟨#[]⟩ : ByteArray), (⟨#[]⟩ : ByteArray), 4))) : Option (Int × Int × Int × Int × ByteArray × ByteArray × ByteArray × Int)) := by
  refine LimIs.eq (spec_SignMessage.v_lim a0 a1_0 a1_1 a1_2 a1_3 a1_4 a1_5 a1_6) ?_
  simp only [spec_SignMessage.f]
  repeat' (with_reducible first | exact spec_MessageOK.v_lim _ _ _ _ _ _ _ | exact spec_l01In.v_lim _ _ _ | exact spec_l06Sign.v_lim _ _ _ _ _ _ _ _ | exact LimIs.const _ | refine LimIs.ite ?_ ?_ | refine LimIs.bind ?_ (fun _ => ?_))
def impl_FaultsOf.f (a0 : Int) : Option (Int × Int) := if a0 = 1 then (some (wrap64 (Int.tdiv (wrap64 (a0 - 1)) 3), 0)) else (if a0 = 4 then (some (wrap64 (Int.tdiv (wrap64 (a0 - 1)) 3), 0)) else (if a0 = 7 then (some (wrap64 (Int.tdiv (wrap64 (a0 - 1)) 3), 0)) else (some (0, 4))))
def impl_FaultsOf.v (a0 : Int) : Option (Int × Int) := impl_FaultsOf.f a0
theorem impl_FaultsOf.v_eq (a0 : Int) : impl_FaultsOf.v a0 = (if a0 = 1 then (some (wrap64 (Int.tdiv (wrap64 (a0 - 1)) 3), 0)) else (if a0 = 4 then (some (wrap64 (Int.tdiv (wrap64 (a0 - 1)) 3), 0)) else (if a0 = 7 then (some (wrap64 (Int.tdiv (wrap64 (a0 - 1)) 3), 0)) else (some (0, 4)))) : Option (Int × Int)) := rfl
def impl_areNodes.f (a0 : Int) : Option (Bool) := (impl_FaultsOf.f a0).bind fun bt719 => (some (bt719.2 == 0))
def impl_areNodes.v (a0 : Int) : Option (Bool) := impl_areNodes.f a0
theorem impl_areNodes.v_lim (a0 : Int) : LimIs (fun _ => impl_areNodes.f a0) (impl_areNodes.v a0) := LimIs.const _
theorem impl_areNodes.v_eq (a0 : Int) : impl_areNodes.v a0 = ((impl_FaultsOf.v a0).bind fun bt719 => (some (bt719.2 == 0)) : Option (Bool)) := rfl
def impl_MessageSigned.f (k : Nat) (a0 : Int) (a1_0 : Int) (a1_1 : Int) (a1_2 : Int) (a1_3 : Int) (a1_4 : ByteArray) (a1_5 : ByteArray) (a1_6 : ByteArray) : Option (Bool) := (impl_areNodes.f a0).bind fun t722 => (if t722 = true then ((impl_MessageOK.f k a1_0 a1_1 a1_2 a1_3 a1_4 a1_5 a1_6).bind fun t723 => (if t723 = true then (if a1_3 < a0 then ((impl_bareText.f k a1_0 a1_1 a1_2 a1_3 a1_4 a1_5 a1_6).bind fun t724 => ((impl_mark.f k a1_3 t724).bind fun t725 => (some (a1_6.toList == t725.toList)))) else (some false)) else (some false))) else (some false))
theorem impl_MessageSigned.mono : ∀ a0 a1 a2 a3 a4 a5 a6 a7 k, LeO (impl_MessageSigned.f k a0 a1 a2 a3 a4 a5 a6 a7) (impl_MessageSigned.f (k + 1) a0 a1 a2 a3 a4 a5 a6 a7) := by
  intro a0 a1 a2 a3 a4 a5 a6 a7 k
  unfold impl_MessageSigned.f
  repeat' first
      | (with_reducible exact impl_MessageOK.mono _ _ _ _ _ _ _ _)
      | (with_reducible exact impl_bareText.mono _ _ _ _ _ _ _ _)
      | (with_reducible exact impl_mark.mono _ _ _)
      | (with_reducible exact LeO.refl _)
      | (with_reducible exact LeO.none _)
      | (with_reducible refine LeO.ite ?_ ?_)
      | (with_reducible refine LeO.bind ?_ (fun _ => ?_))
      | exact impl_MessageOK.mono _ _ _ _ _ _ _ _
      | exact impl_bareText.mono _ _ _ _ _ _ _ _
      | exact impl_mark.mono _ _ _
      | exact LeO.none _
      | refine LeO.ite ?_ ?_
      | refine LeO.bind ?_ (fun _ => ?_)
noncomputable def impl_MessageSigned.v (a0 : Int) (a1_0 : Int) (a1_1 : Int) (a1_2 : Int) (a1_3 : Int) (a1_4 : ByteArray) (a1_5 : ByteArray) (a1_6 : ByteArray) : Option (Bool) := lim (fun k_ => impl_MessageSigned.f k_ a0 a1_0 a1_1 a1_2 a1_3 a1_4 a1_5 a1_6)
theorem impl_MessageSigned.v_lim (a0 : Int) (a1_0 : Int) (a1_1 : Int) (a1_2 : Int) (a1_3 : Int) (a1_4 : ByteArray) (a1_5 : ByteArray) (a1_6 : ByteArray) : LimIs (fun k_ => impl_MessageSigned.f k_ a0 a1_0 a1_1 a1_2 a1_3 a1_4 a1_5 a1_6) (impl_MessageSigned.v a0 a1_0 a1_1 a1_2 a1_3 a1_4 a1_5 a1_6) := lim_is (fun k_ => impl_MessageSigned.mono a0 a1_0 a1_1 a1_2 a1_3 a1_4 a1_5 a1_6 k_)
theorem impl_MessageSigned.v_eq (a0 : Int) (a1_0 : Int) (a1_1 : Int) (a1_2 : Int) (a1_3 : Int) (a1_4 : ByteArray) (a1_5 : ByteArray) (a1_6 : ByteArray) : impl_MessageSigned.v a0 a1_0 a1_1 a1_2 a1_3 a1_4 a1_5 a1_6 = ((impl_areNodes.v a0).bind fun t722 => (if t722 = true then ((impl_MessageOK.v a1_0 a1_1 a1_2 a1_3 a1_4 a1_5 a1_6).bind fun t723 => (if t723 = true then (if a1_3 < a0 then ((impl_bareText.v a1_0 a1_1 a1_2 a1_3 a1_4 a1_5 a1_6).bind fun t724 => ((impl_mark.v a1_3 t724).bind fun t725 => (some (a1_6.toList == t725.toList)))) else (some false)) else (some false))) else (some false)) : Option (Bool)) := by
  refine LimIs.eq (impl_MessageSigned.v_lim a0 a1_0 a1_1 a1_2 a1_3 a1_4 a1_5 a1_6) ?_
  simp only [impl_MessageSigned.f]
  repeat' (with_reducible first | exact impl_MessageOK.v_lim _ _ _ _ _ _ _ | exact impl_areNodes.v_lim _ | exact impl_bareText.v_lim _ _ _ _ _ _ _ | exact impl_mark.v_lim _ _ | exact LimIs.const _ | refine LimIs.ite ?_ ?_ | refine LimIs.bind ?_ (fun _ => ?_))
def impl_Hash.f (k : Nat) (l0 : List Int) : Option (ByteArray) := if (l0.length : Int) > 65536 then (some (⟨#[]⟩ : ByteArray)) else ((impl_hash.f k (strOfNums l0)).bind fun t726 => (some t726))
theorem impl_Hash.mono : ∀ a0 k, LeO (impl_Hash.f k a0) (impl_Hash.f (k + 1) a0) := by
  intro a0 k
  unfold impl_Hash.f
  repeat' first
      | (with_reducible exact impl_hash.mono _ _)
      | (with_reducible exact LeO.refl _)
      | (with_reducible exact LeO.none _)
      | (with_reducible refine LeO.ite ?_ ?_)
      | (with_reducible refine LeO.bind ?_ (fun _ => ?_))
      | exact impl_hash.mono _ _
      | exact LeO.none _
      | refine LeO.ite ?_ ?_
      | refine LeO.bind ?_ (fun _ => ?_)
noncomputable def impl_Hash.v (l0 : List Int) : Option (ByteArray) := lim (fun k_ => impl_Hash.f k_ l0)
theorem impl_Hash.v_lim (l0 : List Int) : LimIs (fun k_ => impl_Hash.f k_ l0) (impl_Hash.v l0) := lim_is (fun k_ => impl_Hash.mono l0 k_)
theorem impl_Hash.v_eq (l0 : List Int) : impl_Hash.v l0 = (if (l0.length : Int) > 65536 then (some (⟨#[]⟩ : ByteArray)) else ((impl_hash.v (strOfNums l0)).bind fun t726 => (some t726)) : Option (ByteArray)) := by
  refine LimIs.eq (impl_Hash.v_lim l0) ?_
  simp only [impl_Hash.f]
  repeat' (with_reducible first | exact impl_hash.v_lim _ | exact LimIs.const _ | refine LimIs.ite ?_ ?_ | refine LimIs.bind ?_ (fun _ => ?_))
def spec_l04Nodes.f (a0 : Int) : Option (Bool) := if a0 = 1 then (some true) else (if a0 = 4 then (some true) else (some (a0 == 7)))
def spec_l04Nodes.v (a0 : Int) : Option (Bool) := spec_l04Nodes.f a0
theorem spec_l04Nodes.v_lim (a0 : Int) : LimIs (fun _ => spec_l04Nodes.f a0) (spec_l04Nodes.v a0) := LimIs.const _
theorem spec_l04Nodes.v_eq (a0 : Int) : spec_l04Nodes.v a0 = (if a0 = 1 then (some true) else (if a0 = 4 then (some true) else (some (a0 == 7))) : Option (Bool)) := rfl
def spec_l06Signed.f (k : Nat) (a0 : Int) (a1_0 : Int) (a1_1 : Int) (a1_2 : Int) (a1_3 : Int) (a1_4 : ByteArray) (a1_5 : ByteArray) (a1_6 : ByteArray) : Option (Bool) := (spec_MessageOK.f k a1_0 a1_1 a1_2 a1_3 a1_4 a1_5 a1_6).bind fun t728 => (if t728 = true then (if a1_3 < a0 then ((spec_l02Plain.f k a1_0 a1_1 a1_2 a1_3 a1_4 a1_5 a1_6).bind fun t729 => ((spec_l04Mac.f k a1_3 t729).bind fun t732 => (some (t732.toList == a1_6.toList)))) else (some false)) else (some false))
theorem spec_l06Signed.mono : ∀ a0 a1 a2 a3 a4 a5 a6 a7 k, LeO (spec_l06Signed.f k a0 a1 a2 a3 a4 a5 a6 a7) (spec_l06Signed.f (k + 1) a0 a1 a2 a3 a4 a5 a6 a7) := by
  intro a0 a1 a2 a3 a4 a5 a6 a7 k
  unfold spec_l06Signed.f
  repeat' first
      | (with_reducible exact spec_MessageOK.mono _ _ _ _ _ _ _ _)
      | (with_reducible exact spec_l02Plain.mono _ _ _ _ _ _ _ _)
      | (with_reducible exact spec_l04Mac.mono _ _ _)
      | (with_reducible exact LeO.refl _)
      | (with_reducible exact LeO.none _)
      | (with_reducible refine LeO.ite ?_ ?_)
      | (with_reducible refine LeO.bind ?_ (fun _ => ?_))
      | exact spec_MessageOK.mono _ _ _ _ _ _ _ _
      | exact spec_l02Plain.mono _ _ _ _ _ _ _ _
      | exact spec_l04Mac.mono _ _ _
      | exact LeO.none _
      | refine LeO.ite ?_ ?_
      | refine LeO.bind ?_ (fun _ => ?_)
noncomputable def spec_l06Signed.v (a0 : Int) (a1_0 : Int) (a1_1 : Int) (a1_2 : Int) (a1_3 : Int) (a1_4 : ByteArray) (a1_5 : ByteArray) (a1_6 : ByteArray) : Option (Bool) := lim (fun k_ => spec_l06Signed.f k_ a0 a1_0 a1_1 a1_2 a1_3 a1_4 a1_5 a1_6)
theorem spec_l06Signed.v_lim (a0 : Int) (a1_0 : Int) (a1_1 : Int) (a1_2 : Int) (a1_3 : Int) (a1_4 : ByteArray) (a1_5 : ByteArray) (a1_6 : ByteArray) : LimIs (fun k_ => spec_l06Signed.f k_ a0 a1_0 a1_1 a1_2 a1_3 a1_4 a1_5 a1_6) (spec_l06Signed.v a0 a1_0 a1_1 a1_2 a1_3 a1_4 a1_5 a1_6) := lim_is (fun k_ => spec_l06Signed.mono a0 a1_0 a1_1 a1_2 a1_3 a1_4 a1_5 a1_6 k_)
theorem spec_l06Signed.v_eq (a0 : Int) (a1_0 : Int) (a1_1 : Int) (a1_2 : Int) (a1_3 : Int) (a1_4 : ByteArray) (a1_5 : ByteArray) (a1_6 : ByteArray) : spec_l06Signed.v a0 a1_0 a1_1 a1_2 a1_3 a1_4 a1_5 a1_6 = ((spec_MessageOK.v a1_0 a1_1 a1_2 a1_3 a1_4 a1_5 a1_6).bind fun t728 => (if t728 = true then (if a1_3 < a0 then ((spec_l02Plain.v a1_0 a1_1 a1_2 a1_3 a1_4 a1_5 a1_6).bind fun t729 => ((spec_l04Mac.v a1_3 t729).bind fun t732 => (some (t732.toList == a1_6.toList)))) else (some false)) else (some false)) : Option (Bool)) := by
  refine LimIs.eq (spec_l06Signed.v_lim a0 a1_0 a1_1 a1_2 a1_3 a1_4 a1_5 a1_6) ?_
  simp only [spec_l06Signed.f]
  repeat' (with_reducible first | exact spec_MessageOK.v_lim _ _ _ _ _ _ _ | exact spec_l02Plain.v_lim _ _ _ _ _ _ _ | exact spec_l04Mac.v_lim _ _ | exact LimIs.const _ | refine LimIs.ite ?_ ?_ | refine LimIs.bind ?_ (fun _ => ?_))
def spec_MessageSigned.f (k : Nat) (a0 : Int) (a1_0 : Int) (a1_1 : Int) (a1_2 : Int) (a1_3 : Int) (a1_4 : ByteArray) (a1_5 : ByteArray) (a1_6 : ByteArray) : Option (Bool) := (spec_l04Nodes.f a0).bind fun t734 => (if t734 = true then ((spec_l06Signed.f k a0 a1_0 a1_1 a1_2 a1_3 a1_4 a1_5 a1_6).bind fun t735 => (some t735)) else (some false))
theorem spec_MessageSigned.mono : ∀ a0 a1 a2 a3 a4 a5 a6 a7 k, LeO (spec_MessageSigned.f k a0 a1 a2 a3 a4 a5 a6 a7) (spec_MessageSigned.f (k + 1) a0 a1 a2 a3 a4 a5 a6 a7) := by
  intro a0 a1 a2 a3 a4 a5 a6 a7 k
  unfold spec_MessageSigned.f
  repeat' first
      | (with_reducible exact spec_l06Signed.mono _ _ _ _ _ _ _ _ _)
      | (with_reducible exact LeO.refl _)
      | (with_reducible exact LeO.none _)
      | (with_reducible refine LeO.ite ?_ ?_)
      | (with_reducible refine LeO.bind ?_ (fun _ => ?_))
      | exact spec_l06Signed.mono _ _ _ _ _ _ _ _ _
      | exact LeO.none _
      | refine LeO.ite ?_ ?_
      | refine LeO.bind ?_ (fun _ => ?_)
noncomputable def spec_MessageSigned.v (a0 : Int) (a1_0 : Int) (a1_1 : Int) (a1_2 : Int) (a1_3 : Int) (a1_4 : ByteArray) (a1_5 : ByteArray) (a1_6 : ByteArray) : Option (Bool) := lim (fun k_ => spec_MessageSigned.f k_ a0 a1_0 a1_1 a1_2 a1_3 a1_4 a1_5 a1_6)
theorem spec_MessageSigned.v_lim (a0 : Int) (a1_0 : Int) (a1_1 : Int) (a1_2 : Int) (a1_3 : Int) (a1_4 : ByteArray) (a1_5 : ByteArray) (a1_6 : ByteArray) : LimIs (fun k_ => spec_MessageSigned.f k_ a0 a1_0 a1_1 a1_2 a1_3 a1_4 a1_5 a1_6) (spec_MessageSigned.v a0 a1_0 a1_1 a1_2 a1_3 a1_4 a1_5 a1_6) := lim_is (fun k_ => spec_MessageSigned.mono a0 a1_0 a1_1 a1_2 a1_3 a1_4 a1_5 a1_6 k_)
theorem spec_MessageSigned.v_eq (a0 : Int) (a1_0 : Int) (a1_1 : Int) (a1_2 : Int) (a1_3 : Int) (a1_4 : ByteArray) (a1_5 : ByteArray) (a1_6 : ByteArray) : spec_MessageSigned.v a0 a1_0 a1_1 a1_2 a1_3 a1_4 a1_5 a1_6 = ((spec_l04Nodes.v a0).bind fun t734 => (if t734 = true then ((spec_l06Signed.v a0 a1_0 a1_1 a1_2 a1_3 a1_4 a1_5 a1_6).bind fun t735 => (some t735)) else (some false)) : Option (Bool)) := by
  refine LimIs.eq (spec_MessageSigned.v_lim a0 a1_0 a1_1 a1_2 a1_3 a1_4 a1_5 a1_6) ?_
  simp only [spec_MessageSigned.f]
  repeat' (with_reducible first | exact spec_l04Nodes.v_lim _ | exact spec_l06Signed.v_lim _ _ _ _ _ _ _ _ | exact LimIs.const _ | refine LimIs.ite ?_ ?_ | refine LimIs.bind ?_ (fun _ => ?_))
mutual
def laws_FnSigned.j0 : Nat → List Int → List Int → Bool → Option (Bool)
  | 0, _, _, _ => none
  | k + 1, x0, x1, x19 => if x19 = true then (some true) else ((spec_MessageOf.f k x0).bind fun bt736 => ((laws_at.f x1 0 4).bind fun t744 => ((impl_SignMessage.f k t744 bt736.1 bt736.2.1 bt736.2.2.1 bt736.2.2.2.1 bt736.2.2.2.2.1 bt736.2.2.2.2.2.1 bt736.2.2.2.2.2.2).bind fun bt745 => ((spec_SignMessage.f k t744 bt736.1 bt736.2.1 bt736.2.2.1 bt736.2.2.2.1 bt736.2.2.2.2.1 bt736.2.2.2.2.2.1 bt736.2.2.2.2.2.2).bind fun bt754 => (if bt745.2.2.2.2.2.2.2 = 0 then (if (!(bt745.1 == bt754.1) || (!(bt745.2.1 == bt754.2.1) || (!(bt745.2.2.1 == bt754.2.2.1) || (!(bt745.2.2.2.1 == bt754.2.2.2.1) || (!(bt745.2.2.2.2.1.toList == bt754.2.2.2.2.1.toList) || (!(bt745.2.2.2.2.2.1.toList == bt754.2.2.2.2.2.1.toList) || (!(bt745.2.2.2.2.2.2.1.toList == bt754.2.2.2.2.2.2.1.toList)))))))) = true then (laws_FnSigned.j1 k x1 t744 true bt745.1 bt745.2.1 bt745.2.2.1 bt745.2.2.2.1 bt745.2.2.2.2.1 bt745.2.2.2.2.2.1 bt745.2.2.2.2.2.2.1) else (if bt745.2.2.2.1 = t744 then ((impl_MessageSigned.f k 4 bt745.1 bt745.2.1 bt745.2.2.1 bt745.2.2.2.1 bt745.2.2.2.2.1 bt745.2.2.2.2.2.1 bt745.2.2.2.2.2.2.1).bind fun t763 => (laws_FnSigned.j1 k x1 t744 (!t763) bt745.1 bt745.2.1 bt745.2.2.1 bt745.2.2.2.1 bt745.2.2.2.2.1 bt745.2.2.2.2.2.1 bt745.2.2.2.2.2.2.1)) else (laws_FnSigned.j1 k x1 t744 true bt745.1 bt745.2.1 bt745.2.2.1 bt745.2.2.2.1 bt745.2.2.2.2.1 bt745.2.2.2.2.2.1 bt745.2.2.2.2.2.2.1))) else (laws_FnSigned.j1 k x1 t744 true bt745.1 bt745.2.1 bt745.2.2.1 bt745.2.2.2.1 bt745.2.2.2.2.1 bt745.2.2.2.2.2.1 bt745.2.2.2.2.2.2.1))))))
def laws_FnSigned.j1 : Nat → List Int → Int → Bool → Int → Int → Int → Int → ByteArray → ByteArray → ByteArray → Option (Bool)
  | 0, _, _, _, _, _, _, _, _, _, _ => none
  | k + 1, x1, x6, x53, x754000, x754001, x754002, x754003, x754004, x754005, x754006 => if x53 = true then (some false) else ((laws_at.f x1 1 4).bind fun t765 => (if t765 = 0 then ((impl_MessageSigned.f k 4 x754000 x754001 x754002 (Int.tmod (wrap64 (x6 + 1)) 4) x754004 x754005 x754006).bind fun t766 => ((spec_MessageSigned.f k 4 x754000 x754001 x754002 (Int.tmod (wrap64 (x6 + 1)) 4) x754004 x754005 x754006).bind fun t767 => (some (t766 == t767)))) else (if t765 = 1 then ((impl_MessageSigned.f k 4 x754000 (wrap64 (x754001 + 1)) x754002 x754003 x754004 x754005 x754006).bind fun t768 => ((spec_MessageSigned.f k 4 x754000 (wrap64 (x754001 + 1)) x754002 x754003 x754004 x754005 x754006).bind fun t769 => (some (t768 == t769)))) else (if t765 = 2 then ((impl_MessageSigned.f k 4 x754000 x754001 x754002 x754003 x754004 x754005 (⟨#[49, 50, 51, 52, 53, 54, 55, 56]⟩ : ByteArray)).bind fun t770 => ((spec_MessageSigned.f k 4 x754000 x754001 x754002 x754003 x754004 x754005 (⟨#[49, 50, 51, 52, 53, 54, 55, 56]⟩ : ByteArray)).bind fun t771 => (some (t770 == t771)))) else (if t765 = 3 then (if 0 ≤ (mn (x1.length : Int) 100) then (if (mn (x1.length : Int) 100) ≤ (x1.length : Int) then ((impl_Hash.f k (x1.take ((mn (x1.length : Int) 100) : Int).toNat)).bind fun t773 => ((impl_MessageSigned.f k 4 x754000 x754001 x754002 x754003 t773 x754005 x754006).bind fun t774 => ((spec_MessageSigned.f k 4 x754000 x754001 x754002 x754003 t773 x754005 x754006).bind fun t775 => (some (t774 == t775))))) else (none)) else (none)) else ((impl_MessageSigned.f k 4 x754000 x754001 x754002 x754003 x754004 x754005 x754006).bind fun t776 => ((spec_MessageSigned.f k 4 x754000 x754001 x754002 x754003 x754004 x754005 x754006).bind fun t777 => (some (t776 == t777)))))))))
end
def laws_FnSigned.f (k : Nat) (l0 : List Int) (l1 : List Int) : Option (Bool) := if (l0.length : Int) > 1048576 then (laws_FnSigned.j0 k l0 l1 true) else (laws_FnSigned.j0 k l0 l1 (decide ((l1.length : Int) > 1048576)))
theorem laws_FnSigned.mono_l : ∀ k, (∀ y0 y1 y2, LeO (laws_FnSigned.j0 k y0 y1 y2) (laws_FnSigned.j0 (k + 1) y0 y1 y2)) ∧ (∀ y0 y1 y2 y3 y4 y5 y6 y7 y8 y9, LeO (laws_FnSigned.j1 k y0 y1 y2 y3 y4 y5 y6 y7 y8 y9) (laws_FnSigned.j1 (k + 1) y0 y1 y2 y3 y4 y5 y6 y7 y8 y9))
  | 0 => ⟨fun _ _ _ r h => by simp [laws_FnSigned.j0] at h, fun _ _ _ _ _ _ _ _ _ _ r h => by simp [laws_FnSigned.j1] at h⟩
  | k + 1 => by
    obtain ⟨ih0, ih1⟩ := laws_FnSigned.mono_l k
    refine ⟨?_, ?_⟩
    · intro y0 y1 y2
      unfold laws_FnSigned.j0
      repeat' first
      | (with_reducible exact ih0 _ _ _)
      | (with_reducible exact ih1 _ _ _ _ _ _ _ _ _ _)
      | (with_reducible exact impl_Hash.mono _ _)
      | (with_reducible exact impl_MessageSigned.mono _ _ _ _ _ _ _ _ _)
      | (with_reducible exact impl_SignMessage.mono _ _ _ _ _ _ _ _ _)
      | (with_reducible exact spec_MessageOf.mono _ _)
      | (with_reducible exact spec_MessageSigned.mono _ _ _ _ _ _ _ _ _)
      | (with_reducible exact spec_SignMessage.mono _ _ _ _ _ _ _ _ _)
      | (with_reducible exact LeO.refl _)
      | (with_reducible exact LeO.none _)
      | (with_reducible refine LeO.ite ?_ ?_)
      | (with_reducible refine LeO.bind ?_ (fun _ => ?_))
      | exact ih0 _ _ _
      | exact ih1 _ _ _ _ _ _ _ _ _ _
      | exact impl_Hash.mono _ _
      | exact impl_MessageSigned.mono _ _ _ _ _ _ _ _ _
      | exact impl_SignMessage.mono _ _ _ _ _ _ _ _ _
      | exact spec_MessageOf.mono _ _
      | exact spec_MessageSigned.mono _ _ _ _ _ _ _ _ _
      | exact spec_SignMessage.mono _ _ _ _ _ _ _ _ _
      | exact LeO.none _
      | refine LeO.ite ?_ ?_
      | refine LeO.bind ?_ (fun _ => ?_)
    · intro y0 y1 y2 y3 y4 y5 y6 y7 y8 y9
      unfold laws_FnSigned.j1
      repeat' first
      | (with_reducible exact ih0 _ _ _)
      | (with_reducible exact ih1 _ _ _ _ _ _ _ _ _ _)
      | (with_reducible exact impl_Hash.mono _ _)
      | (with_reducible exact impl_MessageSigned.mono _ _ _ _ _ _ _ _ _)
      | (with_reducible exact impl_SignMessage.mono _ _ _ _ _ _ _ _ _)
      | (with_reducible exact spec_MessageOf.mono _ _)
      | (with_reducible exact spec_MessageSigned.mono _ _ _ _ _ _ _ _ _)
      | (with_reducible exact spec_SignMessage.mono _ _ _ _ _ _ _ _ _)
      | (with_reducible exact LeO.refl _)
      | (with_reducible exact LeO.none _)
      | (with_reducible refine LeO.ite ?_ ?_)
      | (with_reducible refine LeO.bind ?_ (fun _ => ?_))
      | exact ih0 _ _ _
      | exact ih1 _ _ _ _ _ _ _ _ _ _
      | exact impl_Hash.mono _ _
      | exact impl_MessageSigned.mono _ _ _ _ _ _ _ _ _
      | exact impl_SignMessage.mono _ _ _ _ _ _ _ _ _
      | exact spec_MessageOf.mono _ _
      | exact spec_MessageSigned.mono _ _ _ _ _ _ _ _ _
      | exact spec_SignMessage.mono _ _ _ _ _ _ _ _ _
      | exact LeO.none _
      | refine LeO.ite ?_ ?_
      | refine LeO.bind ?_ (fun _ => ?_)
theorem laws_FnSigned.mono : ∀ a0 a1 k, LeO (laws_FnSigned.f k a0 a1) (laws_FnSigned.f (k + 1) a0 a1) := by
  intro a0 a1 k
  obtain ⟨ih0, ih1⟩ := laws_FnSigned.mono_l k
  unfold laws_FnSigned.f
  repeat' first
      | (with_reducible exact ih0 _ _ _)
      | (with_reducible exact ih1 _ _ _ _ _ _ _ _ _ _)
      | (with_reducible exact impl_Hash.mono _ _)
      | (with_reducible exact impl_MessageSigned.mono _ _ _ _ _ _ _ _ _)
      | (with_reducible exact impl_SignMessage.mono _ _ _ _ _ _ _ _ _)
      | (with_reducible exact spec_MessageOf.mono _ _)
      | (with_reducible exact spec_MessageSigned.mono _ _ _ _ _ _ _ _ _)
      | (with_reducible exact spec_SignMessage.mono _ _ _ _ _ _ _ _ _)
      | (with_reducible exact LeO.refl _)
      | (with_reducible exact LeO.none _)
      | (with_reducible refine LeO.ite ?_ ?_)
      | (with_reducible refine LeO.bind ?_ (fun _ => ?_))
      | exact ih0 _ _ _
      | exact ih1 _ _ _ _ _ _ _ _ _ _
      | exact impl_Hash.mono _ _
      | exact impl_MessageSigned.mono _ _ _ _ _ _ _ _ _
      | exact impl_SignMessage.mono _ _ _ _ _ _ _ _ _
      | exact spec_MessageOf.mono _ _
      | exact spec_MessageSigned.mono _ _ _ _ _ _ _ _ _
      | exact spec_SignMessage.mono _ _ _ _ _ _ _ _ _
      | exact LeO.none _
      | refine LeO.ite ?_ ?_
      | refine LeO.bind ?_ (fun _ => ?_)
noncomputable def laws_FnSigned.jv0 (x0 : List Int) (x1 : List Int) (x19 : Bool) : Option (Bool) := lim (fun k_ => laws_FnSigned.j0 k_ x0 x1 x19)
noncomputable def laws_FnSigned.jv1 (x1 : List Int) (x6 : Int) (x53 : Bool) (x754000 : Int) (x754001 : Int) (x754002 : Int) (x754003 : Int) (x754004 : ByteArray) (x754005 : ByteArray) (x754006 : ByteArray) : Option (Bool) := lim (fun k_ => laws_FnSigned.j1 k_ x1 x6 x53 x754000 x754001 x754002 x754003 x754004 x754005 x754006)
noncomputable def laws_FnSigned.v (l0 : List Int) (l1 : List Int) : Option (Bool) := lim (fun k_ => laws_FnSigned.f k_ l0 l1)
theorem laws_FnSigned.jv0_lim (x0 : List Int) (x1 : List Int) (x19 : Bool) : LimIs (fun k_ => laws_FnSigned.j0 k_ x0 x1 x19) (laws_FnSigned.jv0 x0 x1 x19) := lim_is (fun k_ => (laws_FnSigned.mono_l k_).1 x0 x1 x19)
theorem laws_FnSigned.jv1_lim (x1 : List Int) (x6 : Int) (x53 : Bool) (x754000 : Int) (x754001 : Int) (x754002 : Int) (x754003 : Int) (x754004 : ByteArray) (x754005 : ByteArray) (x754006 : ByteArray) : LimIs (fun k_ => laws_FnSigned.j1 k_ x1 x6 x53 x754000 x754001 x754002 x754003 x754004 x754005 x754006) (laws_FnSigned.jv1 x1 x6 x53 x754000 x754001 x754002 x754003 x754004 x754005 x754006) := lim_is (fun k_ => (laws_FnSigned.mono_l k_).2 x1 x6 x53 x754000 x754001 x754002 x754003 x754004 x754005 x754006)
theorem laws_FnSigned.v_lim (l0 : List Int) (l1 : List Int) : LimIs (fun k_ => laws_FnSigned.f k_ l0 l1) (laws_FnSigned.v l0 l1) := lim_is (fun k_ => laws_FnSigned.mono l0 l1 k_)
theorem laws_FnSigned.jv0_eq (x0 : List Int) (x1 : List Int) (x19 : Bool) : laws_FnSigned.jv0 x0 x1 x19 = (if x19 = true then (some true) else ((spec_MessageOf.v x0).bind fun bt736 => ((laws_at.v x1 0 4).bind fun t744 => ((impl_SignMessage.v t744 bt736.1 bt736.2.1 bt736.2.2.1 bt736.2.2.2.1 bt736.2.2.2.2.1 bt736.2.2.2.2.2.1 bt736.2.2.2.2.2.2).bind fun bt745 => ((spec_SignMessage.v t744 bt736.1 bt736.2.1 bt736.2.2.1 bt736.2.2.2.1 bt736.2.2.2.2.1 bt736.2.2.2.2.2.1 bt736.2.2.2.2.2.2).bind fun bt754 => (if bt745.2.2.2.2.2.2.2 = 0 then (if (!(bt745.1 == bt754.1) || (!(bt745.2.1 == bt754.2.1) || (!(bt745.2.2.1 == bt754.2.2.1) || (!(bt745.2.2.2.1 == bt754.2.2.2.1) || (!(bt745.2.2.2.2.1.toList == bt754.2.2.2.2.1.toList) || (!(bt745.2.2.2.2.2.1.toList == bt754.2.2.2.2.2.1.toList) || (!(bt745.2.2.2.2.2.2.1.toList == bt754.2.2.2.2.2.2.1.toList)))))))) = true then (laws_FnSigned.jv1 x1 t744 true bt745.1 bt745.2.1 bt745.2.2.1 bt745.2.2.2.1 bt745.2.2.2.2.1 bt745.2.2.2.2.2.1 bt745.2.2.2.2.2.2.1) else (if bt745.2.2.2.1 = t744 then ((impl_MessageSigned.v 4 bt745.1 bt745.2.1 bt745.2.2.1 bt745.2.2.2.1 bt745.2.2.2.2.1 bt745.2.2.2.2.2.1 bt745.2.2.2.2.2.2.1).bind fun t763 => (laws_FnSigned.jv1 x1 t744 (!t763) bt745.1 bt745.2.1 bt745.2.2.1 bt745.2.2.2.1 bt745.2.2.2.2.1 bt745.2.2.2.2.2.1 bt745.2.2.2.2.2.2.1)) else (laws_FnSigned.jv1 x1 t744 true bt745.1 bt745.2.1 bt745.2.2.1 bt745.2.2.2.1 bt745.2.2.2.2.1 bt745.2.2.2.2.2.1 bt745.2.2.2.2.2.2.1))) else (laws_FnSigned.jv1 x1 t744 true bt745.1 bt745.2.1 bt745.2.2.1 bt745.2.2.2.1 bt745.2.2.2.2.1 bt745.2.2.2.2.2.1 bt745.2.2.2.2.2.2.1)))))) : Option (Bool)) := by
  refine LimIs.eq (laws_FnSigned.jv0_lim x0 x1 x19) ?_
  refine LimIs.step (fun k_ => (laws_FnSigned.mono_l k_).1 x0 x1 x19) ?_
  simp only [laws_FnSigned.j0]
  repeat' (with_reducible first | exact impl_MessageSigned.v_lim _ _ _ _ _ _ _ _ | exact impl_SignMessage.v_lim _ _ _ _ _ _ _ _ | exact laws_FnSigned.jv1_lim _ _ _ _ _ _ _ _ _ _ | exact laws_at.v_lim _ _ _ | exact spec_MessageOf.v_lim _ | exact spec_SignMessage.v_lim _ _ _ _ _ _ _ _ | exact LimIs.const _ | refine LimIs.ite ?_ ?_ | refine LimIs.bind ?_ (fun _ => ?_))
theorem laws_FnSigned.jv1_eq (x1 : List Int) (x6 : Int) (x53 : Bool) (x754000 : Int) (x754001 : Int) (x754002 : Int) (x754003 : Int) (x754004 : ByteArray) (x754005 : ByteArray) (x754006 : ByteArray) : laws_FnSigned.jv1 x1 x6 x53 x754000 x754001 x754002 x754003 x754004 x754005 x754006 = (if x53 = true then (some false) else ((laws_at.v x1 1 4).bind fun t765 => (if t765 = 0 then ((impl_MessageSigned.v 4 x754000 x754001 x754002 (Int.tmod (wrap64 (x6 + 1)) 4) x754004 x754005 x754006).bind fun t766 => ((spec_MessageSigned.v 4 x754000 x754001 x754002 (Int.tmod (wrap64 (x6 + 1)) 4) x754004 x754005 x754006).bind fun t767 => (some (t766 == t767)))) else (if t765 = 1 then ((impl_MessageSigned.v 4 x754000 (wrap64 (x754001 + 1)) x754002 x754003 x754004 x754005 x754006).bind fun t768 => ((spec_MessageSigned.v 4 x754000 (wrap64 (x754001 + 1)) x754002 x754003 x754004 x754005 x754006).bind fun t769 => (some (t768 == t769)))) else (if t765 = 2 then ((impl_MessageSigned.v 4 x754000 x754001 x754002 x754003 x754004 x754005 (⟨#[49, 50, 51, 52, 53, 54, 55, 56]⟩ : ByteArray)).bind fun t770 => ((spec_MessageSigned.v 4 x754000 x754001 x754002 x754003 x754004 x754005 (⟨#[49, 50, 51, 52, 53, 54, 55, 56]⟩ : ByteArray)).bind fun t771 => (some (t770 == t771)))) else (if t765 = 3 then (if 0 ≤ (mn (x1.length : Int) 100) then (if (mn (x1.length : Int) 100) ≤ (x1.length : Int) then ((impl_Hash.v (x1.take ((mn (x1.length : Int) 100) : Int).toNat)).bind fun t773 => ((impl_MessageSigned.v 4 x754000 x754001 x754002 x754003 t773 x754005 x754006).bind fun t774 => ((spec_MessageSigned.v 4 x754000 x754001 x754002 x754003 t773 x754005 x754006).bind fun t775 => (some (t774 == t775))))) else (none)) else (none)) else ((impl_MessageSigned.v 4 x754000 x754001 x754002 x754003 x754004 x754005 x754006).bind fun t776 => ((spec_MessageSigned.v 4 x754000 x754001 x754002 x754003 x754004 x754005 x754006).bind fun t777 => (some (t776 == t777))))))))) : Option (Bool)) := by
  refine LimIs.eq (laws_FnSigned.jv1_lim x1 x6 x53 x754000 x754001 x754002 x754003 x754004 x754005 x754006) ?_
  refine LimIs.step (fun k_ => (laws_FnSigned.mono_l k_).2 x1 x6 x53 x754000 x754001 x754002 x754003 x754004 x754005 x754006) ?_
  simp only [laws_FnSigned.j1]
  repeat' (with_reducible first | exact impl_Hash.v_lim _ | exact impl_MessageSigned.v_lim _ _ _ _ _ _ _ _ | exact laws_at.v_lim _ _ _ | exact spec_MessageSigned.v_lim _ _ _ _ _ _ _ _ | exact LimIs.const _ | refine LimIs.ite ?_ ?_ | refine LimIs.bind ?_ (fun _ => ?_))
theorem laws_FnSigned.v_eq (l0 : List Int) (l1 : List Int) : laws_FnSigned.v l0 l1 = (if (l0.length : Int) > 1048576 then (laws_FnSigned.jv0 l0 l1 true) else (laws_FnSigned.jv0 l0 l1 (decide ((l1.length : Int) > 1048576))) : Option (Bool)) := by
  refine LimIs.eq (laws_FnSigned.v_lim l0 l1) ?_
  simp only [laws_FnSigned.f]
  repeat' (with_reducible first | exact laws_FnSigned.jv0_lim _ _ _ | exact LimIs.const _ | refine LimIs.ite ?_ ?_ | refine LimIs.bind ?_ (fun _ => ?_))
end Go.Proofs.YtadablpppkjdbaaDoor.A
end

section
namespace Go.Proofs.YtadablpppkjdbaaDoorW.PrintWords
open Go.RowKit
theorem add0 (g j : Nat) : (⟨g, 0, none⟩ : Addr).add j = ⟨g, j, none⟩ := by rw [add_plain]; first | done | rw [Nat.zero_add]
/-- Block g holds the bytes l at its head; it has cap cells, none of them marked. -/
structure Bm (W : World) (g cap : Nat) (l : List Int) : Prop where
  cell : ∀ j, j < l.length → W.cell? ⟨g, j, none⟩ = some (.int .u8 (l.getD j 0))
  there : ∀ j, j < cap → (W.cell? ⟨g, j, none⟩).isSome = true
  free : ∀ j, j < cap → W.frozen? ⟨g, j, none⟩ = false
  room : l.length ≤ cap
theorem Bm.at {W W' : World} {g cap : Nat} {l : List Int} (h : Bm W g cap l) (e : W'.heap[g]? = W.heap[g]?) : Bm W' g cap l :=
  ⟨fun j hj => (World.cell?_of_block (a := ⟨g, j, none⟩) e).trans (h.cell j hj), fun j hj => by rw [World.cell?_of_block (a := ⟨g, j, none⟩) e]; exact h.there j hj, fun j hj => (World.frozen?_of_block (a := ⟨g, j, none⟩) e).trans (h.free j hj), h.room⟩
theorem Bm.conv (W : World) (e : Nat) (s : ByteArray) : Bm (Lib.bytesWorld W e s) W.heap.size (grownCap W s.size 0 e) (bytesOf s) := by
  have hc : s.size ≤ grownCap W s.size 0 e := grownCap_ge _ _ _ _
  have hsz : (Lib.bytesCells W e s).size = grownCap W s.size 0 e := by simp [Lib.bytesCells]; omega
  refine ⟨fun j hj => ?_, fun j hj => ?_, fun j hj => ?_, by rw [bytesOf_length]; exact hc⟩
  · rw [bytesOf_length] at hj
    rw [Lib.bytesWorld_cell W e s j hj]
    simp [bytesOf, List.getD, hj]
  · unfold World.cell?
    rw [Lib.bytesWorld_at_new]
    simp [hsz, hj]
  · unfold World.frozen?
    rw [Lib.bytesWorld_at_new]
    simp [hsz]
    omega
section
variable {P : Program} {ops : Array Oper} {rest : List Oper} {o : Oper} {a : Act} {Q : Exit → Act → World → Prop}
theorem Bm.grown {W : World} {g cap : Nat} {l ys : List Int} {e : Nat} {n : Nat} {fill : List Value} (h : Bm W g cap l) (hn : n = l.length + ys.length) :
    ∀ w1, w1.heap[W.heap.size]? = some (.cells (((nums .u8 l) ++ (nums .u8 ys) ++ fill).toArray) e (0, 0)) → Bm w1 W.heap.size (n + fill.length) (l ++ ys) := by
  intro w1 hw
  have hl : (nums .u8 l ++ nums .u8 ys ++ fill).length = n + fill.length := by simp [nums]; omega
  refine ⟨fun j hj => ?_, fun j hj => ?_, fun j hj => ?_, by simp; omega⟩
  · unfold World.cell?
    rw [hw]
    rw [List.length_append] at hj
    simp only [Option.isSome_none, Bool.false_eq_true, if_false, List.getElem?_toArray]
    rw [← nums_append, List.getElem?_append_left (by simp [nums]; omega)]
    have hjl : j < (l ++ ys).length := by rw [List.length_append]; exact hj
    simp only [nums, List.getElem?_map, List.getElem?_eq_getElem hjl, Option.map_some, List.getD, Option.getD_some]
  · unfold World.cell?
    rw [hw]
    simp only [Option.isSome_none, Bool.false_eq_true, if_false, List.getElem?_toArray]
    rw [List.getElem?_eq_getElem (by omega)]
    rfl
  · unfold World.frozen?
    rw [hw]
    simp
theorem Bm.set {W : World} {g cap : Nat} {l ys : List Int} (h : Bm W g cap l) (hr : l.length + ys.length ≤ cap) : Bm (W.setCells g l.length (nums .u8 ys)) g cap (l ++ ys) := by
  have hlen : (nums .u8 ys).length = ys.length := nums_length _ _
  refine ⟨fun j hj => ?_, fun j hj => ?_, fun j hj => ?_, by simp; omega⟩
  · rw [List.length_append] at hj
    by_cases c : j < l.length
    · rw [World.cell?_setCells_out g _ _ _ _ (fun _ _ => by dsimp only; omega), h.cell j c]
      simp [List.getD, List.getElem?_append_left c]
    · have := World.cell?_setCells_in g (nums .u8 ys) l.length W (fun i hi => h.there _ (by omega)) (j - l.length) (by omega)
      rw [show l.length + (j - l.length) = j by omega] at this
      rw [this]
      simp [nums, List.getD, List.getElem?_append_right (show l.length ≤ j by omega), List.getElem?_eq_getElem (show j - l.length < ys.length by omega)]
  · by_cases c : l.length ≤ j ∧ j < l.length + ys.length
    · have := World.cell?_setCells_in g (nums .u8 ys) l.length W (fun i hi => h.there _ (by omega)) (j - l.length) (by omega)
      rw [show l.length + (j - l.length) = j by omega] at this
      rw [this]
      rfl
    · rw [World.cell?_setCells_out g _ _ _ _ (fun _ _ => by dsimp only; omega)]
      exact h.there j hj
  · rw [World.frozen?_setCells]
    exact h.free j hj
theorem setCells_old (b : Nat) : ∀ (vs : List Value) (o : Nat) (w : World), (w.setCells b o vs).os = w.os ∧ (w.setCells b o vs).tape = w.tape ∧ (w.setCells b o vs).output = w.output ∧ (w.setCells b o vs).heap.size = w.heap.size ∧ ∀ k, k ≠ b → (w.setCells b o vs).heap[k]? = w.heap[k]?
  | [], _, w => ⟨rfl, rfl, rfl, rfl, fun _ _ => rfl⟩
  | v :: r, o, w => by
    obtain ⟨h1, h2, h3, h4, h5⟩ := setCells_old b r (o + 1) (w.setCell ⟨b, o, none⟩ v)
    refine ⟨h1, h2, h3, ?_, fun k hk => ?_⟩
    · rw [World.setCells, h4]; simp [World.setCell]
    · rw [World.setCells, h5 k hk]
      simp [World.setCell, Array.getElem?_modify, Ne.symm hk]
/-- An append to such a row. -/
theorem run_append_bm {W : World} {g cap : Nat} {l : List Int} (t u ty e : TypeId) (ht : P.underlying t = some (.slice e)) (hu : P.underlying u = some .string ∨ P.underlying u = some (.slice e)) (hinfo : (P.info? e).map (fun i => (i.zero, i.size, i.bytes)) = some (some (.int .u8 0), 1, 1))
    (x : Value) (ys : List Int) (hlen : ∀ W', (Builtin.lenOf x).run P W' = .ok ys.length W') (hf : ∀ W', W'.heap = W.heap → (Builtin.firstCells 1 ys.length x).run P W' = .ok (nums .u8 ys).toArray W')
    (HB : Bm W g cap l) (hl : l.length + ys.length ≤ 140737488355328) :
    ∃ g' cap' w1, (Builtin.append_ #[t, u] ty #[.slice (some ⟨g, 0, none⟩) l.length cap, x]).run P W = .ok (.slice (some ⟨g', 0, none⟩) (l.length + ys.length) cap') w1 ∧ Bm w1 g' cap' (l ++ ys) ∧ W.grownBy w1 (some g) ∧ (g' = g ∨ W.heap.size ≤ g') := by
  obtain ⟨i, hi, hzz⟩ := Option.map_eq_some_iff.1 hinfo
  simp only [Prod.mk.injEq] at hzz
  obtain ⟨hz, hs1, hb1⟩ := hzz
  have hnl : (nums .u8 ys).length = ys.length := nums_length _ _
  have hnl2 : (nums .u8 l).length = l.length := nums_length _ _
  by_cases hroom : l.length + ys.length ≤ cap
  · have hst := run_storeCells_cells (P := P) g l.length (nums .u8 ys) 0 W (fun j hj => HB.there _ (by omega)) (fun j hj => HB.free _ (by omega)) (fun v hv => by
      obtain ⟨z, _, rfl⟩ := List.mem_map.1 hv; rfl)
    simp only [Nat.add_zero] at hst
    refine ⟨g, cap, W.setCells g l.length (nums .u8 ys), ?_, HB.set hroom, ?_, Or.inl rfl⟩
    · rcases hu with hu | hu <;> simp [Builtin.append_, run_underlying ht, run_underlying hu, sizeOf, typeInfo, hi, hs1, hlen, hroom, hf W rfl, add0, hst]
    · obtain ⟨h1, h2, h3, h4, h5⟩ := setCells_old g (nums .u8 ys) l.length W
      exact ⟨h1, h2, h3, by omega, fun k hk hn => h5 k (by intro e; exact hn (by rw [e]))⟩
  · have h63' : ¬ (9223372036854775807 < ((l.length : Int) + (ys.length : Int))) := by omega
    have hfit : Builtin.nextslicecap (l.length + ys.length) cap * i.bytes ≤ 281474976710656 := by rw [hb1]; exact growslice_fits (by omega) (by omega)
    have h48' : ¬ (281474976710656 < Builtin.nextslicecap (l.length + ys.length) cap * i.bytes) := by omega
    have hfo := run_firstCells_some (P := P) W.drew 1 l.length ⟨g, 0, none⟩ l.length cap (nums .u8 l) (by omega) (fun j v hj => by
      rw [add0]
      have hjl : j < l.length := by
        have := (List.getElem?_eq_some_iff.1 hj).1
        omega
      have := HB.cell j hjl
      simp only [nums, List.getElem?_map, List.getElem?_eq_getElem hjl, Option.map_some, Option.some.injEq] at hj
      subst hj
      simpa [List.getD, hjl] using this)
    have hfs := hf W.drew rfl
    have hr : (Builtin.append_ #[t, u] ty #[.slice (some ⟨g, 0, none⟩) l.length cap, x]).run P W = .ok (.slice (some ⟨W.heap.size, 0, none⟩) (l.length + ys.length) (grownCap W (l.length + ys.length) cap e))
        (W.drew.alloc (.cells ((nums .u8 l).toArray ++ (nums .u8 ys).toArray ++ Builtin.zeroCells #[.int .u8 0] (grownCap W (l.length + ys.length) cap e - (l.length + ys.length))) e)) := by
      rw [← hs1] at hfo hfs
      have hzc : (Value.int .u8 0).cells = #[.int .u8 0] := rfl
      rcases hu with hu | hu <;> simp [Builtin.append_, run_underlying ht, run_underlying hu, sizeOf, typeInfo, zeroValue, hi, hz, hlen, hroom, h63', h48', Question.forced, hfs, hfo, newRow, grownCap, hzc]
      all_goals (congr 2; apply Array.ext'; simp [List.append_assoc])
    have hge : l.length + ys.length ≤ grownCap W (l.length + ys.length) cap e := grownCap_ge _ _ _ _
    refine ⟨W.heap.size, _, _, hr, ?_, ?_, Or.inr (Nat.le_refl _)⟩
    · have := HB.grown (e := e) (ys := ys) (n := l.length + ys.length) (fill := (Builtin.zeroCells #[.int .u8 0] (grownCap W (l.length + ys.length) cap e - (l.length + ys.length))).toList) rfl (W.drew.alloc (.cells ((nums .u8 l).toArray ++ (nums .u8 ys).toArray ++ Builtin.zeroCells #[.int .u8 0] (grownCap W (l.length + ys.length) cap e - (l.length + ys.length))) e)) (by
        simp [World.alloc, World.drew, -World.alloc_eq, -World.drew_eq])
      have hz2 : (Builtin.zeroCells #[.int .u8 0] (grownCap W (l.length + ys.length) cap e - (l.length + ys.length))).toList.length = grownCap W (l.length + ys.length) cap e - (l.length + ys.length) := by simp [Builtin.zeroCells]
      rw [hz2, show l.length + ys.length + (grownCap W (l.length + ys.length) cap e - (l.length + ys.length)) = grownCap W (l.length + ys.length) cap e by omega] at this
      exact this
    · exact ⟨rfl, rfl, rfl, by simp [World.alloc, World.drew, -World.alloc_eq, -World.drew_eq], fun k hk hn => by
        have : W.heap.size ≠ k := by omega
        simp [World.alloc, World.drew, -World.alloc_eq, -World.drew_eq, Array.getElem?_push, Ne.symm this]⟩
end
end Go.Proofs.YtadablpppkjdbaaDoorW.PrintWords
end

section
namespace Go.Proofs.YtadablpppkjdbaaDoorW.PrintWords
open Go.RowKit
/-- What a walk keeps of a row of bytes of its own: block g, behind block n. -/
structure Hs (w W : World) (n g cap : Nat) (l : List Int) : Prop where
  row : Bm W g cap l
  mine : n ≤ g
  lt : g < W.heap.size
  below : Below n w W
theorem Hs.alloc {w W : World} {n g cap : Nat} {l : List Int} (h : Hs w W n g cap l) (o : Obj) : Hs w (W.alloc o) n g cap l := by
  have hs : (W.alloc o).heap.size = W.heap.size + 1 := by simp [World.alloc, -World.alloc_eq]
  have e : ∀ k, k < W.heap.size → (W.alloc o).heap[k]? = W.heap[k]? := fun k hk => by
    have : W.heap.size ≠ k := by omega
    simp [World.alloc, -World.alloc_eq, Array.getElem?_push, Ne.symm this]
  refine ⟨h.row.at (e _ h.lt), h.mine, by rw [hs]; have := h.lt; omega, ⟨h.below.os, h.below.tape, h.below.output, by rw [hs]; have := h.below.size; omega, fun k hk => ?_⟩⟩
  rw [e k (by have := h.mine; have := h.lt; omega)]
  exact h.below.block k hk
theorem Hs.on {w W W' : World} {n g cap : Nat} {l : List Int} (h : Hs w W n g cap l) (b : Below W.heap.size W W') : Hs w W' n g cap l := by
  have := h.lt
  have := h.mine
  exact ⟨h.row.at (b.block g h.lt), h.mine, by have := b.size; omega, ⟨b.os.trans h.below.os, b.tape.trans h.below.tape, b.output.trans h.below.output, Nat.le_trans h.below.size b.size, fun k hk => (b.block k (by omega)).trans (h.below.block k hk)⟩⟩
section
variable {P : Program} {ops : Array Oper} {rest : List Oper} {o : Oper} {a : Act} {Q : Exit → Act → World → Prop}
theorem conv_hs {w : World} (e : Nat) (hgd : o.guard = none) (src dst : TypeId) (x : Operand) (ho : o.op = .convert src dst x) (s : ByteArray) (hx : a.eval x = .string s)
    (hs : P.underlying src = some .string) (ht : P.underlying dst = some (.slice e)) (he : P.underlying e = some (.int .u8))
    (h : ∀ g cap w1, Hs w w1 w.heap.size g cap (bytesOf s) → wpList P ops Q rest (a.put o.dst (.slice (some ⟨g, 0, none⟩) s.size cap)) w1) : wpList P ops Q (o :: rest) a w := by
  have hrun : (execOp a.eval o).run P w = .ok (.value (.slice (some ⟨w.heap.size, 0, none⟩) s.size (grownCap w s.size 0 e))) (Lib.bytesWorld w e s) := by
    simp [execOp, ho, hx, Lib.run_convert_string_bytes w src dst e s hs ht he]
  exact Kd.event_run hgd hrun (h _ _ _ ⟨Bm.conv w e s, Nat.le_refl _, by rw [Lib.bytesWorld_size]; omega, ⟨rfl, rfl, rfl, by rw [Lib.bytesWorld_size]; omega, fun i hi => Lib.bytesWorld_at_old w e s i (by omega)⟩⟩)
theorem Hs.after {w W w1 : World} {n g g' cap cap' : Nat} {l l' : List Int} (h : Hs w W n g cap l) (hb : Bm w1 g' cap' l') (hc : 0 < cap') (hg : W.grownBy w1 (some g)) (hat : g' = g ∨ W.heap.size ≤ g') : Hs w w1 n g' cap' l' := by
  have h1 := h.lt
  have h2 := h.mine
  refine ⟨hb, by rcases hat with rfl | h3 <;> omega, ?_, ⟨hg.os.trans h.below.os, hg.tape.trans h.below.tape, hg.output.trans h.below.output, Nat.le_trans h.below.size hg.size, fun k hk => ?_⟩⟩
  · obtain ⟨v, hv⟩ := Option.isSome_iff_exists.1 (hb.there 0 hc)
    exact World.block_lt_of_cell? w1 _ hv
  · rw [hg.block k (by omega) (by intro e; injection e with e; omega)]
    exact h.below.block k hk
theorem append1_hs {w W : World} {n g cap : Nat} {l : List Int} (t e : TypeId) (hgd : o.guard = none) (s x : Operand) (ho : o.op = .call { callee := .builtin .append, args := #[s, x], argTypes := #[t, t] })
    (ht : P.underlying t = some (.slice e)) (hinfo : (P.info? e).map (fun i => (i.zero, i.size, i.bytes)) = some (some (.int .u8 0), 1, 1)) (z : Int)
    (hs : a.eval s = .slice (some ⟨g, 0, none⟩) l.length cap) (hx : a.eval x = .slice (some ⟨W.heap.size, 0, none⟩) 1 1) (HB : Hs w W n g cap l) (hl : l.length + 1 ≤ 140737488355328)
    (h : ∀ g' cap' w1, Hs w w1 n g' cap' (l ++ [z]) → wpList P ops Q rest (a.put o.dst (.slice (some ⟨g', 0, none⟩) (l ++ [z]).length cap')) w1) :
    wpList P ops Q (o :: rest) a (W.alloc (.cells #[.int .u8 z] e)) := by
  have H2 := HB.alloc (.cells #[.int .u8 z] e)
  obtain ⟨g', cap', w1, hr, hb, hg, hat⟩ := run_append_bm (P := P) (W := W.alloc (.cells #[.int .u8 z] e)) t t o.type e ht (Or.inr ht) hinfo (.slice (some ⟨W.heap.size, 0, none⟩) 1 1) [z] (fun W' => by simp [Builtin.lenOf]) (fun W' hW => by
    have hc : W'.cell? ⟨W.heap.size, 0, none⟩ = some (.int .u8 z) := by
      unfold World.cell?
      rw [hW]
      simp [World.alloc, -World.alloc_eq]
    exact run_firstCells_some (P := P) W' 1 1 ⟨W.heap.size, 0, none⟩ 1 1 (nums .u8 [z]) (by simp [nums]) (fun j v hj => by
      cases j with
      | zero => rw [add0]; rw [hc]; simpa [nums] using hj
      | succ j => simp [nums] at hj)) H2.row (by simpa using hl)
  refine wpList_plain hgd fun K hK => ?_
  unfold Oper.wp execOp
  simp only [ho, resolve, invoke, builtin, Sem.run_bind, Sem.run_pure, Result.andThen_ok, List.map_toArray, List.map_cons, List.map_nil, hs, hx, hr]
  refine hK _ _ ?_
  have := h g' cap' w1 (H2.after hb (by have := hb.room; rw [List.length_append, List.length_singleton] at this; omega) hg hat)
  rwa [List.length_append] at this
theorem appendS_hs {w W : World} {n g cap : Nat} {l : List Int} (t u e : TypeId) (hgd : o.guard = none) (s x : Operand) (ho : o.op = .call { callee := .builtin .append, args := #[s, x], argTypes := #[t, u] })
    (ht : P.underlying t = some (.slice e)) (hu : P.underlying u = some .string) (hinfo : (P.info? e).map (fun i => (i.zero, i.size, i.bytes)) = some (some (.int .u8 0), 1, 1)) (y : ByteArray)
    (hs : a.eval s = .slice (some ⟨g, 0, none⟩) l.length cap) (hx : a.eval x = .string y) (hy : 0 < y.size) (HB : Hs w W n g cap l) (hl : l.length + y.size ≤ 140737488355328)
    (h : ∀ g' cap' w1, Hs w w1 n g' cap' (l ++ bytesOf y) → wpList P ops Q rest (a.put o.dst (.slice (some ⟨g', 0, none⟩) (l ++ bytesOf y).length cap')) w1) :
    wpList P ops Q (o :: rest) a W := by
  have hyl : (bytesOf y).length = y.size := bytesOf_length y
  obtain ⟨g', cap', w1, hr, hb, hg, hat⟩ := run_append_bm (P := P) (W := W) t u o.type e ht (Or.inl hu) hinfo (.string y) (bytesOf y) (fun W' => by simp [Builtin.lenOf, hyl]) (fun W' hW => by
    rw [hyl, Lib.run_firstCells_string (P := P) W' 1 y]
    congr 1
    simp [nums, bytesOf, Lib.strCells]) HB.row (by omega)
  refine wpList_plain hgd fun K hK => ?_
  unfold Oper.wp execOp
  simp only [ho, resolve, invoke, builtin, Sem.run_bind, Sem.run_pure, Result.andThen_ok, List.map_toArray, List.map_cons, List.map_nil, hs, hx, hr]
  refine hK _ _ ?_
  have := h g' cap' w1 (HB.after hb (by have := hb.room; rw [List.length_append] at this; omega) hg hat)
  rwa [List.length_append] at this
end
end Go.Proofs.YtadablpppkjdbaaDoorW.PrintWords
end

section
namespace Go.Proofs.YtadablpppkjdbaaDoor.A
open Go.RowKit Go.Proofs.YtadablpppkjdbaaDoorW.PrintWords Go.Proofs.YtadablpppkjdbaaDoorW.PrintLast Go.Proofs.YtadablpppkjdbaaDoorW.PrintMore
attribute [local go_sem] max2_int min2_int max_two min_two max_three min_three max_four min_four
end Go.Proofs.YtadablpppkjdbaaDoor.A
end

section
namespace Go.Proofs.YtadablpppkjdbaaDoorW.PrintWords
open Go.RowKit
theorem wrap_id {x : Int} (h0 : -9223372036854775808 ≤ x) (h1 : x ≤ 9223372036854775807) : wrap64 x = x := by unfold wrap64; omega
theorem wf8 {x : Int} (h : (Lit.int .u8 x).wf = true) : 0 ≤ x ∧ x ≤ 255 := by
  simp [Lit.wf, IntKind.min, IntKind.max, IntKind.signed, IntKind.bits] at h
  omega
def inB (n low high : Int) : Bool := decide (low ≤ n ∧ n ≤ high)
theorem ba_toList (a : ByteArray) : a.toList = a.data.toList := ByteArray.toList_eq a
theorem strOf_size (l : List Int) : (strOfNums l).size = l.length := by
  show (strOfNums l).data.size = _
  simp [strOfNums]
end Go.Proofs.YtadablpppkjdbaaDoorW.PrintWords
end

section
namespace Go.Proofs.YtadablpppkjdbaaDoor.A
open Go.RowKit Go.Proofs.YtadablpppkjdbaaDoorW.PrintWords
theorem bytesOf_range (s : ByteArray) : ∀ c ∈ bytesOf s, 0 ≤ c ∧ c ≤ 255 := by
  intro c hc
  unfold bytesOf at hc
  obtain ⟨b, _, rfl⟩ := List.mem_map.1 hc
  have := b.toNat_lt
  omega
def byteL (l : List Int) : Prop := ∀ y ∈ l, 0 ≤ y ∧ y ≤ 255
theorem byteL_nil : byteL [] := fun y h => by cases h
theorem byteL_cons {a : Int} {l : List Int} (h0 : 0 ≤ a) (h1 : a ≤ 255) (h : byteL l) : byteL (a :: l) := by
  intro y hy
  rcases List.mem_cons.1 hy with rfl | hy
  · exact ⟨h0, h1⟩
  · exact h y hy
theorem byteL_append {a b : List Int} (ha : byteL a) (hb : byteL b) : byteL (a ++ b) := by
  intro y hy
  rcases List.mem_append.1 hy with hy | hy
  · exact ha y hy
  · exact hb y hy
theorem bytes_str (l : List Int) (h : byteL l) : bytesOf (strOfNums l) = l := by
  unfold bytesOf
  rw [strOfNums_data, List.map_map]
  conv => rhs; rw [← List.map_id l]
  apply List.map_congr_left
  intro y hy
  have := h y hy
  simp only [Function.comp, id]
  rw [UInt8.toNat_ofNat']
  omega
theorem str_bytes (s : ByteArray) : strOfNums (bytesOf s) = s := by
  apply ByteArray.ext
  apply Array.toList_inj.1
  rw [strOfNums_data]
  unfold bytesOf
  rw [List.map_map]
  conv => rhs; rw [← List.map_id s.data.toList]
  apply List.map_congr_left
  intro y _
  simp only [Function.comp, id]
  rw [Int.toNat_natCast]
  exact UInt8.ofNat_toNat
theorem byteL_bytes (s : ByteArray) : byteL (bytesOf s) := bytesOf_range s
theorem bytes_append (a b : ByteArray) : bytesOf (a ++ b) = bytesOf a ++ bytesOf b := by
  unfold bytesOf
  rw [ByteArray.data_append, Array.toList_append, List.map_append]
theorem str_append (a b : List Int) : strOfNums (a ++ b) = strOfNums a ++ strOfNums b := by
  apply ByteArray.ext
  apply Array.toList_inj.1
  rw [ByteArray.data_append, Array.toList_append, strOfNums_data, strOfNums_data, strOfNums_data, List.map_append]
/-- n in k bytes, the high one first. -/
def beL (n : Int) : Nat → List Int
  | 0 => []
  | k + 1 => beL (n / 256) k ++ [n % 256]
theorem beL_len (n : Int) (k : Nat) : (beL n k).length = k := by
  induction k generalizing n with
  | zero => rfl
  | succ k ih => simp [beL, ih]
theorem byteL_be (n : Int) (k : Nat) : byteL (beL n k) := by
  induction k generalizing n with
  | zero => exact byteL_nil
  | succ k ih => exact byteL_append (ih _) (byteL_cons (by omega) (by omega) byteL_nil)
theorem impl_number1 (n : Int) : impl_number.v n 1 = some (strOfNums (beL n 1)) := by
  have w0 : wrap64 (1 - 1) = 0 := by rw [wrap_id (by omega) (by omega)]; rfl
  have w1 : wrap64 (0 - 1) = -1 := by rw [wrap_id (by omega) (by omega)]; rfl
  rw [impl_number.v_eq, if_pos (by omega), if_pos (by simp), w0, impl_number.lv0_eq, if_pos (by omega), if_pos (by omega), if_pos (by simp), w1, impl_number.lv0_eq, if_neg (by omega)]
  rfl
theorem impl_number2 (n : Int) : impl_number.v n 2 = some (strOfNums (beL n 2)) := by
  have w2 : wrap64 (2 - 1) = 1 := by rw [wrap_id (by omega) (by omega)]; rfl
  have w0 : wrap64 (1 - 1) = 0 := by rw [wrap_id (by omega) (by omega)]; rfl
  have w1 : wrap64 (0 - 1) = -1 := by rw [wrap_id (by omega) (by omega)]; rfl
  rw [impl_number.v_eq, if_pos (by omega), if_pos (by simp), w2, impl_number.lv0_eq, if_pos (by omega), if_pos (by omega), if_pos (by simp), w0, impl_number.lv0_eq, if_pos (by omega), if_pos (by omega), if_pos (by simp), w1, impl_number.lv0_eq, if_neg (by omega)]
  rfl
theorem be_front (j : Nat) : ∀ n : Int, beL n (j + 1) = (n / 256 ^ j % 256) :: beL n j := by
  induction j with
  | zero => intro n; simp [beL]
  | succ j ih =>
    intro n
    have h : beL n (j + 1 + 1) = beL (n / 256) (j + 1) ++ [n % 256] := rfl
    have h2 : n / 256 / 256 ^ j = n / 256 ^ (j + 1) := by
      rw [Int.ediv_ediv_of_nonneg (by omega), Int.pow_succ, Int.mul_comm]
    rw [h, ih, h2]
    rfl
theorem shr_be (n : Int) (j : Nat) (hj : j ≤ 7) : shr .i64 n (IntKind.u64.wrap (wrap64 (8 * (j : Int)))) = n / 256 ^ j := by
  have w : wrap64 (8 * (j : Int)) = ((8 * j : Nat) : Int) := by rw [wrap_id (by omega) (by omega)]; omega
  have w2 : IntKind.u64.wrap ((8 * j : Nat) : Int) = ((8 * j : Nat) : Int) := by
    have : 8 * j < 18446744073709551616 := by omega
    unfold IntKind.wrap
    simp [IntKind.bits, IntKind.signed]
    omega
  rw [w, w2]
  clear w w2
  unfold shr
  rw [Int.toNat_natCast, Nat.min_eq_left (by show 8 * j ≤ 64; omega), Int.pow_mul]
  rfl
theorem spec_number_l (n : Int) : ∀ (j : Nat) (acc : List Int), j ≤ 8 → acc.length + j ≤ 1000000 → spec_l02Number.lv0 n acc ((j : Int) - 1) = some (acc ++ beL n j)
  | 0, acc, hj, ha => by rw [spec_l02Number.lv0_eq, if_neg (by omega)]; simp [beL]
  | j + 1, acc, hj, ha => by
    have ih := spec_number_l n j (acc ++ [n / 256 ^ j % 256]) (by omega) (by rw [List.length_append]; show acc.length + 1 + j ≤ _; omega)
    have e : (((j + 1 : Nat) : Int) - 1) = (j : Int) := by omega
    have hs := shr_be n j (by omega)
    have h0 : 0 ≤ IntKind.u64.wrap (wrap64 (8 * (j : Int))) := by
      have w : wrap64 (8 * (j : Int)) = ((8 * j : Nat) : Int) := by rw [wrap_id (by omega) (by omega)]; omega
      rw [w]
      clear w hs
      unfold IntKind.wrap
      simp [IntKind.bits, IntKind.signed]
      omega
    have w : wrap64 ((j : Int) - 1) = (j : Int) - 1 := wrap_id (by omega) (by omega)
    have c1 : (j : Int) ≥ 0 := by omega
    have c2 : acc.length < 140737488355328 := by omega
    rw [e, spec_l02Number.lv0_eq, if_pos c1, if_pos h0, if_pos c2, hs, w, ih, be_front, List.append_assoc]
    rfl
theorem spec_number_v (n : Int) (k : Nat) (hk : k ≤ 8) : spec_l02Number.v n k = some (beL n k) := by
  have w : wrap64 ((k : Int) - 1) = (k : Int) - 1 := wrap_id (by omega) (by omega)
  rw [spec_l02Number.v_eq, w, spec_number_l n k [] hk (by simp; omega)]
  rfl
/-- A text behind its length of two bytes; a list of them. -/
def encT (t : ByteArray) : List Int := beL t.size 2 ++ bytesOf t
def encR : List ByteArray → List Int
  | [] => []
  | t :: r => encT t ++ encR r
theorem encT_len (t : ByteArray) : (encT t).length = 2 + t.size := by unfold encT; rw [List.length_append, beL_len, bytesOf_length]
theorem encR_len (t : ByteArray) (r : List ByteArray) : (encR (t :: r)).length = 2 + t.size + (encR r).length := by
  show (encT t ++ encR r).length = _
  rw [List.length_append, encT_len]
theorem rdOf_at (l : List ByteArray) (i : Nat) (h : i < l.length) : rdOf ByteArray.empty l i = l[i] := by
  unfold rdOf
  rw [Int.toNat_natCast, List.getD_eq_getElem?_getD, List.getElem?_eq_getElem h]
  rfl
theorem spec_list_l (l : List ByteArray) (hl : l.length ≤ 100) (ht : ∀ t ∈ l, t.size ≤ 20000) : ∀ (k i : Nat) (x : List Int), l.length - i = k → i ≤ l.length → x.length + (encR (l.drop i)).length ≤ 65536 →
    spec_l02List.lv0 l x i = some (x ++ encR (l.drop i))
  | 0, i, x, h, hi, hx => by
    rw [spec_l02List.lv0_eq, if_neg (by omega), List.drop_of_length_le (by omega)]
    simp [encR]
  | k + 1, i, x, h, hi, hx => by
    have hlt : i < l.length := by omega
    have hd : l.drop i = l[i] :: l.drop (i + 1) := List.drop_eq_getElem_cons hlt
    rw [hd, encR_len] at hx
    have hb := beL_len (l[i].size : Int) 2
    have ih := spec_list_l l hl ht k (i + 1) (x ++ beL (l[i].size : Int) 2 ++ bytesOf l[i]) (by omega) (by omega) (by simp only [List.length_append, hb, bytesOf_length]; omega)
    have c1 : (i : Int) < (l.length : Int) := by omega
    have c2 : (0 : Int) ≤ (i : Int) := by omega
    have c4 : x.length + (beL (l[i].size : Int) 2).length < 140737488355328 := by omega
    have c5 : (x ++ beL (l[i].size : Int) 2).length + l[i].size < 140737488355328 := by rw [List.length_append]; omega
    have hn : spec_l02Number.v (l[i].size : Int) 2 = some (beL (l[i].size : Int) 2) := spec_number_v _ 2 (by omega)
    rw [spec_l02List.lv0_eq]
    have w : wrap64 ((i : Int) + 1) = ((i + 1 : Nat) : Int) := by rw [wrap_id (by omega) (by omega)]; omega
    simp only [w, if_pos c1, if_pos c2, rdOf_at l i hlt, hn, Option.bind_some, if_pos c4, if_pos c5, ih]
    rw [hd]
    simp [encR, encT, List.append_assoc]
theorem spec_l02List_v (l : List ByteArray) (hl : l.length ≤ 100) (ht : ∀ t ∈ l, t.size ≤ 20000) (hs : 1 + (encR l).length ≤ 65536) : spec_l02List.v l = some (beL l.length 1 ++ encR l) := by
  have h := spec_list_l l hl ht l.length 0 [(l.length : Int) % 256] (by omega) (by omega) (by simpa [Nat.add_comm] using hs)
  rw [spec_l02List.v_eq]
  exact h
theorem ba_nil' (s : ByteArray) : (s.toList == ([] : List UInt8)) = decide (s.size = 0) := by
  rw [Bool.eq_iff_iff]
  simp only [beq_iff_eq, decide_eq_true_eq]
  rw [ba_toList]
  constructor
  · intro h; show s.data.size = 0; rw [← Array.length_toList, h]; rfl
  · intro h; have h2 : s.data.toList.length = 0 := by rw [Array.length_toList]; exact h
    exact List.eq_nil_of_length_eq_zero h2
theorem ba_ne' (s : ByteArray) : (s.toList != ([] : List UInt8)) = decide (s.size ≠ 0) := by
  rw [bne, ba_nil']; simp
theorem spec_l01In_v (n low high : Int) : spec_l01In.v n low high = some (inB n low high) := by
  rw [spec_l01In.v_eq]; unfold inB; split <;> simp <;> omega
theorem impl_within_v (n low high : Int) : impl_within.v n low high = some (inB n low high) := by
  rw [impl_within.v_eq]; unfold inB; split <;> simp <;> omega
def msgB (k v s f : Int) (d b m : ByteArray) : Bool :=
  inB k 1 5 && inB v 0 20 && inB f 0 6 && decide (m.size = 8) && decide (b.size ≤ 20000) && (if k ≤ 3 then inB s 1 8 && decide (d.size = 32) && (decide (b.size ≠ 0) == decide (k = 1)) else decide (s = 0) && decide (d.size = 0))
theorem spec_MessageOK_v (k v s f : Int) (d b m : ByteArray) : spec_MessageOK.v k v s f d b m = some (msgB k v s f d b m) := by
  rw [spec_MessageOK.v_eq]
  simp only [spec_l01In_v, Option.bind_some, spec_MessageOK.jv0_eq, ba_nil', ba_ne', msgB]
  have e4 : ((m.size : Int) = 8) = (m.size = 8) := propext ⟨by omega, by omega⟩
  have e5 : ((b.size : Int) > 20000) = ¬ (b.size ≤ 20000) := propext ⟨by omega, by omega⟩
  have e6 : ((d.size : Int) = 32) = (d.size = 32) := propext ⟨by omega, by omega⟩
  simp only [e4, e5, e6]
  generalize inB v 0 20 = q1
  generalize inB f 0 6 = q2
  generalize inB s 1 8 = q3
  by_cases hk : 1 ≤ k ∧ k ≤ 5
  · have hk2 : inB k 1 5 = true := by simp [inB, hk]
    rw [hk2]
    cases q1
    · simp
    cases q2
    · simp
    by_cases h4 : m.size = 8
    · by_cases h5 : b.size ≤ 20000
      · simp only [h4, h5, if_true, not_true_eq_false, decide_false, decide_true, Bool.false_eq_true, if_false, Bool.true_and, Bool.and_true]
        have hk3 : k = 1 ∨ k = 2 ∨ k = 3 ∨ k = 4 ∨ k = 5 := by omega
        rcases hk3 with rfl | rfl | rfl | rfl | rfl <;> cases q3 <;> by_cases h6 : d.size = 32 <;> by_cases h7 : b.size = 0 <;> by_cases h8 : s = 0 <;> simp [h6, h7, h8]
      · simp [h4, h5]
    · simp [h4]
  · have hk2 : inB k 1 5 = false := by simp only [inB, decide_eq_false_iff_not]; exact hk
    rw [hk2]; simp
theorem impl_MessageOK_v (k v s f : Int) (d b m : ByteArray) : impl_MessageOK.v k v s f d b m = some (msgB k v s f d b m) := by
  rw [impl_MessageOK.v_eq]
  simp only [impl_within_v, Option.bind_some, impl_MessageOK.jv0_eq, impl_MessageOK.jv1_eq, impl_isHash.v_eq, ba_nil', ba_ne', msgB]
  have e4 : ((m.size : Int) = 8) = (m.size = 8) := propext ⟨by omega, by omega⟩
  have e5 : ((b.size : Int) > 20000) = ¬ (b.size ≤ 20000) := propext ⟨by omega, by omega⟩
  have e6 : ((d.size : Int) == 32) = decide (d.size = 32) := by rw [Bool.eq_iff_iff]; simp; omega
  simp only [e4, e5, e6]
  generalize inB v 0 20 = q1
  generalize inB f 0 6 = q2
  generalize inB s 1 8 = q3
  cases q1
  · simp
  cases q2
  · simp
  by_cases h4 : m.size = 8
  · by_cases h5 : b.size ≤ 20000
    · simp only [h4, h5, if_true, not_true_eq_false, decide_false, decide_true, Bool.false_eq_true, if_false, Bool.true_and, Bool.and_true]
      by_cases hk : 1 ≤ k ∧ k ≤ 5
      · have hk2 : inB k 1 5 = true := by simp [inB, hk]
        rw [hk2]
        have hk3 : k = 1 ∨ k = 2 ∨ k = 3 ∨ k = 4 ∨ k = 5 := by omega
        rcases hk3 with rfl | rfl | rfl | rfl | rfl <;> cases q3 <;> by_cases h6 : d.size = 32 <;> by_cases h7 : b.size = 0 <;> by_cases h8 : s = 0 <;> simp [h6, h7, h8]
      · have hk2 : inB k 1 5 = false := by simp only [inB, decide_eq_false_iff_not]; exact hk
        rw [hk2]
        have h1 : ¬ k = 1 := by omega
        have h2 : ¬ k = 2 := by omega
        have h3 : ¬ k = 3 := by omega
        have h44 : ¬ k = 4 := by omega
        have h55 : ¬ k = 5 := by omega
        simp [h1, h2, h3, h44, h55]
    · simp [h4, h5]
  · simp [h4]
def plainL (k v s f : Int) (d b : ByteArray) : List Int := [k % 256, v % 256, s % 256, f % 256, (d.size : Int) % 256] ++ (bytesOf d ++ (beL b.size 2 ++ bytesOf b))
theorem byteL_plain (k v s f : Int) (d b : ByteArray) : byteL (plainL k v s f d b) :=
  byteL_append (byteL_cons (by omega) (by omega) (byteL_cons (by omega) (by omega) (byteL_cons (by omega) (by omega) (byteL_cons (by omega) (by omega) (byteL_cons (by omega) (by omega) byteL_nil))))) (byteL_append (byteL_bytes d) (byteL_append (byteL_be _ _) (byteL_bytes b)))
theorem plainL_len (k v s f : Int) (d b : ByteArray) : (plainL k v s f d b).length = 7 + d.size + b.size := by
  unfold plainL
  simp only [List.length_append, List.length_cons, List.length_nil, beL_len, bytesOf_length]
  omega
theorem impl_bareText_v (k v s f : Int) (d b m : ByteArray) (hd : d.size ≤ 1000000) (hb : b.size ≤ 1000000) : impl_bareText.v k v s f d b m = some (strOfNums (plainL k v s f d b)) := by
  have e : plainL k v s f d b = beL k 1 ++ beL v 1 ++ beL s 1 ++ beL f 1 ++ beL (d.size : Int) 1 ++ bytesOf d ++ beL (b.size : Int) 2 ++ bytesOf b := by simp [plainL, beL, List.append_assoc]
  rw [impl_bareText.v_eq]
  simp only [impl_number1, impl_number2, Option.bind_some, ByteArray.size_append, strOf_size, beL_len]
  rw [if_pos (by omega), if_pos (by omega), if_pos (by omega), if_pos (by omega), if_pos (by omega), if_pos (by omega), if_pos (by omega), e, str_append, str_append, str_append, str_append, str_append, str_append, str_append, str_bytes, str_bytes]
theorem spec_l02Plain_v (k v s f : Int) (d b m : ByteArray) (hd : d.size ≤ 1000000) (hb : b.size ≤ 1000000) : spec_l02Plain.v k v s f d b m = some (plainL k v s f d b) := by
  have hn : spec_l02Number.v (b.size : Int) 2 = some (beL (b.size : Int) 2) := spec_number_v _ 2 (by omega)
  rw [spec_l02Plain.v_eq, Option.bind_some, if_pos (by simp; omega), Option.bind_some, hn, Option.bind_some]
  rw [if_pos (by simp [beL_len, bytesOf_length]; omega), Option.bind_some, if_pos (by simp [beL_len, bytesOf_length]; omega)]
  simp [plainL, List.append_assoc]
theorem msgB_sizes {k v s f : Int} {d b m : ByteArray} (h : msgB k v s f d b m = true) : 1 ≤ k ∧ k ≤ 5 ∧ 0 ≤ v ∧ v ≤ 20 ∧ 0 ≤ f ∧ f ≤ 6 ∧ 0 ≤ s ∧ s ≤ 8 ∧ m.size = 8 ∧ b.size ≤ 20000 ∧ d.size ≤ 32 := by
  unfold msgB inB at h
  simp only [Bool.and_eq_true, decide_eq_true_eq] at h
  obtain ⟨⟨⟨⟨⟨h1, h2⟩, h3⟩, h4⟩, h5⟩, h6⟩ := h
  by_cases hk : k ≤ 3
  · rw [if_pos hk] at h6
    simp only [Bool.and_eq_true, decide_eq_true_eq] at h6
    omega
  · rw [if_neg hk] at h6
    simp only [Bool.and_eq_true, decide_eq_true_eq] at h6
    omega
def turnF (x n : Int) : Int := Go.bits .or .u32 (shr .u32 x n) (shl .u32 x (32 - n))
theorem u64_small (n : Int) (h0 : 0 ≤ n) (h1 : n < 18446744073709551616) : IntKind.u64.wrap n = n := by
  unfold IntKind.wrap
  simp [IntKind.bits, IntKind.signed]
  omega
theorem turn_v (x n : Int) (h0 : 0 ≤ n) (h1 : n ≤ 32) : spec_l01Turn.v x n = some (turnF x n) := by
  rw [spec_l01Turn.v_eq, if_pos h0, u64_small (32 - n) (by omega) (by omega), if_pos (by omega)]
  rfl
theorem block_l3 (v : List Int) (hv : v.length = 8) : ∀ (k i : Nat) (h : List Int), 8 - i = k → i ≤ 8 → h.length = 8 → ∃ r, spec_l01Block.lv3 h v i = some r ∧ r.length = 8
  | 0, i, h, hk, hi, hh => by
    rw [spec_l01Block.lv3_eq, if_neg (by omega)]
    exact ⟨h, rfl, hh⟩
  | k + 1, i, h, hk, hi, hh => by
    obtain ⟨r, e, hr⟩ := block_l3 v hv k (i + 1) (h.set (i : Int).toNat (((rd h i) + (rd v i)) % 4294967296)) (by omega) (by omega) (by rw [List.length_set]; exact hh)
    have w : wrap64 ((i : Int) + 1) = ((i + 1 : Nat) : Int) := by rw [wrap_id (by omega) (by omega)]; omega
    rw [spec_l01Block.lv3_eq, w, e]
    clear w
    rw [if_pos (by omega), if_pos (by omega), if_pos (by omega), if_pos (by omega)]
    exact ⟨r, rfl, hr⟩
theorem block_l2 (h ks ws : List Int) (hh : h.length = 8) (hk : ks.length = 64) (hw : ws.length = 64) : ∀ (k i : Nat) (v : List Int), 64 - i = k → i ≤ 64 → v.length = 8 → ∃ r, spec_l01Block.lv2 h ks ws v i = some r ∧ r.length = 8
  | 0, i, v, hi0, hi, hv => by
    rw [spec_l01Block.lv2_eq, if_neg (by omega)]
    exact block_l3 v hv 8 0 h rfl (by omega) hh
  | k + 1, i, v, hi0, hi, hv => by
    have ih := fun v' => block_l2 h ks ws hh hk hw k (i + 1) v' (by omega) (by omega)
    have w : wrap64 ((i : Int) + 1) = ((i + 1 : Nat) : Int) := by rw [wrap_id (by omega) (by omega)]; omega
    rw [spec_l01Block.lv2_eq, w]
    clear w
    have c1 : (i : Int) < 64 := by omega
    have c2 : (4 : Int) < (v.length : Int) := by omega
    have c3 : (0 : Int) < (v.length : Int) := by omega
    have c4 : (7 : Int) < (v.length : Int) := by omega
    have c5 : (5 : Int) < (v.length : Int) := by omega
    have c6 : (6 : Int) < (v.length : Int) := by omega
    have c7 : (0 : Int) ≤ (i : Int) := by omega
    have c8 : (i : Int) < (ks.length : Int) := by omega
    have c9 : (i : Int) < (ws.length : Int) := by omega
    have d1 : (1 : Int) < (v.length : Int) := by omega
    have d2 : (2 : Int) < (v.length : Int) := by omega
    have d3 : (3 : Int) < (v.length : Int) := by omega
    have t1 : ∀ x, spec_l01Turn.v x 6 = some (turnF x 6) := fun x => turn_v x 6 (by omega) (by omega)
    have t2 : ∀ x, spec_l01Turn.v x 11 = some (turnF x 11) := fun x => turn_v x 11 (by omega) (by omega)
    have t3 : ∀ x, spec_l01Turn.v x 25 = some (turnF x 25) := fun x => turn_v x 25 (by omega) (by omega)
    have t4 : ∀ x, spec_l01Turn.v x 2 = some (turnF x 2) := fun x => turn_v x 2 (by omega) (by omega)
    have t5 : ∀ x, spec_l01Turn.v x 13 = some (turnF x 13) := fun x => turn_v x 13 (by omega) (by omega)
    have t6 : ∀ x, spec_l01Turn.v x 22 = some (turnF x 22) := fun x => turn_v x 22 (by omega) (by omega)
    simp only [if_pos c1, if_pos c2, if_pos c3, if_pos c4, if_pos c5, if_pos c6, if_pos c7, if_pos c8, if_pos c9, if_pos d1, if_pos d2, if_pos d3, t1, t2, t3, t4, t5, t6, Option.bind_some]
    exact ih _ rfl
theorem block_l1 (h ks : List Int) (hh : h.length = 8) (hk : ks.length = 64) : ∀ (k i : Nat) (ws : List Int), 64 - i = k → 16 ≤ i → i ≤ 64 → ws.length = 64 → ∃ r, spec_l01Block.lv1 h ks ws i = some r ∧ r.length = 8
  | 0, i, ws, hi0, h16, hi, hw => by
    rw [spec_l01Block.lv1_eq, if_neg (by omega), Option.bind_some, if_pos (by simp; omega)]
    exact block_l2 h ks ws hh hk hw 64 0 _ rfl (by omega) (by simpa using hh)
  | k + 1, i, ws, hi0, h16, hi, hw => by
    have ih := fun ws' => block_l1 h ks hh hk k (i + 1) ws' (by omega) (by omega) (by omega)
    have c1 : (i : Int) < 64 := by omega
    have c2 : (0 : Int) ≤ (i : Int) - 15 := by omega
    have c3 : (i : Int) - 15 < (ws.length : Int) := by omega
    have c4 : (0 : Int) ≤ (i : Int) - 2 := by omega
    have c5 : (i : Int) - 2 < (ws.length : Int) := by omega
    have c6 : (0 : Int) ≤ (i : Int) - 16 := by omega
    have c7 : (i : Int) - 16 < (ws.length : Int) := by omega
    have c8 : (0 : Int) ≤ (i : Int) - 7 := by omega
    have c9 : (i : Int) - 7 < (ws.length : Int) := by omega
    have d1 : (0 : Int) ≤ (i : Int) := by omega
    have d2 : (i : Int) < (ws.length : Int) := by omega
    have t1 : ∀ x, spec_l01Turn.v x 7 = some (turnF x 7) := fun x => turn_v x 7 (by omega) (by omega)
    have t2 : ∀ x, spec_l01Turn.v x 18 = some (turnF x 18) := fun x => turn_v x 18 (by omega) (by omega)
    have t3 : ∀ x, spec_l01Turn.v x 17 = some (turnF x 17) := fun x => turn_v x 17 (by omega) (by omega)
    have t4 : ∀ x, spec_l01Turn.v x 19 = some (turnF x 19) := fun x => turn_v x 19 (by omega) (by omega)
    have w : wrap64 ((i : Int) + 1) = ((i + 1 : Nat) : Int) := by rw [wrap_id (by omega) (by omega)]; omega
    have w1 : wrap64 ((i : Int) - 15) = (i : Int) - 15 := wrap_id (by omega) (by omega)
    have w2 : wrap64 ((i : Int) - 2) = (i : Int) - 2 := wrap_id (by omega) (by omega)
    have w3 : wrap64 ((i : Int) - 16) = (i : Int) - 16 := wrap_id (by omega) (by omega)
    have w4 : wrap64 ((i : Int) - 7) = (i : Int) - 7 := wrap_id (by omega) (by omega)
    rw [spec_l01Block.lv1_eq]
    simp only [w, w1, w2, w3, w4, if_pos c1, if_pos c2, if_pos c3, if_pos c4, if_pos c5, if_pos c6, if_pos c7, if_pos c8, if_pos c9, if_pos d1, if_pos d2, t1, t2, t3, t4, Option.bind_some]
    clear w w1 w2 w3 w4
    exact ih _ (by rw [List.length_set]; exact hw)
theorem block_l0 (h b ks : List Int) (hh : h.length = 8) (hb : b.length = 64) (hk : ks.length = 64) : ∀ (k i : Nat) (ws : List Int), 16 - i = k → i ≤ 16 → ws.length = 64 → ∃ r, spec_l01Block.lv0 h b ks ws i = some r ∧ r.length = 8
  | 0, i, ws, hi0, hi, hw => by
    rw [spec_l01Block.lv0_eq, if_neg (by omega)]
    exact block_l1 h ks hh hk 48 16 ws rfl (by omega) (by omega) hw
  | k + 1, i, ws, hi0, hi, hw => by
    have ih := fun ws' => block_l0 h b ks hh hb hk k (i + 1) ws' (by omega) (by omega)
    have c1 : (i : Int) < 16 := by omega
    have c2 : (0 : Int) ≤ 4 * (i : Int) := by omega
    have c3 : 4 * (i : Int) < (b.length : Int) := by omega
    have c4 : (0 : Int) ≤ 4 * (i : Int) + 1 := by omega
    have c5 : 4 * (i : Int) + 1 < (b.length : Int) := by omega
    have c6 : (0 : Int) ≤ 4 * (i : Int) + 2 := by omega
    have c7 : 4 * (i : Int) + 2 < (b.length : Int) := by omega
    have c8 : (0 : Int) ≤ 4 * (i : Int) + 3 := by omega
    have c9 : 4 * (i : Int) + 3 < (b.length : Int) := by omega
    have d1 : (0 : Int) ≤ (i : Int) := by omega
    have d2 : (i : Int) < (ws.length : Int) := by omega
    have w : wrap64 ((i : Int) + 1) = ((i + 1 : Nat) : Int) := by rw [wrap_id (by omega) (by omega)]; omega
    have w0 : wrap64 (4 * (i : Int)) = 4 * (i : Int) := wrap_id (by omega) (by omega)
    have w1 : wrap64 (4 * (i : Int) + 1) = 4 * (i : Int) + 1 := wrap_id (by omega) (by omega)
    have w2 : wrap64 (4 * (i : Int) + 2) = 4 * (i : Int) + 2 := wrap_id (by omega) (by omega)
    have w3 : wrap64 (4 * (i : Int) + 3) = 4 * (i : Int) + 3 := wrap_id (by omega) (by omega)
    rw [spec_l01Block.lv0_eq]
    simp only [w, w0, w1, w2, w3, if_pos c1, if_pos c2, if_pos c3, if_pos c4, if_pos c5, if_pos c6, if_pos c7, if_pos c8, if_pos c9, if_pos d1, if_pos d2]
    clear w w0 w1 w2 w3
    exact ih _ (by rw [List.length_set]; exact hw)
theorem block_v (h b ks : List Int) (hh : h.length = 8) (hb : b.length = 64) (hk : ks.length = 64) : ∃ r, spec_l01Block.v h b ks = some r ∧ r.length = 8 := by
  rw [spec_l01Block.v_eq, if_pos ⟨hh, hb, hk⟩, if_pos (by omega)]
  exact block_l0 h b ks hh hb hk 16 0 _ rfl (by omega) (by simp)
theorem hash_l3 (h : List Int) (hh : h.length = 8) : ∀ (k i : Nat) (out : List Int), 8 - i = k → i ≤ 8 → out.length = 4 * i → ∃ t, spec_l01Hash.lv3 h out i = some t ∧ t.size = 32
  | 0, i, out, hi0, hi, ho => by
    rw [spec_l01Hash.lv3_eq, if_neg (by omega)]
    exact ⟨_, rfl, by rw [strOf_size]; omega⟩
  | k + 1, i, out, hi0, hi, ho => by
    have ih := fun out' => hash_l3 h hh k (i + 1) out' (by omega) (by omega)
    have w : wrap64 ((i : Int) + 1) = ((i + 1 : Nat) : Int) := by rw [wrap_id (by omega) (by omega)]; omega
    rw [spec_l01Hash.lv3_eq, w]
    clear w
    rw [if_pos (by omega), if_pos (by omega), if_pos (by omega), Option.bind_some, if_pos (by simp; omega)]
    exact ih _ (by simp; omega)
theorem hash_l2 (all ks : List Int) (hk : ks.length = 64) (n : Nat) (ha : all.length = 64 * n) (hn : n ≤ 1000000) : ∀ (k i : Nat) (h : List Int), n - i = k → i ≤ n → h.length = 8 → ∃ t, spec_l01Hash.lv2 h all ks ((64 * i : Nat) : Int) = some t ∧ t.size = 32
  | 0, i, h, hi0, hi, hh => by
    rw [spec_l01Hash.lv2_eq, if_neg (by omega)]
    exact hash_l3 h hh 8 0 [] rfl (by omega) rfl
  | k + 1, i, h, hi0, hi, hh => by
    have ih := fun h' => hash_l2 all ks hk n ha hn k (i + 1) h' (by omega) (by omega)
    obtain ⟨r, e, hr⟩ := block_v h ((all.take (64 * (i + 1))).drop (64 * i)) ks hh (by rw [List.length_drop, List.length_take]; omega) hk
    have w : wrap64 (((64 * i : Nat) : Int) + 64) = ((64 * (i + 1) : Nat) : Int) := by rw [wrap_id (by omega) (by omega)]; omega
    rw [spec_l01Hash.lv2_eq, w]
    clear w
    simp only [Int.toNat_natCast]
    rw [if_pos (by omega), if_pos (by omega), if_pos (by omega), if_pos (by omega), e, Option.bind_some]
    exact ih _ hr
theorem hash_l1 (x h : List Int) (hh : h.length = 8) : ∀ (k : Nat) (all : List Int), k ≤ 8 → all.length + k ≤ 60000000 → (all.length + k) % 64 = 0 → ∃ t, spec_l01Hash.lv1 x h all ((k : Int) - 1) = some t ∧ t.size = 32
  | 0, all, hk, ha, hm => by
    rw [spec_l01Hash.lv1_eq, if_neg (by omega), spec_l01Consts.v_eq, Option.bind_some]
    exact hash_l2 all _ rfl (all.length / 64) (by omega) (by omega) (all.length / 64) 0 h rfl (by omega) hh
  | k + 1, all, hk, ha, hm => by
    have ih := fun a => hash_l1 x h hh k (all ++ [a]) (by omega) (by simp; omega) (by simp; omega)
    have e : (((k + 1 : Nat) : Int) - 1) = (k : Int) := by omega
    have c1 : (k : Int) ≥ 0 := by omega
    have c2 : all.length < 140737488355328 := by omega
    have w : wrap64 ((k : Int) - 1) = (k : Int) - 1 := wrap_id (by omega) (by omega)
    have w1 : IntKind.u64.wrap (wrap64 (8 * (k : Int))) = 8 * (k : Int) := by
      rw [show wrap64 (8 * (k : Int)) = 8 * (k : Int) from wrap_id (by omega) (by omega), u64_small _ (by omega) (by omega)]
    have c3 : (0 : Int) ≤ 8 * (k : Int) := by clear w w1; omega
    rw [e, spec_l01Hash.lv1_eq, w, w1]
    clear w w1
    rw [if_pos c1, if_pos c3, if_pos c2]
    exact ih _
theorem hash_l0 (x h : List Int) (hh : h.length = 8) : ∀ (k : Nat) (all : List Int), (all.length + k) % 64 = 56 → k ≤ 64 → all.length + k ≤ 50000000 → ∃ t, spec_l01Hash.lv0 x h all = some t ∧ t.size = 32
  | 0, all, hm, hk, ha => by
    rw [spec_l01Hash.lv0_eq, if_pos (by omega)]
    exact hash_l1 x h hh 8 all (by omega) (by omega) (by omega)
  | k + 1, all, hm, hk, ha => by
    rw [spec_l01Hash.lv0_eq]
    by_cases c : ((all.length : Int) % 64) = 56
    · rw [if_pos c]
      exact hash_l1 x h hh 8 all (by omega) (by omega) (by omega)
    · rw [if_neg c, if_pos (by omega)]
      exact hash_l0 x h hh k (all ++ [0]) (by simp; omega) (by omega) (by simp; omega)
theorem hash_v (x : List Int) (hx : x.length ≤ 40000000) : ∃ t, spec_l01Hash.v x = some t ∧ t.size = 32 := by
  rw [spec_l01Hash.v_eq, Option.bind_some, if_pos (by simp; omega), Option.bind_some, if_pos (by simp; omega)]
  refine hash_l0 x _ rfl ((56 + 64 - (x.length + 1) % 64) % 64) _ ?_ (by omega) ?_
  · simp; omega
  · simp; omega
theorem be1 (n : Int) : beL n 1 = [n % 256] := rfl
theorem secret_v (n : Int) : ∃ t, spec_l04Secret.v n = some t ∧ impl_hash.v ((⟨#[110, 111, 100, 101, 32, 107, 101, 121]⟩ : ByteArray) ++ strOfNums [n % 256]) = some t ∧ t.size = 32 := by
  have h1 : (strOfNums [n % 256]).size = 1 := by rw [strOf_size]; rfl
  have h8 : (⟨#[110, 111, 100, 101, 32, 107, 101, 121]⟩ : ByteArray).size = 8 := rfl
  obtain ⟨s, hs⟩ : ∃ s, s = (⟨#[110, 111, 100, 101, 32, 107, 101, 121]⟩ : ByteArray) ++ strOfNums [n % 256] := ⟨_, rfl⟩
  have hz : s.size = 9 := by rw [hs, ByteArray.size_append, h1, h8]
  obtain ⟨t, ht, h32⟩ := hash_v (bytesOf s) (by rw [bytesOf_length, hz]; decide)
  refine ⟨t, ?_, ?_, h32⟩
  · rw [spec_l04Secret.v_eq, Option.bind_some, ← hs, h1, hz, if_pos (by decide), if_pos (by decide), ht, Option.bind_some]
  · rw [← hs, impl_hash.v_eq, hz, if_pos (by decide), ht]
theorem mac_both (n : Int) (S : ByteArray) (hS : S.size ≤ 30000000) : ∃ t, spec_l04Mac.v n (bytesOf S) = some t ∧ impl_mark.v n S = some t ∧ t.size = 8 := by
  obtain ⟨t1, h1, h2, hz⟩ := secret_v n
  obtain ⟨t2, ht, h32⟩ := hash_v (bytesOf (t1 ++ S)) (by rw [bytesOf_length, ByteArray.size_append]; omega)
  have hb : bytesOf t1 ++ bytesOf S = bytesOf (t1 ++ S) := (bytes_append t1 S).symm
  have hn : (strOfNums (beL n 1)).size = 1 := by rw [strOf_size]; rfl
  have c1 : t1.size + (bytesOf S).length < 140737488355328 ∧ 0 < t1.size := by rw [bytesOf_length]; omega
  have c2 : t1.size + S.size ≤ 9223372036854775807 := by omega
  have c3 : (t1 ++ S).size ≤ 40000000 := by rw [ByteArray.size_append]; omega
  have c4 : (8 : Int) ≤ (t2.size : Int) := by omega
  refine ⟨t2.extract 0 8, ?_, ?_, by rw [ByteArray.size_extract]; omega⟩
  · rw [spec_l04Mac.v_eq, h1, Option.bind_some, if_pos c1, hb, ht, Option.bind_some, if_pos (by omega)]
  · rw [impl_mark.v_eq, impl_number1, Option.bind_some, hn, if_pos (by decide), be1, h2, Option.bind_some, if_pos c2, impl_hash.v_eq, if_pos c3, ht, Option.bind_some, if_pos (by decide), if_pos c4]
theorem nodes_one (a : Int) : ∃ r, spec_l04Nodes.v a = some r ∧ impl_areNodes.v a = some r := by
  rw [spec_l04Nodes.v_eq, impl_areNodes.v_eq, impl_FaultsOf.v_eq]
  by_cases h1 : a = 1
  · rw [if_pos h1, if_pos h1, Option.bind_some]; exact ⟨_, rfl, rfl⟩
  by_cases h4 : a = 4
  · rw [if_neg h1, if_neg h1, if_pos h4, if_pos h4, Option.bind_some]; exact ⟨_, rfl, rfl⟩
  by_cases h7 : a = 7
  · rw [if_neg h1, if_neg h1, if_neg h4, if_neg h4, if_pos h7, Option.bind_some, h7]; exact ⟨_, rfl, rfl⟩
  · rw [if_neg h1, if_neg h1, if_neg h4, if_neg h4, if_neg h7, Option.bind_some]
    exact ⟨false, by simp [h7], rfl⟩
theorem impl_number8 (n : Int) : impl_number.v n 8 = some (strOfNums (beL n 8)) := by
  have w8 : wrap64 (8 - 1) = 7 := by rw [wrap_id (by omega) (by omega)]; rfl
  have w7 : wrap64 (7 - 1) = 6 := by rw [wrap_id (by omega) (by omega)]; rfl
  have w6 : wrap64 (6 - 1) = 5 := by rw [wrap_id (by omega) (by omega)]; rfl
  have w5 : wrap64 (5 - 1) = 4 := by rw [wrap_id (by omega) (by omega)]; rfl
  have w4 : wrap64 (4 - 1) = 3 := by rw [wrap_id (by omega) (by omega)]; rfl
  have w3 : wrap64 (3 - 1) = 2 := by rw [wrap_id (by omega) (by omega)]; rfl
  have w2 : wrap64 (2 - 1) = 1 := by rw [wrap_id (by omega) (by omega)]; rfl
  have w0 : wrap64 (1 - 1) = 0 := by rw [wrap_id (by omega) (by omega)]; rfl
  have w1 : wrap64 (0 - 1) = -1 := by rw [wrap_id (by omega) (by omega)]; rfl
  rw [impl_number.v_eq, if_pos (by omega), if_pos (by simp), w8]
  rw [impl_number.lv0_eq, if_pos (by omega), if_pos (by omega), if_pos (by simp), w7, impl_number.lv0_eq, if_pos (by omega), if_pos (by omega), if_pos (by simp), w6, impl_number.lv0_eq, if_pos (by omega), if_pos (by omega), if_pos (by simp), w5, impl_number.lv0_eq, if_pos (by omega), if_pos (by omega), if_pos (by simp), w4]
  rw [impl_number.lv0_eq, if_pos (by omega), if_pos (by omega), if_pos (by simp), w3, impl_number.lv0_eq, if_pos (by omega), if_pos (by omega), if_pos (by simp), w2, impl_number.lv0_eq, if_pos (by omega), if_pos (by omega), if_pos (by simp), w0, impl_number.lv0_eq, if_pos (by omega), if_pos (by omega), if_pos (by simp), w1, impl_number.lv0_eq, if_neg (by omega)]
  rfl
theorem plain_both (k v s f : Int) (d b m : ByteArray) (hd : d.size ≤ 1000000) (hb : b.size ≤ 1000000) (i : Int) : ∃ t, (spec_l02Plain.v k v s f d b m).bind (fun x => spec_l04Mac.v i x) = some t ∧ (impl_bareText.v k v s f d b m).bind (fun x => impl_mark.v i x) = some t ∧ t.size = 8 := by
  obtain ⟨t, h1, h2, h3⟩ := mac_both i (strOfNums (plainL k v s f d b)) (by rw [strOf_size, plainL_len]; omega)
  rw [bytes_str _ (byteL_plain k v s f d b)] at h1
  refine ⟨t, ?_, ?_, h3⟩
  · rw [spec_l02Plain_v k v s f d b m hd hb, Option.bind_some, h1]
  · rw [impl_bareText_v k v s f d b m hd hb, Option.bind_some, h2]
/-- A place of at most m, a seed within its bounds. -/
def Src (m a s : Int) : Prop := 0 ≤ a ∧ a ≤ m ∧ 0 ≤ s ∧ s < 2147483648
theorem Src.mono {m m' a s : Int} (h : Src m a s) (hm : m ≤ m') : Src m' a s := ⟨h.1, Int.le_trans h.2.1 hm, h.2.2⟩
theorem rd_byte (l : List Int) (h : ∀ y ∈ l, (Lit.int .u8 y).wf = true) (i : Int) : 0 ≤ rd l i ∧ rd l i ≤ 255 := by
  unfold rd
  rw [List.getD]
  cases hq : l[i.toNat]? with
  | none => simp
  | some y => exact wf8 (h y (List.mem_of_getElem? hq))
theorem tmod_nn (x n : Int) (hx : 0 ≤ x) (hn : 0 < n) : 0 ≤ Int.tmod x n ∧ Int.tmod x n < n := by
  rw [Int.tmod_eq_emod_of_nonneg hx]
  exact ⟨Int.emod_nonneg _ (by omega), Int.emod_lt_of_pos _ hn⟩
theorem src_byte (code : List Int) (hc : ∀ y ∈ code, (Lit.int .u8 y).wf = true) (m a s : Int) (h : Src m a s) (hm : m ≤ 1000000000000) :
    ∃ r a' s', spec_l00Src_byte.v code a s = some (r, a', s') ∧ 0 ≤ r ∧ r ≤ 255 ∧ Src (m + 1) a' s' := by
  obtain ⟨h1, h2, h3, h4⟩ := h
  have w1 : wrap64 (a + 1) = a + 1 := wrap_id (by omega) (by omega)
  have w2 : wrap64 (a + 1 - 1) = a := by rw [wrap_id (by omega) (by omega)]; omega
  rw [spec_l00Src_byte.v_eq]
  simp only [w1, w2]
  clear w1 w2
  have hb := rd_byte code hc a
  by_cases hl : a + 1 ≤ (code.length : Int)
  · have c1 : a < (code.length : Int) := by omega
    rw [if_pos hl, if_pos h1, if_pos c1]
    have w3 : wrap64 (rd code a) = rd code a := wrap_id (by omega) (by omega)
    have w4 : wrap64 (s * 31) = s * 31 := wrap_id (by omega) (by omega)
    have w5 : wrap64 (s * 31 + rd code a) = s * 31 + rd code a := wrap_id (by omega) (by omega)
    have w6 : wrap64 (s * 31 + rd code a + 7) = s * 31 + rd code a + 7 := wrap_id (by omega) (by omega)
    simp only [w3, w4, w5, w6]
    clear w3 w4 w5 w6
    have ht := tmod_nn (s * 31 + rd code a + 7) 2147483648 (by omega) (by omega)
    exact ⟨_, _, _, rfl, hb.1, hb.2, by omega, by omega, ht.1, ht.2⟩
  · rw [if_neg hl]
    by_cases h5 : a + 1 > 3000
    · rw [if_pos h5]
      exact ⟨_, _, _, rfl, by omega, by omega, by omega, by omega, h3, h4⟩
    · rw [if_neg h5]
      have w3 : wrap64 (s * 1103515245) = s * 1103515245 := wrap_id (by omega) (by omega)
      have w4 : wrap64 (s * 1103515245 + 12345) = s * 1103515245 + 12345 := wrap_id (by omega) (by omega)
      simp only [w3, w4]
      clear w3 w4
      have ht := tmod_nn (s * 1103515245 + 12345) 2147483648 (by omega) (by omega)
      generalize Int.tmod (s * 1103515245 + 12345) 2147483648 = u at ht
      have hd : Int.tdiv u 65536 = u / 65536 := Int.tdiv_eq_ediv_of_nonneg ht.1
      have w5 : wrap64 (u / 65536) = u / 65536 := wrap_id (by omega) (by omega)
      rw [hd, w5]
      clear w5
      have h6 := tmod_nn (u / 65536) 256 (by omega) (by omega)
      exact ⟨_, _, _, rfl, h6.1, by omega, by omega, by omega, ht.1, ht.2⟩
theorem src_next (code : List Int) (hc : ∀ y ∈ code, (Lit.int .u8 y).wf = true) (m a s n : Int) (h : Src m a s) (hm : m ≤ 900000000000) (hn : 1 ≤ n) :
    ∃ r a' s', spec_l00Src_next.v code a s n = some (r, a', s') ∧ 0 ≤ r ∧ r < n ∧ Src (m + 3) a' s' := by
  rw [spec_l00Src_next.v_eq]
  by_cases h1 : n ≤ 1
  · rw [if_pos h1]
    obtain ⟨h2, h3, h4, h5⟩ := h
    exact ⟨_, _, _, rfl, by omega, by omega, h2, by omega, h4, h5⟩
  · rw [if_neg h1]
    obtain ⟨r, a1, s1, e1, r0, r1, i1⟩ := src_byte code hc m a s h (by omega)
    have n0 : ¬ n = 0 := by omega
    by_cases h2 : n ≤ 256
    · rw [if_pos h2, e1, Option.bind_some, if_neg n0]
      have := tmod_nn r n r0 (by omega)
      exact ⟨_, _, _, rfl, this.1, this.2, i1.mono (by omega)⟩
    · obtain ⟨q, a2, s2, e2, q0, q1, i2⟩ := src_byte code hc (m + 1) a1 s1 i1 (by omega)
      obtain ⟨p, a3, s3, e3, p0, p1, i3⟩ := src_byte code hc (m + 1 + 1) a2 s2 i2 (by omega)
      rw [if_neg h2, e1, Option.bind_some]
      simp only
      rw [e2, Option.bind_some]
      simp only
      rw [e3, Option.bind_some, if_neg n0]
      have w1 : wrap64 (r * 65536) = r * 65536 := wrap_id (by omega) (by omega)
      have w2 : wrap64 (q * 256) = q * 256 := wrap_id (by omega) (by omega)
      have w3 : wrap64 (r * 65536 + q * 256) = r * 65536 + q * 256 := wrap_id (by omega) (by omega)
      have w4 : wrap64 (r * 65536 + q * 256 + p) = r * 65536 + q * 256 + p := wrap_id (by omega) (by omega)
      simp only [w1, w2, w3, w4]
      clear w1 w2 w3 w4
      have := tmod_nn (r * 65536 + q * 256 + p) n (by omega) (by omega)
      exact ⟨_, _, _, rfl, this.1, this.2, i3.mono (by omega)⟩
theorem src_pick (code : List Int) (hc : ∀ y ∈ code, (Lit.int .u8 y).wf = true) (m a s : Int) (l : List ByteArray) (h : Src m a s) (hm : m ≤ 900000000000) (hl : 1 ≤ l.length) :
    ∃ x a' s', spec_l00Src_pick.v code a s l = some (x, a', s') ∧ x ∈ l ∧ Src (m + 3) a' s' := by
  obtain ⟨r, a1, s1, e1, r0, r1, i1⟩ := src_next code hc m a s l.length h hm (by omega)
  rw [spec_l00Src_pick.v_eq, if_neg (by omega), e1, Option.bind_some, if_pos r0, if_pos r1]
  refine ⟨_, _, _, rfl, ?_, i1⟩
  unfold rdOf
  rw [List.getD_eq_getElem?_getD, List.getElem?_eq_getElem (by omega)]
  exact List.getElem_mem _
theorem src_start (code : List Int) : ∃ s, spec_l00Source.v code = some (code, 0, s) ∧ Src 0 0 s := by
  rw [spec_l00Source.v_eq]
  refine ⟨_, rfl, by omega, by omega, ?_, ?_⟩ <;> omega
theorem src_chance (code : List Int) (hc : ∀ y ∈ code, (Lit.int .u8 y).wf = true) (m a s n : Int) (h : Src m a s) (hm : m ≤ 900000000000) (hn : 1 ≤ n) :
    ∃ b a' s', spec_l00Src_chance.v code a s n = some (b, a', s') ∧ Src (m + 3) a' s' := by
  obtain ⟨r, a1, s1, e1, r0, r1, i1⟩ := src_next code hc m a s n h hm hn
  rw [spec_l00Src_chance.v_eq, e1, Option.bind_some]
  exact ⟨_, _, _, rfl, i1⟩
def names3 : List ByteArray := [⟨#[97]⟩, ⟨#[98]⟩, ⟨#[108, 111, 99, 107]⟩]
theorem names3_size : ∀ t ∈ names3, t.size ≤ 4 := by
  intro t h
  unfold names3 at h
  simp only [List.mem_cons, List.not_mem_nil, or_false] at h
  rcases h with rfl | rfl | rfl <;> decide
theorem src_request (code : List Int) (hc : ∀ y ∈ code, (Lit.int .u8 y).wf = true) (m a s : Int) (h : Src m a s) (hm : m ≤ 700000000000) :
    ∃ c st k ls nm a' s', spec_l00Src_request.v code a s = some (c, st, k, ls, nm, a', s') ∧ (0 ≤ c ∧ c ≤ 2) ∧ (1 ≤ st ∧ st ≤ 5) ∧ (1 ≤ k ∧ k ≤ 4) ∧ ((k = 1 ∨ k = 3) ∧ 1 ≤ ls ∧ ls ≤ 30 ∨ ¬ (k = 1 ∨ k = 3) ∧ ls = 0) ∧ nm ∈ names3 ∧ Src (m + 15) a' s' := by
  obtain ⟨c, a1, s1, e1, c0, c1, i1⟩ := src_next code hc m a s 3 h (by omega) (by omega)
  obtain ⟨st, a2, s2, e2, st0, st1, i2⟩ := src_next code hc _ a1 s1 5 i1 (by omega) (by omega)
  obtain ⟨k, a3, s3, e3, k0, k1, i3⟩ := src_next code hc _ a2 s2 4 i2 (by omega) (by omega)
  obtain ⟨nm, a4, s4, e4, hn, i4⟩ := src_pick code hc _ a3 s3 names3 i3 (by omega) (by decide)
  obtain ⟨ls, a5, s5, e5, l0, l1, i5⟩ := src_next code hc _ a4 s4 30 i4 (by omega) (by omega)
  have e4' : spec_l00Src_pick.v code a3 s3 (([(⟨#[97]⟩ : ByteArray), (⟨#[98]⟩ : ByteArray), (⟨#[108, 111, 99, 107]⟩ : ByteArray)] : List ByteArray)) = some (nm, a4, s4) := e4
  have w1 : wrap64 (1 + st) = 1 + st := wrap_id (by omega) (by omega)
  have w2 : wrap64 (1 + k) = 1 + k := wrap_id (by omega) (by omega)
  have w3 : wrap64 (1 + ls) = 1 + ls := wrap_id (by omega) (by omega)
  rw [spec_l00Src_request.v_eq]
  simp only [e1, e2, e3, e4', e5, Option.bind_some, w1, w2, w3]
  clear w1 w2 w3
  by_cases q1 : 1 + k = 1
  · rw [if_pos q1]
    exact ⟨_, _, _, _, _, _, _, rfl, by omega, by omega, by omega, .inl ⟨.inl q1, by omega, by omega⟩, hn, i5.mono (by omega)⟩
  · rw [if_neg q1]
    by_cases q3 : 1 + k = 3
    · rw [if_pos q3]
      exact ⟨_, _, _, _, _, _, _, rfl, by omega, by omega, by omega, .inl ⟨.inr q3, by omega, by omega⟩, hn, i5.mono (by omega)⟩
    · rw [if_neg q3]
      exact ⟨_, _, _, _, _, _, _, rfl, by omega, by omega, by omega, .inr ⟨by omega, rfl⟩, hn, i4.mono (by omega)⟩
theorem src_batch_l (code : List Int) (hc : ∀ y ∈ code, (Lit.int .u8 y).wf = true) (n : Bool) (c st k ls : Int) (nm : ByteArray) : ∀ (j i : Nat) (m a s : Int) (rs : List S182), 4 - i = j → i ≤ 4 → Src m a s → m + 6 * j ≤ 800000000000 → rs.length ≤ i → (∀ r ∈ rs, r.f2.size = 8) →
    ∃ rs' a' s', spec_l00Src_batch.lv0 i code a s n c st k ls nm rs = some (n, c, st, k, ls, nm, rs', a', s') ∧ rs'.length ≤ 4 ∧ (∀ r ∈ rs', r.f2.size = 8) ∧ Src (m + 6 * j) a' s'
  | 0, i, m, a, s, rs, hj, hi, h, hm, hr, h8 => by
    rw [spec_l00Src_batch.lv0_eq, if_neg (by omega)]
    exact ⟨_, _, _, rfl, by omega, h8, h.mono (by omega)⟩
  | j + 1, i, m, a, s, rs, hj, hi, h, hm, hr, h8 => by
    obtain ⟨b, a1, s1, e1, i1⟩ := src_chance code hc m a s 4 h (by omega) (by omega)
    obtain ⟨v, a2, s2, e2, v0, v1, i2⟩ := src_next code hc _ a1 s1 100 i1 (by omega) (by omega)
    obtain ⟨t, e3, t32⟩ := hash_v [(i : Int) % 256] (by simp)
    have w : wrap64 ((i : Int) + 1) = ((i + 1 : Nat) : Int) := by rw [wrap_id (by omega) (by omega)]; omega
    have t8 : (t.extract 0 8).size = 8 := by rw [ByteArray.size_extract]; omega
    rw [spec_l00Src_batch.lv0_eq, w]
    clear w
    rw [if_pos (by omega), e1, Option.bind_some]
    cases b
    · have ih := src_batch_l code hc n c st k ls nm j (i + 1) (m + 3 + 3) a2 s2 (rs ++ [⟨i, v, t.extract 0 8⟩]) (by omega) (by omega) i2 (by omega) (by simp; omega) (by
        intro r hr2
        rcases List.mem_append.1 hr2 with hr2 | hr2
        · exact h8 r hr2
        · rw [List.mem_singleton.1 hr2]; exact t8)
      obtain ⟨rs', a', s', e, p1, p2, p3⟩ := ih
      rw [if_neg (by simp)]
      simp only
      rw [e2, Option.bind_some, e3, Option.bind_some, if_pos (by omega), if_pos (by omega), if_pos (by omega)]
      exact ⟨rs', a', s', e, p1, p2, p3.mono (by omega)⟩
    · obtain ⟨rs', a', s', e, p1, p2, p3⟩ := src_batch_l code hc n c st k ls nm j (i + 1) (m + 3) a1 s1 rs (by omega) (by omega) i1 (by omega) (by omega) h8
      rw [if_pos rfl]
      exact ⟨rs', a', s', e, p1, p2, p3.mono (by omega)⟩
theorem src_batch (code : List Int) (hc : ∀ y ∈ code, (Lit.int .u8 y).wf = true) (m a s : Int) (h : Src m a s) (hm : m ≤ 600000000000) :
    ∃ n c st k ls nm rs a' s', spec_l00Src_batch.v code a s = some (n, c, st, k, ls, nm, rs, a', s') ∧ nm.size ≤ 4 ∧ rs.length ≤ 4 ∧ (∀ r ∈ rs, r.f2.size = 8) ∧ Src (m + 50) a' s' := by
  obtain ⟨b, a1, s1, e1, i1⟩ := src_chance code hc m a s 6 h (by omega) (by omega)
  rw [spec_l00Src_batch.v_eq, e1, Option.bind_some]
  cases b
  · obtain ⟨c, st, k, ls, nm, a2, s2, e2, _, _, _, _, hn, i2⟩ := src_request code hc _ a1 s1 i1 (by omega)
    obtain ⟨rs, a3, s3, e3, p1, p2, p3⟩ := src_batch_l code hc false c st k ls nm 4 0 _ a2 s2 [] rfl (by omega) i2 (by omega) (by simp) (by simp)
    rw [if_neg (by simp)]
    simp only
    rw [e2, Option.bind_some]
    exact ⟨false, c, st, k, ls, nm, rs, a3, s3, e3, names3_size nm hn, p1, p2, p3.mono (by omega)⟩
  · rw [if_pos rfl]
    exact ⟨_, _, _, _, _, _, _, _, _, rfl, by decide, by simp, by simp, i1.mono (by omega)⟩
theorem reqBytes_v (c st k ls : Int) (nm : ByteArray) (hn : nm.size ≤ 1000000) : spec_l02Request.v c st k ls nm = some ([c % 256] ++ beL st 2 ++ [k % 256] ++ beL ls 2 ++ [(nm.size : Int) % 256] ++ bytesOf nm) := by
  have n1 : ∀ x, spec_l02Number.v x 2 = some (beL x 2) := fun x => spec_number_v x 2 (by omega)
  rw [spec_l02Request.v_eq]
  simp only [Option.bind_some, n1, List.length_append, List.length_cons, List.length_nil, beL_len]
  rw [if_pos (by omega), if_pos (by omega), if_pos (by omega), if_pos (by omega), if_pos (by omega)]
theorem batchBytes_l (n : Bool) (c st k ls : Int) (nm : ByteArray) (rs : List S182) (hn : nm.size ≤ 1000) (hr : rs.length ≤ 100) (h8 : ∀ r ∈ rs, r.f2.size = 8) : ∀ (j i : Nat) (out : List Int), rs.length - i = j → i ≤ rs.length → out.length = 1 + 13 * i →
    ∃ l, spec_l02Batch.lv0 out i n c st k ls nm rs = some l ∧ l.length = 8 + 13 * rs.length + nm.size
  | 0, i, out, hj, hi, ho => by
    rw [spec_l02Batch.lv0_eq, if_neg (by omega), reqBytes_v _ _ _ _ _ (by omega), Option.bind_some, if_pos (by simp [beL_len, bytesOf_length]; omega)]
    exact ⟨_, rfl, by simp [beL_len, bytesOf_length]; omega⟩
  | j + 1, i, out, hj, hi, ho => by
    have hm : (rd_T182 rs i).f2.size = 8 := by
      unfold rd_T182
      rw [Int.toNat_natCast, List.getD_eq_getElem?_getD, List.getElem?_eq_getElem (by omega)]
      exact h8 _ (List.getElem_mem _)
    have ih := fun o => batchBytes_l n c st k ls nm rs hn hr h8 j (i + 1) o (by omega) (by omega)
    have w : wrap64 ((i : Int) + 1) = ((i + 1 : Nat) : Int) := by rw [wrap_id (by omega) (by omega)]; omega
    have n4 : ∀ x, spec_l02Number.v x 4 = some (beL x 4) := fun x => spec_number_v x 4 (by omega)
    rw [spec_l02Batch.lv0_eq, w]
    clear w
    rw [if_pos (by omega), if_pos (by omega), if_pos (by omega), Option.bind_some, n4, Option.bind_some, if_pos (by simp [beL_len]; omega), Option.bind_some, if_pos (by simp [beL_len]; omega)]
    exact ih _ (by simp [beL_len, bytesOf_length]; omega)
theorem batchBytes (n : Bool) (c st k ls : Int) (nm : ByteArray) (rs : List S182) (hn : nm.size ≤ 1000) (hr : rs.length ≤ 100) (h8 : ∀ r ∈ rs, r.f2.size = 8) :
    ∃ l, spec_l02Batch.v n c st k ls nm rs = some l ∧ 1 ≤ l.length ∧ l.length ≤ 8 + 13 * rs.length + nm.size := by
  rw [spec_l02Batch.v_eq]
  cases n
  · obtain ⟨l, e, h⟩ := batchBytes_l false c st k ls nm rs hn hr h8 rs.length 0 [(wrap64 (1 + (rs.length : Int))) % 256] rfl (by omega) rfl
    rw [if_neg (by simp)]
    exact ⟨l, e, by omega, by omega⟩
  · rw [if_pos rfl]
    exact ⟨_, rfl, by simp, by simp; omega⟩
theorem oneTwo : ∃ l, spec_l02List.v (([(⟨#[111, 110, 101]⟩ : ByteArray), (⟨#[116, 119, 111]⟩ : ByteArray)] : List ByteArray)) = some l ∧ l.length ≤ 20000 := by
  refine ⟨_, spec_l02List_v _ (by simp) ?_ ?_, ?_⟩
  · intro t h
    simp only [List.mem_cons, List.not_mem_nil, or_false] at h
    rcases h with rfl | rfl <;> decide
  · decide
  · decide
theorem src_message (code : List Int) (hc : ∀ y ∈ code, (Lit.int .u8 y).wf = true) (m a s : Int) (h : Src m a s) (hm : m ≤ 500000000000) :
    ∃ k v sq f d b mac a' s', spec_l00Src_message.v code a s = some (k, v, sq, f, d, b, mac, a', s') ∧ msgB k v sq f d b mac = true ∧ Src (m + 100) a' s' := by
  obtain ⟨k, a1, s1, e1, k0, k1, i1⟩ := src_next code hc m a s 5 h (by omega) (by omega)
  obtain ⟨v, a2, s2, e2, v0, v1, i2⟩ := src_next code hc _ a1 s1 4 i1 (by omega) (by omega)
  obtain ⟨f, a3, s3, e3, f0, f1, i3⟩ := src_next code hc _ a2 s2 4 i2 (by omega) (by omega)
  obtain ⟨q, a4, s4, e4, q0, q1, i4⟩ := src_next code hc _ a3 s3 9 i3 (by omega) (by omega)
  obtain ⟨t, e5, t32⟩ := hash_v [q % 256] (by simp)
  obtain ⟨p, a6, s6, e6, p0, p1, i6⟩ := src_next code hc _ a4 s4 4 i4 (by omega) (by omega)
  obtain ⟨z, a7, s7, e7, z0, z1, i7⟩ := src_next code hc _ a6 s6 4 i6 (by omega) (by omega)
  obtain ⟨u, e8, u32⟩ := hash_v [z % 256] (by simp)
  obtain ⟨n, c, st, kk, ls, nm, rs, a9, s9, e9, hn, hr, h8, i9⟩ := src_batch code hc _ a7 s7 i7 (by omega)
  obtain ⟨bl, e10, b1, b2⟩ := batchBytes n c st kk ls nm rs (by omega) (by omega) h8
  obtain ⟨ol, e11, o1⟩ := oneTwo
  have t8 : (t.extract 0 8).size = 8 := by rw [ByteArray.size_extract]; omega
  have w1 : wrap64 (1 + k) = 1 + k := wrap_id (by omega) (by omega)
  have w2 : wrap64 (1 + p) = 1 + p := wrap_id (by omega) (by omega)
  have c1 : (0 : Int) ≤ 8 := by omega
  have c2 : (8 : Int) ≤ (t.size : Int) := by omega
  rw [spec_l00Src_message.v_eq]
  simp only [e1, e2, e3, e4, e5, Option.bind_some, w1, if_pos c1, if_pos c2]
  clear w1
  by_cases hk : 1 + k ≤ 3
  · rw [if_pos hk]
    simp only [e6, e7, e8, Option.bind_some, w2]
    clear w2
    rw [spec_l00Src_message.jv0_eq]
    have hk4 : ¬ (1 + k ≥ 4) := by omega
    by_cases hk1 : 1 + k = 1
    · rw [if_pos hk1]
      simp only [e9, e10, Option.bind_some]
      rw [if_neg hk4]
      refine ⟨_, _, _, _, _, _, _, _, _, rfl, ?_, i9.mono (by omega)⟩
      have hz : (strOfNums bl).size ≠ 0 := by rw [strOf_size]; omega
      unfold msgB inB
      rw [if_pos hk]
      simp only [Bool.and_eq_true, decide_eq_true_eq, beq_iff_eq]
      refine ⟨⟨⟨⟨⟨?_, ?_⟩, ?_⟩, t8⟩, ?_⟩, ⟨⟨?_, u32⟩, ?_⟩⟩
      · omega
      · omega
      · omega
      · rw [strOf_size]; omega
      · omega
      · rw [decide_eq_true hz, decide_eq_true hk1]
    · rw [if_neg hk1, if_neg hk4]
      refine ⟨_, _, _, _, _, _, _, _, _, rfl, ?_, i7.mono (by omega)⟩
      unfold msgB inB
      rw [if_pos hk]
      simp only [Bool.and_eq_true, decide_eq_true_eq, beq_iff_eq]
      refine ⟨⟨⟨⟨⟨?_, ?_⟩, ?_⟩, t8⟩, ?_⟩, ⟨⟨?_, u32⟩, ?_⟩⟩
      · omega
      · omega
      · omega
      · decide
      · omega
      · rw [decide_eq_false hk1]; decide
  · rw [if_neg hk, spec_l00Src_message.jv0_eq]
    clear w2
    have hk4 : 1 + k ≥ 4 := by omega
    have hk1 : ¬ (1 + k = 1) := by omega
    rw [if_neg hk1, if_pos hk4, e11, Option.bind_some]
    refine ⟨_, _, _, _, _, _, _, _, _, rfl, ?_, i4.mono (by omega)⟩
    unfold msgB inB
    rw [if_neg hk]
    simp only [Bool.and_eq_true, decide_eq_true_eq, beq_iff_eq]
    refine ⟨⟨⟨⟨⟨?_, ?_⟩, ?_⟩, t8⟩, ?_⟩, ?_, ?_⟩
    · omega
    · omega
    · omega
    · rw [strOf_size]; omega
    · trivial
    · rfl
theorem spec_MessageOf_v (code : List Int) (hc : ∀ y ∈ code, (Lit.int .u8 y).wf = true) : ∃ k v sq f d b mac, spec_MessageOf.v code = some (k, v, sq, f, d, b, mac) ∧ msgB k v sq f d b mac = true := by
  obtain ⟨s, e, i⟩ := src_start code
  obtain ⟨k, v, sq, f, d, b, mac, a', s', e2, h, _⟩ := src_message code hc 0 0 s i (by omega)
  rw [spec_MessageOf.v_eq, e, Option.bind_some]
  simp only
  rw [e2, Option.bind_some]
  exact ⟨k, v, sq, f, d, b, mac, rfl, h⟩
theorem signed_one (n k v s f : Int) (d b m : ByteArray) (hd : d.size ≤ 1000000) (hb : b.size ≤ 1000000) : ∃ r, impl_MessageSigned.v n k v s f d b m = some r ∧ spec_MessageSigned.v n k v s f d b m = some r := by
  obtain ⟨q, q1, q2⟩ := nodes_one n
  obtain ⟨t, t1, t2, -⟩ := plain_both k v s f d b m hd hb f
  have hc : (t.toList == m.toList) = (m.toList == t.toList) := by rw [Bool.eq_iff_iff, beq_iff_eq, beq_iff_eq]; exact eq_comm
  rw [impl_MessageSigned.v_eq, spec_MessageSigned.v_eq, spec_l06Signed.v_eq, q1, q2, impl_MessageOK_v, spec_MessageOK_v]
  simp only [Option.bind_some]
  cases q
  · exact ⟨_, rfl, rfl⟩
  cases msgB k v s f d b m
  · exact ⟨_, rfl, rfl⟩
  by_cases c : f < n
  · rw [if_pos rfl, if_pos rfl, if_pos rfl, if_pos c, if_pos c]
    rw [spec_l02Plain_v k v s f d b m hd hb, Option.bind_some] at t1 ⊢
    rw [impl_bareText_v k v s f d b m hd hb, Option.bind_some] at t2 ⊢
    rw [t1, t2, Option.bind_some, Option.bind_some, hc]
    exact ⟨_, rfl, rfl⟩
  · rw [if_pos rfl, if_pos rfl, if_pos rfl, if_neg c, if_neg c]
    exact ⟨_, rfl, rfl⟩
theorem at_four (l : List Int) (g : ∀ y ∈ l, (Lit.int .u8 y).wf = true) (hl : l.length ≤ 1048576) (i : Int) (h0 : 0 ≤ i) (h1 : i ≤ 1000) : ∃ t, laws_at.v l i 4 = some t ∧ 0 ≤ t ∧ t < 4 := by
  rw [laws_at.v_eq, if_neg (by omega)]
  by_cases c : (l.length : Int) = 0
  · rw [if_pos c, if_neg (by omega)]
    have := tmod_nn (wrap64 (i * 7)) 4 (by rw [wrap_id (by omega) (by omega)]; omega) (by omega)
    exact ⟨_, rfl, this.1, this.2⟩
  · have m1 := tmod_nn i l.length h0 (by omega)
    have m2 := tmod_nn (wrap64 (i + 1)) l.length (by rw [wrap_id (by omega) (by omega)]; omega) (by omega)
    rw [if_neg c, if_pos m1.1, if_pos m1.2, if_pos m2.1, if_pos m2.2, if_neg (by omega)]
    obtain ⟨a, ha⟩ : ∃ a, a = rd l (Int.tmod i l.length) := ⟨_, rfl⟩
    obtain ⟨b, hb⟩ : ∃ b, b = rd l (Int.tmod (wrap64 (i + 1)) l.length) := ⟨_, rfl⟩
    have ra := rd_byte l g (Int.tmod i l.length)
    have rb := rd_byte l g (Int.tmod (wrap64 (i + 1)) l.length)
    rw [← ha] at ra
    rw [← hb] at rb
    rw [← ha, ← hb]
    obtain ⟨e, he⟩ : ∃ e, e = Int.tdiv i l.length := ⟨_, rfl⟩
    have re : 0 ≤ e ∧ e ≤ 1000 := by
      rw [he, Int.tdiv_eq_ediv_of_nonneg h0]
      exact ⟨Int.ediv_nonneg h0 (by omega), Int.le_trans (Int.ediv_le_self _ h0) h1⟩
    rw [← he]
    clear ha hb he m1 m2
    have w1 : wrap64 a = a := wrap_id (by omega) (by omega)
    have w2 : wrap64 b = b := wrap_id (by omega) (by omega)
    have w3 : wrap64 e = e := wrap_id (by omega) (by omega)
    have w4 : wrap64 (a * 31) = a * 31 := wrap_id (by omega) (by omega)
    have w5 : wrap64 (a * 31 + b) = a * 31 + b := wrap_id (by omega) (by omega)
    have w6 : wrap64 (a * 31 + b + e) = a * 31 + b + e := wrap_id (by omega) (by omega)
    rw [w1, w2, w3, w4, w5, w6]
    clear w1 w2 w3 w4 w5 w6
    have := tmod_nn (a * 31 + b + e) 4 (by omega) (by omega)
    exact ⟨_, rfl, this.1, this.2⟩
theorem msgB_marked {k v s f g : Int} {d b m t : ByteArray} (h : msgB k v s f d b m = true) (g0 : 0 ≤ g) (g1 : g ≤ 6) (ht : t.size = 8) : msgB k v s g d b t = true := by
  unfold msgB inB at h ⊢
  simp only [Bool.and_eq_true, decide_eq_true_eq] at h ⊢
  obtain ⟨⟨⟨⟨⟨h1, h2⟩, h3⟩, h4⟩, h5⟩, h6⟩ := h
  exact ⟨⟨⟨⟨⟨h1, h2⟩, ⟨g0, g1⟩⟩, ht⟩, h5⟩, h6⟩
theorem FnSigned_jv1 (y1 : List Int) (g1 : ∀ y ∈ y1, (Lit.int .u8 y).wf = true) (hl : y1.length ≤ 1048576) (i k v s f : Int) (d b m : ByteArray) (hd : d.size ≤ 1000000) (hb : b.size ≤ 1000000) : laws_FnSigned.jv1 y1 i false k v s f d b m = some true := by
  obtain ⟨q, q1, -⟩ := at_four y1 g1 hl 1 (by omega) (by omega)
  rw [laws_FnSigned.jv1_eq, if_neg (by simp), q1, Option.bind_some]
  by_cases c0 : q = 0
  · obtain ⟨r, r1, r2⟩ := signed_one 4 k v s (Int.tmod (wrap64 (i + 1)) 4) d b m hd hb
    rw [if_pos c0, r1, r2, Option.bind_some, Option.bind_some, beq_self_eq_true]
  rw [if_neg c0]
  by_cases c1 : q = 1
  · obtain ⟨r, r1, r2⟩ := signed_one 4 k (wrap64 (v + 1)) s f d b m hd hb
    rw [if_pos c1, r1, r2, Option.bind_some, Option.bind_some, beq_self_eq_true]
  rw [if_neg c1]
  by_cases c2 : q = 2
  · obtain ⟨r, r1, r2⟩ := signed_one 4 k v s f d b ⟨#[49, 50, 51, 52, 53, 54, 55, 56]⟩ hd hb
    rw [if_pos c2, r1, r2, Option.bind_some, Option.bind_some, beq_self_eq_true]
  rw [if_neg c2]
  by_cases c3 : q = 3
  · obtain ⟨n, hn⟩ : ∃ n : Nat, mn (y1.length : Int) 100 = n := ⟨(mn (y1.length : Int) 100).toNat, by unfold mn; split <;> omega⟩
    have hn1 : n ≤ 100 ∧ n ≤ y1.length := by unfold mn at hn; split at hn <;> omega
    rw [if_pos c3, hn, if_pos (by omega), if_pos (by omega), Int.toNat_natCast]
    obtain ⟨t, t1, t2⟩ := hash_v (bytesOf (strOfNums (y1.take n))) (by rw [bytesOf_length, strOf_size, List.length_take]; omega)
    have hh : impl_Hash.v (y1.take n) = some t := by
      rw [impl_Hash.v_eq]
      have hs : (strOfNums (y1.take n)).size ≤ 40000000 := by rw [strOf_size, List.length_take]; omega
      have hlen : ¬ ((y1.take n).length : Int) > 65536 := by rw [List.length_take]; omega
      simp only [if_neg hlen, impl_hash.v_eq, if_pos hs, t1, Option.bind_some]
    rw [hh, Option.bind_some]
    obtain ⟨r, r1, r2⟩ := signed_one 4 k v s f t b m (by omega) hb
    rw [r1, r2, Option.bind_some, Option.bind_some, beq_self_eq_true]
  · rw [if_neg c3]
    obtain ⟨r, r1, r2⟩ := signed_one 4 k v s f d b m hd hb
    rw [r1, r2, Option.bind_some, Option.bind_some, beq_self_eq_true]
theorem FnSigned_pure (y0 : List Int) (y1 : List Int) : (y0.length ≤ 9223372036854775807 ∧ ∀ y ∈ y0, (Lit.int .u8 y).wf = true) → (y1.length ≤ 9223372036854775807 ∧ ∀ y ∈ y1, (Lit.int .u8 y).wf = true) → laws_FnSigned.v y0 y1 = some true := by
  intro g0 g1
  rw [laws_FnSigned.v_eq]
  by_cases h0 : (y0.length : Int) > 1048576
  · rw [if_pos h0, laws_FnSigned.jv0_eq, if_pos rfl]
  rw [if_neg h0]
  by_cases h1 : (y1.length : Int) > 1048576
  · rw [laws_FnSigned.jv0_eq, if_pos (decide_eq_true h1)]
  obtain ⟨k, v, s, f, d, b, m, e, hB⟩ := spec_MessageOf_v y0 g0.2
  obtain ⟨_, _, _, _, _, _, _, _, q9, qa, qb⟩ := msgB_sizes hB
  obtain ⟨i, i1, i2, i3⟩ := at_four y1 g1.2 (by omega) 0 (by omega) (by omega)
  have z8 : (strOfNums (beL 0 8)).size = 8 := by rw [strOf_size, beL_len]
  have n8 : impl_number.v 0 8 = some (strOfNums (beL 0 8)) := impl_number8 0
  have b1 : msgB k v s i d b (strOfNums (beL 0 8)) = true := msgB_marked hB i2 (by omega) z8
  have b2 : msgB k v s i d b ⟨#[49, 50, 51, 52, 53, 54, 55, 56]⟩ = true := msgB_marked hB i2 (by omega) rfl
  obtain ⟨t, t1, t2, t3⟩ := plain_both k v s i d b (strOfNums (beL 0 8)) (by omega) (by omega) i
  have hp : spec_l02Plain.v k v s i d b ⟨#[49, 50, 51, 52, 53, 54, 55, 56]⟩ = spec_l02Plain.v k v s i d b (strOfNums (beL 0 8)) := by rw [spec_l02Plain_v _ _ _ _ _ _ _ (by omega) (by omega), spec_l02Plain_v _ _ _ _ _ _ _ (by omega) (by omega)]
  have hi : inB i 0 6 = true := by unfold inB; exact decide_eq_true (by omega)
  have x1 : impl_SignMessage.v i k v s f d b m = some (k, v, s, i, d, b, t, 0) := by
    rw [impl_SignMessage.v_eq, impl_within_v, Option.bind_some, hi, if_pos rfl, n8, Option.bind_some, impl_MessageOK_v, Option.bind_some, b1, if_pos rfl, impl_signed.v_eq]
    rw [impl_bareText_v _ _ _ _ _ _ _ (by omega) (by omega), Option.bind_some] at t2 ⊢
    rw [t2]
    rfl
  have x2 : spec_SignMessage.v i k v s f d b m = some (k, v, s, i, d, b, t, 0) := by
    rw [spec_SignMessage.v_eq, spec_l01In_v, Option.bind_some, hi, if_pos rfl, spec_MessageOK_v, Option.bind_some, b2, if_pos rfl, spec_l06Sign.v_eq, hp]
    rw [spec_l02Plain_v _ _ _ _ _ _ _ (by omega) (by omega), Option.bind_some] at t1 ⊢
    rw [t1]
    rfl
  have b3 : msgB k v s i d b t = true := msgB_marked hB i2 (by omega) t3
  have x3 : impl_MessageSigned.v 4 k v s i d b t = some true := by
    obtain ⟨q, q1, q2⟩ := nodes_one 4
    have hq : q = true := by
      rw [spec_l04Nodes.v_eq] at q1
      cases q
      · exact absurd q1 (by decide)
      · rfl
    subst hq
    rw [impl_MessageSigned.v_eq, q2, Option.bind_some, if_pos rfl, impl_MessageOK_v, Option.bind_some, b3, if_pos rfl, if_pos (by omega)]
    rw [impl_bareText_v _ _ _ _ _ _ _ (by omega) (by omega), Option.bind_some] at t2 ⊢
    rw [t2, Option.bind_some, beq_self_eq_true]
  rw [laws_FnSigned.jv0_eq, if_neg (by simpa using h1), e, Option.bind_some]
  simp only [i1, x1, x2, x3, Option.bind_some, if_true, Bool.not_true]
  rw [if_neg (by simp)]
  exact FnSigned_jv1 y1 g1.2 (by omega) i k v s i d b t (by omega) (by omega)
end Go.Proofs.YtadablpppkjdbaaDoor.A
end
