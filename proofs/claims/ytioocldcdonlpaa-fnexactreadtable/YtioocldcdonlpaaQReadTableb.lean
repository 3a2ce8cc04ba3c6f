/- A part of the proof that FnExactReadTable returns true at every input: plain functions, contracts and lemmas. No conditions. -/
import Derived.Test.YtioocldcdonlpaaQReadTablea
set_option linter.unusedVariables false
set_option linter.unusedSimpArgs false
set_option linter.unusedSectionVars false
section
namespace Go.Proofs.Ytioocldcdonlpaa.B
open Go.RowKit Go.Proofs.YtioocldcdonlpaaW.PrintWords Go.Proofs.YtioocldcdonlpaaW.PrintLast Go.Proofs.YtioocldcdonlpaaW.PrintMore
attribute [local go_sem] max2_int min2_int max_two min_two max_three min_three max_four min_four
mutual
def impl_isLock.j0 : Nat → Bool → ByteArray → Int → Int → Int → List (S80) → Option (Bool)
  | 0, _, _, _, _, _, _ => none
  | k + 1, x36, x251000, x251001, x251002, x251003, x251004 => if x36 = true then (some false) else (if x251002 = (-1) then (if x251003 = 0 then (impl_isLock.j1 k (decide ((x251004.length : Int) > 0)) x251000 x251001 x251002 x251003 x251004) else (impl_isLock.j1 k true x251000 x251001 x251002 x251003 x251004)) else (impl_isLock.j1 k false x251000 x251001 x251002 x251003 x251004))
def impl_isLock.j1 : Nat → Bool → ByteArray → Int → Int → Int → List (S80) → Option (Bool)
  | 0, _, _, _, _, _, _ => none
  | k + 1, x50, x251000, x251001, x251002, x251003, x251004 => if x50 = true then (some false) else (impl_isLock.l0 k x251004 (x251004.length : Int) 0 x251000 x251001 x251002 x251003 x251004)
def impl_isLock.l0 : Nat → List (S80) → Int → Int → ByteArray → Int → Int → Int → List (S80) → Option (Bool)
  | 0, _, _, _, _, _, _, _, _ => none
  | k + 1, x52, x53, x54, x251000, x251001, x251002, x251003, x251004 => if x54 < x53 then (if 0 ≤ x54 then (if x54 < (x52.length : Int) then ((impl_within.f ((rd_T80 x52 x54).f0) 0 255).bind fun t257 => (if t257 = true then (if ((rd_T80 x52 x54).f0) = x251002 then (some false) else ((impl_within.f ((rd_T80 x52 x54).f1) 1 1000).bind fun t258 => (if t258 = true then ((impl_Lock_waits.f x251000 x251001 x251002 x251003 x251004 ((rd_T80 x52 x54).f0)).bind fun t259 => (if t259 < x54 then (some false) else (impl_isLock.l0 k x52 x53 (wrap64 (x54 + 1)) x251000 x251001 x251002 x251003 x251004))) else (some false)))) else (some false))) else (none)) else (none)) else (some true)
end
def impl_isLock.f (k : Nat) (a0_0 : ByteArray) (a0_1 : Int) (a0_2 : Int) (a0_3 : Int) (l0_4 : List (S80)) (a1 : Int) : Option (Bool) := (impl_isOpName.f k a0_0).bind fun t251 => (if t251 = true then ((impl_within.f a0_1 0 (wrap64 (a1 - 1))).bind fun t252 => (if t252 = true then ((impl_within.f a0_2 (-1) 255).bind fun t253 => (if t253 = true then ((impl_within.f a0_3 0 2000000000).bind fun t254 => (if t254 = true then (impl_isLock.j0 k (decide ((l0_4.length : Int) > 4)) a0_0 a0_1 a0_2 a0_3 l0_4) else (impl_isLock.j0 k true a0_0 a0_1 a0_2 a0_3 l0_4))) else (impl_isLock.j0 k true a0_0 a0_1 a0_2 a0_3 l0_4))) else (impl_isLock.j0 k true a0_0 a0_1 a0_2 a0_3 l0_4))) else (impl_isLock.j0 k true a0_0 a0_1 a0_2 a0_3 l0_4))
theorem impl_isLock.mono_l : ∀ k, (∀ y0 y1 y2 y3 y4 y5, LeO (impl_isLock.j0 k y0 y1 y2 y3 y4 y5) (impl_isLock.j0 (k + 1) y0 y1 y2 y3 y4 y5)) ∧ (∀ y0 y1 y2 y3 y4 y5, LeO (impl_isLock.j1 k y0 y1 y2 y3 y4 y5) (impl_isLock.j1 (k + 1) y0 y1 y2 y3 y4 y5)) ∧ (∀ y0 y1 y2 y3 y4 y5 y6 y7, LeO (impl_isLock.l0 k y0 y1 y2 y3 y4 y5 y6 y7) (impl_isLock.l0 (k + 1) y0 y1 y2 y3 y4 y5 y6 y7))
  | 0 => ⟨fun _ _ _ _ _ _ r h => by simp [impl_isLock.j0] at h, fun _ _ _ _ _ _ r h => by simp [impl_isLock.j1] at h, fun _ _ _ _ _ _ _ _ r h => by simp [impl_isLock.l0] at h⟩
  | k + 1 => by
    obtain ⟨ih0, ih1, ih2⟩ := impl_isLock.mono_l k
    refine ⟨?_, ?_, ?_⟩
    · intro y0 y1 y2 y3 y4 y5
      unfold impl_isLock.j0
      repeat' first
      | (with_reducible exact ih0 _ _ _ _ _ _)
      | (with_reducible exact ih1 _ _ _ _ _ _)
      | (with_reducible exact ih2 _ _ _ _ _ _ _ _)
      | (with_reducible exact impl_isOpName.mono _ _)
      | (with_reducible exact LeO.refl _)
      | (with_reducible exact LeO.none _)
      | (with_reducible refine LeO.ite ?_ ?_)
      | (with_reducible refine LeO.bind ?_ (fun _ => ?_))
      | exact ih0 _ _ _ _ _ _
      | exact ih1 _ _ _ _ _ _
      | exact ih2 _ _ _ _ _ _ _ _
      | exact impl_isOpName.mono _ _
      | exact LeO.none _
      | refine LeO.ite ?_ ?_
      | refine LeO.bind ?_ (fun _ => ?_)
    · intro y0 y1 y2 y3 y4 y5
      unfold impl_isLock.j1
      repeat' first
      | (with_reducible exact ih0 _ _ _ _ _ _)
      | (with_reducible exact ih1 _ _ _ _ _ _)
      | (with_reducible exact ih2 _ _ _ _ _ _ _ _)
      | (with_reducible exact impl_isOpName.mono _ _)
      | (with_reducible exact LeO.refl _)
      | (with_reducible exact LeO.none _)
      | (with_reducible refine LeO.ite ?_ ?_)
      | (with_reducible refine LeO.bind ?_ (fun _ => ?_))
      | exact ih0 _ _ _ _ _ _
      | exact ih1 _ _ _ _ _ _
      | exact ih2 _ _ _ _ _ _ _ _
      | exact impl_isOpName.mono _ _
      | exact LeO.none _
      | refine LeO.ite ?_ ?_
      | refine LeO.bind ?_ (fun _ => ?_)
    · intro y0 y1 y2 y3 y4 y5 y6 y7
      unfold impl_isLock.l0
      repeat' first
      | (with_reducible exact ih0 _ _ _ _ _ _)
      | (with_reducible exact ih1 _ _ _ _ _ _)
      | (with_reducible exact ih2 _ _ _ _ _ _ _ _)
      | (with_reducible exact impl_isOpName.mono _ _)
      | (with_reducible exact LeO.refl _)
      | (with_reducible exact LeO.none _)
      | (with_reducible refine LeO.ite ?_ ?_)
      | (with_reducible refine LeO.bind ?_ (fun _ => ?_))
      | exact ih0 _ _ _ _ _ _
      | exact ih1 _ _ _ _ _ _
      | exact ih2 _ _ _ _ _ _ _ _
      | exact impl_isOpName.mono _ _
      | exact LeO.none _
      | refine LeO.ite ?_ ?_
      | refine LeO.bind ?_ (fun _ => ?_)
theorem impl_isLock.mono : ∀ a0 a1 a2 a3 a4 a5 k, LeO (impl_isLock.f k a0 a1 a2 a3 a4 a5) (impl_isLock.f (k + 1) a0 a1 a2 a3 a4 a5) := by
  intro a0 a1 a2 a3 a4 a5 k
  obtain ⟨ih0, ih1, ih2⟩ := impl_isLock.mono_l k
  unfold impl_isLock.f
  repeat' first
      | (with_reducible exact ih0 _ _ _ _ _ _)
      | (with_reducible exact ih1 _ _ _ _ _ _)
      | (with_reducible exact ih2 _ _ _ _ _ _ _ _)
      | (with_reducible exact impl_isOpName.mono _ _)
      | (with_reducible exact LeO.refl _)
      | (with_reducible exact LeO.none _)
      | (with_reducible refine LeO.ite ?_ ?_)
      | (with_reducible refine LeO.bind ?_ (fun _ => ?_))
      | exact ih0 _ _ _ _ _ _
      | exact ih1 _ _ _ _ _ _
      | exact ih2 _ _ _ _ _ _ _ _
      | exact impl_isOpName.mono _ _
      | exact LeO.none _
      | refine LeO.ite ?_ ?_
      | refine LeO.bind ?_ (fun _ => ?_)
def impl_isAnswer.f (a0_0 : Int) (a0_1 : Int) (a0_2 : Int) (a0_3 : Int) : Option (Bool) := (impl_within.f a0_0 1 8).bind fun t261 => (if t261 = true then ((impl_within.f a0_1 0 1000000).bind fun t262 => (if t262 = true then ((impl_within.f a0_2 (-1) 255).bind fun t263 => (if t263 = true then ((impl_within.f a0_3 0 2000000000).bind fun t264 => (some t264)) else (some false))) else (some false))) else (some false))
mutual
def impl_TableOK.j0 : Nat → Bool → Int → Int → List (S78) → List (S84) → Option (Bool)
  | 0, _, _, _, _, _ => none
  | k + 1, x28, x266000, x266001, x266002, x266003 => if x28 = true then (some false) else (impl_TableOK.l0 k x266002 (x266002.length : Int) 0 x266000 x266001 x266002 x266003)
def impl_TableOK.l0 : Nat → List (S78) → Int → Int → Int → Int → List (S78) → List (S84) → Option (Bool)
  | 0, _, _, _, _, _, _, _ => none
  | k + 1, x30, x31, x32, x266000, x266001, x266002, x266003 => if x32 < x31 then (if 0 ≤ x32 then (if x32 < (x30.length : Int) then ((impl_isLock.f k ((rd_T78 x30 x32).f0) ((rd_T78 x30 x32).f1) ((rd_T78 x30 x32).f2) ((rd_T78 x30 x32).f3) ((rd_T78 x30 x32).f4) x266001).bind fun t270 => (if t270 = true then (if x32 > 0 then (if 0 ≤ (wrap64 (x32 - 1)) then (if (wrap64 (x32 - 1)) < (x266002.length : Int) then (if ((Op.bytesLess (((rd_T78 x266002 (wrap64 (x32 - 1))).f0).toList) (((rd_T78 x30 x32).f0).toList)) = true) then (impl_TableOK.l0 k x30 x31 (wrap64 (x32 + 1)) x266000 x266001 x266002 x266003) else (some false)) else (none)) else (none)) else (impl_TableOK.l0 k x30 x31 (wrap64 (x32 + 1)) x266000 x266001 x266002 x266003)) else (some false))) else (none)) else (none)) else (impl_TableOK.l1 k x266003 (x266003.length : Int) 0 x266000 x266001 x266002 x266003)
def impl_TableOK.l1 : Nat → List (S84) → Int → Int → Int → Int → List (S78) → List (S84) → Option (Bool)
  | 0, _, _, _, _, _, _, _ => none
  | k + 1, x60, x61, x62, x266000, x266001, x266002, x266003 => if x62 < x61 then (if 0 ≤ x62 then (if x62 < (x60.length : Int) then ((impl_within.f ((rd_T84 x60 x62).f0) 0 255).bind fun t274 => (if t274 = true then ((impl_within.f ((rd_T84 x60 x62).f1) 1 65535).bind fun t275 => (if t275 = true then ((impl_isAnswer.f ((rd_T84 x60 x62).f2.f0) ((rd_T84 x60 x62).f2.f1) ((rd_T84 x60 x62).f2.f2) ((rd_T84 x60 x62).f2.f3)).bind fun t276 => (if t276 = true then (if x62 > 0 then (if 0 ≤ (wrap64 (x62 - 1)) then (if (wrap64 (x62 - 1)) < (x266003.length : Int) then (if ((rd_T84 x266003 (wrap64 (x62 - 1))).f0) ≥ ((rd_T84 x60 x62).f0) then (some false) else (impl_TableOK.l1 k x60 x61 (wrap64 (x62 + 1)) x266000 x266001 x266002 x266003)) else (none)) else (none)) else (impl_TableOK.l1 k x60 x61 (wrap64 (x62 + 1)) x266000 x266001 x266002 x266003)) else (some false))) else (some false))) else (some false))) else (none)) else (none)) else (some true)
end
def impl_TableOK.f (k : Nat) (a0_0 : Int) (a0_1 : Int) (l0_2 : List (S78)) (l0_3 : List (S84)) : Option (Bool) := (impl_within.f a0_0 0 1000000000).bind fun t266 => (if t266 = true then ((impl_within.f a0_1 1 1000000).bind fun t267 => (if t267 = true then (if (l0_2.length : Int) > 4 then (impl_TableOK.j0 k true a0_0 a0_1 l0_2 l0_3) else (impl_TableOK.j0 k (decide ((l0_3.length : Int) > 6)) a0_0 a0_1 l0_2 l0_3)) else (impl_TableOK.j0 k true a0_0 a0_1 l0_2 l0_3))) else (impl_TableOK.j0 k true a0_0 a0_1 l0_2 l0_3))
theorem impl_TableOK.mono_l : ∀ k, (∀ y0 y1 y2 y3 y4, LeO (impl_TableOK.j0 k y0 y1 y2 y3 y4) (impl_TableOK.j0 (k + 1) y0 y1 y2 y3 y4)) ∧ (∀ y0 y1 y2 y3 y4 y5 y6, LeO (impl_TableOK.l0 k y0 y1 y2 y3 y4 y5 y6) (impl_TableOK.l0 (k + 1) y0 y1 y2 y3 y4 y5 y6)) ∧ (∀ y0 y1 y2 y3 y4 y5 y6, LeO (impl_TableOK.l1 k y0 y1 y2 y3 y4 y5 y6) (impl_TableOK.l1 (k + 1) y0 y1 y2 y3 y4 y5 y6))
  | 0 => ⟨fun _ _ _ _ _ r h => by simp [impl_TableOK.j0] at h, fun _ _ _ _ _ _ _ r h => by simp [impl_TableOK.l0] at h, fun _ _ _ _ _ _ _ r h => by simp [impl_TableOK.l1] at h⟩
  | k + 1 => by
    obtain ⟨ih0, ih1, ih2⟩ := impl_TableOK.mono_l k
    refine ⟨?_, ?_, ?_⟩
    · intro y0 y1 y2 y3 y4
      unfold impl_TableOK.j0
      repeat' first
      | (with_reducible exact ih0 _ _ _ _ _)
      | (with_reducible exact ih1 _ _ _ _ _ _ _)
      | (with_reducible exact ih2 _ _ _ _ _ _ _)
      | (with_reducible exact impl_isLock.mono _ _ _ _ _ _ _)
      | (with_reducible exact LeO.refl _)
      | (with_reducible exact LeO.none _)
      | (with_reducible refine LeO.ite ?_ ?_)
      | (with_reducible refine LeO.bind ?_ (fun _ => ?_))
      | exact ih0 _ _ _ _ _
      | exact ih1 _ _ _ _ _ _ _
      | exact ih2 _ _ _ _ _ _ _
      | exact impl_isLock.mono _ _ _ _ _ _ _
      | exact LeO.none _
      | refine LeO.ite ?_ ?_
      | refine LeO.bind ?_ (fun _ => ?_)
    · intro y0 y1 y2 y3 y4 y5 y6
      unfold impl_TableOK.l0
      repeat' first
      | (with_reducible exact ih0 _ _ _ _ _)
      | (with_reducible exact ih1 _ _ _ _ _ _ _)
      | (with_reducible exact ih2 _ _ _ _ _ _ _)
      | (with_reducible exact impl_isLock.mono _ _ _ _ _ _ _)
      | (with_reducible exact LeO.refl _)
      | (with_reducible exact LeO.none _)
      | (with_reducible refine LeO.ite ?_ ?_)
      | (with_reducible refine LeO.bind ?_ (fun _ => ?_))
      | exact ih0 _ _ _ _ _
      | exact ih1 _ _ _ _ _ _ _
      | exact ih2 _ _ _ _ _ _ _
      | exact impl_isLock.mono _ _ _ _ _ _ _
      | exact LeO.none _
      | refine LeO.ite ?_ ?_
      | refine LeO.bind ?_ (fun _ => ?_)
    · intro y0 y1 y2 y3 y4 y5 y6
      unfold impl_TableOK.l1
      repeat' first
      | (with_reducible exact ih0 _ _ _ _ _)
      | (with_reducible exact ih1 _ _ _ _ _ _ _)
      | (with_reducible exact ih2 _ _ _ _ _ _ _)
      | (with_reducible exact impl_isLock.mono _ _ _ _ _ _ _)
      | (with_reducible exact LeO.refl _)
      | (with_reducible exact LeO.none _)
      | (with_reducible refine LeO.ite ?_ ?_)
      | (with_reducible refine LeO.bind ?_ (fun _ => ?_))
      | exact ih0 _ _ _ _ _
      | exact ih1 _ _ _ _ _ _ _
      | exact ih2 _ _ _ _ _ _ _
      | exact impl_isLock.mono _ _ _ _ _ _ _
      | exact LeO.none _
      | refine LeO.ite ?_ ?_
      | refine LeO.bind ?_ (fun _ => ?_)
theorem impl_TableOK.mono : ∀ a0 a1 a2 a3 k, LeO (impl_TableOK.f k a0 a1 a2 a3) (impl_TableOK.f (k + 1) a0 a1 a2 a3) := by
  intro a0 a1 a2 a3 k
  obtain ⟨ih0, ih1, ih2⟩ := impl_TableOK.mono_l k
  unfold impl_TableOK.f
  repeat' first
      | (with_reducible exact ih0 _ _ _ _ _)
      | (with_reducible exact ih1 _ _ _ _ _ _ _)
      | (with_reducible exact ih2 _ _ _ _ _ _ _)
      | (with_reducible exact impl_isLock.mono _ _ _ _ _ _ _)
      | (with_reducible exact LeO.refl _)
      | (with_reducible exact LeO.none _)
      | (with_reducible refine LeO.ite ?_ ?_)
      | (with_reducible refine LeO.bind ?_ (fun _ => ?_))
      | exact ih0 _ _ _ _ _
      | exact ih1 _ _ _ _ _ _ _
      | exact ih2 _ _ _ _ _ _ _
      | exact impl_isLock.mono _ _ _ _ _ _ _
      | exact LeO.none _
      | refine LeO.ite ?_ ?_
      | refine LeO.bind ?_ (fun _ => ?_)
mutual
def impl_readTable.l0 : Nat → Int → Int → ByteArray → Bool → Int → Int → List (S78) → Option (Int × Int × (List (S78)) × (List (S84)) × Bool)
  | 0, _, _, _, _, _, _, _ => none
  | k + 1, x17, x18, x280000, x280001, x287000, x287001, x287002 => if x18 < x17 then ((impl_reader_sized.f k x280000 x280001 1).bind fun bt290 => ((impl_reader_number.f k bt290.2.1 bt290.2.2 3).bind fun bt293 => ((impl_reader_number.f k bt293.2.1 bt293.2.2 2).bind fun bt296 => ((impl_reader_number.f k bt296.2.1 bt296.2.2 4).bind fun bt299 => ((impl_reader_number.f k bt299.2.1 bt299.2.2 1).bind fun bt303 => (impl_readTable.l1 k x17 x18 bt303.1 0 bt303.2.1 bt303.2.2 x287000 x287001 x287002 bt290.1 bt293.1 (wrap64 (bt296.1 - 1)) bt299.1 ([] : List (S80)))))))) else ((impl_reader_number.f k x280000 x280001 1).bind fun bt318 => (impl_readTable.l2 k bt318.1 0 bt318.2.1 bt318.2.2 x287000 x287001 x287002 ([] : List (S84))))
def impl_readTable.l1 : Nat → Int → Int → Int → Int → ByteArray → Bool → Int → Int → List (S78) → ByteArray → Int → Int → Int → List (S80) → Option (Int × Int × (List (S78)) × (List (S84)) × Bool)
  | 0, _, _, _, _, _, _, _, _, _, _, _, _, _, _ => none
  | k + 1, x17, x18, x31, x32, x280000, x280001, x287000, x287001, x287002, x303000, x303001, x303002, x303003, x303004 => if x32 < x31 then ((impl_reader_number.f k x280000 x280001 1).bind fun bt306 => ((impl_reader_number.f k bt306.2.1 bt306.2.2 2).bind fun bt309 => (if x303004.length < 8796093022208 then (impl_readTable.l1 k x17 x18 x31 (wrap64 (x32 + 1)) bt309.2.1 bt309.2.2 x287000 x287001 x287002 x303000 x303001 x303002 x303003 (x303004 ++ [(⟨bt306.1, bt309.1⟩ : S80)])) else (none)))) else (if x287002.length < 2199023255552 then (impl_readTable.l0 k x17 (wrap64 (x18 + 1)) x280000 x280001 x287000 x287001 (x287002 ++ [(⟨x303000, x303001, x303002, x303003, x303004⟩ : S78)])) else (none))
def impl_readTable.l2 : Nat → Int → Int → ByteArray → Bool → Int → Int → List (S78) → List (S84) → Option (Int × Int × (List (S78)) × (List (S84)) × Bool)
  | 0, _, _, _, _, _, _, _, _ => none
  | k + 1, x53, x54, x280000, x280001, x287000, x287001, x287002, x287003 => if x54 < x53 then ((impl_reader_number.f k x280000 x280001 1).bind fun bt321 => ((impl_reader_number.f k bt321.2.1 bt321.2.2 2).bind fun bt324 => ((impl_reader_number.f k bt324.2.1 bt324.2.2 1).bind fun bt328 => ((impl_reader_number.f k bt328.2.1 bt328.2.2 3).bind fun bt331 => ((impl_reader_number.f k bt331.2.1 bt331.2.2 2).bind fun bt334 => ((impl_reader_number.f k bt334.2.1 bt334.2.2 4).bind fun bt337 => (if x287003.length < 2932031007402 then (impl_readTable.l2 k x53 (wrap64 (x54 + 1)) bt337.2.1 bt337.2.2 x287000 x287001 x287002 (x287003 ++ [(⟨bt321.1, bt324.1, (⟨bt328.1, bt331.1, wrap64 (bt334.1 - 1), bt337.1⟩ : S82)⟩ : S84)])) else (none)))))))) else ((impl_reader_done.f x280000 x280001).bind fun bt343 => (if bt343.1 = true then ((impl_TableOK.f k x287000 x287001 x287002 x287003).bind fun t346 => (if t346 = true then (some (x287000, x287001, x287002, x287003, true)) else (some (0, 0, ([] : List (S78)), ([] : List (S84)), false)))) else (some (0, 0, ([] : List (S78)), ([] : List (S84)), false))))
end
def impl_readTable.f (k : Nat) (a0 : ByteArray) : Option (Int × Int × (List (S78)) × (List (S84)) × Bool) := (impl_reader_number.f k a0 false 4).bind fun bt280 => ((impl_reader_number.f k bt280.2.1 bt280.2.2 3).bind fun bt283 => ((impl_reader_number.f k bt283.2.1 bt283.2.2 1).bind fun bt287 => (impl_readTable.l0 k bt287.1 0 bt287.2.1 bt287.2.2 bt280.1 bt283.1 ([] : List (S78)))))
theorem impl_readTable.mono_l : ∀ k, (∀ y0 y1 y2 y3 y4 y5 y6, LeO (impl_readTable.l0 k y0 y1 y2 y3 y4 y5 y6) (impl_readTable.l0 (k + 1) y0 y1 y2 y3 y4 y5 y6)) ∧ (∀ y0 y1 y2 y3 y4 y5 y6 y7 y8 y9 y10 y11 y12 y13, LeO (impl_readTable.l1 k y0 y1 y2 y3 y4 y5 y6 y7 y8 y9 y10 y11 y12 y13) (impl_readTable.l1 (k + 1) y0 y1 y2 y3 y4 y5 y6 y7 y8 y9 y10 y11 y12 y13)) ∧ (∀ y0 y1 y2 y3 y4 y5 y6 y7, LeO (impl_readTable.l2 k y0 y1 y2 y3 y4 y5 y6 y7) (impl_readTable.l2 (k + 1) y0 y1 y2 y3 y4 y5 y6 y7))
  | 0 => ⟨fun _ _ _ _ _ _ _ r h => by simp [impl_readTable.l0] at h, fun _ _ _ _ _ _ _ _ _ _ _ _ _ _ r h => by simp [impl_readTable.l1] at h, fun _ _ _ _ _ _ _ _ r h => by simp [impl_readTable.l2] at h⟩
  | k + 1 => by
    obtain ⟨ih0, ih1, ih2⟩ := impl_readTable.mono_l k
    refine ⟨?_, ?_, ?_⟩
    · intro y0 y1 y2 y3 y4 y5 y6
      unfold impl_readTable.l0
      repeat' first
      | (with_reducible exact ih0 _ _ _ _ _ _ _)
      | (with_reducible exact ih1 _ _ _ _ _ _ _ _ _ _ _ _ _ _)
      | (with_reducible exact ih2 _ _ _ _ _ _ _ _)
      | (with_reducible exact impl_TableOK.mono _ _ _ _ _)
      | (with_reducible exact impl_reader_number.mono _ _ _ _)
      | (with_reducible exact impl_reader_sized.mono _ _ _ _)
      | (with_reducible exact LeO.refl _)
      | (with_reducible exact LeO.none _)
      | (with_reducible refine LeO.ite ?_ ?_)
      | (with_reducible refine LeO.bind ?_ (fun _ => ?_))
      | exact ih0 _ _ _ _ _ _ _
      | exact ih1 _ _ _ _ _ _ _ _ _ _ _ _ _ _
      | exact ih2 _ _ _ _ _ _ _ _
      | exact impl_TableOK.mono _ _ _ _ _
      | exact impl_reader_number.mono _ _ _ _
      | exact impl_reader_sized.mono _ _ _ _
      | exact LeO.none _
      | refine LeO.ite ?_ ?_
      | refine LeO.bind ?_ (fun _ => ?_)
    · intro y0 y1 y2 y3 y4 y5 y6 y7 y8 y9 y10 y11 y12 y13
      unfold impl_readTable.l1
      repeat' first
      | (with_reducible exact ih0 _ _ _ _ _ _ _)
      | (with_reducible exact ih1 _ _ _ _ _ _ _ _ _ _ _ _ _ _)
      | (with_reducible exact ih2 _ _ _ _ _ _ _ _)
      | (with_reducible exact impl_TableOK.mono _ _ _ _ _)
      | (with_reducible exact impl_reader_number.mono _ _ _ _)
      | (with_reducible exact impl_reader_sized.mono _ _ _ _)
      | (with_reducible exact LeO.refl _)
      | (with_reducible exact LeO.none _)
      | (with_reducible refine LeO.ite ?_ ?_)
      | (with_reducible refine LeO.bind ?_ (fun _ => ?_))
      | exact ih0 _ _ _ _ _ _ _
      | exact ih1 _ _ _ _ _ _ _ _ _ _ _ _ _ _
      | exact ih2 _ _ _ _ _ _ _ _
      | exact impl_TableOK.mono _ _ _ _ _
      | exact impl_reader_number.mono _ _ _ _
      | exact impl_reader_sized.mono _ _ _ _
      | exact LeO.none _
      | refine LeO.ite ?_ ?_
      | refine LeO.bind ?_ (fun _ => ?_)
    · intro y0 y1 y2 y3 y4 y5 y6 y7
      unfold impl_readTable.l2
      repeat' first
      | (with_reducible exact ih0 _ _ _ _ _ _ _)
      | (with_reducible exact ih1 _ _ _ _ _ _ _ _ _ _ _ _ _ _)
      | (with_reducible exact ih2 _ _ _ _ _ _ _ _)
      | (with_reducible exact impl_TableOK.mono _ _ _ _ _)
      | (with_reducible exact impl_reader_number.mono _ _ _ _)
      | (with_reducible exact impl_reader_sized.mono _ _ _ _)
      | (with_reducible exact LeO.refl _)
      | (with_reducible exact LeO.none _)
      | (with_reducible refine LeO.ite ?_ ?_)
      | (with_reducible refine LeO.bind ?_ (fun _ => ?_))
      | exact ih0 _ _ _ _ _ _ _
      | exact ih1 _ _ _ _ _ _ _ _ _ _ _ _ _ _
      | exact ih2 _ _ _ _ _ _ _ _
      | exact impl_TableOK.mono _ _ _ _ _
      | exact impl_reader_number.mono _ _ _ _
      | exact impl_reader_sized.mono _ _ _ _
      | exact LeO.none _
      | refine LeO.ite ?_ ?_
      | refine LeO.bind ?_ (fun _ => ?_)
theorem impl_readTable.mono : ∀ a0 k, LeO (impl_readTable.f k a0) (impl_readTable.f (k + 1) a0) := by
  intro a0 k
  obtain ⟨ih0, ih1, ih2⟩ := impl_readTable.mono_l k
  unfold impl_readTable.f
  repeat' first
      | (with_reducible exact ih0 _ _ _ _ _ _ _)
      | (with_reducible exact ih1 _ _ _ _ _ _ _ _ _ _ _ _ _ _)
      | (with_reducible exact ih2 _ _ _ _ _ _ _ _)
      | (with_reducible exact impl_TableOK.mono _ _ _ _ _)
      | (with_reducible exact impl_reader_number.mono _ _ _ _)
      | (with_reducible exact impl_reader_sized.mono _ _ _ _)
      | (with_reducible exact LeO.refl _)
      | (with_reducible exact LeO.none _)
      | (with_reducible refine LeO.ite ?_ ?_)
      | (with_reducible refine LeO.bind ?_ (fun _ => ?_))
      | exact ih0 _ _ _ _ _ _ _
      | exact ih1 _ _ _ _ _ _ _ _ _ _ _ _ _ _
      | exact ih2 _ _ _ _ _ _ _ _
      | exact impl_TableOK.mono _ _ _ _ _
      | exact impl_reader_number.mono _ _ _ _
      | exact impl_reader_sized.mono _ _ _ _
      | exact LeO.none _
      | refine LeO.ite ?_ ?_
      | refine LeO.bind ?_ (fun _ => ?_)
def impl_ReadTable.f (k : Nat) (l0 : List Int) : Option (Int × Int × (List (S78)) × (List (S84)) × Int) := if (l0.length : Int) > 65536 then (some (0, 0, ([] : List (S78)), ([] : List (S84)), 2)) else ((impl_readTable.f k (strOfNums l0)).bind fun bt348 => (if bt348.2.2.2.2 = true then (some (bt348.1, bt348.2.1, bt348.2.2.1, bt348.2.2.2.1, 0)) else (some (0, 0, ([] : List (S78)), ([] : List (S84)), 3))))
theorem impl_ReadTable.mono : ∀ a0 k, LeO (impl_ReadTable.f k a0) (impl_ReadTable.f (k + 1) a0) := by
  intro a0 k
  unfold impl_ReadTable.f
  repeat' first
      | (with_reducible exact impl_readTable.mono _ _)
      | (with_reducible exact LeO.refl _)
      | (with_reducible exact LeO.none _)
      | (with_reducible refine LeO.ite ?_ ?_)
      | (with_reducible refine LeO.bind ?_ (fun _ => ?_))
      | exact impl_readTable.mono _ _
      | exact LeO.none _
      | refine LeO.ite ?_ ?_
      | refine LeO.bind ?_ (fun _ => ?_)
def laws_eqWaiter.f (a0_0 : Int) (a0_1 : Int) (a1_0 : Int) (a1_1 : Int) : Option (Bool) := if a0_0 = a1_0 then (if a0_1 = a1_1 then (some true) else (some false)) else (some false)
def laws_eqWaiterS.l0 : Nat → List (S80) → List (S80) → Int → Option (Bool)
  | 0, _, _, _ => none
  | k + 1, x0, x1, x5 => if x5 < (x0.length : Int) then (if 0 ≤ x5 then (if x5 < (x1.length : Int) then ((laws_eqWaiter.f ((rd_T80 x0 x5).f0) ((rd_T80 x0 x5).f1) ((rd_T80 x1 x5).f0) ((rd_T80 x1 x5).f1)).bind fun t362 => (if t362 = true then (laws_eqWaiterS.l0 k x0 x1 (wrap64 (x5 + 1))) else (some false))) else (none)) else (none)) else (some true)
def laws_eqWaiterS.f (k : Nat) (l0 : List (S80)) (l1 : List (S80)) : Option (Bool) := if (l0.length : Int) = (l1.length : Int) then (laws_eqWaiterS.l0 k l0 l1 0) else (some false)
theorem laws_eqWaiterS.mono_l : ∀ k, (∀ y0 y1 y2, LeO (laws_eqWaiterS.l0 k y0 y1 y2) (laws_eqWaiterS.l0 (k + 1) y0 y1 y2))
  | 0 => fun _ _ _ r h => by simp [laws_eqWaiterS.l0] at h
  | k + 1 => by
    have ih0 := laws_eqWaiterS.mono_l k
    · intro y0 y1 y2
      unfold laws_eqWaiterS.l0
      repeat' first
      | (with_reducible exact ih0 _ _ _)
      | (with_reducible exact LeO.refl _)
      | (with_reducible exact LeO.none _)
      | (with_reducible refine LeO.ite ?_ ?_)
      | (with_reducible refine LeO.bind ?_ (fun _ => ?_))
      | exact ih0 _ _ _
      | exact LeO.none _
      | refine LeO.ite ?_ ?_
      | refine LeO.bind ?_ (fun _ => ?_)
theorem laws_eqWaiterS.mono : ∀ a0 a1 k, LeO (laws_eqWaiterS.f k a0 a1) (laws_eqWaiterS.f (k + 1) a0 a1) := by
  intro a0 a1 k
  have ih0 := laws_eqWaiterS.mono_l k
  unfold laws_eqWaiterS.f
  repeat' first
      | (with_reducible exact ih0 _ _ _)
      | (with_reducible exact LeO.refl _)
      | (with_reducible exact LeO.none _)
      | (with_reducible refine LeO.ite ?_ ?_)
      | (with_reducible refine LeO.bind ?_ (fun _ => ?_))
      | exact ih0 _ _ _
      | exact LeO.none _
      | refine LeO.ite ?_ ?_
      | refine LeO.bind ?_ (fun _ => ?_)
def laws_eqLock.f (k : Nat) (a0_0 : ByteArray) (a0_1 : Int) (a0_2 : Int) (a0_3 : Int) (l0_4 : List (S80)) (a1_0 : ByteArray) (a1_1 : Int) (a1_2 : Int) (a1_3 : Int) (l1_4 : List (S80)) : Option (Bool) := if a0_0.toList = a1_0.toList then (if a0_1 = a1_1 then (if a0_2 = a1_2 then (if a0_3 = a1_3 then ((laws_eqWaiterS.f k l0_4 l1_4).bind fun t365 => (if t365 = true then (some true) else (some false))) else (some false)) else (some false)) else (some false)) else (some false)
theorem laws_eqLock.mono : ∀ a0 a1 a2 a3 a4 a5 a6 a7 a8 a9 k, LeO (laws_eqLock.f k a0 a1 a2 a3 a4 a5 a6 a7 a8 a9) (laws_eqLock.f (k + 1) a0 a1 a2 a3 a4 a5 a6 a7 a8 a9) := by
  intro a0 a1 a2 a3 a4 a5 a6 a7 a8 a9 k
  unfold laws_eqLock.f
  repeat' first
      | (with_reducible exact laws_eqWaiterS.mono _ _ _)
      | (with_reducible exact LeO.refl _)
      | (with_reducible exact LeO.none _)
      | (with_reducible refine LeO.ite ?_ ?_)
      | (with_reducible refine LeO.bind ?_ (fun _ => ?_))
      | exact laws_eqWaiterS.mono _ _ _
      | exact LeO.none _
      | refine LeO.ite ?_ ?_
      | refine LeO.bind ?_ (fun _ => ?_)
def laws_eqLockS.l0 : Nat → List (S78) → List (S78) → Int → Option (Bool)
  | 0, _, _, _ => none
  | k + 1, x0, x1, x5 => if x5 < (x0.length : Int) then (if 0 ≤ x5 then (if x5 < (x1.length : Int) then ((laws_eqLock.f k ((rd_T78 x0 x5).f0) ((rd_T78 x0 x5).f1) ((rd_T78 x0 x5).f2) ((rd_T78 x0 x5).f3) ((rd_T78 x0 x5).f4) ((rd_T78 x1 x5).f0) ((rd_T78 x1 x5).f1) ((rd_T78 x1 x5).f2) ((rd_T78 x1 x5).f3) ((rd_T78 x1 x5).f4)).bind fun t368 => (if t368 = true then (laws_eqLockS.l0 k x0 x1 (wrap64 (x5 + 1))) else (some false))) else (none)) else (none)) else (some true)
def laws_eqLockS.f (k : Nat) (l0 : List (S78)) (l1 : List (S78)) : Option (Bool) := if (l0.length : Int) = (l1.length : Int) then (laws_eqLockS.l0 k l0 l1 0) else (some false)
theorem laws_eqLockS.mono_l : ∀ k, (∀ y0 y1 y2, LeO (laws_eqLockS.l0 k y0 y1 y2) (laws_eqLockS.l0 (k + 1) y0 y1 y2))
  | 0 => fun _ _ _ r h => by simp [laws_eqLockS.l0] at h
  | k + 1 => by
    have ih0 := laws_eqLockS.mono_l k
    · intro y0 y1 y2
      unfold laws_eqLockS.l0
      repeat' first
      | (with_reducible exact ih0 _ _ _)
      | (with_reducible exact laws_eqLock.mono _ _ _ _ _ _ _ _ _ _ _)
      | (with_reducible exact LeO.refl _)
      | (with_reducible exact LeO.none _)
      | (with_reducible refine LeO.ite ?_ ?_)
      | (with_reducible refine LeO.bind ?_ (fun _ => ?_))
      | exact ih0 _ _ _
      | exact laws_eqLock.mono _ _ _ _ _ _ _ _ _ _ _
      | exact LeO.none _
      | refine LeO.ite ?_ ?_
      | refine LeO.bind ?_ (fun _ => ?_)
theorem laws_eqLockS.mono : ∀ a0 a1 k, LeO (laws_eqLockS.f k a0 a1) (laws_eqLockS.f (k + 1) a0 a1) := by
  intro a0 a1 k
  have ih0 := laws_eqLockS.mono_l k
  unfold laws_eqLockS.f
  repeat' first
      | (with_reducible exact ih0 _ _ _)
      | (with_reducible exact laws_eqLock.mono _ _ _ _ _ _ _ _ _ _ _)
      | (with_reducible exact LeO.refl _)
      | (with_reducible exact LeO.none _)
      | (with_reducible refine LeO.ite ?_ ?_)
      | (with_reducible refine LeO.bind ?_ (fun _ => ?_))
      | exact ih0 _ _ _
      | exact laws_eqLock.mono _ _ _ _ _ _ _ _ _ _ _
      | exact LeO.none _
      | refine LeO.ite ?_ ?_
      | refine LeO.bind ?_ (fun _ => ?_)
def laws_eqAnswer.f (a0_0 : Int) (a0_1 : Int) (a0_2 : Int) (a0_3 : Int) (a1_0 : Int) (a1_1 : Int) (a1_2 : Int) (a1_3 : Int) : Option (Bool) := if a0_0 = a1_0 then (if a0_1 = a1_1 then (if a0_2 = a1_2 then (if a0_3 = a1_3 then (some true) else (some false)) else (some false)) else (some false)) else (some false)
def laws_eqSeen.f (a0_0 : Int) (a0_1 : Int) (a0_2 : Int) (a0_3 : Int) (a0_4 : Int) (a0_5 : Int) (a1_0 : Int) (a1_1 : Int) (a1_2 : Int) (a1_3 : Int) (a1_4 : Int) (a1_5 : Int) : Option (Bool) := if a0_0 = a1_0 then (if a0_1 = a1_1 then ((laws_eqAnswer.f a0_2 a0_3 a0_4 a0_5 a1_2 a1_3 a1_4 a1_5).bind fun t373 => (if t373 = true then (some true) else (some false))) else (some false)) else (some false)
def laws_eqSeenS.l0 : Nat → List (S84) → List (S84) → Int → Option (Bool)
  | 0, _, _, _ => none
  | k + 1, x0, x1, x5 => if x5 < (x0.length : Int) then (if 0 ≤ x5 then (if x5 < (x1.length : Int) then ((laws_eqSeen.f ((rd_T84 x0 x5).f0) ((rd_T84 x0 x5).f1) ((rd_T84 x0 x5).f2.f0) ((rd_T84 x0 x5).f2.f1) ((rd_T84 x0 x5).f2.f2) ((rd_T84 x0 x5).f2.f3) ((rd_T84 x1 x5).f0) ((rd_T84 x1 x5).f1) ((rd_T84 x1 x5).f2.f0) ((rd_T84 x1 x5).f2.f1) ((rd_T84 x1 x5).f2.f2) ((rd_T84 x1 x5).f2.f3)).bind fun t376 => (if t376 = true then (laws_eqSeenS.l0 k x0 x1 (wrap64 (x5 + 1))) else (some false))) else (none)) else (none)) else (some true)
def laws_eqSeenS.f (k : Nat) (l0 : List (S84)) (l1 : List (S84)) : Option (Bool) := if (l0.length : Int) = (l1.length : Int) then (laws_eqSeenS.l0 k l0 l1 0) else (some false)
theorem laws_eqSeenS.mono_l : ∀ k, (∀ y0 y1 y2, LeO (laws_eqSeenS.l0 k y0 y1 y2) (laws_eqSeenS.l0 (k + 1) y0 y1 y2))
  | 0 => fun _ _ _ r h => by simp [laws_eqSeenS.l0] at h
  | k + 1 => by
    have ih0 := laws_eqSeenS.mono_l k
    · intro y0 y1 y2
      unfold laws_eqSeenS.l0
      repeat' first
      | (with_reducible exact ih0 _ _ _)
      | (with_reducible exact LeO.refl _)
      | (with_reducible exact LeO.none _)
      | (with_reducible refine LeO.ite ?_ ?_)
      | (with_reducible refine LeO.bind ?_ (fun _ => ?_))
      | exact ih0 _ _ _
      | exact LeO.none _
      | refine LeO.ite ?_ ?_
      | refine LeO.bind ?_ (fun _ => ?_)
theorem laws_eqSeenS.mono : ∀ a0 a1 k, LeO (laws_eqSeenS.f k a0 a1) (laws_eqSeenS.f (k + 1) a0 a1) := by
  intro a0 a1 k
  have ih0 := laws_eqSeenS.mono_l k
  unfold laws_eqSeenS.f
  repeat' first
      | (with_reducible exact ih0 _ _ _)
      | (with_reducible exact LeO.refl _)
      | (with_reducible exact LeO.none _)
      | (with_reducible refine LeO.ite ?_ ?_)
      | (with_reducible refine LeO.bind ?_ (fun _ => ?_))
      | exact ih0 _ _ _
      | exact LeO.none _
      | refine LeO.ite ?_ ?_
      | refine LeO.bind ?_ (fun _ => ?_)
def laws_eqTable.f (k : Nat) (a0_0 : Int) (a0_1 : Int) (l0_2 : List (S78)) (l0_3 : List (S84)) (a1_0 : Int) (a1_1 : Int) (l1_2 : List (S78)) (l1_3 : List (S84)) : Option (Bool) := if a0_0 = a1_0 then (if a0_1 = a1_1 then ((laws_eqLockS.f k l0_2 l1_2).bind fun t379 => (if t379 = true then ((laws_eqSeenS.f k l0_3 l1_3).bind fun t380 => (if t380 = true then (some true) else (some false))) else (some false))) else (some false)) else (some false)
theorem laws_eqTable.mono : ∀ a0 a1 a2 a3 a4 a5 a6 a7 k, LeO (laws_eqTable.f k a0 a1 a2 a3 a4 a5 a6 a7) (laws_eqTable.f (k + 1) a0 a1 a2 a3 a4 a5 a6 a7) := by
  intro a0 a1 a2 a3 a4 a5 a6 a7 k
  unfold laws_eqTable.f
  repeat' first
      | (with_reducible exact laws_eqLockS.mono _ _ _)
      | (with_reducible exact laws_eqSeenS.mono _ _ _)
      | (with_reducible exact LeO.refl _)
      | (with_reducible exact LeO.none _)
      | (with_reducible refine LeO.ite ?_ ?_)
      | (with_reducible refine LeO.bind ?_ (fun _ => ?_))
      | exact laws_eqLockS.mono _ _ _
      | exact laws_eqSeenS.mono _ _ _
      | exact LeO.none _
      | refine LeO.ite ?_ ?_
      | refine LeO.bind ?_ (fun _ => ?_)
def laws_eqByteS.l0 : Nat → List Int → List Int → Int → Option (Bool)
  | 0, _, _, _ => none
  | k + 1, x0, x1, x5 => if x5 < (x0.length : Int) then (if 0 ≤ x5 then (if x5 < (x1.length : Int) then (if (rd x0 x5) = (rd x1 x5) then (laws_eqByteS.l0 k x0 x1 (wrap64 (x5 + 1))) else (some false)) else (none)) else (none)) else (some true)
def laws_eqByteS.f (k : Nat) (l0 : List Int) (l1 : List Int) : Option (Bool) := if (l0.length : Int) = (l1.length : Int) then (laws_eqByteS.l0 k l0 l1 0) else (some false)
theorem laws_eqByteS.mono_l : ∀ k, (∀ y0 y1 y2, LeO (laws_eqByteS.l0 k y0 y1 y2) (laws_eqByteS.l0 (k + 1) y0 y1 y2))
  | 0 => fun _ _ _ r h => by simp [laws_eqByteS.l0] at h
  | k + 1 => by
    have ih0 := laws_eqByteS.mono_l k
    · intro y0 y1 y2
      unfold laws_eqByteS.l0
      repeat' first
      | (with_reducible exact ih0 _ _ _)
      | (with_reducible exact LeO.refl _)
      | (with_reducible exact LeO.none _)
      | (with_reducible refine LeO.ite ?_ ?_)
      | (with_reducible refine LeO.bind ?_ (fun _ => ?_))
      | exact ih0 _ _ _
      | exact LeO.none _
      | refine LeO.ite ?_ ?_
      | refine LeO.bind ?_ (fun _ => ?_)
theorem laws_eqByteS.mono : ∀ a0 a1 k, LeO (laws_eqByteS.f k a0 a1) (laws_eqByteS.f (k + 1) a0 a1) := by
  intro a0 a1 k
  have ih0 := laws_eqByteS.mono_l k
  unfold laws_eqByteS.f
  repeat' first
      | (with_reducible exact ih0 _ _ _)
      | (with_reducible exact LeO.refl _)
      | (with_reducible exact LeO.none _)
      | (with_reducible refine LeO.ite ?_ ?_)
      | (with_reducible refine LeO.bind ?_ (fun _ => ?_))
      | exact ih0 _ _ _
      | exact LeO.none _
      | refine LeO.ite ?_ ?_
      | refine LeO.bind ?_ (fun _ => ?_)
def laws_markByteS.l0 : Nat → List Int → Int → Int → Option (Int × List Int)
  | 0, _, _, _ => none
  | k + 1, x0, x1, x5 => if x5 < (x0.length : Int) then (if 0 ≤ x5 then (laws_markByteS.l0 k (x0.set (x5 : Int).toNat ((x1) % 256)) (wrap64 (x1 + 1)) (wrap64 (x5 + 1))) else (none)) else (some (x1, x0))
def laws_markByteS.f (k : Nat) (l0 : List Int) (a1 : Int) : Option (Int × List Int) := laws_markByteS.l0 k l0 a1 0
theorem laws_markByteS.mono_l : ∀ k, (∀ y0 y1 y2, LeO (laws_markByteS.l0 k y0 y1 y2) (laws_markByteS.l0 (k + 1) y0 y1 y2))
  | 0 => fun _ _ _ r h => by simp [laws_markByteS.l0] at h
  | k + 1 => by
    have ih0 := laws_markByteS.mono_l k
    · intro y0 y1 y2
      unfold laws_markByteS.l0
      repeat' first
      | (with_reducible exact ih0 _ _ _)
      | (with_reducible exact LeO.refl _)
      | (with_reducible exact LeO.none _)
      | (with_reducible refine LeO.ite ?_ ?_)
      | (with_reducible refine LeO.bind ?_ (fun _ => ?_))
      | exact ih0 _ _ _
      | exact LeO.none _
      | refine LeO.ite ?_ ?_
      | refine LeO.bind ?_ (fun _ => ?_)
theorem laws_markByteS.mono : ∀ a0 a1 k, LeO (laws_markByteS.f k a0 a1) (laws_markByteS.f (k + 1) a0 a1) := by
  intro a0 a1 k
  have ih0 := laws_markByteS.mono_l k
  unfold laws_markByteS.f
  repeat' first
      | (with_reducible exact ih0 _ _ _)
      | (with_reducible exact LeO.refl _)
      | (with_reducible exact LeO.none _)
      | (with_reducible refine LeO.ite ?_ ?_)
      | (with_reducible refine LeO.bind ?_ (fun _ => ?_))
      | exact ih0 _ _ _
      | exact LeO.none _
      | refine LeO.ite ?_ ?_
      | refine LeO.bind ?_ (fun _ => ?_)
def laws_markText.l0 : Nat → Int → ByteArray → Option (ByteArray)
  | 0, _, _ => none
  | k + 1, x0, x3 => if x0 > 0 then ((some (([(wrap64 (48 + (Int.tmod x0 10))) % 256] : List Int) : List Int)).bind fun y384 => (if (strOfNums y384).size + x3.size ≤ 9223372036854775807 then (laws_markText.l0 k (wrap64 (Int.tdiv x0 10)) ((strOfNums y384) ++ x3)) else (none))) else (if 1 + x3.size ≤ 9223372036854775807 then (some ((⟨#[109]⟩ : ByteArray) ++ x3)) else (none))
def laws_markText.f (k : Nat) (a0 : Int) : Option (ByteArray) := if a0 ≤ 0 then (some (⟨#[109, 48]⟩ : ByteArray)) else (laws_markText.l0 k a0 (⟨#[]⟩ : ByteArray))
theorem laws_markText.mono_l : ∀ k, (∀ y0 y1, LeO (laws_markText.l0 k y0 y1) (laws_markText.l0 (k + 1) y0 y1))
  | 0 => fun _ _ r h => by simp [laws_markText.l0] at h
  | k + 1 => by
    have ih0 := laws_markText.mono_l k
    · intro y0 y1
      unfold laws_markText.l0
      repeat' first
      | (with_reducible exact ih0 _ _)
      | (with_reducible exact LeO.refl _)
      | (with_reducible exact LeO.none _)
      | (with_reducible refine LeO.ite ?_ ?_)
      | (with_reducible refine LeO.bind ?_ (fun _ => ?_))
      | exact ih0 _ _
      | exact LeO.none _
      | refine LeO.ite ?_ ?_
      | refine LeO.bind ?_ (fun _ => ?_)
theorem laws_markText.mono : ∀ a0 k, LeO (laws_markText.f k a0) (laws_markText.f (k + 1) a0) := by
  intro a0 k
  have ih0 := laws_markText.mono_l k
  unfold laws_markText.f
  repeat' first
      | (with_reducible exact ih0 _ _)
      | (with_reducible exact LeO.refl _)
      | (with_reducible exact LeO.none _)
      | (with_reducible refine LeO.ite ?_ ?_)
      | (with_reducible refine LeO.bind ?_ (fun _ => ?_))
      | exact ih0 _ _
      | exact LeO.none _
      | refine LeO.ite ?_ ?_
      | refine LeO.bind ?_ (fun _ => ?_)
def laws_markWaiterS.l0 : Nat → List (S80) → Int → Int → Option (Int × (List (S80)))
  | 0, _, _, _ => none
  | k + 1, x0, x1, x5 => if x5 < (x0.length : Int) then (if 0 ≤ x5 then ((some (x0.set (x5 : Int).toNat (⟨x1, (rd_T80 x0 x5).f1⟩ : S80) : List (S80))).bind fun y387 => (laws_markWaiterS.l0 k (y387.set (x5 : Int).toNat (⟨(rd_T80 y387 x5).f0, wrap64 (x1 + 1)⟩ : S80)) (wrap64 ((wrap64 (x1 + 1)) + 1)) (wrap64 (x5 + 1)))) else (none)) else (some (x1, x0))
def laws_markWaiterS.f (k : Nat) (l0 : List (S80)) (a1 : Int) : Option (Int × (List (S80))) := laws_markWaiterS.l0 k l0 a1 0
theorem laws_markWaiterS.mono_l : ∀ k, (∀ y0 y1 y2, LeO (laws_markWaiterS.l0 k y0 y1 y2) (laws_markWaiterS.l0 (k + 1) y0 y1 y2))
  | 0 => fun _ _ _ r h => by simp [laws_markWaiterS.l0] at h
  | k + 1 => by
    have ih0 := laws_markWaiterS.mono_l k
    · intro y0 y1 y2
      unfold laws_markWaiterS.l0
      repeat' first
      | (with_reducible exact ih0 _ _ _)
      | (with_reducible exact LeO.refl _)
      | (with_reducible exact LeO.none _)
      | (with_reducible refine LeO.ite ?_ ?_)
      | (with_reducible refine LeO.bind ?_ (fun _ => ?_))
      | exact ih0 _ _ _
      | exact LeO.none _
      | refine LeO.ite ?_ ?_
      | refine LeO.bind ?_ (fun _ => ?_)
theorem laws_markWaiterS.mono : ∀ a0 a1 k, LeO (laws_markWaiterS.f k a0 a1) (laws_markWaiterS.f (k + 1) a0 a1) := by
  intro a0 a1 k
  have ih0 := laws_markWaiterS.mono_l k
  unfold laws_markWaiterS.f
  repeat' first
      | (with_reducible exact ih0 _ _ _)
      | (with_reducible exact LeO.refl _)
      | (with_reducible exact LeO.none _)
      | (with_reducible refine LeO.ite ?_ ?_)
      | (with_reducible refine LeO.bind ?_ (fun _ => ?_))
      | exact ih0 _ _ _
      | exact LeO.none _
      | refine LeO.ite ?_ ?_
      | refine LeO.bind ?_ (fun _ => ?_)
def laws_markLockS.l0 : Nat → List (S78) → Int → Int → Option (Int × (List (S78)))
  | 0, _, _, _ => none
  | k + 1, x0, x1, x5 => if x5 < (x0.length : Int) then ((laws_markText.f k x1).bind fun t389 => (if 0 ≤ x5 then ((some (x0.set (x5 : Int).toNat (⟨t389, (rd_T78 x0 x5).f1, (rd_T78 x0 x5).f2, (rd_T78 x0 x5).f3, (rd_T78 x0 x5).f4⟩ : S78) : List (S78))).bind fun y390 => ((some (y390.set (x5 : Int).toNat (⟨(rd_T78 y390 x5).f0, wrap64 (x1 + 1), (rd_T78 y390 x5).f2, (rd_T78 y390 x5).f3, (rd_T78 y390 x5).f4⟩ : S78) : List (S78))).bind fun y391 => ((some (y391.set (x5 : Int).toNat (⟨(rd_T78 y391 x5).f0, (rd_T78 y391 x5).f1, wrap64 ((wrap64 (x1 + 1)) + 1), (rd_T78 y391 x5).f3, (rd_T78 y391 x5).f4⟩ : S78) : List (S78))).bind fun y392 => ((some (y392.set (x5 : Int).toNat (⟨(rd_T78 y392 x5).f0, (rd_T78 y392 x5).f1, (rd_T78 y392 x5).f2, wrap64 ((wrap64 ((wrap64 (x1 + 1)) + 1)) + 1), (rd_T78 y392 x5).f4⟩ : S78) : List (S78))).bind fun y9_ => ((laws_markWaiterS.f k ((rd_T78 y9_ x5).f4) (wrap64 ((wrap64 ((wrap64 ((wrap64 (x1 + 1)) + 1)) + 1)) + 1))).bind fun bw_ => (laws_markLockS.l0 k (y9_.set (x5 : Int).toNat (⟨(rd_T78 y9_ x5).f0, (rd_T78 y9_ x5).f1, (rd_T78 y9_ x5).f2, (rd_T78 y9_ x5).f3, bw_.2⟩ : S78)) bw_.1 (wrap64 (x5 + 1)))))))) else (none))) else (some (x1, x0))
def laws_markLockS.f (k : Nat) (l0 : List (S78)) (a1 : Int) : Option (Int × (List (S78))) := laws_markLockS.l0 k l0 a1 0
theorem laws_markLockS.mono_l : ∀ k, (∀ y0 y1 y2, LeO (laws_markLockS.l0 k y0 y1 y2) (laws_markLockS.l0 (k + 1) y0 y1 y2))
  | 0 => fun _ _ _ r h => by simp [laws_markLockS.l0] at h
  | k + 1 => by
    have ih0 := laws_markLockS.mono_l k
    · intro y0 y1 y2
      unfold laws_markLockS.l0
      repeat' first
      | (with_reducible exact ih0 _ _ _)
      | (with_reducible exact laws_markText.mono _ _)
      | (with_reducible exact laws_markWaiterS.mono _ _ _)
      | (with_reducible exact LeO.refl _)
      | (with_reducible exact LeO.none _)
      | (with_reducible refine LeO.ite ?_ ?_)
      | (with_reducible refine LeO.bind ?_ (fun _ => ?_))
      | exact ih0 _ _ _
      | exact laws_markText.mono _ _
      | exact LeO.none _
      | refine LeO.ite ?_ ?_
      | refine LeO.bind ?_ (fun _ => ?_)
theorem laws_markLockS.mono : ∀ a0 a1 k, LeO (laws_markLockS.f k a0 a1) (laws_markLockS.f (k + 1) a0 a1) := by
  intro a0 a1 k
  have ih0 := laws_markLockS.mono_l k
  unfold laws_markLockS.f
  repeat' first
      | (with_reducible exact ih0 _ _ _)
      | (with_reducible exact laws_markText.mono _ _)
      | (with_reducible exact laws_markWaiterS.mono _ _ _)
      | (with_reducible exact LeO.refl _)
      | (with_reducible exact LeO.none _)
      | (with_reducible refine LeO.ite ?_ ?_)
      | (with_reducible refine LeO.bind ?_ (fun _ => ?_))
      | exact ih0 _ _ _
      | exact laws_markText.mono _ _
      | exact LeO.none _
      | refine LeO.ite ?_ ?_
      | refine LeO.bind ?_ (fun _ => ?_)
def laws_markSeenS.l0 : Nat → List (S84) → Int → Int → Option (Int × (List (S84)))
  | 0, _, _, _ => none
  | k + 1, x0, x1, x5 => if x5 < (x0.length : Int) then (if 0 ≤ x5 then ((some (x0.set (x5 : Int).toNat (⟨x1, (rd_T84 x0 x5).f1, (⟨(rd_T84 x0 x5).f2.f0, (rd_T84 x0 x5).f2.f1, (rd_T84 x0 x5).f2.f2, (rd_T84 x0 x5).f2.f3⟩ : S82)⟩ : S84) : List (S84))).bind fun y394 => ((some (y394.set (x5 : Int).toNat (⟨(rd_T84 y394 x5).f0, wrap64 (x1 + 1), (⟨(rd_T84 y394 x5).f2.f0, (rd_T84 y394 x5).f2.f1, (rd_T84 y394 x5).f2.f2, (rd_T84 y394 x5).f2.f3⟩ : S82)⟩ : S84) : List (S84))).bind fun y395 => ((some (y395.set (x5 : Int).toNat (⟨(rd_T84 y395 x5).f0, (rd_T84 y395 x5).f1, (⟨wrap64 ((wrap64 (x1 + 1)) + 1), (rd_T84 y395 x5).f2.f1, (rd_T84 y395 x5).f2.f2, (rd_T84 y395 x5).f2.f3⟩ : S82)⟩ : S84) : List (S84))).bind fun y396 => ((some (y396.set (x5 : Int).toNat (⟨(rd_T84 y396 x5).f0, (rd_T84 y396 x5).f1, (⟨(rd_T84 y396 x5).f2.f0, wrap64 ((wrap64 ((wrap64 (x1 + 1)) + 1)) + 1), (rd_T84 y396 x5).f2.f2, (rd_T84 y396 x5).f2.f3⟩ : S82)⟩ : S84) : List (S84))).bind fun y397 => ((some (y397.set (x5 : Int).toNat (⟨(rd_T84 y397 x5).f0, (rd_T84 y397 x5).f1, (⟨(rd_T84 y397 x5).f2.f0, (rd_T84 y397 x5).f2.f1, wrap64 ((wrap64 ((wrap64 ((wrap64 (x1 + 1)) + 1)) + 1)) + 1), (rd_T84 y397 x5).f2.f3⟩ : S82)⟩ : S84) : List (S84))).bind fun y398 => (laws_markSeenS.l0 k (y398.set (x5 : Int).toNat (⟨(rd_T84 y398 x5).f0, (rd_T84 y398 x5).f1, (⟨(rd_T84 y398 x5).f2.f0, (rd_T84 y398 x5).f2.f1, (rd_T84 y398 x5).f2.f2, wrap64 ((wrap64 ((wrap64 ((wrap64 ((wrap64 (x1 + 1)) + 1)) + 1)) + 1)) + 1)⟩ : S82)⟩ : S84)) (wrap64 ((wrap64 ((wrap64 ((wrap64 ((wrap64 ((wrap64 (x1 + 1)) + 1)) + 1)) + 1)) + 1)) + 1)) (wrap64 (x5 + 1)))))))) else (none)) else (some (x1, x0))
def laws_markSeenS.f (k : Nat) (l0 : List (S84)) (a1 : Int) : Option (Int × (List (S84))) := laws_markSeenS.l0 k l0 a1 0
theorem laws_markSeenS.mono_l : ∀ k, (∀ y0 y1 y2, LeO (laws_markSeenS.l0 k y0 y1 y2) (laws_markSeenS.l0 (k + 1) y0 y1 y2))
  | 0 => fun _ _ _ r h => by simp [laws_markSeenS.l0] at h
  | k + 1 => by
    have ih0 := laws_markSeenS.mono_l k
    · intro y0 y1 y2
      unfold laws_markSeenS.l0
      repeat' first
      | (with_reducible exact ih0 _ _ _)
      | (with_reducible exact LeO.refl _)
      | (with_reducible exact LeO.none _)
      | (with_reducible refine LeO.ite ?_ ?_)
      | (with_reducible refine LeO.bind ?_ (fun _ => ?_))
      | exact ih0 _ _ _
      | exact LeO.none _
      | refine LeO.ite ?_ ?_
      | refine LeO.bind ?_ (fun _ => ?_)
theorem laws_markSeenS.mono : ∀ a0 a1 k, LeO (laws_markSeenS.f k a0 a1) (laws_markSeenS.f (k + 1) a0 a1) := by
  intro a0 a1 k
  have ih0 := laws_markSeenS.mono_l k
  unfold laws_markSeenS.f
  repeat' first
      | (with_reducible exact ih0 _ _ _)
      | (with_reducible exact LeO.refl _)
      | (with_reducible exact LeO.none _)
      | (with_reducible refine LeO.ite ?_ ?_)
      | (with_reducible refine LeO.bind ?_ (fun _ => ?_))
      | exact ih0 _ _ _
      | exact LeO.none _
      | refine LeO.ite ?_ ?_
      | refine LeO.bind ?_ (fun _ => ?_)
def laws_markTable.f (k : Nat) (a0_0 : Int) (a0_1 : Int) (l0_2 : List (S78)) (l0_3 : List (S84)) (a1 : Int) : Option (Int × List (S78) × List (S84)) := ((laws_markLockS.f k l0_2 a1).bind fun p => ((laws_markSeenS.f k l0_3 p.1).bind fun q => (some (q.1, p.2, q.2))))
theorem laws_markTable.mono : ∀ y0 y1 y2 y3 y4 k, LeO (laws_markTable.f k y0 y1 y2 y3 y4) (laws_markTable.f (k + 1) y0 y1 y2 y3 y4) := by
  intro y0 y1 y2 y3 y4 k
  unfold laws_markTable.f
  repeat' first
      | (with_reducible exact laws_markLockS.mono _ _ _)
      | (with_reducible exact laws_markSeenS.mono _ _ _)
      | (with_reducible exact LeO.refl _)
      | refine LeO.ite ?_ ?_
      | refine LeO.bind ?_ (fun _ => ?_)
def laws_heldWaiterS.l0 : Nat → List (S80) → Int → Int → Option (Int)
  | 0, _, _, _ => none
  | k + 1, x0, x1, x5 => if x5 < (x0.length : Int) then (if 0 ≤ x5 then (if ((rd_T80 x0 x5).f0) = x1 then (if ((rd_T80 x0 x5).f1) = (wrap64 (x1 + 1)) then (laws_heldWaiterS.l0 k x0 (wrap64 ((wrap64 (x1 + 1)) + 1)) (wrap64 (x5 + 1))) else (some (-1))) else (some (-1))) else (none)) else (some x1)
def laws_heldWaiterS.f (k : Nat) (l0 : List (S80)) (a1 : Int) : Option (Int) := laws_heldWaiterS.l0 k l0 a1 0
theorem laws_heldWaiterS.mono_l : ∀ k, (∀ y0 y1 y2, LeO (laws_heldWaiterS.l0 k y0 y1 y2) (laws_heldWaiterS.l0 (k + 1) y0 y1 y2))
  | 0 => fun _ _ _ r h => by simp [laws_heldWaiterS.l0] at h
  | k + 1 => by
    have ih0 := laws_heldWaiterS.mono_l k
    · intro y0 y1 y2
      unfold laws_heldWaiterS.l0
      repeat' first
      | (with_reducible exact ih0 _ _ _)
      | (with_reducible exact LeO.refl _)
      | (with_reducible exact LeO.none _)
      | (with_reducible refine LeO.ite ?_ ?_)
      | (with_reducible refine LeO.bind ?_ (fun _ => ?_))
      | exact ih0 _ _ _
      | exact LeO.none _
      | refine LeO.ite ?_ ?_
      | refine LeO.bind ?_ (fun _ => ?_)
theorem laws_heldWaiterS.mono : ∀ a0 a1 k, LeO (laws_heldWaiterS.f k a0 a1) (laws_heldWaiterS.f (k + 1) a0 a1) := by
  intro a0 a1 k
  have ih0 := laws_heldWaiterS.mono_l k
  unfold laws_heldWaiterS.f
  repeat' first
      | (with_reducible exact ih0 _ _ _)
      | (with_reducible exact LeO.refl _)
      | (with_reducible exact LeO.none _)
      | (with_reducible refine LeO.ite ?_ ?_)
      | (with_reducible refine LeO.bind ?_ (fun _ => ?_))
      | exact ih0 _ _ _
      | exact LeO.none _
      | refine LeO.ite ?_ ?_
      | refine LeO.bind ?_ (fun _ => ?_)
def laws_heldLockS.l0 : Nat → List (S78) → Int → Int → Option (Int)
  | 0, _, _, _ => none
  | k + 1, x0, x1, x5 => if x5 < (x0.length : Int) then (if 0 ≤ x5 then ((laws_markText.f k x1).bind fun t403 => (if ((rd_T78 x0 x5).f0).toList = t403.toList then (if ((rd_T78 x0 x5).f1) = (wrap64 (x1 + 1)) then (if ((rd_T78 x0 x5).f2) = (wrap64 ((wrap64 (x1 + 1)) + 1)) then (if ((rd_T78 x0 x5).f3) = (wrap64 ((wrap64 ((wrap64 (x1 + 1)) + 1)) + 1)) then ((laws_heldWaiterS.f k ((rd_T78 x0 x5).f4) (wrap64 ((wrap64 ((wrap64 ((wrap64 (x1 + 1)) + 1)) + 1)) + 1))).bind fun t408 => (if t408 < 0 then (some (-1)) else (laws_heldLockS.l0 k x0 t408 (wrap64 (x5 + 1))))) else (some (-1))) else (some (-1))) else (some (-1))) else (some (-1)))) else (none)) else (some x1)
def laws_heldLockS.f (k : Nat) (l0 : List (S78)) (a1 : Int) : Option (Int) := laws_heldLockS.l0 k l0 a1 0
theorem laws_heldLockS.mono_l : ∀ k, (∀ y0 y1 y2, LeO (laws_heldLockS.l0 k y0 y1 y2) (laws_heldLockS.l0 (k + 1) y0 y1 y2))
  | 0 => fun _ _ _ r h => by simp [laws_heldLockS.l0] at h
  | k + 1 => by
    have ih0 := laws_heldLockS.mono_l k
    · intro y0 y1 y2
      unfold laws_heldLockS.l0
      repeat' first
      | (with_reducible exact ih0 _ _ _)
      | (with_reducible exact laws_heldWaiterS.mono _ _ _)
      | (with_reducible exact laws_markText.mono _ _)
      | (with_reducible exact LeO.refl _)
      | (with_reducible exact LeO.none _)
      | (with_reducible refine LeO.ite ?_ ?_)
      | (with_reducible refine LeO.bind ?_ (fun _ => ?_))
      | exact ih0 _ _ _
      | exact laws_heldWaiterS.mono _ _ _
      | exact laws_markText.mono _ _
      | exact LeO.none _
      | refine LeO.ite ?_ ?_
      | refine LeO.bind ?_ (fun _ => ?_)
theorem laws_heldLockS.mono : ∀ a0 a1 k, LeO (laws_heldLockS.f k a0 a1) (laws_heldLockS.f (k + 1) a0 a1) := by
  intro a0 a1 k
  have ih0 := laws_heldLockS.mono_l k
  unfold laws_heldLockS.f
  repeat' first
      | (with_reducible exact ih0 _ _ _)
      | (with_reducible exact laws_heldWaiterS.mono _ _ _)
      | (with_reducible exact laws_markText.mono _ _)
      | (with_reducible exact LeO.refl _)
      | (with_reducible exact LeO.none _)
      | (with_reducible refine LeO.ite ?_ ?_)
      | (with_reducible refine LeO.bind ?_ (fun _ => ?_))
      | exact ih0 _ _ _
      | exact laws_heldWaiterS.mono _ _ _
      | exact laws_markText.mono _ _
      | exact LeO.none _
      | refine LeO.ite ?_ ?_
      | refine LeO.bind ?_ (fun _ => ?_)
def laws_heldSeenS.l0 : Nat → List (S84) → Int → Int → Option (Int)
  | 0, _, _, _ => none
  | k + 1, x0, x1, x5 => if x5 < (x0.length : Int) then (if 0 ≤ x5 then (if ((rd_T84 x0 x5).f0) = x1 then (if ((rd_T84 x0 x5).f1) = (wrap64 (x1 + 1)) then (if ((rd_T84 x0 x5).f2.f0) = (wrap64 ((wrap64 (x1 + 1)) + 1)) then (if ((rd_T84 x0 x5).f2.f1) = (wrap64 ((wrap64 ((wrap64 (x1 + 1)) + 1)) + 1)) then (if ((rd_T84 x0 x5).f2.f2) = (wrap64 ((wrap64 ((wrap64 ((wrap64 (x1 + 1)) + 1)) + 1)) + 1)) then (if ((rd_T84 x0 x5).f2.f3) = (wrap64 ((wrap64 ((wrap64 ((wrap64 ((wrap64 (x1 + 1)) + 1)) + 1)) + 1)) + 1)) then (laws_heldSeenS.l0 k x0 (wrap64 ((wrap64 ((wrap64 ((wrap64 ((wrap64 ((wrap64 (x1 + 1)) + 1)) + 1)) + 1)) + 1)) + 1)) (wrap64 (x5 + 1))) else (some (-1))) else (some (-1))) else (some (-1))) else (some (-1))) else (some (-1))) else (some (-1))) else (none)) else (some x1)
def laws_heldSeenS.f (k : Nat) (l0 : List (S84)) (a1 : Int) : Option (Int) := laws_heldSeenS.l0 k l0 a1 0
theorem laws_heldSeenS.mono_l : ∀ k, (∀ y0 y1 y2, LeO (laws_heldSeenS.l0 k y0 y1 y2) (laws_heldSeenS.l0 (k + 1) y0 y1 y2))
  | 0 => fun _ _ _ r h => by simp [laws_heldSeenS.l0] at h
  | k + 1 => by
    have ih0 := laws_heldSeenS.mono_l k
    · intro y0 y1 y2
      unfold laws_heldSeenS.l0
      repeat' first
      | (with_reducible exact ih0 _ _ _)
      | (with_reducible exact LeO.refl _)
      | (with_reducible exact LeO.none _)
      | (with_reducible refine LeO.ite ?_ ?_)
      | (with_reducible refine LeO.bind ?_ (fun _ => ?_))
      | exact ih0 _ _ _
      | exact LeO.none _
      | refine LeO.ite ?_ ?_
      | refine LeO.bind ?_ (fun _ => ?_)
theorem laws_heldSeenS.mono : ∀ a0 a1 k, LeO (laws_heldSeenS.f k a0 a1) (laws_heldSeenS.f (k + 1) a0 a1) := by
  intro a0 a1 k
  have ih0 := laws_heldSeenS.mono_l k
  unfold laws_heldSeenS.f
  repeat' first
      | (with_reducible exact ih0 _ _ _)
      | (with_reducible exact LeO.refl _)
      | (with_reducible exact LeO.none _)
      | (with_reducible refine LeO.ite ?_ ?_)
      | (with_reducible refine LeO.bind ?_ (fun _ => ?_))
      | exact ih0 _ _ _
      | exact LeO.none _
      | refine LeO.ite ?_ ?_
      | refine LeO.bind ?_ (fun _ => ?_)
def laws_heldTable.f (k : Nat) (a0_0 : Int) (a0_1 : Int) (l0_2 : List (S78)) (l0_3 : List (S84)) (a1 : Int) : Option (Int) := (laws_heldLockS.f k l0_2 a1).bind fun t416 => (if t416 < 0 then (some (-1)) else ((laws_heldSeenS.f k l0_3 t416).bind fun t417 => (if t417 < 0 then (some (-1)) else (some t417))))
theorem laws_heldTable.mono : ∀ a0 a1 a2 a3 a4 k, LeO (laws_heldTable.f k a0 a1 a2 a3 a4) (laws_heldTable.f (k + 1) a0 a1 a2 a3 a4) := by
  intro a0 a1 a2 a3 a4 k
  unfold laws_heldTable.f
  repeat' first
      | (with_reducible exact laws_heldLockS.mono _ _ _)
      | (with_reducible exact laws_heldSeenS.mono _ _ _)
      | (with_reducible exact LeO.refl _)
      | (with_reducible exact LeO.none _)
      | (with_reducible refine LeO.ite ?_ ?_)
      | (with_reducible refine LeO.bind ?_ (fun _ => ?_))
      | exact laws_heldLockS.mono _ _ _
      | exact laws_heldSeenS.mono _ _ _
      | exact LeO.none _
      | refine LeO.ite ?_ ?_
      | refine LeO.bind ?_ (fun _ => ?_)
mutual
def laws_FnExactReadTable.j0 : Nat → List Int → Int → List Int → Int → Bool → Int → Int → List (S78) → List (S84) → Int → Int → List (S78) → List (S84) → Option (Bool)
  | 0, _, _, _, _, _, _, _, _, _, _, _, _, _ => none
  | k + 1, x0, x4, x5, x7, x37, x431000, x431001, x431002, x431003, x444000, x444001, x444002, x444003 => if x37 = true then (some false) else ((laws_toByteS.f k x0).bind fun t445 => ((laws_eqByteS.f k x5 t445).bind fun t448 => (if t448 = true then ((laws_markByteS.f k x5 1).bind fun bt449 => (if bt449.1 < 0 then (laws_FnExactReadTable.j1 k x0 x4 true x431000 x431001 x431002 x431003 x444000 x444001 x444002 x444003) else ((laws_eqTable.f k x444000 x444001 x444002 x444003 x431000 x431001 x431002 x431003).bind fun t451 => (if t451 = true then (laws_FnExactReadTable.j1 k x0 x4 (x7 != x4) x431000 x431001 x431002 x431003 x444000 x444001 x444002 x444003) else (laws_FnExactReadTable.j1 k x0 x4 true x431000 x431001 x431002 x431003 x444000 x444001 x444002 x444003))))) else (some false))))
def laws_FnExactReadTable.j1 : Nat → List Int → Int → Bool → Int → Int → List (S78) → List (S84) → Int → Int → List (S78) → List (S84) → Option (Bool)
  | 0, _, _, _, _, _, _, _, _, _, _, _ => none
  | k + 1, x0, x4, x58, x431000, x431001, x431002, x431003, x444000, x444001, x444002, x444003 => if x58 = true then (some false) else ((laws_markTable.f k x444000 x444001 x444002 x444003 1).bind fun bm_ => ((laws_heldTable.f k x444000 x444001 bm_.2.1 bm_.2.2 1).bind fun t453 => (if t453 < 0 then (some false) else (if t453 = bm_.1 then ((laws_toByteS.f k x0).bind fun t454 => ((impl_ReadTable.f k t454).bind fun bt457 => ((laws_eqTable.f k bt457.1 bt457.2.1 bt457.2.2.1 bt457.2.2.2.1 x431000 x431001 x431002 x431003).bind fun t467 => (if t467 = true then (laws_FnExactReadTable.j2 k bm_.1 (bt457.2.2.2.2 != x4) x444000 x444001 bm_.2.1 bm_.2.2) else (laws_FnExactReadTable.j2 k bm_.1 true x444000 x444001 bm_.2.1 bm_.2.2))))) else (some false)))))
def laws_FnExactReadTable.j2 : Nat → Int → Bool → Int → Int → List (S78) → List (S84) → Option (Bool)
  | 0, _, _, _, _, _, _ => none
  | k + 1, x9, x84, x444000, x444001, x444002, x444003 => if x84 = true then (some false) else ((laws_heldTable.f k x444000 x444001 x444002 x444003 1).bind fun t468 => (if t468 < 0 then (some false) else (if t468 = x9 then (some true) else (some false))))
end
def laws_FnExactReadTable.f (k : Nat) (l0 : List Int) : Option (Bool) := if (l0.length : Int) > 1048576 then (some true) else ((laws_toByteS.f k l0).bind fun t418 => ((spec_ReadTable.f k t418).bind fun bt421 => ((laws_toByteS.f k l0).bind fun t431 => ((impl_ReadTable.f k t431).bind fun bt434 => ((laws_eqTable.f k bt434.1 bt434.2.1 bt434.2.2.1 bt434.2.2.2.1 bt421.1 bt421.2.1 bt421.2.2.1 bt421.2.2.2.1).bind fun t444 => (if t444 = true then (laws_FnExactReadTable.j0 k l0 bt421.2.2.2.2 t431 bt434.2.2.2.2 (bt434.2.2.2.2 != bt421.2.2.2.2) bt421.1 bt421.2.1 bt421.2.2.1 bt421.2.2.2.1 bt434.1 bt434.2.1 bt434.2.2.1 bt434.2.2.2.1) else (laws_FnExactReadTable.j0 k l0 bt421.2.2.2.2 t431 bt434.2.2.2.2 true bt421.1 bt421.2.1 bt421.2.2.1 bt421.2.2.2.1 bt434.1 bt434.2.1 bt434.2.2.1 bt434.2.2.2.1)))))))
theorem laws_FnExactReadTable.mono_l : ∀ k, (∀ y0 y1 y2 y3 y4 y5 y6 y7 y8 y9 y10 y11 y12, LeO (laws_FnExactReadTable.j0 k y0 y1 y2 y3 y4 y5 y6 y7 y8 y9 y10 y11 y12) (laws_FnExactReadTable.j0 (k + 1) y0 y1 y2 y3 y4 y5 y6 y7 y8 y9 y10 y11 y12)) ∧ (∀ y0 y1 y2 y3 y4 y5 y6 y7 y8 y9 y10, LeO (laws_FnExactReadTable.j1 k y0 y1 y2 y3 y4 y5 y6 y7 y8 y9 y10) (laws_FnExactReadTable.j1 (k + 1) y0 y1 y2 y3 y4 y5 y6 y7 y8 y9 y10)) ∧ (∀ y0 y1 y2 y3 y4 y5, LeO (laws_FnExactReadTable.j2 k y0 y1 y2 y3 y4 y5) (laws_FnExactReadTable.j2 (k + 1) y0 y1 y2 y3 y4 y5))
  | 0 => ⟨fun _ _ _ _ _ _ _ _ _ _ _ _ _ r h => by simp [laws_FnExactReadTable.j0] at h, fun _ _ _ _ _ _ _ _ _ _ _ r h => by simp [laws_FnExactReadTable.j1] at h, fun _ _ _ _ _ _ r h => by simp [laws_FnExactReadTable.j2] at h⟩
  | k + 1 => by
    obtain ⟨ih0, ih1, ih2⟩ := laws_FnExactReadTable.mono_l k
    refine ⟨?_, ?_, ?_⟩
    · intro y0 y1 y2 y3 y4 y5 y6 y7 y8 y9 y10 y11 y12
      unfold laws_FnExactReadTable.j0
      repeat' first
      | (with_reducible exact ih0 _ _ _ _ _ _ _ _ _ _ _ _ _)
      | (with_reducible exact ih1 _ _ _ _ _ _ _ _ _ _ _)
      | (with_reducible exact ih2 _ _ _ _ _ _)
      | (with_reducible exact impl_ReadTable.mono _ _)
      | (with_reducible exact laws_eqByteS.mono _ _ _)
      | (with_reducible exact laws_eqTable.mono _ _ _ _ _ _ _ _ _)
      | (with_reducible exact laws_heldTable.mono _ _ _ _ _ _)
      | (with_reducible exact laws_markByteS.mono _ _ _)
      | (with_reducible exact laws_markTable.mono _ _ _ _ _ _)
      | (with_reducible exact laws_toByteS.mono _ _)
      | (with_reducible exact spec_ReadTable.mono _ _)
      | (with_reducible exact LeO.refl _)
      | (with_reducible exact LeO.none _)
      | (with_reducible refine LeO.ite ?_ ?_)
      | (with_reducible refine LeO.bind ?_ (fun _ => ?_))
      | exact ih0 _ _ _ _ _ _ _ _ _ _ _ _ _
      | exact ih1 _ _ _ _ _ _ _ _ _ _ _
      | exact ih2 _ _ _ _ _ _
      | exact impl_ReadTable.mono _ _
      | exact laws_eqByteS.mono _ _ _
      | exact laws_eqTable.mono _ _ _ _ _ _ _ _ _
      | exact laws_heldTable.mono _ _ _ _ _ _
      | exact laws_markByteS.mono _ _ _
      | exact laws_markTable.mono _ _ _ _ _ _
      | exact laws_toByteS.mono _ _
      | exact spec_ReadTable.mono _ _
      | exact LeO.none _
      | refine LeO.ite ?_ ?_
      | refine LeO.bind ?_ (fun _ => ?_)
    · intro y0 y1 y2 y3 y4 y5 y6 y7 y8 y9 y10
      unfold laws_FnExactReadTable.j1
      repeat' first
      | (with_reducible exact ih0 _ _ _ _ _ _ _ _ _ _ _ _ _)
      | (with_reducible exact ih1 _ _ _ _ _ _ _ _ _ _ _)
      | (with_reducible exact ih2 _ _ _ _ _ _)
      | (with_reducible exact impl_ReadTable.mono _ _)
      | (with_reducible exact laws_eqByteS.mono _ _ _)
      | (with_reducible exact laws_eqTable.mono _ _ _ _ _ _ _ _ _)
      | (with_reducible exact laws_heldTable.mono _ _ _ _ _ _)
      | (with_reducible exact laws_markByteS.mono _ _ _)
      | (with_reducible exact laws_markTable.mono _ _ _ _ _ _)
      | (with_reducible exact laws_toByteS.mono _ _)
      | (with_reducible exact spec_ReadTable.mono _ _)
      | (with_reducible exact LeO.refl _)
      | (with_reducible exact LeO.none _)
      | (with_reducible refine LeO.ite ?_ ?_)
      | (with_reducible refine LeO.bind ?_ (fun _ => ?_))
      | exact ih0 _ _ _ _ _ _ _ _ _ _ _ _ _
      | exact ih1 _ _ _ _ _ _ _ _ _ _ _
      | exact ih2 _ _ _ _ _ _
      | exact impl_ReadTable.mono _ _
      | exact laws_eqByteS.mono _ _ _
      | exact laws_eqTable.mono _ _ _ _ _ _ _ _ _
      | exact laws_heldTable.mono _ _ _ _ _ _
      | exact laws_markByteS.mono _ _ _
      | exact laws_markTable.mono _ _ _ _ _ _
      | exact laws_toByteS.mono _ _
      | exact spec_ReadTable.mono _ _
      | exact LeO.none _
      | refine LeO.ite ?_ ?_
      | refine LeO.bind ?_ (fun _ => ?_)
    · intro y0 y1 y2 y3 y4 y5
      unfold laws_FnExactReadTable.j2
      repeat' first
      | (with_reducible exact ih0 _ _ _ _ _ _ _ _ _ _ _ _ _)
      | (with_reducible exact ih1 _ _ _ _ _ _ _ _ _ _ _)
      | (with_reducible exact ih2 _ _ _ _ _ _)
      | (with_reducible exact impl_ReadTable.mono _ _)
      | (with_reducible exact laws_eqByteS.mono _ _ _)
      | (with_reducible exact laws_eqTable.mono _ _ _ _ _ _ _ _ _)
      | (with_reducible exact laws_heldTable.mono _ _ _ _ _ _)
      | (with_reducible exact laws_markByteS.mono _ _ _)
      | (with_reducible exact laws_markTable.mono _ _ _ _ _ _)
      | (with_reducible exact laws_toByteS.mono _ _)
      | (with_reducible exact spec_ReadTable.mono _ _)
      | (with_reducible exact LeO.refl _)
      | (with_reducible exact LeO.none _)
      | (with_reducible refine LeO.ite ?_ ?_)
      | (with_reducible refine LeO.bind ?_ (fun _ => ?_))
      | exact ih0 _ _ _ _ _ _ _ _ _ _ _ _ _
      | exact ih1 _ _ _ _ _ _ _ _ _ _ _
      | exact ih2 _ _ _ _ _ _
      | exact impl_ReadTable.mono _ _
      | exact laws_eqByteS.mono _ _ _
      | exact laws_eqTable.mono _ _ _ _ _ _ _ _ _
      | exact laws_heldTable.mono _ _ _ _ _ _
      | exact laws_markByteS.mono _ _ _
      | exact laws_markTable.mono _ _ _ _ _ _
      | exact laws_toByteS.mono _ _
      | exact spec_ReadTable.mono _ _
      | exact LeO.none _
      | refine LeO.ite ?_ ?_
      | refine LeO.bind ?_ (fun _ => ?_)
theorem laws_FnExactReadTable.mono : ∀ a0 k, LeO (laws_FnExactReadTable.f k a0) (laws_FnExactReadTable.f (k + 1) a0) := by
  intro a0 k
  obtain ⟨ih0, ih1, ih2⟩ := laws_FnExactReadTable.mono_l k
  unfold laws_FnExactReadTable.f
  repeat' first
      | (with_reducible exact ih0 _ _ _ _ _ _ _ _ _ _ _ _ _)
      | (with_reducible exact ih1 _ _ _ _ _ _ _ _ _ _ _)
      | (with_reducible exact ih2 _ _ _ _ _ _)
      | (with_reducible exact impl_ReadTable.mono _ _)
      | (with_reducible exact laws_eqByteS.mono _ _ _)
      | (with_reducible exact laws_eqTable.mono _ _ _ _ _ _ _ _ _)
      | (with_reducible exact laws_heldTable.mono _ _ _ _ _ _)
      | (with_reducible exact laws_markByteS.mono _ _ _)
      | (with_reducible exact laws_markTable.mono _ _ _ _ _ _)
      | (with_reducible exact laws_toByteS.mono _ _)
      | (with_reducible exact spec_ReadTable.mono _ _)
      | (with_reducible exact LeO.refl _)
      | (with_reducible exact LeO.none _)
      | (with_reducible refine LeO.ite ?_ ?_)
      | (with_reducible refine LeO.bind ?_ (fun _ => ?_))
      | exact ih0 _ _ _ _ _ _ _ _ _ _ _ _ _
      | exact ih1 _ _ _ _ _ _ _ _ _ _ _
      | exact ih2 _ _ _ _ _ _
      | exact impl_ReadTable.mono _ _
      | exact laws_eqByteS.mono _ _ _
      | exact laws_eqTable.mono _ _ _ _ _ _ _ _ _
      | exact laws_heldTable.mono _ _ _ _ _ _
      | exact laws_markByteS.mono _ _ _
      | exact laws_markTable.mono _ _ _ _ _ _
      | exact laws_toByteS.mono _ _
      | exact spec_ReadTable.mono _ _
      | exact LeO.none _
      | refine LeO.ite ?_ ?_
      | refine LeO.bind ?_ (fun _ => ?_)
end Go.Proofs.Ytioocldcdonlpaa.B
end
