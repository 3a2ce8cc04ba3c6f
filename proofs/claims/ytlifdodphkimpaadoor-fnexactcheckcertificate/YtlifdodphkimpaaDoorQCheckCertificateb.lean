/- A part of the proof that FnExactCheckCertificate returns true at every input: plain functions, contracts and lemmas. No conditions. -/
import Derived.Test.YtlifdodphkimpaaDoorQCheckCertificatea
set_option linter.unusedVariables false
set_option linter.unusedSimpArgs false
set_option linter.unusedSectionVars false
section
namespace Go.Proofs.YtlifdodphkimpaaDoor.A
open Go.RowKit Go.Proofs.YtlifdodphkimpaaDoorW.PrintWords Go.Proofs.YtlifdodphkimpaaDoorW.PrintLast Go.Proofs.YtlifdodphkimpaaDoorW.PrintMore
attribute [local go_sem] max2_int min2_int max_two min_two max_three min_three max_four min_four
def laws_szGrant.f (a0_0 : ByteArray) (a0_1 : Int) (a0_2 : Int) (a0_3 : Int) (a1 : Int) : Option (Int) := if (wrap64 (a1 - (a0_0.size : Int))) < 0 then (some (-1)) else (some (wrap64 (a1 - (a0_0.size : Int))))
def laws_szGrant.v (a0_0 : ByteArray) (a0_1 : Int) (a0_2 : Int) (a0_3 : Int) (a1 : Int) : Option (Int) := laws_szGrant.f a0_0 a0_1 a0_2 a0_3 a1
theorem laws_szGrant.v_lim (a0_0 : ByteArray) (a0_1 : Int) (a0_2 : Int) (a0_3 : Int) (a1 : Int) : LimIs (fun _ => laws_szGrant.f a0_0 a0_1 a0_2 a0_3 a1) (laws_szGrant.v a0_0 a0_1 a0_2 a0_3 a1) := LimIs.const _
theorem laws_szGrant.v_eq (a0_0 : ByteArray) (a0_1 : Int) (a0_2 : Int) (a0_3 : Int) (a1 : Int) : laws_szGrant.v a0_0 a0_1 a0_2 a0_3 a1 = (if (wrap64 (a1 - (a0_0.size : Int))) < 0 then (some (-1)) else (some (wrap64 (a1 - (a0_0.size : Int)))) : Option (Int)) := rfl
def laws_szIntS.f (l0 : List Int) (a1 : Int) : Option (Int) := if (wrap64 (a1 - (l0.length : Int))) < 0 then (some (-1)) else (some (wrap64 (a1 - (l0.length : Int))))
def laws_szIntS.v (l0 : List Int) (a1 : Int) : Option (Int) := laws_szIntS.f l0 a1
theorem laws_szIntS.v_lim (l0 : List Int) (a1 : Int) : LimIs (fun _ => laws_szIntS.f l0 a1) (laws_szIntS.v l0 a1) := LimIs.const _
theorem laws_szIntS.v_eq (l0 : List Int) (a1 : Int) : laws_szIntS.v l0 a1 = (if (wrap64 (a1 - (l0.length : Int))) < 0 then (some (-1)) else (some (wrap64 (a1 - (l0.length : Int)))) : Option (Int)) := rfl
def laws_szStringS.l0 : Nat → List ByteArray → Int → Int → Option (Int)
  | 0, _, _, _ => none
  | k + 1, x0, x1, x5 => if x5 < (x0.length : Int) then (if 0 ≤ x5 then (if (wrap64 (x1 - ((rdOf ByteArray.empty x0 x5).size : Int))) < 0 then (some (-1)) else (laws_szStringS.l0 k x0 (wrap64 (x1 - ((rdOf ByteArray.empty x0 x5).size : Int))) (wrap64 (x5 + 1)))) else (none)) else (some x1)
def laws_szStringS.f (k : Nat) (l0 : List ByteArray) (a1 : Int) : Option (Int) := if (wrap64 (a1 - (l0.length : Int))) < 0 then (some (-1)) else (laws_szStringS.l0 k l0 (wrap64 (a1 - (l0.length : Int))) 0)
theorem laws_szStringS.mono_l : ∀ k, (∀ y0 y1 y2, LeO (laws_szStringS.l0 k y0 y1 y2) (laws_szStringS.l0 (k + 1) y0 y1 y2))
  | 0 => fun _ _ _ r h => by simp [laws_szStringS.l0] at h
  | k + 1 => by
    have ih0 := laws_szStringS.mono_l k
    · intro y0 y1 y2
      unfold laws_szStringS.l0
      repeat' first
      | (with_reducible exact ih0 _ _ _)
      | (with_reducible exact LeO.refl _)
      | (with_reducible exact LeO.none _)
      | (with_reducible refine LeO.ite ?_ ?_)
      | (with_reducible refine LeO.bind ?_ (fun _ => ?_))
      | exact ih0 _ _ _
      | exact LeO.none _
      | refine LeO.ite ?_ ?_
      | refine LeO.bind ?_ (fun _ => ?_)
theorem laws_szStringS.mono : ∀ a0 a1 k, LeO (laws_szStringS.f k a0 a1) (laws_szStringS.f (k + 1) a0 a1) := by
  intro a0 a1 k
  have ih0 := laws_szStringS.mono_l k
  unfold laws_szStringS.f
  repeat' first
      | (with_reducible exact ih0 _ _ _)
      | (with_reducible exact LeO.refl _)
      | (with_reducible exact LeO.none _)
      | (with_reducible refine LeO.ite ?_ ?_)
      | (with_reducible refine LeO.bind ?_ (fun _ => ?_))
      | exact ih0 _ _ _
      | exact LeO.none _
      | refine LeO.ite ?_ ?_
      | refine LeO.bind ?_ (fun _ => ?_)
noncomputable def laws_szStringS.lv0 (x0 : List ByteArray) (x1 : Int) (x5 : Int) : Option (Int) := lim (fun k_ => laws_szStringS.l0 k_ x0 x1 x5)
noncomputable def laws_szStringS.v (l0 : List ByteArray) (a1 : Int) : Option (Int) := lim (fun k_ => laws_szStringS.f k_ l0 a1)
theorem laws_szStringS.lv0_lim (x0 : List ByteArray) (x1 : Int) (x5 : Int) : LimIs (fun k_ => laws_szStringS.l0 k_ x0 x1 x5) (laws_szStringS.lv0 x0 x1 x5) := lim_is (fun k_ => (laws_szStringS.mono_l k_) x0 x1 x5)
theorem laws_szStringS.v_lim (l0 : List ByteArray) (a1 : Int) : LimIs (fun k_ => laws_szStringS.f k_ l0 a1) (laws_szStringS.v l0 a1) := lim_is (fun k_ => laws_szStringS.mono l0 a1 k_)
theorem laws_szStringS.lv0_eq (x0 : List ByteArray) (x1 : Int) (x5 : Int) : laws_szStringS.lv0 x0 x1 x5 = (if x5 < (x0.length : Int) then (if 0 ≤ x5 then (if (wrap64 (x1 - ((rdOf ByteArray.empty x0 x5).size : Int))) < 0 then (some (-1)) else (laws_szStringS.lv0 x0 (wrap64 (x1 - ((rdOf ByteArray.empty x0 x5).size : Int))) (wrap64 (x5 + 1)))) else (none)) else (some x1) : Option (Int)) := by
  refine LimIs.eq (laws_szStringS.lv0_lim x0 x1 x5) ?_
  refine LimIs.step (fun k_ => (laws_szStringS.mono_l k_) x0 x1 x5) ?_
  simp only [laws_szStringS.l0]
  repeat' (with_reducible first | exact laws_szStringS.lv0_lim _ _ _ | exact LimIs.const _ | refine LimIs.ite ?_ ?_ | refine LimIs.bind ?_ (fun _ => ?_))
theorem laws_szStringS.v_eq (l0 : List ByteArray) (a1 : Int) : laws_szStringS.v l0 a1 = (if (wrap64 (a1 - (l0.length : Int))) < 0 then (some (-1)) else (laws_szStringS.lv0 l0 (wrap64 (a1 - (l0.length : Int))) 0) : Option (Int)) := by
  refine LimIs.eq (laws_szStringS.v_lim l0 a1) ?_
  simp only [laws_szStringS.f]
  repeat' (with_reducible first | exact laws_szStringS.lv0_lim _ _ _ | exact LimIs.const _ | refine LimIs.ite ?_ ?_ | refine LimIs.bind ?_ (fun _ => ?_))
def laws_szKeySignature.f (k : Nat) (a0_0 : Int) (l0_1 : List ByteArray) (l0_2 : List ByteArray) (l0_3 : List ByteArray) (a1 : Int) : Option (Int) := (laws_szStringS.f k l0_1 a1).bind fun t104 => (if t104 < 0 then (some (-1)) else ((laws_szStringS.f k l0_2 t104).bind fun t105 => (if t105 < 0 then (some (-1)) else ((laws_szStringS.f k l0_3 t105).bind fun t106 => (if t106 < 0 then (some (-1)) else (some t106))))))
theorem laws_szKeySignature.mono : ∀ a0 a1 a2 a3 a4 k, LeO (laws_szKeySignature.f k a0 a1 a2 a3 a4) (laws_szKeySignature.f (k + 1) a0 a1 a2 a3 a4) := by
  intro a0 a1 a2 a3 a4 k
  unfold laws_szKeySignature.f
  repeat' first
      | (with_reducible exact laws_szStringS.mono _ _ _)
      | (with_reducible exact LeO.refl _)
      | (with_reducible exact LeO.none _)
      | (with_reducible refine LeO.ite ?_ ?_)
      | (with_reducible refine LeO.bind ?_ (fun _ => ?_))
      | exact laws_szStringS.mono _ _ _
      | exact LeO.none _
      | refine LeO.ite ?_ ?_
      | refine LeO.bind ?_ (fun _ => ?_)
noncomputable def laws_szKeySignature.v (a0_0 : Int) (l0_1 : List ByteArray) (l0_2 : List ByteArray) (l0_3 : List ByteArray) (a1 : Int) : Option (Int) := lim (fun k_ => laws_szKeySignature.f k_ a0_0 l0_1 l0_2 l0_3 a1)
theorem laws_szKeySignature.v_lim (a0_0 : Int) (l0_1 : List ByteArray) (l0_2 : List ByteArray) (l0_3 : List ByteArray) (a1 : Int) : LimIs (fun k_ => laws_szKeySignature.f k_ a0_0 l0_1 l0_2 l0_3 a1) (laws_szKeySignature.v a0_0 l0_1 l0_2 l0_3 a1) := lim_is (fun k_ => laws_szKeySignature.mono a0_0 l0_1 l0_2 l0_3 a1 k_)
theorem laws_szKeySignature.v_eq (a0_0 : Int) (l0_1 : List ByteArray) (l0_2 : List ByteArray) (l0_3 : List ByteArray) (a1 : Int) : laws_szKeySignature.v a0_0 l0_1 l0_2 l0_3 a1 = ((laws_szStringS.v l0_1 a1).bind fun t104 => (if t104 < 0 then (some (-1)) else ((laws_szStringS.v l0_2 t104).bind fun t105 => (if t105 < 0 then (some (-1)) else ((laws_szStringS.v l0_3 t105).bind fun t106 => (if t106 < 0 then (some (-1)) else (some t106)))))) : Option (Int)) := by
  refine LimIs.eq (laws_szKeySignature.v_lim a0_0 l0_1 l0_2 l0_3 a1) ?_
  simp only [laws_szKeySignature.f]
  repeat' (with_reducible first | exact laws_szStringS.v_lim _ _ | exact LimIs.const _ | refine LimIs.ite ?_ ?_ | refine LimIs.bind ?_ (fun _ => ?_))
def laws_szKeySignatureS.l0 : Nat → List (S139) → Int → Int → Option (Int)
  | 0, _, _, _ => none
  | k + 1, x0, x1, x5 => if x5 < (x0.length : Int) then (if 0 ≤ x5 then ((laws_szKeySignature.f k ((rd_T139 x0 x5).f0) ((rd_T139 x0 x5).f1) ((rd_T139 x0 x5).f2) ((rd_T139 x0 x5).f3) x1).bind fun t108 => (if t108 < 0 then (some (-1)) else (laws_szKeySignatureS.l0 k x0 t108 (wrap64 (x5 + 1))))) else (none)) else (some x1)
def laws_szKeySignatureS.f (k : Nat) (l0 : List (S139)) (a1 : Int) : Option (Int) := if (wrap64 (a1 - (l0.length : Int))) < 0 then (some (-1)) else (laws_szKeySignatureS.l0 k l0 (wrap64 (a1 - (l0.length : Int))) 0)
theorem laws_szKeySignatureS.mono_l : ∀ k, (∀ y0 y1 y2, LeO (laws_szKeySignatureS.l0 k y0 y1 y2) (laws_szKeySignatureS.l0 (k + 1) y0 y1 y2))
  | 0 => fun _ _ _ r h => by simp [laws_szKeySignatureS.l0] at h
  | k + 1 => by
    have ih0 := laws_szKeySignatureS.mono_l k
    · intro y0 y1 y2
      unfold laws_szKeySignatureS.l0
      repeat' first
      | (with_reducible exact ih0 _ _ _)
      | (with_reducible exact laws_szKeySignature.mono _ _ _ _ _ _)
      | (with_reducible exact LeO.refl _)
      | (with_reducible exact LeO.none _)
      | (with_reducible refine LeO.ite ?_ ?_)
      | (with_reducible refine LeO.bind ?_ (fun _ => ?_))
      | exact ih0 _ _ _
      | exact laws_szKeySignature.mono _ _ _ _ _ _
      | exact LeO.none _
      | refine LeO.ite ?_ ?_
      | refine LeO.bind ?_ (fun _ => ?_)
theorem laws_szKeySignatureS.mono : ∀ a0 a1 k, LeO (laws_szKeySignatureS.f k a0 a1) (laws_szKeySignatureS.f (k + 1) a0 a1) := by
  intro a0 a1 k
  have ih0 := laws_szKeySignatureS.mono_l k
  unfold laws_szKeySignatureS.f
  repeat' first
      | (with_reducible exact ih0 _ _ _)
      | (with_reducible exact laws_szKeySignature.mono _ _ _ _ _ _)
      | (with_reducible exact LeO.refl _)
      | (with_reducible exact LeO.none _)
      | (with_reducible refine LeO.ite ?_ ?_)
      | (with_reducible refine LeO.bind ?_ (fun _ => ?_))
      | exact ih0 _ _ _
      | exact laws_szKeySignature.mono _ _ _ _ _ _
      | exact LeO.none _
      | refine LeO.ite ?_ ?_
      | refine LeO.bind ?_ (fun _ => ?_)
noncomputable def laws_szKeySignatureS.lv0 (x0 : List (S139)) (x1 : Int) (x5 : Int) : Option (Int) := lim (fun k_ => laws_szKeySignatureS.l0 k_ x0 x1 x5)
noncomputable def laws_szKeySignatureS.v (l0 : List (S139)) (a1 : Int) : Option (Int) := lim (fun k_ => laws_szKeySignatureS.f k_ l0 a1)
theorem laws_szKeySignatureS.lv0_lim (x0 : List (S139)) (x1 : Int) (x5 : Int) : LimIs (fun k_ => laws_szKeySignatureS.l0 k_ x0 x1 x5) (laws_szKeySignatureS.lv0 x0 x1 x5) := lim_is (fun k_ => (laws_szKeySignatureS.mono_l k_) x0 x1 x5)
theorem laws_szKeySignatureS.v_lim (l0 : List (S139)) (a1 : Int) : LimIs (fun k_ => laws_szKeySignatureS.f k_ l0 a1) (laws_szKeySignatureS.v l0 a1) := lim_is (fun k_ => laws_szKeySignatureS.mono l0 a1 k_)
theorem laws_szKeySignatureS.lv0_eq (x0 : List (S139)) (x1 : Int) (x5 : Int) : laws_szKeySignatureS.lv0 x0 x1 x5 = (if x5 < (x0.length : Int) then (if 0 ≤ x5 then ((laws_szKeySignature.v ((rd_T139 x0 x5).f0) ((rd_T139 x0 x5).f1) ((rd_T139 x0 x5).f2) ((rd_T139 x0 x5).f3) x1).bind fun t108 => (if t108 < 0 then (some (-1)) else (laws_szKeySignatureS.lv0 x0 t108 (wrap64 (x5 + 1))))) else (none)) else (some x1) : Option (Int)) := by
  refine LimIs.eq (laws_szKeySignatureS.lv0_lim x0 x1 x5) ?_
  refine LimIs.step (fun k_ => (laws_szKeySignatureS.mono_l k_) x0 x1 x5) ?_
  simp only [laws_szKeySignatureS.l0]
  repeat' (with_reducible first | exact laws_szKeySignature.v_lim _ _ _ _ _ | exact laws_szKeySignatureS.lv0_lim _ _ _ | exact LimIs.const _ | refine LimIs.ite ?_ ?_ | refine LimIs.bind ?_ (fun _ => ?_))
theorem laws_szKeySignatureS.v_eq (l0 : List (S139)) (a1 : Int) : laws_szKeySignatureS.v l0 a1 = (if (wrap64 (a1 - (l0.length : Int))) < 0 then (some (-1)) else (laws_szKeySignatureS.lv0 l0 (wrap64 (a1 - (l0.length : Int))) 0) : Option (Int)) := by
  refine LimIs.eq (laws_szKeySignatureS.v_lim l0 a1) ?_
  simp only [laws_szKeySignatureS.f]
  repeat' (with_reducible first | exact laws_szKeySignatureS.lv0_lim _ _ _ | exact LimIs.const _ | refine LimIs.ite ?_ ?_ | refine LimIs.bind ?_ (fun _ => ?_))
def laws_szCertificate.f (k : Nat) (a0_0 : ByteArray) (a0_1 : Int) (a0_2 : Int) (a0_3 : Int) (l0_4 : List Int) (l0_5 : List (S139)) (a1 : Int) : Option (Int) := (laws_szGrant.f a0_0 a0_1 a0_2 a0_3 a1).bind fun t110 => (if t110 < 0 then (some (-1)) else ((laws_szIntS.f l0_4 t110).bind fun t111 => (if t111 < 0 then (some (-1)) else ((laws_szKeySignatureS.f k l0_5 t111).bind fun t112 => (if t112 < 0 then (some (-1)) else (some t112))))))
theorem laws_szCertificate.mono : ∀ a0 a1 a2 a3 a4 a5 a6 k, LeO (laws_szCertificate.f k a0 a1 a2 a3 a4 a5 a6) (laws_szCertificate.f (k + 1) a0 a1 a2 a3 a4 a5 a6) := by
  intro a0 a1 a2 a3 a4 a5 a6 k
  unfold laws_szCertificate.f
  repeat' first
      | (with_reducible exact laws_szKeySignatureS.mono _ _ _)
      | (with_reducible exact LeO.refl _)
      | (with_reducible exact LeO.none _)
      | (with_reducible refine LeO.ite ?_ ?_)
      | (with_reducible refine LeO.bind ?_ (fun _ => ?_))
      | exact laws_szKeySignatureS.mono _ _ _
      | exact LeO.none _
      | refine LeO.ite ?_ ?_
      | refine LeO.bind ?_ (fun _ => ?_)
noncomputable def laws_szCertificate.v (a0_0 : ByteArray) (a0_1 : Int) (a0_2 : Int) (a0_3 : Int) (l0_4 : List Int) (l0_5 : List (S139)) (a1 : Int) : Option (Int) := lim (fun k_ => laws_szCertificate.f k_ a0_0 a0_1 a0_2 a0_3 l0_4 l0_5 a1)
theorem laws_szCertificate.v_lim (a0_0 : ByteArray) (a0_1 : Int) (a0_2 : Int) (a0_3 : Int) (l0_4 : List Int) (l0_5 : List (S139)) (a1 : Int) : LimIs (fun k_ => laws_szCertificate.f k_ a0_0 a0_1 a0_2 a0_3 l0_4 l0_5 a1) (laws_szCertificate.v a0_0 a0_1 a0_2 a0_3 l0_4 l0_5 a1) := lim_is (fun k_ => laws_szCertificate.mono a0_0 a0_1 a0_2 a0_3 l0_4 l0_5 a1 k_)
theorem laws_szCertificate.v_eq (a0_0 : ByteArray) (a0_1 : Int) (a0_2 : Int) (a0_3 : Int) (l0_4 : List Int) (l0_5 : List (S139)) (a1 : Int) : laws_szCertificate.v a0_0 a0_1 a0_2 a0_3 l0_4 l0_5 a1 = ((laws_szGrant.v a0_0 a0_1 a0_2 a0_3 a1).bind fun t110 => (if t110 < 0 then (some (-1)) else ((laws_szIntS.v l0_4 t110).bind fun t111 => (if t111 < 0 then (some (-1)) else ((laws_szKeySignatureS.v l0_5 t111).bind fun t112 => (if t112 < 0 then (some (-1)) else (some t112)))))) : Option (Int)) := by
  refine LimIs.eq (laws_szCertificate.v_lim a0_0 a0_1 a0_2 a0_3 l0_4 l0_5 a1) ?_
  simp only [laws_szCertificate.f]
  repeat' (with_reducible first | exact laws_szGrant.v_lim _ _ _ _ _ | exact laws_szIntS.v_lim _ _ | exact laws_szKeySignatureS.v_lim _ _ | exact LimIs.const _ | refine LimIs.ite ?_ ?_ | refine LimIs.bind ?_ (fun _ => ?_))
def spec_l01In.f (a0 : Int) (a1 : Int) (a2 : Int) : Option (Bool) := if a0 ≥ a1 then (some (decide (a0 ≤ a2))) else (some false)
def spec_l01In.v (a0 : Int) (a1 : Int) (a2 : Int) : Option (Bool) := spec_l01In.f a0 a1 a2
theorem spec_l01In.v_lim (a0 : Int) (a1 : Int) (a2 : Int) : LimIs (fun _ => spec_l01In.f a0 a1 a2) (spec_l01In.v a0 a1 a2) := LimIs.const _
theorem spec_l01In.v_eq (a0 : Int) (a1 : Int) (a2 : Int) : spec_l01In.v a0 a1 a2 = (if a0 ≥ a1 then (some (decide (a0 ≤ a2))) else (some false) : Option (Bool)) := rfl
def spec_l00Letter.f (a0 : Int) : Option (Bool) := if a0 ≥ 97 then (if a0 ≤ 122 then (some true) else (if a0 ≥ 65 then (if a0 ≤ 90 then (some true) else (some (a0 == 95))) else (some (a0 == 95)))) else (if a0 ≥ 65 then (if a0 ≤ 90 then (some true) else (some (a0 == 95))) else (some (a0 == 95)))
def spec_l00Letter.v (a0 : Int) : Option (Bool) := spec_l00Letter.f a0
theorem spec_l00Letter.v_lim (a0 : Int) : LimIs (fun _ => spec_l00Letter.f a0) (spec_l00Letter.v a0) := LimIs.const _
theorem spec_l00Letter.v_eq (a0 : Int) : spec_l00Letter.v a0 = (if a0 ≥ 97 then (if a0 ≤ 122 then (some true) else (if a0 ≥ 65 then (if a0 ≤ 90 then (some true) else (some (a0 == 95))) else (some (a0 == 95)))) else (if a0 ≥ 65 then (if a0 ≤ 90 then (some true) else (some (a0 == 95))) else (some (a0 == 95))) : Option (Bool)) := rfl
def spec_l00Digit.f (a0 : Int) : Option (Bool) := if a0 ≥ 48 then (some (decide (a0 ≤ 57))) else (some false)
def spec_l00Digit.v (a0 : Int) : Option (Bool) := spec_l00Digit.f a0
theorem spec_l00Digit.v_lim (a0 : Int) : LimIs (fun _ => spec_l00Digit.f a0) (spec_l00Digit.v a0) := LimIs.const _
theorem spec_l00Digit.v_eq (a0 : Int) : spec_l00Digit.v a0 = (if a0 ≥ 48 then (some (decide (a0 ≤ 57))) else (some false) : Option (Bool)) := rfl
mutual
def spec_l00Word.j0 : Nat → ByteArray → Bool → Option (Bool)
  | 0, _, _ => none
  | k + 1, x0, x17 => if x17 = true then (some false) else (spec_l00Word.l0 k x0 1)
def spec_l00Word.l0 : Nat → ByteArray → Int → Option (Bool)
  | 0, _, _ => none
  | k + 1, x0, x3 => if x3 < (x0.size : Int) then (if 0 ≤ x3 then ((spec_l00Letter.f (bt x0 x3)).bind fun t114 => (if t114 = true then (spec_l00Word.l0 k x0 (wrap64 (x3 + 1))) else ((spec_l00Digit.f (bt x0 x3)).bind fun t115 => (if t115 = true then (spec_l00Word.l0 k x0 (wrap64 (x3 + 1))) else (some false))))) else (none)) else (some true)
end
def spec_l00Word.f (k : Nat) (a0 : ByteArray) : Option (Bool) := if (a0.size : Int) < 1 then (spec_l00Word.j0 k a0 true) else (if (a0.size : Int) > 40 then (spec_l00Word.j0 k a0 true) else (if 0 < (a0.size : Int) then ((spec_l00Letter.f (bt a0 0)).bind fun t113 => (spec_l00Word.j0 k a0 (!t113))) else (none)))
theorem spec_l00Word.mono_l : ∀ k, (∀ y0 y1, LeO (spec_l00Word.j0 k y0 y1) (spec_l00Word.j0 (k + 1) y0 y1)) ∧ (∀ y0 y1, LeO (spec_l00Word.l0 k y0 y1) (spec_l00Word.l0 (k + 1) y0 y1))
  | 0 => ⟨fun _ _ r h => by simp [spec_l00Word.j0] at h, fun _ _ r h => by simp [spec_l00Word.l0] at h⟩
  | k + 1 => by
    obtain ⟨ih0, ih1⟩ := spec_l00Word.mono_l k
    refine ⟨?_, ?_⟩
    · intro y0 y1
      unfold spec_l00Word.j0
      repeat' first
      | (with_reducible exact ih0 _ _)
      | (with_reducible exact ih1 _ _)
      | (with_reducible exact LeO.refl _)
      | (with_reducible exact LeO.none _)
      | (with_reducible refine LeO.ite ?_ ?_)
      | (with_reducible refine LeO.bind ?_ (fun _ => ?_))
      | exact ih0 _ _
      | exact ih1 _ _
      | exact LeO.none _
      | refine LeO.ite ?_ ?_
      | refine LeO.bind ?_ (fun _ => ?_)
    · intro y0 y1
      unfold spec_l00Word.l0
      repeat' first
      | (with_reducible exact ih0 _ _)
      | (with_reducible exact ih1 _ _)
      | (with_reducible exact LeO.refl _)
      | (with_reducible exact LeO.none _)
      | (with_reducible refine LeO.ite ?_ ?_)
      | (with_reducible refine LeO.bind ?_ (fun _ => ?_))
      | exact ih0 _ _
      | exact ih1 _ _
      | exact LeO.none _
      | refine LeO.ite ?_ ?_
      | refine LeO.bind ?_ (fun _ => ?_)
theorem spec_l00Word.mono : ∀ a0 k, LeO (spec_l00Word.f k a0) (spec_l00Word.f (k + 1) a0) := by
  intro a0 k
  obtain ⟨ih0, ih1⟩ := spec_l00Word.mono_l k
  unfold spec_l00Word.f
  repeat' first
      | (with_reducible exact ih0 _ _)
      | (with_reducible exact ih1 _ _)
      | (with_reducible exact LeO.refl _)
      | (with_reducible exact LeO.none _)
      | (with_reducible refine LeO.ite ?_ ?_)
      | (with_reducible refine LeO.bind ?_ (fun _ => ?_))
      | exact ih0 _ _
      | exact ih1 _ _
      | exact LeO.none _
      | refine LeO.ite ?_ ?_
      | refine LeO.bind ?_ (fun _ => ?_)
noncomputable def spec_l00Word.jv0 (x0 : ByteArray) (x17 : Bool) : Option (Bool) := lim (fun k_ => spec_l00Word.j0 k_ x0 x17)
noncomputable def spec_l00Word.lv0 (x0 : ByteArray) (x3 : Int) : Option (Bool) := lim (fun k_ => spec_l00Word.l0 k_ x0 x3)
noncomputable def spec_l00Word.v (a0 : ByteArray) : Option (Bool) := lim (fun k_ => spec_l00Word.f k_ a0)
theorem spec_l00Word.jv0_lim (x0 : ByteArray) (x17 : Bool) : LimIs (fun k_ => spec_l00Word.j0 k_ x0 x17) (spec_l00Word.jv0 x0 x17) := lim_is (fun k_ => (spec_l00Word.mono_l k_).1 x0 x17)
theorem spec_l00Word.lv0_lim (x0 : ByteArray) (x3 : Int) : LimIs (fun k_ => spec_l00Word.l0 k_ x0 x3) (spec_l00Word.lv0 x0 x3) := lim_is (fun k_ => (spec_l00Word.mono_l k_).2 x0 x3)
theorem spec_l00Word.v_lim (a0 : ByteArray) : LimIs (fun k_ => spec_l00Word.f k_ a0) (spec_l00Word.v a0) := lim_is (fun k_ => spec_l00Word.mono a0 k_)
theorem spec_l00Word.jv0_eq (x0 : ByteArray) (x17 : Bool) : spec_l00Word.jv0 x0 x17 = (if x17 = true then (some false) else (spec_l00Word.lv0 x0 1) : Option (Bool)) := by
  refine LimIs.eq (spec_l00Word.jv0_lim x0 x17) ?_
  refine LimIs.step (fun k_ => (spec_l00Word.mono_l k_).1 x0 x17) ?_
  simp only [spec_l00Word.j0]
  repeat' (with_reducible first | exact spec_l00Word.lv0_lim _ _ | exact LimIs.const _ | refine LimIs.ite ?_ ?_ | refine LimIs.bind ?_ (fun _ => ?_))
theorem spec_l00Word.lv0_eq (x0 : ByteArray) (x3 : Int) : spec_l00Word.lv0 x0 x3 = (if x3 < (x0.size : Int) then (if 0 ≤ x3 then ((spec_l00Letter.v (bt x0 x3)).bind fun t114 => (if t114 = true then (spec_l00Word.lv0 x0 (wrap64 (x3 + 1))) else ((spec_l00Digit.v (bt x0 x3)).bind fun t115 => (if t115 = true then (spec_l00Word.lv0 x0 (wrap64 (x3 + 1))) else (some false))))) else (none)) else (some true) : Option (Bool)) := by
  refine LimIs.eq (spec_l00Word.lv0_lim x0 x3) ?_
  refine LimIs.step (fun k_ => (spec_l00Word.mono_l k_).2 x0 x3) ?_
  simp only [spec_l00Word.l0]
  repeat' (with_reducible first | exact spec_l00Digit.v_lim _ | exact spec_l00Letter.v_lim _ | exact spec_l00Word.lv0_lim _ _ | exact LimIs.const _ | refine LimIs.ite ?_ ?_ | refine LimIs.bind ?_ (fun _ => ?_))
theorem spec_l00Word.v_eq (a0 : ByteArray) : spec_l00Word.v a0 = (if (a0.size : Int) < 1 then (spec_l00Word.jv0 a0 true) else (if (a0.size : Int) > 40 then (spec_l00Word.jv0 a0 true) else (if 0 < (a0.size : Int) then ((spec_l00Letter.v (bt a0 0)).bind fun t113 => (spec_l00Word.jv0 a0 (!t113))) else (none))) : Option (Bool)) := by
  refine LimIs.eq (spec_l00Word.v_lim a0) ?_
  simp only [spec_l00Word.f]
  repeat' (with_reducible first | exact spec_l00Letter.v_lim _ | exact spec_l00Word.jv0_lim _ _ | exact LimIs.const _ | refine LimIs.ite ?_ ?_ | refine LimIs.bind ?_ (fun _ => ?_))
def spec_NameOK.f (k : Nat) (a0 : ByteArray) : Option (Bool) := (spec_l00Word.f k a0).bind fun t116 => (some t116)
theorem spec_NameOK.mono : ∀ a0 k, LeO (spec_NameOK.f k a0) (spec_NameOK.f (k + 1) a0) := by
  intro a0 k
  unfold spec_NameOK.f
  repeat' first
      | (with_reducible exact spec_l00Word.mono _ _)
      | (with_reducible exact LeO.refl _)
      | (with_reducible exact LeO.none _)
      | (with_reducible refine LeO.ite ?_ ?_)
      | (with_reducible refine LeO.bind ?_ (fun _ => ?_))
      | exact spec_l00Word.mono _ _
      | exact LeO.none _
      | refine LeO.ite ?_ ?_
      | refine LeO.bind ?_ (fun _ => ?_)
noncomputable def spec_NameOK.v (a0 : ByteArray) : Option (Bool) := lim (fun k_ => spec_NameOK.f k_ a0)
theorem spec_NameOK.v_lim (a0 : ByteArray) : LimIs (fun k_ => spec_NameOK.f k_ a0) (spec_NameOK.v a0) := lim_is (fun k_ => spec_NameOK.mono a0 k_)
theorem spec_NameOK.v_eq (a0 : ByteArray) : spec_NameOK.v a0 = ((spec_l00Word.v a0).bind fun t116 => (some t116) : Option (Bool)) := by
  refine LimIs.eq (spec_NameOK.v_lim a0) ?_
  simp only [spec_NameOK.f]
  repeat' (with_reducible first | exact spec_l00Word.v_lim _ | exact LimIs.const _ | refine LimIs.ite ?_ ?_ | refine LimIs.bind ?_ (fun _ => ?_))
def spec_l02Text.f (k : Nat) (a0 : ByteArray) (a1 : Int) : Option (Bool) := (spec_l01In.f (a0.size : Int) 1 a1).bind fun t117 => (if t117 = true then ((spec_NameOK.f k a0).bind fun t118 => (some t118)) else (some false))
theorem spec_l02Text.mono : ∀ a0 a1 k, LeO (spec_l02Text.f k a0 a1) (spec_l02Text.f (k + 1) a0 a1) := by
  intro a0 a1 k
  unfold spec_l02Text.f
  repeat' first
      | (with_reducible exact spec_NameOK.mono _ _)
      | (with_reducible exact LeO.refl _)
      | (with_reducible exact LeO.none _)
      | (with_reducible refine LeO.ite ?_ ?_)
      | (with_reducible refine LeO.bind ?_ (fun _ => ?_))
      | exact spec_NameOK.mono _ _
      | exact LeO.none _
      | refine LeO.ite ?_ ?_
      | refine LeO.bind ?_ (fun _ => ?_)
noncomputable def spec_l02Text.v (a0 : ByteArray) (a1 : Int) : Option (Bool) := lim (fun k_ => spec_l02Text.f k_ a0 a1)
theorem spec_l02Text.v_lim (a0 : ByteArray) (a1 : Int) : LimIs (fun k_ => spec_l02Text.f k_ a0 a1) (spec_l02Text.v a0 a1) := lim_is (fun k_ => spec_l02Text.mono a0 a1 k_)
theorem spec_l02Text.v_eq (a0 : ByteArray) (a1 : Int) : spec_l02Text.v a0 a1 = ((spec_l01In.v (a0.size : Int) 1 a1).bind fun t117 => (if t117 = true then ((spec_NameOK.v a0).bind fun t118 => (some t118)) else (some false)) : Option (Bool)) := by
  refine LimIs.eq (spec_l02Text.v_lim a0 a1) ?_
  simp only [spec_l02Text.f]
  repeat' (with_reducible first | exact spec_NameOK.v_lim _ | exact spec_l01In.v_lim _ _ _ | exact LimIs.const _ | refine LimIs.ite ?_ ?_ | refine LimIs.bind ?_ (fun _ => ?_))
def spec_GrantOK.f (k : Nat) (a0_0 : ByteArray) (a0_1 : Int) (a0_2 : Int) (a0_3 : Int) : Option (Bool) := (spec_l02Text.f k a0_0 12).bind fun t120 => (if t120 = true then ((spec_l01In.f a0_1 0 255).bind fun t121 => (if t121 = true then ((spec_l01In.f a0_2 1 1000000).bind fun t122 => (if t122 = true then ((spec_l01In.f a0_3 0 2000000000).bind fun t123 => (some t123)) else (some false))) else (some false))) else (some false))
theorem spec_GrantOK.mono : ∀ a0 a1 a2 a3 k, LeO (spec_GrantOK.f k a0 a1 a2 a3) (spec_GrantOK.f (k + 1) a0 a1 a2 a3) := by
  intro a0 a1 a2 a3 k
  unfold spec_GrantOK.f
  repeat' first
      | (with_reducible exact spec_l02Text.mono _ _ _)
      | (with_reducible exact LeO.refl _)
      | (with_reducible exact LeO.none _)
      | (with_reducible refine LeO.ite ?_ ?_)
      | (with_reducible refine LeO.bind ?_ (fun _ => ?_))
      | exact spec_l02Text.mono _ _ _
      | exact LeO.none _
      | refine LeO.ite ?_ ?_
      | refine LeO.bind ?_ (fun _ => ?_)
noncomputable def spec_GrantOK.v (a0_0 : ByteArray) (a0_1 : Int) (a0_2 : Int) (a0_3 : Int) : Option (Bool) := lim (fun k_ => spec_GrantOK.f k_ a0_0 a0_1 a0_2 a0_3)
theorem spec_GrantOK.v_lim (a0_0 : ByteArray) (a0_1 : Int) (a0_2 : Int) (a0_3 : Int) : LimIs (fun k_ => spec_GrantOK.f k_ a0_0 a0_1 a0_2 a0_3) (spec_GrantOK.v a0_0 a0_1 a0_2 a0_3) := lim_is (fun k_ => spec_GrantOK.mono a0_0 a0_1 a0_2 a0_3 k_)
theorem spec_GrantOK.v_eq (a0_0 : ByteArray) (a0_1 : Int) (a0_2 : Int) (a0_3 : Int) : spec_GrantOK.v a0_0 a0_1 a0_2 a0_3 = ((spec_l02Text.v a0_0 12).bind fun t120 => (if t120 = true then ((spec_l01In.v a0_1 0 255).bind fun t121 => (if t121 = true then ((spec_l01In.v a0_2 1 1000000).bind fun t122 => (if t122 = true then ((spec_l01In.v a0_3 0 2000000000).bind fun t123 => (some t123)) else (some false))) else (some false))) else (some false)) : Option (Bool)) := by
  refine LimIs.eq (spec_GrantOK.v_lim a0_0 a0_1 a0_2 a0_3) ?_
  simp only [spec_GrantOK.f]
  repeat' (with_reducible first | exact spec_l01In.v_lim _ _ _ | exact spec_l02Text.v_lim _ _ | exact LimIs.const _ | refine LimIs.ite ?_ ?_ | refine LimIs.bind ?_ (fun _ => ?_))
def spec_l04Nodes.f (a0 : Int) : Option (Bool) := if a0 = 1 then (some true) else (if a0 = 4 then (some true) else (some (a0 == 7)))
def spec_l04Nodes.v (a0 : Int) : Option (Bool) := spec_l04Nodes.f a0
theorem spec_l04Nodes.v_lim (a0 : Int) : LimIs (fun _ => spec_l04Nodes.f a0) (spec_l04Nodes.v a0) := LimIs.const _
theorem spec_l04Nodes.v_eq (a0 : Int) : spec_l04Nodes.v a0 = (if a0 = 1 then (some true) else (if a0 = 4 then (some true) else (some (a0 == 7))) : Option (Bool)) := rfl
def spec_l12From.l0 : Nat → Int → List Int → Int → Option (Bool)
  | 0, _, _, _ => none
  | k + 1, x0, x1, x5 => if x5 < (x1.length : Int) then (if 0 ≤ x5 then ((spec_l01In.f (rd x1 x5) 0 (wrap64 (x0 - 1))).bind fun t125 => (if t125 = true then (if x5 > 0 then (if 0 ≤ (wrap64 (x5 - 1)) then (if (wrap64 (x5 - 1)) < (x1.length : Int) then (if (rd x1 (wrap64 (x5 - 1))) ≥ (rd x1 x5) then (some false) else (spec_l12From.l0 k x0 x1 (wrap64 (x5 + 1)))) else (none)) else (none)) else (spec_l12From.l0 k x0 x1 (wrap64 (x5 + 1)))) else (some false))) else (none)) else (some true)
def spec_l12From.f (k : Nat) (a0 : Int) (l1 : List Int) : Option (Bool) := if (l1.length : Int) = (wrap64 ((wrap64 (Int.tdiv (wrap64 (a0 - 1)) 3)) + 1)) then (spec_l12From.l0 k a0 l1 0) else (some false)
theorem spec_l12From.mono_l : ∀ k, (∀ y0 y1 y2, LeO (spec_l12From.l0 k y0 y1 y2) (spec_l12From.l0 (k + 1) y0 y1 y2))
  | 0 => fun _ _ _ r h => by simp [spec_l12From.l0] at h
  | k + 1 => by
    have ih0 := spec_l12From.mono_l k
    · intro y0 y1 y2
      unfold spec_l12From.l0
      repeat' first
      | (with_reducible exact ih0 _ _ _)
      | (with_reducible exact LeO.refl _)
      | (with_reducible exact LeO.none _)
      | (with_reducible refine LeO.ite ?_ ?_)
      | (with_reducible refine LeO.bind ?_ (fun _ => ?_))
      | exact ih0 _ _ _
      | exact LeO.none _
      | refine LeO.ite ?_ ?_
      | refine LeO.bind ?_ (fun _ => ?_)
theorem spec_l12From.mono : ∀ a0 a1 k, LeO (spec_l12From.f k a0 a1) (spec_l12From.f (k + 1) a0 a1) := by
  intro a0 a1 k
  have ih0 := spec_l12From.mono_l k
  unfold spec_l12From.f
  repeat' first
      | (with_reducible exact ih0 _ _ _)
      | (with_reducible exact LeO.refl _)
      | (with_reducible exact LeO.none _)
      | (with_reducible refine LeO.ite ?_ ?_)
      | (with_reducible refine LeO.bind ?_ (fun _ => ?_))
      | exact ih0 _ _ _
      | exact LeO.none _
      | refine LeO.ite ?_ ?_
      | refine LeO.bind ?_ (fun _ => ?_)
noncomputable def spec_l12From.lv0 (x0 : Int) (x1 : List Int) (x5 : Int) : Option (Bool) := lim (fun k_ => spec_l12From.l0 k_ x0 x1 x5)
noncomputable def spec_l12From.v (a0 : Int) (l1 : List Int) : Option (Bool) := lim (fun k_ => spec_l12From.f k_ a0 l1)
theorem spec_l12From.lv0_lim (x0 : Int) (x1 : List Int) (x5 : Int) : LimIs (fun k_ => spec_l12From.l0 k_ x0 x1 x5) (spec_l12From.lv0 x0 x1 x5) := lim_is (fun k_ => (spec_l12From.mono_l k_) x0 x1 x5)
theorem spec_l12From.v_lim (a0 : Int) (l1 : List Int) : LimIs (fun k_ => spec_l12From.f k_ a0 l1) (spec_l12From.v a0 l1) := lim_is (fun k_ => spec_l12From.mono a0 l1 k_)
theorem spec_l12From.lv0_eq (x0 : Int) (x1 : List Int) (x5 : Int) : spec_l12From.lv0 x0 x1 x5 = (if x5 < (x1.length : Int) then (if 0 ≤ x5 then ((spec_l01In.v (rd x1 x5) 0 (wrap64 (x0 - 1))).bind fun t125 => (if t125 = true then (if x5 > 0 then (if 0 ≤ (wrap64 (x5 - 1)) then (if (wrap64 (x5 - 1)) < (x1.length : Int) then (if (rd x1 (wrap64 (x5 - 1))) ≥ (rd x1 x5) then (some false) else (spec_l12From.lv0 x0 x1 (wrap64 (x5 + 1)))) else (none)) else (none)) else (spec_l12From.lv0 x0 x1 (wrap64 (x5 + 1)))) else (some false))) else (none)) else (some true) : Option (Bool)) := by
  refine LimIs.eq (spec_l12From.lv0_lim x0 x1 x5) ?_
  refine LimIs.step (fun k_ => (spec_l12From.mono_l k_) x0 x1 x5) ?_
  simp only [spec_l12From.l0]
  repeat' (with_reducible first | exact spec_l01In.v_lim _ _ _ | exact spec_l12From.lv0_lim _ _ _ | exact LimIs.const _ | refine LimIs.ite ?_ ?_ | refine LimIs.bind ?_ (fun _ => ?_))
theorem spec_l12From.v_eq (a0 : Int) (l1 : List Int) : spec_l12From.v a0 l1 = (if (l1.length : Int) = (wrap64 ((wrap64 (Int.tdiv (wrap64 (a0 - 1)) 3)) + 1)) then (spec_l12From.lv0 a0 l1 0) else (some false) : Option (Bool)) := by
  refine LimIs.eq (spec_l12From.v_lim a0 l1) ?_
  simp only [spec_l12From.f]
  repeat' (with_reducible first | exact spec_l12From.lv0_lim _ _ _ | exact LimIs.const _ | refine LimIs.ite ?_ ?_ | refine LimIs.bind ?_ (fun _ => ?_))
def spec_l03Hashes.l0 : Nat → List ByteArray → Int → Int → Option (Bool)
  | 0, _, _, _ => none
  | k + 1, x0, x1, x5 => if x5 < x1 then (if 0 ≤ x5 then (if x5 < (x0.length : Int) then (if ((rdOf ByteArray.empty x0 x5).size : Int) = 32 then (spec_l03Hashes.l0 k x0 x1 (wrap64 (x5 + 1))) else (some false)) else (none)) else (none)) else (some true)
def spec_l03Hashes.f (k : Nat) (l0 : List ByteArray) (a1 : Int) : Option (Bool) := if (l0.length : Int) = a1 then (spec_l03Hashes.l0 k l0 a1 0) else (some false)
theorem spec_l03Hashes.mono_l : ∀ k, (∀ y0 y1 y2, LeO (spec_l03Hashes.l0 k y0 y1 y2) (spec_l03Hashes.l0 (k + 1) y0 y1 y2))
  | 0 => fun _ _ _ r h => by simp [spec_l03Hashes.l0] at h
  | k + 1 => by
    have ih0 := spec_l03Hashes.mono_l k
    · intro y0 y1 y2
      unfold spec_l03Hashes.l0
      repeat' first
      | (with_reducible exact ih0 _ _ _)
      | (with_reducible exact LeO.refl _)
      | (with_reducible exact LeO.none _)
      | (with_reducible refine LeO.ite ?_ ?_)
      | (with_reducible refine LeO.bind ?_ (fun _ => ?_))
      | exact ih0 _ _ _
      | exact LeO.none _
      | refine LeO.ite ?_ ?_
      | refine LeO.bind ?_ (fun _ => ?_)
theorem spec_l03Hashes.mono : ∀ a0 a1 k, LeO (spec_l03Hashes.f k a0 a1) (spec_l03Hashes.f (k + 1) a0 a1) := by
  intro a0 a1 k
  have ih0 := spec_l03Hashes.mono_l k
  unfold spec_l03Hashes.f
  repeat' first
      | (with_reducible exact ih0 _ _ _)
      | (with_reducible exact LeO.refl _)
      | (with_reducible exact LeO.none _)
      | (with_reducible refine LeO.ite ?_ ?_)
      | (with_reducible refine LeO.bind ?_ (fun _ => ?_))
      | exact ih0 _ _ _
      | exact LeO.none _
      | refine LeO.ite ?_ ?_
      | refine LeO.bind ?_ (fun _ => ?_)
noncomputable def spec_l03Hashes.lv0 (x0 : List ByteArray) (x1 : Int) (x5 : Int) : Option (Bool) := lim (fun k_ => spec_l03Hashes.l0 k_ x0 x1 x5)
noncomputable def spec_l03Hashes.v (l0 : List ByteArray) (a1 : Int) : Option (Bool) := lim (fun k_ => spec_l03Hashes.f k_ l0 a1)
theorem spec_l03Hashes.lv0_lim (x0 : List ByteArray) (x1 : Int) (x5 : Int) : LimIs (fun k_ => spec_l03Hashes.l0 k_ x0 x1 x5) (spec_l03Hashes.lv0 x0 x1 x5) := lim_is (fun k_ => (spec_l03Hashes.mono_l k_) x0 x1 x5)
theorem spec_l03Hashes.v_lim (l0 : List ByteArray) (a1 : Int) : LimIs (fun k_ => spec_l03Hashes.f k_ l0 a1) (spec_l03Hashes.v l0 a1) := lim_is (fun k_ => spec_l03Hashes.mono l0 a1 k_)
theorem spec_l03Hashes.lv0_eq (x0 : List ByteArray) (x1 : Int) (x5 : Int) : spec_l03Hashes.lv0 x0 x1 x5 = (if x5 < x1 then (if 0 ≤ x5 then (if x5 < (x0.length : Int) then (if ((rdOf ByteArray.empty x0 x5).size : Int) = 32 then (spec_l03Hashes.lv0 x0 x1 (wrap64 (x5 + 1))) else (some false)) else (none)) else (none)) else (some true) : Option (Bool)) := by
  refine LimIs.eq (spec_l03Hashes.lv0_lim x0 x1 x5) ?_
  refine LimIs.step (fun k_ => (spec_l03Hashes.mono_l k_) x0 x1 x5) ?_
  simp only [spec_l03Hashes.l0]
  repeat' (with_reducible first | exact spec_l03Hashes.lv0_lim _ _ _ | exact LimIs.const _ | refine LimIs.ite ?_ ?_ | refine LimIs.bind ?_ (fun _ => ?_))
theorem spec_l03Hashes.v_eq (l0 : List ByteArray) (a1 : Int) : spec_l03Hashes.v l0 a1 = (if (l0.length : Int) = a1 then (spec_l03Hashes.lv0 l0 a1 0) else (some false) : Option (Bool)) := by
  refine LimIs.eq (spec_l03Hashes.v_lim l0 a1) ?_
  simp only [spec_l03Hashes.f]
  repeat' (with_reducible first | exact spec_l03Hashes.lv0_lim _ _ _ | exact LimIs.const _ | refine LimIs.ite ?_ ?_ | refine LimIs.bind ?_ (fun _ => ?_))
def spec_l01Consts.f  : Option (List Int) := some (([1116352408, 1899447441, 3049323471, 3921009573, 961987163, 1508970993, 2453635748, 2870763221, 3624381080, 310598401, 607225278, 1426881987, 1925078388, 2162078206, 2614888103, 3248222580, 3835390401, 4022224774, 264347078, 604807628, 770255983, 1249150122, 1555081692, 1996064986, 2554220882, 2821834349, 2952996808, 3210313671, 3336571891, 3584528711, 113926993, 338241895, 666307205, 773529912, 1294757372, 1396182291, 1695183700, 1986661051, 2177026350, 2456956037, 2730485921, 2820302411, 3259730800, 3345764771, 3516065817, 3600352804, 4094571909, 275423344, 430227734, 506948616, 659060556, 883997877, 958139571, 1322822218, 1537002063, 1747873779, 1955562222, 2024104815, 2227730452, 2361852424, 2428436474, 2756734187, 3204031479, 3329325298] : List Int))
def spec_l01Consts.v : Option (List Int) := spec_l01Consts.f
theorem spec_l01Consts.v_lim : LimIs (fun _ => spec_l01Consts.f ) (spec_l01Consts.v ) := LimIs.const _
theorem spec_l01Consts.v_eq : spec_l01Consts.v  = (some (([1116352408, 1899447441, 3049323471, 3921009573, 961987163, 1508970993, 2453635748, 2870763221, 3624381080, 310598401, 607225278, 1426881987, 1925078388, 2162078206, 2614888103, 3248222580, 3835390401, 4022224774, 264347078, 604807628, 770255983, 1249150122, 1555081692, 1996064986, 2554220882, 2821834349, 2952996808, 3210313671, 3336571891, 3584528711, 113926993, 338241895, 666307205, 773529912, 1294757372, 1396182291, 1695183700, 1986661051, 2177026350, 2456956037, 2730485921, 2820302411, 3259730800, 3345764771, 3516065817, 3600352804, 4094571909, 275423344, 430227734, 506948616, 659060556, 883997877, 958139571, 1322822218, 1537002063, 1747873779, 1955562222, 2024104815, 2227730452, 2361852424, 2428436474, 2756734187, 3204031479, 3329325298] : List Int)) : Option (List Int)) := rfl
def spec_l01Turn.f (a0 : Int) (a1 : Int) : Option (Int) := if 0 ≤ a1 then (if 0 ≤ (IntKind.u64.wrap (32 - a1)) then (some (Go.bits .or .u32 (shr .u32 a0 a1) (shl .u32 a0 (IntKind.u64.wrap (32 - a1))))) else (none)) else (none)
def spec_l01Turn.v (a0 : Int) (a1 : Int) : Option (Int) := spec_l01Turn.f a0 a1
theorem spec_l01Turn.v_lim (a0 : Int) (a1 : Int) : LimIs (fun _ => spec_l01Turn.f a0 a1) (spec_l01Turn.v a0 a1) := LimIs.const _
theorem spec_l01Turn.v_eq (a0 : Int) (a1 : Int) : spec_l01Turn.v a0 a1 = (if 0 ≤ a1 then (if 0 ≤ (IntKind.u64.wrap (32 - a1)) then (some (Go.bits .or .u32 (shr .u32 a0 a1) (shl .u32 a0 (IntKind.u64.wrap (32 - a1))))) else (none)) else (none) : Option (Int)) := rfl
mutual
def spec_l01Block.l0 : Nat → List Int → List Int → List Int → List Int → Int → Option (List Int)
  | 0, _, _, _, _, _ => none
  | k + 1, x0, x1, x2, x6, x7 => if x7 < 16 then (if 0 ≤ (wrap64 (4 * x7)) then (if (wrap64 (4 * x7)) < (x1.length : Int) then (if 0 ≤ (wrap64 ((wrap64 (4 * x7)) + 1)) then (if (wrap64 ((wrap64 (4 * x7)) + 1)) < (x1.length : Int) then (if 0 ≤ (wrap64 ((wrap64 (4 * x7)) + 2)) then (if (wrap64 ((wrap64 (4 * x7)) + 2)) < (x1.length : Int) then (if 0 ≤ (wrap64 ((wrap64 (4 * x7)) + 3)) then (if (wrap64 ((wrap64 (4 * x7)) + 3)) < (x1.length : Int) then (if 0 ≤ x7 then (if x7 < (x6.length : Int) then (spec_l01Block.l0 k x0 x1 x2 (x6.set (x7 : Int).toNat (Go.bits .or .u32 (Go.bits .or .u32 (Go.bits .or .u32 ((((rd x1 (wrap64 (4 * x7))) % 4294967296) * 16777216) % 4294967296) ((((rd x1 (wrap64 ((wrap64 (4 * x7)) + 1))) % 4294967296) * 65536) % 4294967296)) ((((rd x1 (wrap64 ((wrap64 (4 * x7)) + 2))) % 4294967296) * 256) % 4294967296)) ((rd x1 (wrap64 ((wrap64 (4 * x7)) + 3))) % 4294967296))) (wrap64 (x7 + 1))) else (none)) else (none)) else (none)) else (none)) else (none)) else (none)) else (none)) else (none)) else (none)) else (none)) else (spec_l01Block.l1 k x0 x2 x6 16)
def spec_l01Block.l1 : Nat → List Int → List Int → List Int → Int → Option (List Int)
  | 0, _, _, _, _ => none
  | k + 1, x0, x2, x6, x8 => if x8 < 64 then (if 0 ≤ (wrap64 (x8 - 15)) then (if (wrap64 (x8 - 15)) < (x6.length : Int) then (if 0 ≤ (wrap64 (x8 - 2)) then (if (wrap64 (x8 - 2)) < (x6.length : Int) then (if 0 ≤ (wrap64 (x8 - 16)) then (if (wrap64 (x8 - 16)) < (x6.length : Int) then ((spec_l01Turn.f (rd x6 (wrap64 (x8 - 15))) 7).bind fun t143 => ((spec_l01Turn.f (rd x6 (wrap64 (x8 - 15))) 18).bind fun t144 => (if 0 ≤ (wrap64 (x8 - 7)) then (if (wrap64 (x8 - 7)) < (x6.length : Int) then ((spec_l01Turn.f (rd x6 (wrap64 (x8 - 2))) 17).bind fun t146 => ((spec_l01Turn.f (rd x6 (wrap64 (x8 - 2))) 19).bind fun t147 => (if 0 ≤ x8 then (if x8 < (x6.length : Int) then (spec_l01Block.l1 k x0 x2 (x6.set (x8 : Int).toNat (((((rd x6 (wrap64 (x8 - 16))) + (Go.bits .xor .u32 (Go.bits .xor .u32 t143 t144) ((rd x6 (wrap64 (x8 - 15))) / 8))) + (rd x6 (wrap64 (x8 - 7)))) + (Go.bits .xor .u32 (Go.bits .xor .u32 t146 t147) ((rd x6 (wrap64 (x8 - 2))) / 1024))) % 4294967296)) (wrap64 (x8 + 1))) else (none)) else (none)))) else (none)) else (none)))) else (none)) else (none)) else (none)) else (none)) else (none)) else (none)) else ((some (([] : List Int) : List Int)).bind fun y149 => (if y149.length + x0.length < 35184372088832 then (spec_l01Block.l2 k x0 x2 x6 (y149 ++ x0) 0) else (none)))
def spec_l01Block.l2 : Nat → List Int → List Int → List Int → List Int → Int → Option (List Int)
  | 0, _, _, _, _, _ => none
  | k + 1, x0, x2, x6, x11, x12 => if x12 < 64 then (if 4 < (x11.length : Int) then (if 0 < (x11.length : Int) then (if 7 < (x11.length : Int) then ((spec_l01Turn.f (rd x11 4) 6).bind fun t158 => ((spec_l01Turn.f (rd x11 4) 11).bind fun t159 => ((spec_l01Turn.f (rd x11 4) 25).bind fun t160 => (if 5 < (x11.length : Int) then (if 6 < (x11.length : Int) then (if 0 ≤ x12 then (if x12 < (x2.length : Int) then (if x12 < (x6.length : Int) then ((spec_l01Turn.f (rd x11 0) 2).bind fun t165 => ((spec_l01Turn.f (rd x11 0) 13).bind fun t166 => ((spec_l01Turn.f (rd x11 0) 22).bind fun t167 => (if 1 < (x11.length : Int) then (if 2 < (x11.length : Int) then (if 3 < (x11.length : Int) then (spec_l01Block.l2 k x0 x2 x6 (([((((((rd x11 7) + (Go.bits .xor .u32 (Go.bits .xor .u32 t158 t159) t160)) + (Go.bits .xor .u32 (Go.bits .and .u32 (rd x11 4) (rd x11 5)) (Go.bits .and .u32 (Go.bits .xor .u32 4294967295 (rd x11 4)) (rd x11 6)))) + (rd x2 x12)) + (rd x6 x12)) + ((Go.bits .xor .u32 (Go.bits .xor .u32 t165 t166) t167) + (Go.bits .xor .u32 (Go.bits .xor .u32 (Go.bits .and .u32 (rd x11 0) (rd x11 1)) (Go.bits .and .u32 (rd x11 0) (rd x11 2))) (Go.bits .and .u32 (rd x11 1) (rd x11 2))))) % 4294967296, rd x11 0, rd x11 1, rd x11 2, ((rd x11 3) + (((((rd x11 7) + (Go.bits .xor .u32 (Go.bits .xor .u32 t158 t159) t160)) + (Go.bits .xor .u32 (Go.bits .and .u32 (rd x11 4) (rd x11 5)) (Go.bits .and .u32 (Go.bits .xor .u32 4294967295 (rd x11 4)) (rd x11 6)))) + (rd x2 x12)) + (rd x6 x12))) % 4294967296, rd x11 4, rd x11 5, rd x11 6] : List Int)) (wrap64 (x12 + 1))) else (none)) else (none)) else (none))))) else (none)) else (none)) else (none)) else (none)) else (none))))) else (none)) else (none)) else (none)) else (spec_l01Block.l3 k x0 x11 0)
def spec_l01Block.l3 : Nat → List Int → List Int → Int → Option (List Int)
  | 0, _, _, _ => none
  | k + 1, x0, x11, x17 => if x17 < 8 then (if 0 ≤ x17 then (if x17 < (x0.length : Int) then (if x17 < (x11.length : Int) then (spec_l01Block.l3 k (x0.set (x17 : Int).toNat (((rd x0 x17) + (rd x11 x17)) % 4294967296)) x11 (wrap64 (x17 + 1))) else (none)) else (none)) else (none)) else (some x0)
end
def spec_l01Block.f (k : Nat) (l0 : List Int) (l1 : List Int) (l2 : List Int) : Option (List Int) := if l0.length = 8 ∧ l1.length = 64 ∧ l2.length = 64 then (if 64 ≤ 70368744177664 then (spec_l01Block.l0 k l0 l1 l2 (List.replicate 64 0) 0) else (none)) else (none)
theorem spec_l01Block.mono_l : ∀ k, (∀ y0 y1 y2 y3 y4, LeO (spec_l01Block.l0 k y0 y1 y2 y3 y4) (spec_l01Block.l0 (k + 1) y0 y1 y2 y3 y4)) ∧ (∀ y0 y1 y2 y3, LeO (spec_l01Block.l1 k y0 y1 y2 y3) (spec_l01Block.l1 (k + 1) y0 y1 y2 y3)) ∧ (∀ y0 y1 y2 y3 y4, LeO (spec_l01Block.l2 k y0 y1 y2 y3 y4) (spec_l01Block.l2 (k + 1) y0 y1 y2 y3 y4)) ∧ (∀ y0 y1 y2, LeO (spec_l01Block.l3 k y0 y1 y2) (spec_l01Block.l3 (k + 1) y0 y1 y2))
  | 0 => ⟨fun _ _ _ _ _ r h => by simp [spec_l01Block.l0] at h, fun _ _ _ _ r h => by simp [spec_l01Block.l1] at h, fun _ _ _ _ _ r h => by simp [spec_l01Block.l2] at h, fun _ _ _ r h => by simp [spec_l01Block.l3] at h⟩
  | k + 1 => by
    obtain ⟨ih0, ih1, ih2, ih3⟩ := spec_l01Block.mono_l k
    refine ⟨?_, ?_, ?_, ?_⟩
    · intro y0 y1 y2 y3 y4
      unfold spec_l01Block.l0
      repeat' first
      | (with_reducible exact ih0 _ _ _ _ _)
      | (with_reducible exact ih1 _ _ _ _)
      | (with_reducible exact ih2 _ _ _ _ _)
      | (with_reducible exact ih3 _ _ _)
      | (with_reducible exact LeO.refl _)
      | (with_reducible exact LeO.none _)
      | (with_reducible refine LeO.ite ?_ ?_)
      | (with_reducible refine LeO.bind ?_ (fun _ => ?_))
      | exact ih0 _ _ _ _ _
      | exact ih1 _ _ _ _
      | exact ih2 _ _ _ _ _
      | exact ih3 _ _ _
      | exact LeO.none _
      | refine LeO.ite ?_ ?_
      | refine LeO.bind ?_ (fun _ => ?_)
    · intro y0 y1 y2 y3
      unfold spec_l01Block.l1
      repeat' first
      | (with_reducible exact ih0 _ _ _ _ _)
      | (with_reducible exact ih1 _ _ _ _)
      | (with_reducible exact ih2 _ _ _ _ _)
      | (with_reducible exact ih3 _ _ _)
      | (with_reducible exact LeO.refl _)
      | (with_reducible exact LeO.none _)
      | (with_reducible refine LeO.ite ?_ ?_)
      | (with_reducible refine LeO.bind ?_ (fun _ => ?_))
      | exact ih0 _ _ _ _ _
      | exact ih1 _ _ _ _
      | exact ih2 _ _ _ _ _
      | exact ih3 _ _ _
      | exact LeO.none _
      | refine LeO.ite ?_ ?_
      | refine LeO.bind ?_ (fun _ => ?_)
    · intro y0 y1 y2 y3 y4
      unfold spec_l01Block.l2
      repeat' first
      | (with_reducible exact ih0 _ _ _ _ _)
      | (with_reducible exact ih1 _ _ _ _)
      | (with_reducible exact ih2 _ _ _ _ _)
      | (with_reducible exact ih3 _ _ _)
      | (with_reducible exact LeO.refl _)
      | (with_reducible exact LeO.none _)
      | (with_reducible refine LeO.ite ?_ ?_)
      | (with_reducible refine LeO.bind ?_ (fun _ => ?_))
      | exact ih0 _ _ _ _ _
      | exact ih1 _ _ _ _
      | exact ih2 _ _ _ _ _
      | exact ih3 _ _ _
      | exact LeO.none _
      | refine LeO.ite ?_ ?_
      | refine LeO.bind ?_ (fun _ => ?_)
    · intro y0 y1 y2
      unfold spec_l01Block.l3
      repeat' first
      | (with_reducible exact ih0 _ _ _ _ _)
      | (with_reducible exact ih1 _ _ _ _)
      | (with_reducible exact ih2 _ _ _ _ _)
      | (with_reducible exact ih3 _ _ _)
      | (with_reducible exact LeO.refl _)
      | (with_reducible exact LeO.none _)
      | (with_reducible refine LeO.ite ?_ ?_)
      | (with_reducible refine LeO.bind ?_ (fun _ => ?_))
      | exact ih0 _ _ _ _ _
      | exact ih1 _ _ _ _
      | exact ih2 _ _ _ _ _
      | exact ih3 _ _ _
      | exact LeO.none _
      | refine LeO.ite ?_ ?_
      | refine LeO.bind ?_ (fun _ => ?_)
theorem spec_l01Block.mono : ∀ a0 a1 a2 k, LeO (spec_l01Block.f k a0 a1 a2) (spec_l01Block.f (k + 1) a0 a1 a2) := by
  intro a0 a1 a2 k
  obtain ⟨ih0, ih1, ih2, ih3⟩ := spec_l01Block.mono_l k
  unfold spec_l01Block.f
  repeat' first
      | (with_reducible exact ih0 _ _ _ _ _)
      | (with_reducible exact ih1 _ _ _ _)
      | (with_reducible exact ih2 _ _ _ _ _)
      | (with_reducible exact ih3 _ _ _)
      | (with_reducible exact LeO.refl _)
      | (with_reducible exact LeO.none _)
      | (with_reducible refine LeO.ite ?_ ?_)
      | (with_reducible refine LeO.bind ?_ (fun _ => ?_))
      | exact ih0 _ _ _ _ _
      | exact ih1 _ _ _ _
      | exact ih2 _ _ _ _ _
      | exact ih3 _ _ _
      | exact LeO.none _
      | refine LeO.ite ?_ ?_
      | refine LeO.bind ?_ (fun _ => ?_)
noncomputable def spec_l01Block.lv0 (x0 : List Int) (x1 : List Int) (x2 : List Int) (x6 : List Int) (x7 : Int) : Option (List Int) := lim (fun k_ => spec_l01Block.l0 k_ x0 x1 x2 x6 x7)
noncomputable def spec_l01Block.lv1 (x0 : List Int) (x2 : List Int) (x6 : List Int) (x8 : Int) : Option (List Int) := lim (fun k_ => spec_l01Block.l1 k_ x0 x2 x6 x8)
noncomputable def spec_l01Block.lv2 (x0 : List Int) (x2 : List Int) (x6 : List Int) (x11 : List Int) (x12 : Int) : Option (List Int) := lim (fun k_ => spec_l01Block.l2 k_ x0 x2 x6 x11 x12)
noncomputable def spec_l01Block.lv3 (x0 : List Int) (x11 : List Int) (x17 : Int) : Option (List Int) := lim (fun k_ => spec_l01Block.l3 k_ x0 x11 x17)
noncomputable def spec_l01Block.v (l0 : List Int) (l1 : List Int) (l2 : List Int) : Option (List Int) := lim (fun k_ => spec_l01Block.f k_ l0 l1 l2)
theorem spec_l01Block.lv0_lim (x0 : List Int) (x1 : List Int) (x2 : List Int) (x6 : List Int) (x7 : Int) : LimIs (fun k_ => spec_l01Block.l0 k_ x0 x1 x2 x6 x7) (spec_l01Block.lv0 x0 x1 x2 x6 x7) := lim_is (fun k_ => (spec_l01Block.mono_l k_).1 x0 x1 x2 x6 x7)
theorem spec_l01Block.lv1_lim (x0 : List Int) (x2 : List Int) (x6 : List Int) (x8 : Int) : LimIs (fun k_ => spec_l01Block.l1 k_ x0 x2 x6 x8) (spec_l01Block.lv1 x0 x2 x6 x8) := lim_is (fun k_ => (spec_l01Block.mono_l k_).2.1 x0 x2 x6 x8)
theorem spec_l01Block.lv2_lim (x0 : List Int) (x2 : List Int) (x6 : List Int) (x11 : List Int) (x12 : Int) : LimIs (fun k_ => spec_l01Block.l2 k_ x0 x2 x6 x11 x12) (spec_l01Block.lv2 x0 x2 x6 x11 x12) := lim_is (fun k_ => (spec_l01Block.mono_l k_).2.2.1 x0 x2 x6 x11 x12)
theorem spec_l01Block.lv3_lim (x0 : List Int) (x11 : List Int) (x17 : Int) : LimIs (fun k_ => spec_l01Block.l3 k_ x0 x11 x17) (spec_l01Block.lv3 x0 x11 x17) := lim_is (fun k_ => (spec_l01Block.mono_l k_).2.2.2 x0 x11 x17)
theorem spec_l01Block.v_lim (l0 : List Int) (l1 : List Int) (l2 : List Int) : LimIs (fun k_ => spec_l01Block.f k_ l0 l1 l2) (spec_l01Block.v l0 l1 l2) := lim_is (fun k_ => spec_l01Block.mono l0 l1 l2 k_)
theorem spec_l01Block.lv0_eq (x0 : List Int) (x1 : List Int) (x2 : List Int) (x6 : List Int) (x7 : Int) : spec_l01Block.lv0 x0 x1 x2 x6 x7 = (if x7 < 16 then (if 0 ≤ (wrap64 (4 * x7)) then (if (wrap64 (4 * x7)) < (x1.length : Int) then (if 0 ≤ (wrap64 ((wrap64 (4 * x7)) + 1)) then (if (wrap64 ((wrap64 (4 * x7)) + 1)) < (x1.length : Int) then (if 0 ≤ (wrap64 ((wrap64 (4 * x7)) + 2)) then (if (wrap64 ((wrap64 (4 * x7)) + 2)) < (x1.length : Int) then (if 0 ≤ (wrap64 ((wrap64 (4 * x7)) + 3)) then (if (wrap64 ((wrap64 (4 * x7)) + 3)) < (x1.length : Int) then (if 0 ≤ x7 then (if x7 < (x6.length : Int) then (spec_l01Block.lv0 x0 x1 x2 (x6.set (x7 : Int).toNat (Go.bits .or .u32 (Go.bits .or .u32 (Go.bits .or .u32 ((((rd x1 (wrap64 (4 * x7))) % 4294967296) * 16777216) % 4294967296) ((((rd x1 (wrap64 ((wrap64 (4 * x7)) + 1))) % 4294967296) * 65536) % 4294967296)) ((((rd x1 (wrap64 ((wrap64 (4 * x7)) + 2))) % 4294967296) * 256) % 4294967296)) ((rd x1 (wrap64 ((wrap64 (4 * x7)) + 3))) % 4294967296))) (wrap64 (x7 + 1))) else (none)) else (none)) else (none)) else (none)) else (none)) else (none)) else (none)) else (none)) else (none)) else (none)) else (spec_l01Block.lv1 x0 x2 x6 16) : Option (List Int)) := by
  refine LimIs.eq (spec_l01Block.lv0_lim x0 x1 x2 x6 x7) ?_
  refine LimIs.step (fun k_ => (spec_l01Block.mono_l k_).1 x0 x1 x2 x6 x7) ?_
  simp only [spec_l01Block.l0]
  repeat' (with_reducible first | exact spec_l01Block.lv0_lim _ _ _ _ _ | exact spec_l01Block.lv1_lim _ _ _ _ | exact LimIs.const _ | refine LimIs.ite ?_ ?_ | refine LimIs.bind ?_ (fun _ => ?_))
theorem spec_l01Block.lv1_eq (x0 : List Int) (x2 : List Int) (x6 : List Int) (x8 : Int) : spec_l01Block.lv1 x0 x2 x6 x8 = (if x8 < 64 then (if 0 ≤ (wrap64 (x8 - 15)) then (if (wrap64 (x8 - 15)) < (x6.length : Int) then (if 0 ≤ (wrap64 (x8 - 2)) then (if (wrap64 (x8 - 2)) < (x6.length : Int) then (if 0 ≤ (wrap64 (x8 - 16)) then (if (wrap64 (x8 - 16)) < (x6.length : Int) then ((spec_l01Turn.v (rd x6 (wrap64 (x8 - 15))) 7).bind fun t143 => ((spec_l01Turn.v (rd x6 (wrap64 (x8 - 15))) 18).bind fun t144 => (if 0 ≤ (wrap64 (x8 - 7)) then (if (wrap64 (x8 - 7)) < (x6.length : Int) then ((spec_l01Turn.v (rd x6 (wrap64 (x8 - 2))) 17).bind fun t146 => ((spec_l01Turn.v (rd x6 (wrap64 (x8 - 2))) 19).bind fun t147 => (if 0 ≤ x8 then (if x8 < (x6.length : Int) then (spec_l01Block.lv1 x0 x2 (x6.set (x8 : Int).toNat (((((rd x6 (wrap64 (x8 - 16))) + (Go.bits .xor .u32 (Go.bits .xor .u32 t143 t144) ((rd x6 (wrap64 (x8 - 15))) / 8))) + (rd x6 (wrap64 (x8 - 7)))) + (Go.bits .xor .u32 (Go.bits .xor .u32 t146 t147) ((rd x6 (wrap64 (x8 - 2))) / 1024))) % 4294967296)) (wrap64 (x8 + 1))) else (none)) else (none)))) else (none)) else (none)))) else (none)) else (none)) else (none)) else (none)) else (none)) else (none)) else ((some (([] : List Int) : List Int)).bind fun y149 => (if y149.length + x0.length < 35184372088832 then (spec_l01Block.lv2 x0 x2 x6 (y149 ++ x0) 0) else (none))) : Option (List Int)) := by
  refine LimIs.eq (spec_l01Block.lv1_lim x0 x2 x6 x8) ?_
  refine LimIs.step (fun k_ => (spec_l01Block.mono_l k_).2.1 x0 x2 x6 x8) ?_
  simp only [spec_l01Block.l1]
  repeat' (with_reducible first | exact spec_l01Block.lv1_lim _ _ _ _ | exact spec_l01Block.lv2_lim _ _ _ _ _ | exact spec_l01Turn.v_lim _ _ | exact LimIs.const _ | refine LimIs.ite ?_ ?_ | refine LimIs.bind ?_ (fun _ => ?_))
theorem spec_l01Block.lv2_eq (x0 : List Int) (x2 : List Int) (x6 : List Int) (x11 : List Int) (x12 : Int) : spec_l01Block.lv2 x0 x2 x6 x11 x12 = (if x12 < 64 then (if 4 < (x11.length : Int) then (if 0 < (x11.length : Int) then (if 7 < (x11.length : Int) then ((spec_l01Turn.v (rd x11 4) 6).bind fun t158 => ((spec_l01Turn.v (rd x11 4) 11).bind fun t159 => ((spec_l01Turn.v (rd x11 4) 25).bind fun t160 => (if 5 < (x11.length : Int) then (if 6 < (x11.length : Int) then (if 0 ≤ x12 then (if x12 < (x2.length : Int) then (if x12 < (x6.length : Int) then ((spec_l01Turn.v (rd x11 0) 2).bind fun t165 => ((spec_l01Turn.v (rd x11 0) 13).bind fun t166 => ((spec_l01Turn.v (rd x11 0) 22).bind fun t167 => (if 1 < (x11.length : Int) then (if 2 < (x11.length : Int) then (if 3 < (x11.length : Int) then (spec_l01Block.lv2 x0 x2 x6 (([((((((rd x11 7) + (Go.bits .xor .u32 (Go.bits .xor .u32 t158 t159) t160)) + (Go.bits .xor .u32 (Go.bits .and .u32 (rd x11 4) (rd x11 5)) (Go.bits .and .u32 (Go.bits .xor .u32 4294967295 (rd x11 4)) (rd x11 6)))) + (rd x2 x12)) + (rd x6 x12)) + ((Go.bits .xor .u32 (Go.bits .xor .u32 t165 t166) t167) + (Go.bits .xor .u32 (Go.bits .xor .u32 (Go.bits .and .u32 (rd x11 0) (rd x11 1)) (Go.bits .and .u32 (rd x11 0) (rd x11 2))) (Go.bits .and .u32 (rd x11 1) (rd x11 2))))) % 4294967296, rd x11 0, rd x11 1, rd x11 2, ((rd x11 3) + (((((rd x11 7) + (Go.bits .xor .u32 (Go.bits .xor .u32 t158 t159) t160)) + (Go.bits .xor .u32 (Go.bits .and .u32 (rd x11 4) (rd x11 5)) (Go.bits .and .u32 (Go.bits .xor .u32 4294967295 (rd x11 4)) (rd x11 6)))) + (rd x2 x12)) + (rd x6 x12))) % 4294967296, rd x11 4, rd x11 5, rd x11 6] : List Int)) (wrap64 (x12 + 1))) else (none)) else (none)) else (none))))) else (none)) else (none)) else (none)) else (none)) else (none))))) else (none)) else (none)) else (none)) else (spec_l01Block.lv3 x0 x11 0) : Option (List Int)) := by
  refine LimIs.eq (spec_l01Block.lv2_lim x0 x2 x6 x11 x12) ?_
  refine LimIs.step (fun k_ => (spec_l01Block.mono_l k_).2.2.1 x0 x2 x6 x11 x12) ?_
  simp only [spec_l01Block.l2]
  repeat' (with_reducible first | exact spec_l01Block.lv2_lim _ _ _ _ _ | exact spec_l01Block.lv3_lim _ _ _ | exact spec_l01Turn.v_lim _ _ | exact LimIs.const _ | refine LimIs.ite ?_ ?_ | refine LimIs.bind ?_ (fun _ => ?_))
theorem spec_l01Block.lv3_eq (x0 : List Int) (x11 : List Int) (x17 : Int) : spec_l01Block.lv3 x0 x11 x17 = (if x17 < 8 then (if 0 ≤ x17 then (if x17 < (x0.length : Int) then (if x17 < (x11.length : Int) then (spec_l01Block.lv3 (x0.set (x17 : Int).toNat (((rd x0 x17) + (rd x11 x17)) % 4294967296)) x11 (wrap64 (x17 + 1))) else (none)) else (none)) else (none)) else (some x0) : Option (List Int)) := by
  refine LimIs.eq (spec_l01Block.lv3_lim x0 x11 x17) ?_
  refine LimIs.step (fun k_ => (spec_l01Block.mono_l k_).2.2.2 x0 x11 x17) ?_
  simp only [spec_l01Block.l3]
  repeat' (with_reducible first | exact spec_l01Block.lv3_lim _ _ _ | exact LimIs.const _ | refine LimIs.ite ?_ ?_ | refine LimIs.bind ?_ (fun _ => ?_))
theorem spec_l01Block.v_eq (l0 : List Int) (l1 : List Int) (l2 : List Int) : spec_l01Block.v l0 l1 l2 = (if l0.length = 8 ∧ l1.length = 64 ∧ l2.length = 64 then (if 64 ≤ 70368744177664 then (spec_l01Block.lv0 l0 l1 l2 (List.replicate 64 0) 0) else (none)) else (none) : Option (List Int)) := by
  refine LimIs.eq (spec_l01Block.v_lim l0 l1 l2) ?_
  simp only [spec_l01Block.f]
  repeat' (with_reducible first | exact spec_l01Block.lv0_lim _ _ _ _ _ | exact LimIs.const _ | refine LimIs.ite ?_ ?_ | refine LimIs.bind ?_ (fun _ => ?_))
mutual
def spec_l01Hash.l0 : Nat → List Int → List Int → List Int → Option (ByteArray)
  | 0, _, _, _ => none
  | k + 1, x0, x3, x4 => if ((x4.length : Int) % 64) = 56 then (spec_l01Hash.l1 k x0 x3 x4 7) else (if x4.length < 140737488355328 then (spec_l01Hash.l0 k x0 x3 (x4 ++ [0])) else (none))
def spec_l01Hash.l1 : Nat → List Int → List Int → List Int → Int → Option (ByteArray)
  | 0, _, _, _, _ => none
  | k + 1, x0, x3, x4, x5 => if x5 ≥ 0 then (if 0 ≤ (IntKind.u64.wrap (wrap64 (8 * x5))) then (if x4.length < 140737488355328 then (spec_l01Hash.l1 k x0 x3 (x4 ++ [(shr .i64 (wrap64 (8 * (x0.length : Int))) (IntKind.u64.wrap (wrap64 (8 * x5)))) % 256]) (wrap64 (x5 - 1))) else (none)) else (none)) else ((spec_l01Consts.f).bind fun t203 => (spec_l01Hash.l2 k x3 x4 t203 0))
def spec_l01Hash.l2 : Nat → List Int → List Int → List Int → Int → Option (ByteArray)
  | 0, _, _, _, _ => none
  | k + 1, x3, x4, x6, x7 => if x7 < (x4.length : Int) then (if 0 ≤ x7 then (if x7 ≤ (wrap64 (x7 + 64)) then (if (wrap64 (x7 + 64)) ≤ (x4.length : Int) then ((spec_l01Block.f k x3 ((x4.take ((wrap64 (x7 + 64)) : Int).toNat).drop (x7 : Int).toNat) x6).bind fun t210 => (spec_l01Hash.l2 k t210 x4 x6 (wrap64 (x7 + 64)))) else (none)) else (none)) else (none)) else (spec_l01Hash.l3 k x3 (([] : List Int)) 0)
def spec_l01Hash.l3 : Nat → List Int → List Int → Int → Option (ByteArray)
  | 0, _, _, _ => none
  | k + 1, x3, x8, x9 => if x9 < 8 then (if 0 ≤ x9 then (if x9 < (x3.length : Int) then ((some (([((rd x3 x9) / 16777216) % 256, ((rd x3 x9) / 65536) % 256, ((rd x3 x9) / 256) % 256, (rd x3 x9) % 256] : List Int) : List Int)).bind fun y218 => (if x8.length + y218.length < 140737488355328 then (spec_l01Hash.l3 k x3 (x8 ++ y218) (wrap64 (x9 + 1))) else (none))) else (none)) else (none)) else (some (strOfNums x8))
end
def spec_l01Hash.f (k : Nat) (l0 : List Int) : Option (ByteArray) := (some (([] : List Int) : List Int)).bind fun y188 => (if y188.length + l0.length < 140737488355328 then ((some (y188 ++ l0 : List Int)).bind fun y191 => (if y191.length < 140737488355328 then (spec_l01Hash.l0 k l0 (([1779033703, 3144134277, 1013904242, 2773480762, 1359893119, 2600822924, 528734635, 1541459225] : List Int)) (y191 ++ [128])) else (none))) else (none))
theorem spec_l01Hash.mono_l : ∀ k, (∀ y0 y1 y2, LeO (spec_l01Hash.l0 k y0 y1 y2) (spec_l01Hash.l0 (k + 1) y0 y1 y2)) ∧ (∀ y0 y1 y2 y3, LeO (spec_l01Hash.l1 k y0 y1 y2 y3) (spec_l01Hash.l1 (k + 1) y0 y1 y2 y3)) ∧ (∀ y0 y1 y2 y3, LeO (spec_l01Hash.l2 k y0 y1 y2 y3) (spec_l01Hash.l2 (k + 1) y0 y1 y2 y3)) ∧ (∀ y0 y1 y2, LeO (spec_l01Hash.l3 k y0 y1 y2) (spec_l01Hash.l3 (k + 1) y0 y1 y2))
  | 0 => ⟨fun _ _ _ r h => by simp [spec_l01Hash.l0] at h, fun _ _ _ _ r h => by simp [spec_l01Hash.l1] at h, fun _ _ _ _ r h => by simp [spec_l01Hash.l2] at h, fun _ _ _ r h => by simp [spec_l01Hash.l3] at h⟩
  | k + 1 => by
    obtain ⟨ih0, ih1, ih2, ih3⟩ := spec_l01Hash.mono_l k
    refine ⟨?_, ?_, ?_, ?_⟩
    · intro y0 y1 y2
      unfold spec_l01Hash.l0
      repeat' first
      | (with_reducible exact ih0 _ _ _)
      | (with_reducible exact ih1 _ _ _ _)
      | (with_reducible exact ih2 _ _ _ _)
      | (with_reducible exact ih3 _ _ _)
      | (with_reducible exact spec_l01Block.mono _ _ _ _)
      | (with_reducible exact LeO.refl _)
      | (with_reducible exact LeO.none _)
      | (with_reducible refine LeO.ite ?_ ?_)
      | (with_reducible refine LeO.bind ?_ (fun _ => ?_))
      | exact ih0 _ _ _
      | exact ih1 _ _ _ _
      | exact ih2 _ _ _ _
      | exact ih3 _ _ _
      | exact spec_l01Block.mono _ _ _ _
      | exact LeO.none _
      | refine LeO.ite ?_ ?_
      | refine LeO.bind ?_ (fun _ => ?_)
    · intro y0 y1 y2 y3
      unfold spec_l01Hash.l1
      repeat' first
      | (with_reducible exact ih0 _ _ _)
      | (with_reducible exact ih1 _ _ _ _)
      | (with_reducible exact ih2 _ _ _ _)
      | (with_reducible exact ih3 _ _ _)
      | (with_reducible exact spec_l01Block.mono _ _ _ _)
      | (with_reducible exact LeO.refl _)
      | (with_reducible exact LeO.none _)
      | (with_reducible refine LeO.ite ?_ ?_)
      | (with_reducible refine LeO.bind ?_ (fun _ => ?_))
      | exact ih0 _ _ _
      | exact ih1 _ _ _ _
      | exact ih2 _ _ _ _
      | exact ih3 _ _ _
      | exact spec_l01Block.mono _ _ _ _
      | exact LeO.none _
      | refine LeO.ite ?_ ?_
      | refine LeO.bind ?_ (fun _ => ?_)
    · intro y0 y1 y2 y3
      unfold spec_l01Hash.l2
      repeat' first
      | (with_reducible exact ih0 _ _ _)
      | (with_reducible exact ih1 _ _ _ _)
      | (with_reducible exact ih2 _ _ _ _)
      | (with_reducible exact ih3 _ _ _)
      | (with_reducible exact spec_l01Block.mono _ _ _ _)
      | (with_reducible exact LeO.refl _)
      | (with_reducible exact LeO.none _)
      | (with_reducible refine LeO.ite ?_ ?_)
      | (with_reducible refine LeO.bind ?_ (fun _ => ?_))
      | exact ih0 _ _ _
      | exact ih1 _ _ _ _
      | exact ih2 _ _ _ _
      | exact ih3 _ _ _
      | exact spec_l01Block.mono _ _ _ _
      | exact LeO.none _
      | refine LeO.ite ?_ ?_
      | refine LeO.bind ?_ (fun _ => ?_)
    · intro y0 y1 y2
      unfold spec_l01Hash.l3
      repeat' first
      | (with_reducible exact ih0 _ _ _)
      | (with_reducible exact ih1 _ _ _ _)
      | (with_reducible exact ih2 _ _ _ _)
      | (with_reducible exact ih3 _ _ _)
      | (with_reducible exact spec_l01Block.mono _ _ _ _)
      | (with_reducible exact LeO.refl _)
      | (with_reducible exact LeO.none _)
      | (with_reducible refine LeO.ite ?_ ?_)
      | (with_reducible refine LeO.bind ?_ (fun _ => ?_))
      | exact ih0 _ _ _
      | exact ih1 _ _ _ _
      | exact ih2 _ _ _ _
      | exact ih3 _ _ _
      | exact spec_l01Block.mono _ _ _ _
      | exact LeO.none _
      | refine LeO.ite ?_ ?_
      | refine LeO.bind ?_ (fun _ => ?_)
theorem spec_l01Hash.mono : ∀ a0 k, LeO (spec_l01Hash.f k a0) (spec_l01Hash.f (k + 1) a0) := by
  intro a0 k
  obtain ⟨ih0, ih1, ih2, ih3⟩ := spec_l01Hash.mono_l k
  unfold spec_l01Hash.f
  repeat' first
      | (with_reducible exact ih0 _ _ _)
      | (with_reducible exact ih1 _ _ _ _)
      | (with_reducible exact ih2 _ _ _ _)
      | (with_reducible exact ih3 _ _ _)
      | (with_reducible exact spec_l01Block.mono _ _ _ _)
      | (with_reducible exact LeO.refl _)
      | (with_reducible exact LeO.none _)
      | (with_reducible refine LeO.ite ?_ ?_)
      | (with_reducible refine LeO.bind ?_ (fun _ => ?_))
      | exact ih0 _ _ _
      | exact ih1 _ _ _ _
      | exact ih2 _ _ _ _
      | exact ih3 _ _ _
      | exact spec_l01Block.mono _ _ _ _
      | exact LeO.none _
      | refine LeO.ite ?_ ?_
      | refine LeO.bind ?_ (fun _ => ?_)
noncomputable def spec_l01Hash.lv0 (x0 : List Int) (x3 : List Int) (x4 : List Int) : Option (ByteArray) := lim (fun k_ => spec_l01Hash.l0 k_ x0 x3 x4)
noncomputable def spec_l01Hash.lv1 (x0 : List Int) (x3 : List Int) (x4 : List Int) (x5 : Int) : Option (ByteArray) := lim (fun k_ => spec_l01Hash.l1 k_ x0 x3 x4 x5)
noncomputable def spec_l01Hash.lv2 (x3 : List Int) (x4 : List Int) (x6 : List Int) (x7 : Int) : Option (ByteArray) := lim (fun k_ => spec_l01Hash.l2 k_ x3 x4 x6 x7)
noncomputable def spec_l01Hash.lv3 (x3 : List Int) (x8 : List Int) (x9 : Int) : Option (ByteArray) := lim (fun k_ => spec_l01Hash.l3 k_ x3 x8 x9)
noncomputable def spec_l01Hash.v (l0 : List Int) : Option (ByteArray) := lim (fun k_ => spec_l01Hash.f k_ l0)
theorem spec_l01Hash.lv0_lim (x0 : List Int) (x3 : List Int) (x4 : List Int) : LimIs (fun k_ => spec_l01Hash.l0 k_ x0 x3 x4) (spec_l01Hash.lv0 x0 x3 x4) := lim_is (fun k_ => (spec_l01Hash.mono_l k_).1 x0 x3 x4)
theorem spec_l01Hash.lv1_lim (x0 : List Int) (x3 : List Int) (x4 : List Int) (x5 : Int) : LimIs (fun k_ => spec_l01Hash.l1 k_ x0 x3 x4 x5) (spec_l01Hash.lv1 x0 x3 x4 x5) := lim_is (fun k_ => (spec_l01Hash.mono_l k_).2.1 x0 x3 x4 x5)
theorem spec_l01Hash.lv2_lim (x3 : List Int) (x4 : List Int) (x6 : List Int) (x7 : Int) : LimIs (fun k_ => spec_l01Hash.l2 k_ x3 x4 x6 x7) (spec_l01Hash.lv2 x3 x4 x6 x7) := lim_is (fun k_ => (spec_l01Hash.mono_l k_).2.2.1 x3 x4 x6 x7)
theorem spec_l01Hash.lv3_lim (x3 : List Int) (x8 : List Int) (x9 : Int) : LimIs (fun k_ => spec_l01Hash.l3 k_ x3 x8 x9) (spec_l01Hash.lv3 x3 x8 x9) := lim_is (fun k_ => (spec_l01Hash.mono_l k_).2.2.2 x3 x8 x9)
theorem spec_l01Hash.v_lim (l0 : List Int) : LimIs (fun k_ => spec_l01Hash.f k_ l0) (spec_l01Hash.v l0) := lim_is (fun k_ => spec_l01Hash.mono l0 k_)
theorem spec_l01Hash.lv0_eq (x0 : List Int) (x3 : List Int) (x4 : List Int) : spec_l01Hash.lv0 x0 x3 x4 = (if ((x4.length : Int) % 64) = 56 then (spec_l01Hash.lv1 x0 x3 x4 7) else (if x4.length < 140737488355328 then (spec_l01Hash.lv0 x0 x3 (x4 ++ [0])) else (none)) : Option (ByteArray)) := by
  refine LimIs.eq (spec_l01Hash.lv0_lim x0 x3 x4) ?_
  refine LimIs.step (fun k_ => (spec_l01Hash.mono_l k_).1 x0 x3 x4) ?_
  simp only [spec_l01Hash.l0]
  repeat' (with_reducible first | exact spec_l01Hash.lv0_lim _ _ _ | exact spec_l01Hash.lv1_lim _ _ _ _ | exact LimIs.const _ | refine LimIs.ite ?_ ?_ | refine LimIs.bind ?_ (fun _ => ?_))
theorem spec_l01Hash.lv1_eq (x0 : List Int) (x3 : List Int) (x4 : List Int) (x5 : Int) : spec_l01Hash.lv1 x0 x3 x4 x5 = (if x5 ≥ 0 then (if 0 ≤ (IntKind.u64.wrap (wrap64 (8 * x5))) then (if x4.length < 140737488355328 then (spec_l01Hash.lv1 x0 x3 (x4 ++ [(shr .i64 (wrap64 (8 * (x0.length : Int))) (IntKind.u64.wrap (wrap64 (8 * x5)))) % 256]) (wrap64 (x5 - 1))) else (none)) else (none)) else ((spec_l01Consts.v).bind fun t203 => (spec_l01Hash.lv2 x3 x4 t203 0)) : Option (ByteArray)) := by
  refine LimIs.eq (spec_l01Hash.lv1_lim x0 x3 x4 x5) ?_
  refine LimIs.step (fun k_ => (spec_l01Hash.mono_l k_).2.1 x0 x3 x4 x5) ?_
  simp only [spec_l01Hash.l1]
  repeat' (with_reducible first | exact spec_l01Consts.v_lim | exact spec_l01Hash.lv1_lim _ _ _ _ | exact spec_l01Hash.lv2_lim _ _ _ _ | exact LimIs.const _ | refine LimIs.ite ?_ ?_ | refine LimIs.bind ?_ (fun _ => ?_))
theorem spec_l01Hash.lv2_eq (x3 : List Int) (x4 : List Int) (x6 : List Int) (x7 : Int) : spec_l01Hash.lv2 x3 x4 x6 x7 = (if x7 < (x4.length : Int) then (if 0 ≤ x7 then (if x7 ≤ (wrap64 (x7 + 64)) then (if (wrap64 (x7 + 64)) ≤ (x4.length : Int) then ((spec_l01Block.v x3 ((x4.take ((wrap64 (x7 + 64)) : Int).toNat).drop (x7 : Int).toNat) x6).bind fun t210 => (spec_l01Hash.lv2 t210 x4 x6 (wrap64 (x7 + 64)))) else (none)) else (none)) else (none)) else (spec_l01Hash.lv3 x3 (([] : List Int)) 0) : Option (ByteArray)) := by
  refine LimIs.eq (spec_l01Hash.lv2_lim x3 x4 x6 x7) ?_
  refine LimIs.step (fun k_ => (spec_l01Hash.mono_l k_).2.2.1 x3 x4 x6 x7) ?_
  simp only [spec_l01Hash.l2]
  repeat' (with_reducible first | exact spec_l01Block.v_lim _ _ _ | exact spec_l01Hash.lv2_lim _ _ _ _ | exact spec_l01Hash.lv3_lim _ _ _ | exact LimIs.const _ | refine LimIs.ite ?_ ?_ | refine LimIs.bind ?_ (fun _ => ?_))
theorem spec_l01Hash.lv3_eq (x3 : List Int) (x8 : List Int) (x9 : Int) : spec_l01Hash.lv3 x3 x8 x9 = (if x9 < 8 then (if 0 ≤ x9 then (if x9 < (x3.length : Int) then ((some (([((rd x3 x9) / 16777216) % 256, ((rd x3 x9) / 65536) % 256, ((rd x3 x9) / 256) % 256, (rd x3 x9) % 256] : List Int) : List Int)).bind fun y218 => (if x8.length + y218.length < 140737488355328 then (spec_l01Hash.lv3 x3 (x8 ++ y218) (wrap64 (x9 + 1))) else (none))) else (none)) else (none)) else (some (strOfNums x8)) : Option (ByteArray)) := by
  refine LimIs.eq (spec_l01Hash.lv3_lim x3 x8 x9) ?_
  refine LimIs.step (fun k_ => (spec_l01Hash.mono_l k_).2.2.2 x3 x8 x9) ?_
  simp only [spec_l01Hash.l3]
  repeat' (with_reducible first | exact spec_l01Hash.lv3_lim _ _ _ | exact LimIs.const _ | refine LimIs.ite ?_ ?_ | refine LimIs.bind ?_ (fun _ => ?_))
theorem spec_l01Hash.v_eq (l0 : List Int) : spec_l01Hash.v l0 = ((some (([] : List Int) : List Int)).bind fun y188 => (if y188.length + l0.length < 140737488355328 then ((some (y188 ++ l0 : List Int)).bind fun y191 => (if y191.length < 140737488355328 then (spec_l01Hash.lv0 l0 (([1779033703, 3144134277, 1013904242, 2773480762, 1359893119, 2600822924, 528734635, 1541459225] : List Int)) (y191 ++ [128])) else (none))) else (none)) : Option (ByteArray)) := by
  refine LimIs.eq (spec_l01Hash.v_lim l0) ?_
  simp only [spec_l01Hash.f]
  repeat' (with_reducible first | exact spec_l01Hash.lv0_lim _ _ _ | exact LimIs.const _ | refine LimIs.ite ?_ ?_ | refine LimIs.bind ?_ (fun _ => ?_))
def spec_l03Bits.l0 : Nat → ByteArray → List Int → Int → Option (ByteArray)
  | 0, _, _, _ => none
  | k + 1, x3, x4, x5 => if x5 < 32 then (if 0 ≤ (wrap64 (Int.tdiv x5 8)) then (if (wrap64 (Int.tdiv x5 8)) < (x3.size : Int) then (if 0 ≤ (IntKind.u64.wrap (wrap64 (7 - (Int.tmod x5 8)))) then (if x4.length < 140737488355328 then (spec_l03Bits.l0 k x3 (x4 ++ [(48 + (Go.bits .and .u8 (shr .u8 (bt x3 (wrap64 (Int.tdiv x5 8))) (IntKind.u64.wrap (wrap64 (7 - (Int.tmod x5 8))))) 1)) % 256]) (wrap64 (x5 + 1))) else (none)) else (none)) else (none)) else (none)) else (some (strOfNums x4))
def spec_l03Bits.f (k : Nat) (a0 : ByteArray) : Option (ByteArray) := if 6 + a0.size ≤ 9223372036854775807 then (if ((⟨#[100, 105, 103, 101, 115, 116]⟩ : ByteArray) ++ a0).size ≤ 140737488355328 then ((spec_l01Hash.f k (bytesOf ((⟨#[100, 105, 103, 101, 115, 116]⟩ : ByteArray) ++ a0))).bind fun t227 => (spec_l03Bits.l0 k t227 (([] : List Int)) 0)) else (none)) else (none)
theorem spec_l03Bits.mono_l : ∀ k, (∀ y0 y1 y2, LeO (spec_l03Bits.l0 k y0 y1 y2) (spec_l03Bits.l0 (k + 1) y0 y1 y2))
  | 0 => fun _ _ _ r h => by simp [spec_l03Bits.l0] at h
  | k + 1 => by
    have ih0 := spec_l03Bits.mono_l k
    · intro y0 y1 y2
      unfold spec_l03Bits.l0
      repeat' first
      | (with_reducible exact ih0 _ _ _)
      | (with_reducible exact spec_l01Hash.mono _ _)
      | (with_reducible exact LeO.refl _)
      | (with_reducible exact LeO.none _)
      | (with_reducible refine LeO.ite ?_ ?_)
      | (with_reducible refine LeO.bind ?_ (fun _ => ?_))
      | exact ih0 _ _ _
      | exact spec_l01Hash.mono _ _
      | exact LeO.none _
      | refine LeO.ite ?_ ?_
      | refine LeO.bind ?_ (fun _ => ?_)
theorem spec_l03Bits.mono : ∀ a0 k, LeO (spec_l03Bits.f k a0) (spec_l03Bits.f (k + 1) a0) := by
  intro a0 k
  have ih0 := spec_l03Bits.mono_l k
  unfold spec_l03Bits.f
  repeat' first
      | (with_reducible exact ih0 _ _ _)
      | (with_reducible exact spec_l01Hash.mono _ _)
      | (with_reducible exact LeO.refl _)
      | (with_reducible exact LeO.none _)
      | (with_reducible refine LeO.ite ?_ ?_)
      | (with_reducible refine LeO.bind ?_ (fun _ => ?_))
      | exact ih0 _ _ _
      | exact spec_l01Hash.mono _ _
      | exact LeO.none _
      | refine LeO.ite ?_ ?_
      | refine LeO.bind ?_ (fun _ => ?_)
noncomputable def spec_l03Bits.lv0 (x3 : ByteArray) (x4 : List Int) (x5 : Int) : Option (ByteArray) := lim (fun k_ => spec_l03Bits.l0 k_ x3 x4 x5)
noncomputable def spec_l03Bits.v (a0 : ByteArray) : Option (ByteArray) := lim (fun k_ => spec_l03Bits.f k_ a0)
theorem spec_l03Bits.lv0_lim (x3 : ByteArray) (x4 : List Int) (x5 : Int) : LimIs (fun k_ => spec_l03Bits.l0 k_ x3 x4 x5) (spec_l03Bits.lv0 x3 x4 x5) := lim_is (fun k_ => (spec_l03Bits.mono_l k_) x3 x4 x5)
theorem spec_l03Bits.v_lim (a0 : ByteArray) : LimIs (fun k_ => spec_l03Bits.f k_ a0) (spec_l03Bits.v a0) := lim_is (fun k_ => spec_l03Bits.mono a0 k_)
theorem spec_l03Bits.lv0_eq (x3 : ByteArray) (x4 : List Int) (x5 : Int) : spec_l03Bits.lv0 x3 x4 x5 = (if x5 < 32 then (if 0 ≤ (wrap64 (Int.tdiv x5 8)) then (if (wrap64 (Int.tdiv x5 8)) < (x3.size : Int) then (if 0 ≤ (IntKind.u64.wrap (wrap64 (7 - (Int.tmod x5 8)))) then (if x4.length < 140737488355328 then (spec_l03Bits.lv0 x3 (x4 ++ [(48 + (Go.bits .and .u8 (shr .u8 (bt x3 (wrap64 (Int.tdiv x5 8))) (IntKind.u64.wrap (wrap64 (7 - (Int.tmod x5 8))))) 1)) % 256]) (wrap64 (x5 + 1))) else (none)) else (none)) else (none)) else (none)) else (some (strOfNums x4)) : Option (ByteArray)) := by
  refine LimIs.eq (spec_l03Bits.lv0_lim x3 x4 x5) ?_
  refine LimIs.step (fun k_ => (spec_l03Bits.mono_l k_) x3 x4 x5) ?_
  simp only [spec_l03Bits.l0]
  repeat' (with_reducible first | exact spec_l03Bits.lv0_lim _ _ _ | exact LimIs.const _ | refine LimIs.ite ?_ ?_ | refine LimIs.bind ?_ (fun _ => ?_))
theorem spec_l03Bits.v_eq (a0 : ByteArray) : spec_l03Bits.v a0 = (if 6 + a0.size ≤ 9223372036854775807 then (if ((⟨#[100, 105, 103, 101, 115, 116]⟩ : ByteArray) ++ a0).size ≤ 140737488355328 then ((spec_l01Hash.v (bytesOf ((⟨#[100, 105, 103, 101, 115, 116]⟩ : ByteArray) ++ a0))).bind fun t227 => (spec_l03Bits.lv0 t227 (([] : List Int)) 0)) else (none)) else (none) : Option (ByteArray)) := by
  refine LimIs.eq (spec_l03Bits.v_lim a0) ?_
  simp only [spec_l03Bits.f]
  repeat' (with_reducible first | exact spec_l01Hash.v_lim _ | exact spec_l03Bits.lv0_lim _ _ _ | exact LimIs.const _ | refine LimIs.ite ?_ ?_ | refine LimIs.bind ?_ (fun _ => ?_))
def spec_l03Node.f (k : Nat) (a0 : ByteArray) (a1 : ByteArray) : Option (ByteArray) := if 4 + a0.size ≤ 9223372036854775807 then (if ((⟨#[110, 111, 100, 101]⟩ : ByteArray) ++ a0).size + a1.size ≤ 9223372036854775807 then (if (((⟨#[110, 111, 100, 101]⟩ : ByteArray) ++ a0) ++ a1).size ≤ 140737488355328 then ((spec_l01Hash.f k (bytesOf (((⟨#[110, 111, 100, 101]⟩ : ByteArray) ++ a0) ++ a1))).bind fun t237 => (some t237)) else (none)) else (none)) else (none)
theorem spec_l03Node.mono : ∀ a0 a1 k, LeO (spec_l03Node.f k a0 a1) (spec_l03Node.f (k + 1) a0 a1) := by
  intro a0 a1 k
  unfold spec_l03Node.f
  repeat' first
      | (with_reducible exact spec_l01Hash.mono _ _)
      | (with_reducible exact LeO.refl _)
      | (with_reducible exact LeO.none _)
      | (with_reducible refine LeO.ite ?_ ?_)
      | (with_reducible refine LeO.bind ?_ (fun _ => ?_))
      | exact spec_l01Hash.mono _ _
      | exact LeO.none _
      | refine LeO.ite ?_ ?_
      | refine LeO.bind ?_ (fun _ => ?_)
noncomputable def spec_l03Node.v (a0 : ByteArray) (a1 : ByteArray) : Option (ByteArray) := lim (fun k_ => spec_l03Node.f k_ a0 a1)
theorem spec_l03Node.v_lim (a0 : ByteArray) (a1 : ByteArray) : LimIs (fun k_ => spec_l03Node.f k_ a0 a1) (spec_l03Node.v a0 a1) := lim_is (fun k_ => spec_l03Node.mono a0 a1 k_)
theorem spec_l03Node.v_eq (a0 : ByteArray) (a1 : ByteArray) : spec_l03Node.v a0 a1 = (if 4 + a0.size ≤ 9223372036854775807 then (if ((⟨#[110, 111, 100, 101]⟩ : ByteArray) ++ a0).size + a1.size ≤ 9223372036854775807 then (if (((⟨#[110, 111, 100, 101]⟩ : ByteArray) ++ a0) ++ a1).size ≤ 140737488355328 then ((spec_l01Hash.v (bytesOf (((⟨#[110, 111, 100, 101]⟩ : ByteArray) ++ a0) ++ a1))).bind fun t237 => (some t237)) else (none)) else (none)) else (none) : Option (ByteArray)) := by
  refine LimIs.eq (spec_l03Node.v_lim a0 a1) ?_
  simp only [spec_l03Node.f]
  repeat' (with_reducible first | exact spec_l01Hash.v_lim _ | exact LimIs.const _ | refine LimIs.ite ?_ ?_ | refine LimIs.bind ?_ (fun _ => ?_))
mutual
def spec_CheckSignature.j0 : Nat → ByteArray → ByteArray → Bool → Int → List ByteArray → List ByteArray → List ByteArray → Option (Int)
  | 0, _, _, _, _, _, _, _ => none
  | k + 1, x0, x1, x21, x239000, x239001, x239002, x239003 => if x21 = true then (some 2) else (if (x0.size : Int) = 32 then ((spec_l03Hashes.f k x239001 32).bind fun t239 => (if t239 = true then ((spec_l03Hashes.f k x239002 32).bind fun t240 => (if t240 = true then ((spec_l03Hashes.f k x239003 3).bind fun t241 => (spec_CheckSignature.j1 k x0 x1 (!t241) x239000 x239001 x239002 x239003)) else (spec_CheckSignature.j1 k x0 x1 true x239000 x239001 x239002 x239003))) else (spec_CheckSignature.j1 k x0 x1 true x239000 x239001 x239002 x239003))) else (spec_CheckSignature.j1 k x0 x1 true x239000 x239001 x239002 x239003))
def spec_CheckSignature.j1 : Nat → ByteArray → ByteArray → Bool → Int → List ByteArray → List ByteArray → List ByteArray → Option (Int)
  | 0, _, _, _, _, _, _, _ => none
  | k + 1, x0, x1, x42, x239000, x239001, x239002, x239003 => if x42 = true then (some 1) else ((spec_l01In.f x239000 0 7).bind fun t242 => (if t242 = true then ((spec_l03Bits.f k x1).bind fun t243 => (spec_CheckSignature.l0 k x0 t243 (([107, 101, 121] : List Int)) 0 x239000 x239001 x239002 x239003)) else (some 4)))
def spec_CheckSignature.l0 : Nat → ByteArray → ByteArray → List Int → Int → Int → List ByteArray → List ByteArray → List ByteArray → Option (Int)
  | 0, _, _, _, _, _, _, _, _ => none
  | k + 1, x0, x7, x8, x9, x239000, x239001, x239002, x239003 => if x9 < 32 then (if 0 ≤ x9 then (if x9 < (x239001.length : Int) then (if (rdOf ByteArray.empty x239001 x9).size ≤ 140737488355328 then ((spec_l01Hash.f k (bytesOf (rdOf ByteArray.empty x239001 x9))).bind fun t251 => (if x9 < (x7.size : Int) then (if (bt x7 x9) = 48 then (if x8.length + t251.size < 140737488355328 then ((some (x8 ++ bytesOf t251 : List Int)).bind fun y252 => (if x9 < (x239002.length : Int) then (if y252.length + (rdOf ByteArray.empty x239002 x9).size < 140737488355328 then (spec_CheckSignature.l0 k x0 x7 (y252 ++ bytesOf (rdOf ByteArray.empty x239002 x9)) (wrap64 (x9 + 1)) x239000 x239001 x239002 x239003) else (none)) else (none))) else (none)) else (if x9 < (x239002.length : Int) then (if x8.length + (rdOf ByteArray.empty x239002 x9).size < 140737488355328 then ((some (x8 ++ bytesOf (rdOf ByteArray.empty x239002 x9) : List Int)).bind fun y260 => (if y260.length + t251.size < 140737488355328 then (spec_CheckSignature.l0 k x0 x7 (y260 ++ bytesOf t251) (wrap64 (x9 + 1)) x239000 x239001 x239002 x239003) else (none))) else (none)) else (none))) else (none))) else (none)) else (none)) else (none)) else ((spec_l01Hash.f k x8).bind fun t266 => (spec_CheckSignature.l1 k x0 t266 x239000 0 x239000 x239001 x239002 x239003))
def spec_CheckSignature.l1 : Nat → ByteArray → ByteArray → Int → Int → Int → List ByteArray → List ByteArray → List ByteArray → Option (Int)
  | 0, _, _, _, _, _, _, _, _ => none
  | k + 1, x0, x11, x12, x13, x239000, x239001, x239002, x239003 => if x13 < 3 then (if (Int.tmod x12 2) = 0 then (if 0 ≤ x13 then (if x13 < (x239003.length : Int) then ((spec_l03Node.f k x11 (rdOf ByteArray.empty x239003 x13)).bind fun t268 => (spec_CheckSignature.l1 k x0 t268 (wrap64 (Int.tdiv x12 2)) (wrap64 (x13 + 1)) x239000 x239001 x239002 x239003)) else (none)) else (none)) else (if 0 ≤ x13 then (if x13 < (x239003.length : Int) then ((spec_l03Node.f k (rdOf ByteArray.empty x239003 x13) x11).bind fun t270 => (spec_CheckSignature.l1 k x0 t270 (wrap64 (Int.tdiv x12 2)) (wrap64 (x13 + 1)) x239000 x239001 x239002 x239003)) else (none)) else (none))) else (if x11.toList = x0.toList then (some 0) else (some 12))
end
def spec_CheckSignature.f (k : Nat) (a0 : ByteArray) (a1 : ByteArray) (a2_0 : Int) (l2_1 : List ByteArray) (l2_2 : List ByteArray) (l2_3 : List ByteArray) : Option (Int) := if (a1.size : Int) > 65530 then (spec_CheckSignature.j0 k a0 a1 true a2_0 l2_1 l2_2 l2_3) else (spec_CheckSignature.j0 k a0 a1 (decide ((a0.size : Int) > 65536)) a2_0 l2_1 l2_2 l2_3)
theorem spec_CheckSignature.mono_l : ∀ k, (∀ y0 y1 y2 y3 y4 y5 y6, LeO (spec_CheckSignature.j0 k y0 y1 y2 y3 y4 y5 y6) (spec_CheckSignature.j0 (k + 1) y0 y1 y2 y3 y4 y5 y6)) ∧ (∀ y0 y1 y2 y3 y4 y5 y6, LeO (spec_CheckSignature.j1 k y0 y1 y2 y3 y4 y5 y6) (spec_CheckSignature.j1 (k + 1) y0 y1 y2 y3 y4 y5 y6)) ∧ (∀ y0 y1 y2 y3 y4 y5 y6 y7, LeO (spec_CheckSignature.l0 k y0 y1 y2 y3 y4 y5 y6 y7) (spec_CheckSignature.l0 (k + 1) y0 y1 y2 y3 y4 y5 y6 y7)) ∧ (∀ y0 y1 y2 y3 y4 y5 y6 y7, LeO (spec_CheckSignature.l1 k y0 y1 y2 y3 y4 y5 y6 y7) (spec_CheckSignature.l1 (k + 1) y0 y1 y2 y3 y4 y5 y6 y7))
  | 0 => ⟨fun _ _ _ _ _ _ _ r h => by simp [spec_CheckSignature.j0] at h, fun _ _ _ _ _ _ _ r h => by simp [spec_CheckSignature.j1] at h, fun _ _ _ _ _ _ _ _ r h => by simp [spec_CheckSignature.l0] at h, fun _ _ _ _ _ _ _ _ r h => by simp [spec_CheckSignature.l1] at h⟩
  | k + 1 => by
    obtain ⟨ih0, ih1, ih2, ih3⟩ := spec_CheckSignature.mono_l k
    refine ⟨?_, ?_, ?_, ?_⟩
    · intro y0 y1 y2 y3 y4 y5 y6
      unfold spec_CheckSignature.j0
      repeat' first
      | (with_reducible exact ih0 _ _ _ _ _ _ _)
      | (with_reducible exact ih1 _ _ _ _ _ _ _)
      | (with_reducible exact ih2 _ _ _ _ _ _ _ _)
      | (with_reducible exact ih3 _ _ _ _ _ _ _ _)
      | (with_reducible exact spec_l01Hash.mono _ _)
      | (with_reducible exact spec_l03Bits.mono _ _)
      | (with_reducible exact spec_l03Hashes.mono _ _ _)
      | (with_reducible exact spec_l03Node.mono _ _ _)
      | (with_reducible exact LeO.refl _)
      | (with_reducible exact LeO.none _)
      | (with_reducible refine LeO.ite ?_ ?_)
      | (with_reducible refine LeO.bind ?_ (fun _ => ?_))
      | exact ih0 _ _ _ _ _ _ _
      | exact ih1 _ _ _ _ _ _ _
      | exact ih2 _ _ _ _ _ _ _ _
      | exact ih3 _ _ _ _ _ _ _ _
      | exact spec_l01Hash.mono _ _
      | exact spec_l03Bits.mono _ _
      | exact spec_l03Hashes.mono _ _ _
      | exact spec_l03Node.mono _ _ _
      | exact LeO.none _
      | refine LeO.ite ?_ ?_
      | refine LeO.bind ?_ (fun _ => ?_)
    · intro y0 y1 y2 y3 y4 y5 y6
      unfold spec_CheckSignature.j1
      repeat' first
      | (with_reducible exact ih0 _ _ _ _ _ _ _)
      | (with_reducible exact ih1 _ _ _ _ _ _ _)
      | (with_reducible exact ih2 _ _ _ _ _ _ _ _)
      | (with_reducible exact ih3 _ _ _ _ _ _ _ _)
      | (with_reducible exact spec_l01Hash.mono _ _)
      | (with_reducible exact spec_l03Bits.mono _ _)
      | (with_reducible exact spec_l03Hashes.mono _ _ _)
      | (with_reducible exact spec_l03Node.mono _ _ _)
      | (with_reducible exact LeO.refl _)
      | (with_reducible exact LeO.none _)
      | (with_reducible refine LeO.ite ?_ ?_)
      | (with_reducible refine LeO.bind ?_ (fun _ => ?_))
      | exact ih0 _ _ _ _ _ _ _
      | exact ih1 _ _ _ _ _ _ _
      | exact ih2 _ _ _ _ _ _ _ _
      | exact ih3 _ _ _ _ _ _ _ _
      | exact spec_l01Hash.mono _ _
      | exact spec_l03Bits.mono _ _
      | exact spec_l03Hashes.mono _ _ _
      | exact spec_l03Node.mono _ _ _
      | exact LeO.none _
      | refine LeO.ite ?_ ?_
      | refine LeO.bind ?_ (fun _ => ?_)
    · intro y0 y1 y2 y3 y4 y5 y6 y7
      unfold spec_CheckSignature.l0
      repeat' first
      | (with_reducible exact ih0 _ _ _ _ _ _ _)
      | (with_reducible exact ih1 _ _ _ _ _ _ _)
      | (with_reducible exact ih2 _ _ _ _ _ _ _ _)
      | (with_reducible exact ih3 _ _ _ _ _ _ _ _)
      | (with_reducible exact spec_l01Hash.mono _ _)
      | (with_reducible exact spec_l03Bits.mono _ _)
      | (with_reducible exact spec_l03Hashes.mono _ _ _)
      | (with_reducible exact spec_l03Node.mono _ _ _)
      | (with_reducible exact LeO.refl _)
      | (with_reducible exact LeO.none _)
      | (with_reducible refine LeO.ite ?_ ?_)
      | (with_reducible refine LeO.bind ?_ (fun _ => ?_))
      | exact ih0 _ _ _ _ _ _ _
      | exact ih1 _ _ _ _ _ _ _
      | exact ih2 _ _ _ _ _ _ _ _
      | exact ih3 _ _ _ _ _ _ _ _
      | exact spec_l01Hash.mono _ _
      | exact spec_l03Bits.mono _ _
      | exact spec_l03Hashes.mono _ _ _
      | exact spec_l03Node.mono _ _ _
      | exact LeO.none _
      | refine LeO.ite ?_ ?_
      | refine LeO.bind ?_ (fun _ => ?_)
    · intro y0 y1 y2 y3 y4 y5 y6 y7
      unfold spec_CheckSignature.l1
      repeat' first
      | (with_reducible exact ih0 _ _ _ _ _ _ _)
      | (with_reducible exact ih1 _ _ _ _ _ _ _)
      | (with_reducible exact ih2 _ _ _ _ _ _ _ _)
      | (with_reducible exact ih3 _ _ _ _ _ _ _ _)
      | (with_reducible exact spec_l01Hash.mono _ _)
      | (with_reducible exact spec_l03Bits.mono _ _)
      | (with_reducible exact spec_l03Hashes.mono _ _ _)
      | (with_reducible exact spec_l03Node.mono _ _ _)
      | (with_reducible exact LeO.refl _)
      | (with_reducible exact LeO.none _)
      | (with_reducible refine LeO.ite ?_ ?_)
      | (with_reducible refine LeO.bind ?_ (fun _ => ?_))
      | exact ih0 _ _ _ _ _ _ _
      | exact ih1 _ _ _ _ _ _ _
      | exact ih2 _ _ _ _ _ _ _ _
      | exact ih3 _ _ _ _ _ _ _ _
      | exact spec_l01Hash.mono _ _
      | exact spec_l03Bits.mono _ _
      | exact spec_l03Hashes.mono _ _ _
      | exact spec_l03Node.mono _ _ _
      | exact LeO.none _
      | refine LeO.ite ?_ ?_
      | refine LeO.bind ?_ (fun _ => ?_)
theorem spec_CheckSignature.mono : ∀ a0 a1 a2 a3 a4 a5 k, LeO (spec_CheckSignature.f k a0 a1 a2 a3 a4 a5) (spec_CheckSignature.f (k + 1) a0 a1 a2 a3 a4 a5) := by
  intro a0 a1 a2 a3 a4 a5 k
  obtain ⟨ih0, ih1, ih2, ih3⟩ := spec_CheckSignature.mono_l k
  unfold spec_CheckSignature.f
  repeat' first
      | (with_reducible exact ih0 _ _ _ _ _ _ _)
      | (with_reducible exact ih1 _ _ _ _ _ _ _)
      | (with_reducible exact ih2 _ _ _ _ _ _ _ _)
      | (with_reducible exact ih3 _ _ _ _ _ _ _ _)
      | (with_reducible exact spec_l01Hash.mono _ _)
      | (with_reducible exact spec_l03Bits.mono _ _)
      | (with_reducible exact spec_l03Hashes.mono _ _ _)
      | (with_reducible exact spec_l03Node.mono _ _ _)
      | (with_reducible exact LeO.refl _)
      | (with_reducible exact LeO.none _)
      | (with_reducible refine LeO.ite ?_ ?_)
      | (with_reducible refine LeO.bind ?_ (fun _ => ?_))
      | exact ih0 _ _ _ _ _ _ _
      | exact ih1 _ _ _ _ _ _ _
      | exact ih2 _ _ _ _ _ _ _ _
      | exact ih3 _ _ _ _ _ _ _ _
      | exact spec_l01Hash.mono _ _
      | exact spec_l03Bits.mono _ _
      | exact spec_l03Hashes.mono _ _ _
      | exact spec_l03Node.mono _ _ _
      | exact LeO.none _
      | refine LeO.ite ?_ ?_
      | refine LeO.bind ?_ (fun _ => ?_)
noncomputable def spec_CheckSignature.jv0 (x0 : ByteArray) (x1 : ByteArray) (x21 : Bool) (x239000 : Int) (x239001 : List ByteArray) (x239002 : List ByteArray) (x239003 : List ByteArray) : Option (Int) := lim (fun k_ => spec_CheckSignature.j0 k_ x0 x1 x21 x239000 x239001 x239002 x239003)
noncomputable def spec_CheckSignature.jv1 (x0 : ByteArray) (x1 : ByteArray) (x42 : Bool) (x239000 : Int) (x239001 : List ByteArray) (x239002 : List ByteArray) (x239003 : List ByteArray) : Option (Int) := lim (fun k_ => spec_CheckSignature.j1 k_ x0 x1 x42 x239000 x239001 x239002 x239003)
noncomputable def spec_CheckSignature.lv0 (x0 : ByteArray) (x7 : ByteArray) (x8 : List Int) (x9 : Int) (x239000 : Int) (x239001 : List ByteArray) (x239002 : List ByteArray) (x239003 : List ByteArray) : Option (Int) := lim (fun k_ => spec_CheckSignature.l0 k_ x0 x7 x8 x9 x239000 x239001 x239002 x239003)
noncomputable def spec_CheckSignature.lv1 (x0 : ByteArray) (x11 : ByteArray) (x12 : Int) (x13 : Int) (x239000 : Int) (x239001 : List ByteArray) (x239002 : List ByteArray) (x239003 : List ByteArray) : Option (Int) := lim (fun k_ => spec_CheckSignature.l1 k_ x0 x11 x12 x13 x239000 x239001 x239002 x239003)
noncomputable def spec_CheckSignature.v (a0 : ByteArray) (a1 : ByteArray) (a2_0 : Int) (l2_1 : List ByteArray) (l2_2 : List ByteArray) (l2_3 : List ByteArray) : Option (Int) := lim (fun k_ => spec_CheckSignature.f k_ a0 a1 a2_0 l2_1 l2_2 l2_3)
theorem spec_CheckSignature.jv0_lim (x0 : ByteArray) (x1 : ByteArray) (x21 : Bool) (x239000 : Int) (x239001 : List ByteArray) (x239002 : List ByteArray) (x239003 : List ByteArray) : LimIs (fun k_ => spec_CheckSignature.j0 k_ x0 x1 x21 x239000 x239001 x239002 x239003) (spec_CheckSignature.jv0 x0 x1 x21 x239000 x239001 x239002 x239003) := lim_is (fun k_ => (spec_CheckSignature.mono_l k_).1 x0 x1 x21 x239000 x239001 x239002 x239003)
theorem spec_CheckSignature.jv1_lim (x0 : ByteArray) (x1 : ByteArray) (x42 : Bool) (x239000 : Int) (x239001 : List ByteArray) (x239002 : List ByteArray) (x239003 : List ByteArray) : LimIs (fun k_ => spec_CheckSignature.j1 k_ x0 x1 x42 x239000 x239001 x239002 x239003) (spec_CheckSignature.jv1 x0 x1 x42 x239000 x239001 x239002 x239003) := lim_is (fun k_ => (spec_CheckSignature.mono_l k_).2.1 x0 x1 x42 x239000 x239001 x239002 x239003)
theorem spec_CheckSignature.lv0_lim (x0 : ByteArray) (x7 : ByteArray) (x8 : List Int) (x9 : Int) (x239000 : Int) (x239001 : List ByteArray) (x239002 : List ByteArray) (x239003 : List ByteArray) : LimIs (fun k_ => spec_CheckSignature.l0 k_ x0 x7 x8 x9 x239000 x239001 x239002 x239003) (spec_CheckSignature.lv0 x0 x7 x8 x9 x239000 x239001 x239002 x239003) := lim_is (fun k_ => (spec_CheckSignature.mono_l k_).2.2.1 x0 x7 x8 x9 x239000 x239001 x239002 x239003)
theorem spec_CheckSignature.lv1_lim (x0 : ByteArray) (x11 : ByteArray) (x12 : Int) (x13 : Int) (x239000 : Int) (x239001 : List ByteArray) (x239002 : List ByteArray) (x239003 : List ByteArray) : LimIs (fun k_ => spec_CheckSignature.l1 k_ x0 x11 x12 x13 x239000 x239001 x239002 x239003) (spec_CheckSignature.lv1 x0 x11 x12 x13 x239000 x239001 x239002 x239003) := lim_is (fun k_ => (spec_CheckSignature.mono_l k_).2.2.2 x0 x11 x12 x13 x239000 x239001 x239002 x239003)
theorem spec_CheckSignature.v_lim (a0 : ByteArray) (a1 : ByteArray) (a2_0 : Int) (l2_1 : List ByteArray) (l2_2 : List ByteArray) (l2_3 : List ByteArray) : LimIs (fun k_ => spec_CheckSignature.f k_ a0 a1 a2_0 l2_1 l2_2 l2_3) (spec_CheckSignature.v a0 a1 a2_0 l2_1 l2_2 l2_3) := lim_is (fun k_ => spec_CheckSignature.mono a0 a1 a2_0 l2_1 l2_2 l2_3 k_)
theorem spec_CheckSignature.jv0_eq (x0 : ByteArray) (x1 : ByteArray) (x21 : Bool) (x239000 : Int) (x239001 : List ByteArray) (x239002 : List ByteArray) (x239003 : List ByteArray) : spec_CheckSignature.jv0 x0 x1 x21 x239000 x239001 x239002 x239003 = (if x21 = true then (some 2) else (if (x0.size : Int) = 32 then ((spec_l03Hashes.v x239001 32).bind fun t239 => (if t239 = true then ((spec_l03Hashes.v x239002 32).bind fun t240 => (if t240 = true then ((spec_l03Hashes.v x239003 3).bind fun t241 => (spec_CheckSignature.jv1 x0 x1 (!t241) x239000 x239001 x239002 x239003)) else (spec_CheckSignature.jv1 x0 x1 true x239000 x239001 x239002 x239003))) else (spec_CheckSignature.jv1 x0 x1 true x239000 x239001 x239002 x239003))) else (spec_CheckSignature.jv1 x0 x1 true x239000 x239001 x239002 x239003)) : Option (Int)) := by
  refine LimIs.eq (spec_CheckSignature.jv0_lim x0 x1 x21 x239000 x239001 x239002 x239003) ?_
  refine LimIs.step (fun k_ => (spec_CheckSignature.mono_l k_).1 x0 x1 x21 x239000 x239001 x239002 x239003) ?_
  simp only [spec_CheckSignature.j0]
  repeat' (with_reducible first | exact spec_CheckSignature.jv1_lim _ _ _ _ _ _ _ | exact spec_l03Hashes.v_lim _ _ | exact LimIs.const _ | refine LimIs.ite ?_ ?_ | refine LimIs.bind ?_ (fun _ => ?_))
theorem spec_CheckSignature.jv1_eq (x0 : ByteArray) (x1 : ByteArray) (x42 : Bool) (x239000 : Int) (x239001 : List ByteArray) (x239002 : List ByteArray) (x239003 : List ByteArray) : spec_CheckSignature.jv1 x0 x1 x42 x239000 x239001 x239002 x239003 = (if x42 = true then (some 1) else ((spec_l01In.v x239000 0 7).bind fun t242 => (if t242 = true then ((spec_l03Bits.v x1).bind fun t243 => (spec_CheckSignature.lv0 x0 t243 (([107, 101, 121] : List Int)) 0 x239000 x239001 x239002 x239003)) else (some 4))) : Option (Int)) := by
  refine LimIs.eq (spec_CheckSignature.jv1_lim x0 x1 x42 x239000 x239001 x239002 x239003) ?_
  refine LimIs.step (fun k_ => (spec_CheckSignature.mono_l k_).2.1 x0 x1 x42 x239000 x239001 x239002 x239003) ?_
  simp only [spec_CheckSignature.j1]
  repeat' (with_reducible first | exact spec_CheckSignature.lv0_lim _ _ _ _ _ _ _ _ | exact spec_l01In.v_lim _ _ _ | exact spec_l03Bits.v_lim _ | exact LimIs.const _ | refine LimIs.ite ?_ ?_ | refine LimIs.bind ?_ (fun _ => ?_))
theorem spec_CheckSignature.lv0_eq (x0 : ByteArray) (x7 : ByteArray) (x8 : List Int) (x9 : Int) (x239000 : Int) (x239001 : List ByteArray) (x239002 : List ByteArray) (x239003 : List ByteArray) : spec_CheckSignature.lv0 x0 x7 x8 x9 x239000 x239001 x239002 x239003 = (if x9 < 32 then (if 0 ≤ x9 then (if x9 < (x239001.length : Int) then (if (rdOf ByteArray.empty x239001 x9).size ≤ 140737488355328 then ((spec_l01Hash.v (bytesOf (rdOf ByteArray.empty x239001 x9))).bind fun t251 => (if x9 < (x7.size : Int) then (if (bt x7 x9) = 48 then (if x8.length + t251.size < 140737488355328 then ((some (x8 ++ bytesOf t251 : List Int)).bind fun y252 => (if x9 < (x239002.length : Int) then (if y252.length + (rdOf ByteArray.empty x239002 x9).size < 140737488355328 then (spec_CheckSignature.lv0 x0 x7 (y252 ++ bytesOf (rdOf ByteArray.empty x239002 x9)) (wrap64 (x9 + 1)) x239000 x239001 x239002 x239003) else (none)) else (none))) else (none)) else (if x9 < (x239002.length : Int) then (if x8.length + (rdOf ByteArray.empty x239002 x9).size < 140737488355328 then ((some (x8 ++ bytesOf (rdOf ByteArray.empty x239002 x9) : List Int)).bind fun y260 => (if y260.length + t251.size < 140737488355328 then (spec_CheckSignature.lv0 x0 x7 (y260 ++ bytesOf t251) (wrap64 (x9 + 1)) x239000 x239001 x239002 x239003) else (none))) else (none)) else (none))) else (none))) else (none)) else (none)) else (none)) else ((spec_l01Hash.v x8).bind fun t266 => (spec_CheckSignature.lv1 x0 t266 x239000 0 x239000 x239001 x239002 x239003)) : Option (Int)) := by
  refine LimIs.eq (spec_CheckSignature.lv0_lim x0 x7 x8 x9 x239000 x239001 x239002 x239003) ?_
  refine LimIs.step (fun k_ => (spec_CheckSignature.mono_l k_).2.2.1 x0 x7 x8 x9 x239000 x239001 x239002 x239003) ?_
  simp only [spec_CheckSignature.l0]
  repeat' (with_reducible first | exact spec_CheckSignature.lv0_lim _ _ _ _ _ _ _ _ | exact spec_CheckSignature.lv1_lim _ _ _ _ _ _ _ _ | exact spec_l01Hash.v_lim _ | exact LimIs.const _ | refine LimIs.ite ?_ ?_ | refine LimIs.bind ?_ (fun _ => ?_))
theorem spec_CheckSignature.lv1_eq (x0 : ByteArray) (x11 : ByteArray) (x12 : Int) (x13 : Int) (x239000 : Int) (x239001 : List ByteArray) (x239002 : List ByteArray) (x239003 : List ByteArray) : spec_CheckSignature.lv1 x0 x11 x12 x13 x239000 x239001 x239002 x239003 = (if x13 < 3 then (if (Int.tmod x12 2) = 0 then (if 0 ≤ x13 then (if x13 < (x239003.length : Int) then ((spec_l03Node.v x11 (rdOf ByteArray.empty x239003 x13)).bind fun t268 => (spec_CheckSignature.lv1 x0 t268 (wrap64 (Int.tdiv x12 2)) (wrap64 (x13 + 1)) x239000 x239001 x239002 x239003)) else (none)) else (none)) else (if 0 ≤ x13 then (if x13 < (x239003.length : Int) then ((spec_l03Node.v (rdOf ByteArray.empty x239003 x13) x11).bind fun t270 => (spec_CheckSignature.lv1 x0 t270 (wrap64 (Int.tdiv x12 2)) (wrap64 (x13 + 1)) x239000 x239001 x239002 x239003)) else (none)) else (none))) else (if x11.toList = x0.toList then (some 0) else (some 12)) : Option (Int)) := by
  refine LimIs.eq (spec_CheckSignature.lv1_lim x0 x11 x12 x13 x239000 x239001 x239002 x239003) ?_
  refine LimIs.step (fun k_ => (spec_CheckSignature.mono_l k_).2.2.2 x0 x11 x12 x13 x239000 x239001 x239002 x239003) ?_
  simp only [spec_CheckSignature.l1]
  repeat' (with_reducible first | exact spec_CheckSignature.lv1_lim _ _ _ _ _ _ _ _ | exact spec_l03Node.v_lim _ _ | exact LimIs.const _ | refine LimIs.ite ?_ ?_ | refine LimIs.bind ?_ (fun _ => ?_))
theorem spec_CheckSignature.v_eq (a0 : ByteArray) (a1 : ByteArray) (a2_0 : Int) (l2_1 : List ByteArray) (l2_2 : List ByteArray) (l2_3 : List ByteArray) : spec_CheckSignature.v a0 a1 a2_0 l2_1 l2_2 l2_3 = (if (a1.size : Int) > 65530 then (spec_CheckSignature.jv0 a0 a1 true a2_0 l2_1 l2_2 l2_3) else (spec_CheckSignature.jv0 a0 a1 (decide ((a0.size : Int) > 65536)) a2_0 l2_1 l2_2 l2_3) : Option (Int)) := by
  refine LimIs.eq (spec_CheckSignature.v_lim a0 a1 a2_0 l2_1 l2_2 l2_3) ?_
  simp only [spec_CheckSignature.f]
  repeat' (with_reducible first | exact spec_CheckSignature.jv0_lim _ _ _ _ _ _ _ | exact LimIs.const _ | refine LimIs.ite ?_ ?_ | refine LimIs.bind ?_ (fun _ => ?_))
def spec_l03Level.l0 : Nat → List ByteArray → List ByteArray → Int → Option (List ByteArray)
  | 0, _, _, _ => none
  | k + 1, x0, x3, x4 => if x4 < (x0.length : Int) then (if 0 ≤ x4 then (if 0 ≤ (wrap64 (x4 + 1)) then (if (wrap64 (x4 + 1)) < (x0.length : Int) then ((spec_l03Node.f k (rdOf ByteArray.empty x0 x4) (rdOf ByteArray.empty x0 (wrap64 (x4 + 1)))).bind fun t276 => (if x3.length < 8796093022208 then (spec_l03Level.l0 k x0 (x3 ++ [t276]) (wrap64 (x4 + 2))) else (none))) else (none)) else (none)) else (none)) else (some x3)
def spec_l03Level.f (k : Nat) (l0 : List ByteArray) : Option (List ByteArray) := spec_l03Level.l0 k l0 (([] : List ByteArray)) 0
theorem spec_l03Level.mono_l : ∀ k, (∀ y0 y1 y2, LeO (spec_l03Level.l0 k y0 y1 y2) (spec_l03Level.l0 (k + 1) y0 y1 y2))
  | 0 => fun _ _ _ r h => by simp [spec_l03Level.l0] at h
  | k + 1 => by
    have ih0 := spec_l03Level.mono_l k
    · intro y0 y1 y2
      unfold spec_l03Level.l0
      repeat' first
      | (with_reducible exact ih0 _ _ _)
      | (with_reducible exact spec_l03Node.mono _ _ _)
      | (with_reducible exact LeO.refl _)
      | (with_reducible exact LeO.none _)
      | (with_reducible refine LeO.ite ?_ ?_)
      | (with_reducible refine LeO.bind ?_ (fun _ => ?_))
      | exact ih0 _ _ _
      | exact spec_l03Node.mono _ _ _
      | exact LeO.none _
      | refine LeO.ite ?_ ?_
      | refine LeO.bind ?_ (fun _ => ?_)
theorem spec_l03Level.mono : ∀ a0 k, LeO (spec_l03Level.f k a0) (spec_l03Level.f (k + 1) a0) := by
  intro a0 k
  have ih0 := spec_l03Level.mono_l k
  unfold spec_l03Level.f
  repeat' first
      | (with_reducible exact ih0 _ _ _)
      | (with_reducible exact spec_l03Node.mono _ _ _)
      | (with_reducible exact LeO.refl _)
      | (with_reducible exact LeO.none _)
      | (with_reducible refine LeO.ite ?_ ?_)
      | (with_reducible refine LeO.bind ?_ (fun _ => ?_))
      | exact ih0 _ _ _
      | exact spec_l03Node.mono _ _ _
      | exact LeO.none _
      | refine LeO.ite ?_ ?_
      | refine LeO.bind ?_ (fun _ => ?_)
noncomputable def spec_l03Level.lv0 (x0 : List ByteArray) (x3 : List ByteArray) (x4 : Int) : Option (List ByteArray) := lim (fun k_ => spec_l03Level.l0 k_ x0 x3 x4)
noncomputable def spec_l03Level.v (l0 : List ByteArray) : Option (List ByteArray) := lim (fun k_ => spec_l03Level.f k_ l0)
theorem spec_l03Level.lv0_lim (x0 : List ByteArray) (x3 : List ByteArray) (x4 : Int) : LimIs (fun k_ => spec_l03Level.l0 k_ x0 x3 x4) (spec_l03Level.lv0 x0 x3 x4) := lim_is (fun k_ => (spec_l03Level.mono_l k_) x0 x3 x4)
theorem spec_l03Level.v_lim (l0 : List ByteArray) : LimIs (fun k_ => spec_l03Level.f k_ l0) (spec_l03Level.v l0) := lim_is (fun k_ => spec_l03Level.mono l0 k_)
theorem spec_l03Level.lv0_eq (x0 : List ByteArray) (x3 : List ByteArray) (x4 : Int) : spec_l03Level.lv0 x0 x3 x4 = (if x4 < (x0.length : Int) then (if 0 ≤ x4 then (if 0 ≤ (wrap64 (x4 + 1)) then (if (wrap64 (x4 + 1)) < (x0.length : Int) then ((spec_l03Node.v (rdOf ByteArray.empty x0 x4) (rdOf ByteArray.empty x0 (wrap64 (x4 + 1)))).bind fun t276 => (if x3.length < 8796093022208 then (spec_l03Level.lv0 x0 (x3 ++ [t276]) (wrap64 (x4 + 2))) else (none))) else (none)) else (none)) else (none)) else (some x3) : Option (List ByteArray)) := by
  refine LimIs.eq (spec_l03Level.lv0_lim x0 x3 x4) ?_
  refine LimIs.step (fun k_ => (spec_l03Level.mono_l k_) x0 x3 x4) ?_
  simp only [spec_l03Level.l0]
  repeat' (with_reducible first | exact spec_l03Level.lv0_lim _ _ _ | exact spec_l03Node.v_lim _ _ | exact LimIs.const _ | refine LimIs.ite ?_ ?_ | refine LimIs.bind ?_ (fun _ => ?_))
theorem spec_l03Level.v_eq (l0 : List ByteArray) : spec_l03Level.v l0 = (spec_l03Level.lv0 l0 (([] : List ByteArray)) 0 : Option (List ByteArray)) := by
  refine LimIs.eq (spec_l03Level.v_lim l0) ?_
  simp only [spec_l03Level.f]
  repeat' (with_reducible first | exact spec_l03Level.lv0_lim _ _ _ | exact LimIs.const _ | refine LimIs.ite ?_ ?_ | refine LimIs.bind ?_ (fun _ => ?_))
def spec_l03Root.l0 : Nat → List ByteArray → Option (ByteArray)
  | 0, _ => none
  | k + 1, x0 => if (x0.length : Int) > 1 then ((spec_l03Level.f k x0).bind fun t280 => (spec_l03Root.l0 k t280)) else (if 0 < (x0.length : Int) then (some (rdOf ByteArray.empty x0 0)) else (none))
def spec_l03Root.f (k : Nat) (l0 : List ByteArray) : Option (ByteArray) := spec_l03Root.l0 k l0
theorem spec_l03Root.mono_l : ∀ k, (∀ y0, LeO (spec_l03Root.l0 k y0) (spec_l03Root.l0 (k + 1) y0))
  | 0 => fun _ r h => by simp [spec_l03Root.l0] at h
  | k + 1 => by
    have ih0 := spec_l03Root.mono_l k
    · intro y0
      unfold spec_l03Root.l0
      repeat' first
      | (with_reducible exact ih0 _)
      | (with_reducible exact spec_l03Level.mono _ _)
      | (with_reducible exact LeO.refl _)
      | (with_reducible exact LeO.none _)
      | (with_reducible refine LeO.ite ?_ ?_)
      | (with_reducible refine LeO.bind ?_ (fun _ => ?_))
      | exact ih0 _
      | exact spec_l03Level.mono _ _
      | exact LeO.none _
      | refine LeO.ite ?_ ?_
      | refine LeO.bind ?_ (fun _ => ?_)
theorem spec_l03Root.mono : ∀ a0 k, LeO (spec_l03Root.f k a0) (spec_l03Root.f (k + 1) a0) := by
  intro a0 k
  have ih0 := spec_l03Root.mono_l k
  unfold spec_l03Root.f
  repeat' first
      | (with_reducible exact ih0 _)
      | (with_reducible exact spec_l03Level.mono _ _)
      | (with_reducible exact LeO.refl _)
      | (with_reducible exact LeO.none _)
      | (with_reducible refine LeO.ite ?_ ?_)
      | (with_reducible refine LeO.bind ?_ (fun _ => ?_))
      | exact ih0 _
      | exact spec_l03Level.mono _ _
      | exact LeO.none _
      | refine LeO.ite ?_ ?_
      | refine LeO.bind ?_ (fun _ => ?_)
noncomputable def spec_l03Root.lv0 (x0 : List ByteArray) : Option (ByteArray) := lim (fun k_ => spec_l03Root.l0 k_ x0)
noncomputable def spec_l03Root.v (l0 : List ByteArray) : Option (ByteArray) := lim (fun k_ => spec_l03Root.f k_ l0)
theorem spec_l03Root.lv0_lim (x0 : List ByteArray) : LimIs (fun k_ => spec_l03Root.l0 k_ x0) (spec_l03Root.lv0 x0) := lim_is (fun k_ => (spec_l03Root.mono_l k_) x0)
theorem spec_l03Root.v_lim (l0 : List ByteArray) : LimIs (fun k_ => spec_l03Root.f k_ l0) (spec_l03Root.v l0) := lim_is (fun k_ => spec_l03Root.mono l0 k_)
theorem spec_l03Root.lv0_eq (x0 : List ByteArray) : spec_l03Root.lv0 x0 = (if (x0.length : Int) > 1 then ((spec_l03Level.v x0).bind fun t280 => (spec_l03Root.lv0 t280)) else (if 0 < (x0.length : Int) then (some (rdOf ByteArray.empty x0 0)) else (none)) : Option (ByteArray)) := by
  refine LimIs.eq (spec_l03Root.lv0_lim x0) ?_
  refine LimIs.step (fun k_ => (spec_l03Root.mono_l k_) x0) ?_
  simp only [spec_l03Root.l0]
  repeat' (with_reducible first | exact spec_l03Level.v_lim _ | exact spec_l03Root.lv0_lim _ | exact LimIs.const _ | refine LimIs.ite ?_ ?_ | refine LimIs.bind ?_ (fun _ => ?_))
theorem spec_l03Root.v_eq (l0 : List ByteArray) : spec_l03Root.v l0 = (spec_l03Root.lv0 l0 : Option (ByteArray)) := by
  refine LimIs.eq (spec_l03Root.v_lim l0) ?_
  simp only [spec_l03Root.f]
  repeat' (with_reducible first | exact spec_l03Root.lv0_lim _ | exact LimIs.const _ | refine LimIs.ite ?_ ?_ | refine LimIs.bind ?_ (fun _ => ?_))
def spec_l03Secret.f (k : Nat) (a0 : ByteArray) (a1 : Int) (a2 : Int) (a3 : Int) : Option (ByteArray) := if 6 + a0.size ≤ 9223372036854775807 then ((some (([(a1) % 256, (a2) % 256, (a3) % 256] : List Int) : List Int)).bind fun y284 => (if ((⟨#[115, 101, 99, 114, 101, 116]⟩ : ByteArray) ++ a0).size + (strOfNums y284).size ≤ 9223372036854775807 then (if (((⟨#[115, 101, 99, 114, 101, 116]⟩ : ByteArray) ++ a0) ++ (strOfNums y284)).size ≤ 140737488355328 then ((spec_l01Hash.f k (bytesOf (((⟨#[115, 101, 99, 114, 101, 116]⟩ : ByteArray) ++ a0) ++ (strOfNums y284)))).bind fun t290 => (some t290)) else (none)) else (none))) else (none)
theorem spec_l03Secret.mono : ∀ a0 a1 a2 a3 k, LeO (spec_l03Secret.f k a0 a1 a2 a3) (spec_l03Secret.f (k + 1) a0 a1 a2 a3) := by
  intro a0 a1 a2 a3 k
  unfold spec_l03Secret.f
  repeat' first
      | (with_reducible exact spec_l01Hash.mono _ _)
      | (with_reducible exact LeO.refl _)
      | (with_reducible exact LeO.none _)
      | (with_reducible refine LeO.ite ?_ ?_)
      | (with_reducible refine LeO.bind ?_ (fun _ => ?_))
      | exact spec_l01Hash.mono _ _
      | exact LeO.none _
      | refine LeO.ite ?_ ?_
      | refine LeO.bind ?_ (fun _ => ?_)
noncomputable def spec_l03Secret.v (a0 : ByteArray) (a1 : Int) (a2 : Int) (a3 : Int) : Option (ByteArray) := lim (fun k_ => spec_l03Secret.f k_ a0 a1 a2 a3)
theorem spec_l03Secret.v_lim (a0 : ByteArray) (a1 : Int) (a2 : Int) (a3 : Int) : LimIs (fun k_ => spec_l03Secret.f k_ a0 a1 a2 a3) (spec_l03Secret.v a0 a1 a2 a3) := lim_is (fun k_ => spec_l03Secret.mono a0 a1 a2 a3 k_)
theorem spec_l03Secret.v_eq (a0 : ByteArray) (a1 : Int) (a2 : Int) (a3 : Int) : spec_l03Secret.v a0 a1 a2 a3 = (if 6 + a0.size ≤ 9223372036854775807 then ((some (([(a1) % 256, (a2) % 256, (a3) % 256] : List Int) : List Int)).bind fun y284 => (if ((⟨#[115, 101, 99, 114, 101, 116]⟩ : ByteArray) ++ a0).size + (strOfNums y284).size ≤ 9223372036854775807 then (if (((⟨#[115, 101, 99, 114, 101, 116]⟩ : ByteArray) ++ a0) ++ (strOfNums y284)).size ≤ 140737488355328 then ((spec_l01Hash.v (bytesOf (((⟨#[115, 101, 99, 114, 101, 116]⟩ : ByteArray) ++ a0) ++ (strOfNums y284)))).bind fun t290 => (some t290)) else (none)) else (none))) else (none) : Option (ByteArray)) := by
  refine LimIs.eq (spec_l03Secret.v_lim a0 a1 a2 a3) ?_
  simp only [spec_l03Secret.f]
  repeat' (with_reducible first | exact spec_l01Hash.v_lim _ | exact LimIs.const _ | refine LimIs.ite ?_ ?_ | refine LimIs.bind ?_ (fun _ => ?_))
mutual
def spec_l03Key.l0 : Nat → ByteArray → Int → List Int → Int → Option (ByteArray)
  | 0, _, _, _, _ => none
  | k + 1, x0, x1, x5, x6 => if x6 < 32 then (spec_l03Key.l1 k x0 x1 x5 x6 0) else ((spec_l01Hash.f k x5).bind fun t294 => (some t294))
def spec_l03Key.l1 : Nat → ByteArray → Int → List Int → Int → Int → Option (ByteArray)
  | 0, _, _, _, _, _ => none
  | k + 1, x0, x1, x5, x6, x7 => if x7 < 2 then ((spec_l03Secret.f k x0 x1 x6 x7).bind fun t295 => (if t295.size ≤ 140737488355328 then ((spec_l01Hash.f k (bytesOf t295)).bind fun t299 => (if x5.length + t299.size < 140737488355328 then (spec_l03Key.l1 k x0 x1 (x5 ++ bytesOf t299) x6 (wrap64 (x7 + 1))) else (none))) else (none))) else (spec_l03Key.l0 k x0 x1 x5 (wrap64 (x6 + 1)))
end
def spec_l03Key.f (k : Nat) (a0 : ByteArray) (a1 : Int) : Option (ByteArray) := spec_l03Key.l0 k a0 a1 (([107, 101, 121] : List Int)) 0
theorem spec_l03Key.mono_l : ∀ k, (∀ y0 y1 y2 y3, LeO (spec_l03Key.l0 k y0 y1 y2 y3) (spec_l03Key.l0 (k + 1) y0 y1 y2 y3)) ∧ (∀ y0 y1 y2 y3 y4, LeO (spec_l03Key.l1 k y0 y1 y2 y3 y4) (spec_l03Key.l1 (k + 1) y0 y1 y2 y3 y4))
  | 0 => ⟨fun _ _ _ _ r h => by simp [spec_l03Key.l0] at h, fun _ _ _ _ _ r h => by simp [spec_l03Key.l1] at h⟩
  | k + 1 => by
    obtain ⟨ih0, ih1⟩ := spec_l03Key.mono_l k
    refine ⟨?_, ?_⟩
    · intro y0 y1 y2 y3
      unfold spec_l03Key.l0
      repeat' first
      | (with_reducible exact ih0 _ _ _ _)
      | (with_reducible exact ih1 _ _ _ _ _)
      | (with_reducible exact spec_l01Hash.mono _ _)
      | (with_reducible exact spec_l03Secret.mono _ _ _ _ _)
      | (with_reducible exact LeO.refl _)
      | (with_reducible exact LeO.none _)
      | (with_reducible refine LeO.ite ?_ ?_)
      | (with_reducible refine LeO.bind ?_ (fun _ => ?_))
      | exact ih0 _ _ _ _
      | exact ih1 _ _ _ _ _
      | exact spec_l01Hash.mono _ _
      | exact spec_l03Secret.mono _ _ _ _ _
      | exact LeO.none _
      | refine LeO.ite ?_ ?_
      | refine LeO.bind ?_ (fun _ => ?_)
    · intro y0 y1 y2 y3 y4
      unfold spec_l03Key.l1
      repeat' first
      | (with_reducible exact ih0 _ _ _ _)
      | (with_reducible exact ih1 _ _ _ _ _)
      | (with_reducible exact spec_l01Hash.mono _ _)
      | (with_reducible exact spec_l03Secret.mono _ _ _ _ _)
      | (with_reducible exact LeO.refl _)
      | (with_reducible exact LeO.none _)
      | (with_reducible refine LeO.ite ?_ ?_)
      | (with_reducible refine LeO.bind ?_ (fun _ => ?_))
      | exact ih0 _ _ _ _
      | exact ih1 _ _ _ _ _
      | exact spec_l01Hash.mono _ _
      | exact spec_l03Secret.mono _ _ _ _ _
      | exact LeO.none _
      | refine LeO.ite ?_ ?_
      | refine LeO.bind ?_ (fun _ => ?_)
theorem spec_l03Key.mono : ∀ a0 a1 k, LeO (spec_l03Key.f k a0 a1) (spec_l03Key.f (k + 1) a0 a1) := by
  intro a0 a1 k
  obtain ⟨ih0, ih1⟩ := spec_l03Key.mono_l k
  unfold spec_l03Key.f
  repeat' first
      | (with_reducible exact ih0 _ _ _ _)
      | (with_reducible exact ih1 _ _ _ _ _)
      | (with_reducible exact spec_l01Hash.mono _ _)
      | (with_reducible exact spec_l03Secret.mono _ _ _ _ _)
      | (with_reducible exact LeO.refl _)
      | (with_reducible exact LeO.none _)
      | (with_reducible refine LeO.ite ?_ ?_)
      | (with_reducible refine LeO.bind ?_ (fun _ => ?_))
      | exact ih0 _ _ _ _
      | exact ih1 _ _ _ _ _
      | exact spec_l01Hash.mono _ _
      | exact spec_l03Secret.mono _ _ _ _ _
      | exact LeO.none _
      | refine LeO.ite ?_ ?_
      | refine LeO.bind ?_ (fun _ => ?_)
noncomputable def spec_l03Key.lv0 (x0 : ByteArray) (x1 : Int) (x5 : List Int) (x6 : Int) : Option (ByteArray) := lim (fun k_ => spec_l03Key.l0 k_ x0 x1 x5 x6)
noncomputable def spec_l03Key.lv1 (x0 : ByteArray) (x1 : Int) (x5 : List Int) (x6 : Int) (x7 : Int) : Option (ByteArray) := lim (fun k_ => spec_l03Key.l1 k_ x0 x1 x5 x6 x7)
noncomputable def spec_l03Key.v (a0 : ByteArray) (a1 : Int) : Option (ByteArray) := lim (fun k_ => spec_l03Key.f k_ a0 a1)
theorem spec_l03Key.lv0_lim (x0 : ByteArray) (x1 : Int) (x5 : List Int) (x6 : Int) : LimIs (fun k_ => spec_l03Key.l0 k_ x0 x1 x5 x6) (spec_l03Key.lv0 x0 x1 x5 x6) := lim_is (fun k_ => (spec_l03Key.mono_l k_).1 x0 x1 x5 x6)
theorem spec_l03Key.lv1_lim (x0 : ByteArray) (x1 : Int) (x5 : List Int) (x6 : Int) (x7 : Int) : LimIs (fun k_ => spec_l03Key.l1 k_ x0 x1 x5 x6 x7) (spec_l03Key.lv1 x0 x1 x5 x6 x7) := lim_is (fun k_ => (spec_l03Key.mono_l k_).2 x0 x1 x5 x6 x7)
theorem spec_l03Key.v_lim (a0 : ByteArray) (a1 : Int) : LimIs (fun k_ => spec_l03Key.f k_ a0 a1) (spec_l03Key.v a0 a1) := lim_is (fun k_ => spec_l03Key.mono a0 a1 k_)
theorem spec_l03Key.lv0_eq (x0 : ByteArray) (x1 : Int) (x5 : List Int) (x6 : Int) : spec_l03Key.lv0 x0 x1 x5 x6 = (if x6 < 32 then (spec_l03Key.lv1 x0 x1 x5 x6 0) else ((spec_l01Hash.v x5).bind fun t294 => (some t294)) : Option (ByteArray)) := by
  refine LimIs.eq (spec_l03Key.lv0_lim x0 x1 x5 x6) ?_
  refine LimIs.step (fun k_ => (spec_l03Key.mono_l k_).1 x0 x1 x5 x6) ?_
  simp only [spec_l03Key.l0]
  repeat' (with_reducible first | exact spec_l01Hash.v_lim _ | exact spec_l03Key.lv1_lim _ _ _ _ _ | exact LimIs.const _ | refine LimIs.ite ?_ ?_ | refine LimIs.bind ?_ (fun _ => ?_))
theorem spec_l03Key.lv1_eq (x0 : ByteArray) (x1 : Int) (x5 : List Int) (x6 : Int) (x7 : Int) : spec_l03Key.lv1 x0 x1 x5 x6 x7 = (if x7 < 2 then ((spec_l03Secret.v x0 x1 x6 x7).bind fun t295 => (if t295.size ≤ 140737488355328 then ((spec_l01Hash.v (bytesOf t295)).bind fun t299 => (if x5.length + t299.size < 140737488355328 then (spec_l03Key.lv1 x0 x1 (x5 ++ bytesOf t299) x6 (wrap64 (x7 + 1))) else (none))) else (none))) else (spec_l03Key.lv0 x0 x1 x5 (wrap64 (x6 + 1))) : Option (ByteArray)) := by
  refine LimIs.eq (spec_l03Key.lv1_lim x0 x1 x5 x6 x7) ?_
  refine LimIs.step (fun k_ => (spec_l03Key.mono_l k_).2 x0 x1 x5 x6 x7) ?_
  simp only [spec_l03Key.l1]
  repeat' (with_reducible first | exact spec_l01Hash.v_lim _ | exact spec_l03Key.lv0_lim _ _ _ _ | exact spec_l03Key.lv1_lim _ _ _ _ _ | exact spec_l03Secret.v_lim _ _ _ _ | exact LimIs.const _ | refine LimIs.ite ?_ ?_ | refine LimIs.bind ?_ (fun _ => ?_))
theorem spec_l03Key.v_eq (a0 : ByteArray) (a1 : Int) : spec_l03Key.v a0 a1 = (spec_l03Key.lv0 a0 a1 (([107, 101, 121] : List Int)) 0 : Option (ByteArray)) := by
  refine LimIs.eq (spec_l03Key.v_lim a0 a1) ?_
  simp only [spec_l03Key.f]
  repeat' (with_reducible first | exact spec_l03Key.lv0_lim _ _ _ _ | exact LimIs.const _ | refine LimIs.ite ?_ ?_ | refine LimIs.bind ?_ (fun _ => ?_))
def spec_l03Keys.l0 : Nat → ByteArray → List ByteArray → Int → Option (List ByteArray)
  | 0, _, _, _ => none
  | k + 1, x0, x3, x4 => if x4 < 8 then ((spec_l03Key.f k x0 x4).bind fun t306 => (if x3.length < 8796093022208 then (spec_l03Keys.l0 k x0 (x3 ++ [t306]) (wrap64 (x4 + 1))) else (none))) else (some x3)
def spec_l03Keys.f (k : Nat) (a0 : ByteArray) : Option (List ByteArray) := spec_l03Keys.l0 k a0 (([] : List ByteArray)) 0
theorem spec_l03Keys.mono_l : ∀ k, (∀ y0 y1 y2, LeO (spec_l03Keys.l0 k y0 y1 y2) (spec_l03Keys.l0 (k + 1) y0 y1 y2))
  | 0 => fun _ _ _ r h => by simp [spec_l03Keys.l0] at h
  | k + 1 => by
    have ih0 := spec_l03Keys.mono_l k
    · intro y0 y1 y2
      unfold spec_l03Keys.l0
      repeat' first
      | (with_reducible exact ih0 _ _ _)
      | (with_reducible exact spec_l03Key.mono _ _ _)
      | (with_reducible exact LeO.refl _)
      | (with_reducible exact LeO.none _)
      | (with_reducible refine LeO.ite ?_ ?_)
      | (with_reducible refine LeO.bind ?_ (fun _ => ?_))
      | exact ih0 _ _ _
      | exact spec_l03Key.mono _ _ _
      | exact LeO.none _
      | refine LeO.ite ?_ ?_
      | refine LeO.bind ?_ (fun _ => ?_)
theorem spec_l03Keys.mono : ∀ a0 k, LeO (spec_l03Keys.f k a0) (spec_l03Keys.f (k + 1) a0) := by
  intro a0 k
  have ih0 := spec_l03Keys.mono_l k
  unfold spec_l03Keys.f
  repeat' first
      | (with_reducible exact ih0 _ _ _)
      | (with_reducible exact spec_l03Key.mono _ _ _)
      | (with_reducible exact LeO.refl _)
      | (with_reducible exact LeO.none _)
      | (with_reducible refine LeO.ite ?_ ?_)
      | (with_reducible refine LeO.bind ?_ (fun _ => ?_))
      | exact ih0 _ _ _
      | exact spec_l03Key.mono _ _ _
      | exact LeO.none _
      | refine LeO.ite ?_ ?_
      | refine LeO.bind ?_ (fun _ => ?_)
noncomputable def spec_l03Keys.lv0 (x0 : ByteArray) (x3 : List ByteArray) (x4 : Int) : Option (List ByteArray) := lim (fun k_ => spec_l03Keys.l0 k_ x0 x3 x4)
noncomputable def spec_l03Keys.v (a0 : ByteArray) : Option (List ByteArray) := lim (fun k_ => spec_l03Keys.f k_ a0)
theorem spec_l03Keys.lv0_lim (x0 : ByteArray) (x3 : List ByteArray) (x4 : Int) : LimIs (fun k_ => spec_l03Keys.l0 k_ x0 x3 x4) (spec_l03Keys.lv0 x0 x3 x4) := lim_is (fun k_ => (spec_l03Keys.mono_l k_) x0 x3 x4)
theorem spec_l03Keys.v_lim (a0 : ByteArray) : LimIs (fun k_ => spec_l03Keys.f k_ a0) (spec_l03Keys.v a0) := lim_is (fun k_ => spec_l03Keys.mono a0 k_)
theorem spec_l03Keys.lv0_eq (x0 : ByteArray) (x3 : List ByteArray) (x4 : Int) : spec_l03Keys.lv0 x0 x3 x4 = (if x4 < 8 then ((spec_l03Key.v x0 x4).bind fun t306 => (if x3.length < 8796093022208 then (spec_l03Keys.lv0 x0 (x3 ++ [t306]) (wrap64 (x4 + 1))) else (none))) else (some x3) : Option (List ByteArray)) := by
  refine LimIs.eq (spec_l03Keys.lv0_lim x0 x3 x4) ?_
  refine LimIs.step (fun k_ => (spec_l03Keys.mono_l k_) x0 x3 x4) ?_
  simp only [spec_l03Keys.l0]
  repeat' (with_reducible first | exact spec_l03Key.v_lim _ _ | exact spec_l03Keys.lv0_lim _ _ _ | exact LimIs.const _ | refine LimIs.ite ?_ ?_ | refine LimIs.bind ?_ (fun _ => ?_))
theorem spec_l03Keys.v_eq (a0 : ByteArray) : spec_l03Keys.v a0 = (spec_l03Keys.lv0 a0 (([] : List ByteArray)) 0 : Option (List ByteArray)) := by
  refine LimIs.eq (spec_l03Keys.v_lim a0) ?_
  simp only [spec_l03Keys.f]
  repeat' (with_reducible first | exact spec_l03Keys.lv0_lim _ _ _ | exact LimIs.const _ | refine LimIs.ite ?_ ?_ | refine LimIs.bind ?_ (fun _ => ?_))
def spec_l12Seed.f (k : Nat) (a0 : Int) : Option (ByteArray) := (some (([(a0) % 256] : List Int) : List Int)).bind fun y310 => (if 9 + (strOfNums y310).size ≤ 9223372036854775807 then (if ((⟨#[110, 111, 100, 101, 32, 115, 101, 101, 100]⟩ : ByteArray) ++ (strOfNums y310)).size ≤ 140737488355328 then ((spec_l01Hash.f k (bytesOf ((⟨#[110, 111, 100, 101, 32, 115, 101, 101, 100]⟩ : ByteArray) ++ (strOfNums y310)))).bind fun t316 => (some t316)) else (none)) else (none))
theorem spec_l12Seed.mono : ∀ a0 k, LeO (spec_l12Seed.f k a0) (spec_l12Seed.f (k + 1) a0) := by
  intro a0 k
  unfold spec_l12Seed.f
  repeat' first
      | (with_reducible exact spec_l01Hash.mono _ _)
      | (with_reducible exact LeO.refl _)
      | (with_reducible exact LeO.none _)
      | (with_reducible refine LeO.ite ?_ ?_)
      | (with_reducible refine LeO.bind ?_ (fun _ => ?_))
      | exact spec_l01Hash.mono _ _
      | exact LeO.none _
      | refine LeO.ite ?_ ?_
      | refine LeO.bind ?_ (fun _ => ?_)
noncomputable def spec_l12Seed.v (a0 : Int) : Option (ByteArray) := lim (fun k_ => spec_l12Seed.f k_ a0)
theorem spec_l12Seed.v_lim (a0 : Int) : LimIs (fun k_ => spec_l12Seed.f k_ a0) (spec_l12Seed.v a0) := lim_is (fun k_ => spec_l12Seed.mono a0 k_)
theorem spec_l12Seed.v_eq (a0 : Int) : spec_l12Seed.v a0 = ((some (([(a0) % 256] : List Int) : List Int)).bind fun y310 => (if 9 + (strOfNums y310).size ≤ 9223372036854775807 then (if ((⟨#[110, 111, 100, 101, 32, 115, 101, 101, 100]⟩ : ByteArray) ++ (strOfNums y310)).size ≤ 140737488355328 then ((spec_l01Hash.v (bytesOf ((⟨#[110, 111, 100, 101, 32, 115, 101, 101, 100]⟩ : ByteArray) ++ (strOfNums y310)))).bind fun t316 => (some t316)) else (none)) else (none)) : Option (ByteArray)) := by
  refine LimIs.eq (spec_l12Seed.v_lim a0) ?_
  simp only [spec_l12Seed.f]
  repeat' (with_reducible first | exact spec_l01Hash.v_lim _ | exact LimIs.const _ | refine LimIs.ite ?_ ?_ | refine LimIs.bind ?_ (fun _ => ?_))
def spec_l00Digits.f : Nat → Int → Option (ByteArray)
  | 0, _ => none
  | k + 1, a0 => if a0 = (-9223372036854775808) then (some (⟨#[45, 57, 50, 50, 51, 51, 55, 50, 48, 51, 54, 56, 53, 52, 55, 55, 53, 56, 48, 56]⟩ : ByteArray)) else (if a0 < 0 then ((spec_l00Digits.f k (wrap64 (-a0))).bind fun t317 => (if 1 + t317.size ≤ 9223372036854775807 then (some ((⟨#[45]⟩ : ByteArray) ++ t317)) else (none))) else (if a0 < 10 then (some (strOfNums (([(wrap64 (48 + a0)) % 256] : List Int)))) else ((spec_l00Digits.f k (wrap64 (Int.tdiv a0 10))).bind fun t321 => ((some (([(wrap64 (48 + (Int.tmod a0 10))) % 256] : List Int) : List Int)).bind fun y322 => (if t321.size + (strOfNums y322).size ≤ 9223372036854775807 then (some (t321 ++ (strOfNums y322))) else (none))))))
theorem spec_l00Digits.mono_l : ∀ k, (∀ y0, LeO (spec_l00Digits.f k y0) (spec_l00Digits.f (k + 1) y0))
  | 0 => fun _ r h => by simp [spec_l00Digits.f] at h
  | k + 1 => by
    have ih0 := spec_l00Digits.mono_l k
    · intro y0
      unfold spec_l00Digits.f
      repeat' first
      | (with_reducible exact ih0 _)
      | (with_reducible exact LeO.refl _)
      | (with_reducible exact LeO.none _)
      | (with_reducible refine LeO.ite ?_ ?_)
      | (with_reducible refine LeO.bind ?_ (fun _ => ?_))
      | exact ih0 _
      | exact LeO.none _
      | refine LeO.ite ?_ ?_
      | refine LeO.bind ?_ (fun _ => ?_)
theorem spec_l00Digits.mono : ∀ a0 k, LeO (spec_l00Digits.f k a0) (spec_l00Digits.f (k + 1) a0) := by
  intro a0 k
  have ih0 := spec_l00Digits.mono_l k
  exact ih0 a0
noncomputable def spec_l00Digits.v (a0 : Int) : Option (ByteArray) := lim (fun k_ => spec_l00Digits.f k_ a0)
theorem spec_l00Digits.v_lim (a0 : Int) : LimIs (fun k_ => spec_l00Digits.f k_ a0) (spec_l00Digits.v a0) := lim_is (fun k_ => spec_l00Digits.mono a0 k_)
theorem spec_l00Digits.v_eq (a0 : Int) : spec_l00Digits.v a0 = (if a0 = (-9223372036854775808) then (some (⟨#[45, 57, 50, 50, 51, 51, 55, 50, 48, 51, 54, 56, 53, 52, 55, 55, 53, 56, 48, 56]⟩ : ByteArray)) else (if a0 < 0 then ((spec_l00Digits.v (wrap64 (-a0))).bind fun t317 => (if 1 + t317.size ≤ 9223372036854775807 then (some ((⟨#[45]⟩ : ByteArray) ++ t317)) else (none))) else (if a0 < 10 then (some (strOfNums (([(wrap64 (48 + a0)) % 256] : List Int)))) else ((spec_l00Digits.v (wrap64 (Int.tdiv a0 10))).bind fun t321 => ((some (([(wrap64 (48 + (Int.tmod a0 10))) % 256] : List Int) : List Int)).bind fun y322 => (if t321.size + (strOfNums y322).size ≤ 9223372036854775807 then (some (t321 ++ (strOfNums y322))) else (none)))))) : Option (ByteArray)) := by
  refine LimIs.eq (spec_l00Digits.v_lim a0) ?_
  refine LimIs.step (fun k_ => spec_l00Digits.mono a0 k_) ?_
  simp only [spec_l00Digits.f]
  repeat' (with_reducible first | exact spec_l00Digits.v_lim _ | exact LimIs.const _ | refine LimIs.ite ?_ ?_ | refine LimIs.bind ?_ (fun _ => ?_))
def spec_l12Text.f (k : Nat) (a0_0 : ByteArray) (a0_1 : Int) (a0_2 : Int) (a0_3 : Int) : Option (ByteArray) := if 6 + a0_0.size ≤ 9223372036854775807 then (if ((⟨#[103, 114, 97, 110, 116, 32]⟩ : ByteArray) ++ a0_0).size + 1 ≤ 9223372036854775807 then ((spec_l00Digits.f k a0_1).bind fun t326 => (if (((⟨#[103, 114, 97, 110, 116, 32]⟩ : ByteArray) ++ a0_0) ++ (⟨#[32]⟩ : ByteArray)).size + t326.size ≤ 9223372036854775807 then (if ((((⟨#[103, 114, 97, 110, 116, 32]⟩ : ByteArray) ++ a0_0) ++ (⟨#[32]⟩ : ByteArray)) ++ t326).size + 1 ≤ 9223372036854775807 then ((spec_l00Digits.f k a0_2).bind fun t327 => (if (((((⟨#[103, 114, 97, 110, 116, 32]⟩ : ByteArray) ++ a0_0) ++ (⟨#[32]⟩ : ByteArray)) ++ t326) ++ (⟨#[32]⟩ : ByteArray)).size + t327.size ≤ 9223372036854775807 then (if ((((((⟨#[103, 114, 97, 110, 116, 32]⟩ : ByteArray) ++ a0_0) ++ (⟨#[32]⟩ : ByteArray)) ++ t326) ++ (⟨#[32]⟩ : ByteArray)) ++ t327).size + 1 ≤ 9223372036854775807 then ((spec_l00Digits.f k a0_3).bind fun t328 => (if (((((((⟨#[103, 114, 97, 110, 116, 32]⟩ : ByteArray) ++ a0_0) ++ (⟨#[32]⟩ : ByteArray)) ++ t326) ++ (⟨#[32]⟩ : ByteArray)) ++ t327) ++ (⟨#[32]⟩ : ByteArray)).size + t328.size ≤ 9223372036854775807 then (some ((((((((⟨#[103, 114, 97, 110, 116, 32]⟩ : ByteArray) ++ a0_0) ++ (⟨#[32]⟩ : ByteArray)) ++ t326) ++ (⟨#[32]⟩ : ByteArray)) ++ t327) ++ (⟨#[32]⟩ : ByteArray)) ++ t328)) else (none))) else (none)) else (none))) else (none)) else (none))) else (none)) else (none)
theorem spec_l12Text.mono : ∀ a0 a1 a2 a3 k, LeO (spec_l12Text.f k a0 a1 a2 a3) (spec_l12Text.f (k + 1) a0 a1 a2 a3) := by
  intro a0 a1 a2 a3 k
  unfold spec_l12Text.f
  repeat' first
      | (with_reducible exact spec_l00Digits.mono _ _)
      | (with_reducible exact LeO.refl _)
      | (with_reducible exact LeO.none _)
      | (with_reducible refine LeO.ite ?_ ?_)
      | (with_reducible refine LeO.bind ?_ (fun _ => ?_))
      | exact spec_l00Digits.mono _ _
      | exact LeO.none _
      | refine LeO.ite ?_ ?_
      | refine LeO.bind ?_ (fun _ => ?_)
noncomputable def spec_l12Text.v (a0_0 : ByteArray) (a0_1 : Int) (a0_2 : Int) (a0_3 : Int) : Option (ByteArray) := lim (fun k_ => spec_l12Text.f k_ a0_0 a0_1 a0_2 a0_3)
theorem spec_l12Text.v_lim (a0_0 : ByteArray) (a0_1 : Int) (a0_2 : Int) (a0_3 : Int) : LimIs (fun k_ => spec_l12Text.f k_ a0_0 a0_1 a0_2 a0_3) (spec_l12Text.v a0_0 a0_1 a0_2 a0_3) := lim_is (fun k_ => spec_l12Text.mono a0_0 a0_1 a0_2 a0_3 k_)
theorem spec_l12Text.v_eq (a0_0 : ByteArray) (a0_1 : Int) (a0_2 : Int) (a0_3 : Int) : spec_l12Text.v a0_0 a0_1 a0_2 a0_3 = (if 6 + a0_0.size ≤ 9223372036854775807 then (if ((⟨#[103, 114, 97, 110, 116, 32]⟩ : ByteArray) ++ a0_0).size + 1 ≤ 9223372036854775807 then ((spec_l00Digits.v a0_1).bind fun t326 => (if (((⟨#[103, 114, 97, 110, 116, 32]⟩ : ByteArray) ++ a0_0) ++ (⟨#[32]⟩ : ByteArray)).size + t326.size ≤ 9223372036854775807 then (if ((((⟨#[103, 114, 97, 110, 116, 32]⟩ : ByteArray) ++ a0_0) ++ (⟨#[32]⟩ : ByteArray)) ++ t326).size + 1 ≤ 9223372036854775807 then ((spec_l00Digits.v a0_2).bind fun t327 => (if (((((⟨#[103, 114, 97, 110, 116, 32]⟩ : ByteArray) ++ a0_0) ++ (⟨#[32]⟩ : ByteArray)) ++ t326) ++ (⟨#[32]⟩ : ByteArray)).size + t327.size ≤ 9223372036854775807 then (if ((((((⟨#[103, 114, 97, 110, 116, 32]⟩ : ByteArray) ++ a0_0) ++ (⟨#[32]⟩ : ByteArray)) ++ t326) ++ (⟨#[32]⟩ : ByteArray)) ++ t327).size + 1 ≤ 9223372036854775807 then ((spec_l00Digits.v a0_3).bind fun t328 => (if (((((((⟨#[103, 114, 97, 110, 116, 32]⟩ : ByteArray) ++ a0_0) ++ (⟨#[32]⟩ : ByteArray)) ++ t326) ++ (⟨#[32]⟩ : ByteArray)) ++ t327) ++ (⟨#[32]⟩ : ByteArray)).size + t328.size ≤ 9223372036854775807 then (some ((((((((⟨#[103, 114, 97, 110, 116, 32]⟩ : ByteArray) ++ a0_0) ++ (⟨#[32]⟩ : ByteArray)) ++ t326) ++ (⟨#[32]⟩ : ByteArray)) ++ t327) ++ (⟨#[32]⟩ : ByteArray)) ++ t328)) else (none))) else (none)) else (none))) else (none)) else (none))) else (none)) else (none) : Option (ByteArray)) := by
  refine LimIs.eq (spec_l12Text.v_lim a0_0 a0_1 a0_2 a0_3) ?_
  simp only [spec_l12Text.f]
  repeat' (with_reducible first | exact spec_l00Digits.v_lim _ | exact LimIs.const _ | refine LimIs.ite ?_ ?_ | refine LimIs.bind ?_ (fun _ => ?_))
mutual
def spec_CheckCertificate.j0 : Nat → Bool → ByteArray → Int → Int → Int → List Int → List (S52) → Option (Int)
  | 0, _, _, _, _, _, _, _ => none
  | k + 1, x27, x330000, x330001, x330002, x330003, x330004, x330005 => if x27 = true then (some 19) else (spec_CheckCertificate.l0 k 0 x330000 x330001 x330002 x330003 x330004 x330005)
def spec_CheckCertificate.l0 : Nat → Int → ByteArray → Int → Int → Int → List Int → List (S52) → Option (Int)
  | 0, _, _, _, _, _, _, _ => none
  | k + 1, x5, x330000, x330001, x330002, x330003, x330004, x330005 => if x5 < (x330004.length : Int) then (if 0 ≤ x5 then ((spec_l12Seed.f k (rd x330004 x5)).bind fun t334 => ((spec_l03Keys.f k t334).bind fun t335 => ((spec_l03Root.f k t335).bind fun t338 => ((spec_l12Text.f k x330000 x330001 x330002 x330003).bind fun t339 => (if x5 < (x330005.length : Int) then ((spec_CheckSignature.f k t338 t339 ((rd_T52 x330005 x5).f0) ((rd_T52 x330005 x5).f1) ((rd_T52 x330005 x5).f2) ((rd_T52 x330005 x5).f3)).bind fun t341 => (if t341 = 0 then (spec_CheckCertificate.l0 k (wrap64 (x5 + 1)) x330000 x330001 x330002 x330003 x330004 x330005) else (some t341))) else (none)))))) else (none)) else (some 0)
end
def spec_CheckCertificate.f (k : Nat) (a0 : Int) (a1_0 : ByteArray) (a1_1 : Int) (a1_2 : Int) (a1_3 : Int) (l1_4 : List Int) (l1_5 : List (S52)) : Option (Int) := (spec_GrantOK.f k a1_0 a1_1 a1_2 a1_3).bind fun t330 => (if t330 = true then ((spec_l04Nodes.f a0).bind fun t331 => (if t331 = true then ((spec_l12From.f k a0 l1_4).bind fun t332 => (if t332 = true then (spec_CheckCertificate.j0 k ((l1_5.length : Int) != (l1_4.length : Int)) a1_0 a1_1 a1_2 a1_3 l1_4 l1_5) else (spec_CheckCertificate.j0 k true a1_0 a1_1 a1_2 a1_3 l1_4 l1_5))) else (some 4))) else (some 1))
theorem spec_CheckCertificate.mono_l : ∀ k, (∀ y0 y1 y2 y3 y4 y5 y6, LeO (spec_CheckCertificate.j0 k y0 y1 y2 y3 y4 y5 y6) (spec_CheckCertificate.j0 (k + 1) y0 y1 y2 y3 y4 y5 y6)) ∧ (∀ y0 y1 y2 y3 y4 y5 y6, LeO (spec_CheckCertificate.l0 k y0 y1 y2 y3 y4 y5 y6) (spec_CheckCertificate.l0 (k + 1) y0 y1 y2 y3 y4 y5 y6))
  | 0 => ⟨fun _ _ _ _ _ _ _ r h => by simp [spec_CheckCertificate.j0] at h, fun _ _ _ _ _ _ _ r h => by simp [spec_CheckCertificate.l0] at h⟩
  | k + 1 => by
    obtain ⟨ih0, ih1⟩ := spec_CheckCertificate.mono_l k
    refine ⟨?_, ?_⟩
    · intro y0 y1 y2 y3 y4 y5 y6
      unfold spec_CheckCertificate.j0
      repeat' first
      | (with_reducible exact ih0 _ _ _ _ _ _ _)
      | (with_reducible exact ih1 _ _ _ _ _ _ _)
      | (with_reducible exact spec_CheckSignature.mono _ _ _ _ _ _ _)
      | (with_reducible exact spec_GrantOK.mono _ _ _ _ _)
      | (with_reducible exact spec_l03Keys.mono _ _)
      | (with_reducible exact spec_l03Root.mono _ _)
      | (with_reducible exact spec_l12From.mono _ _ _)
      | (with_reducible exact spec_l12Seed.mono _ _)
      | (with_reducible exact spec_l12Text.mono _ _ _ _ _)
      | (with_reducible exact LeO.refl _)
      | (with_reducible exact LeO.none _)
      | (with_reducible refine LeO.ite ?_ ?_)
      | (with_reducible refine LeO.bind ?_ (fun _ => ?_))
      | exact ih0 _ _ _ _ _ _ _
      | exact ih1 _ _ _ _ _ _ _
      | exact spec_CheckSignature.mono _ _ _ _ _ _ _
      | exact spec_GrantOK.mono _ _ _ _ _
      | exact spec_l03Keys.mono _ _
      | exact spec_l03Root.mono _ _
      | exact spec_l12From.mono _ _ _
      | exact spec_l12Seed.mono _ _
      | exact spec_l12Text.mono _ _ _ _ _
      | exact LeO.none _
      | refine LeO.ite ?_ ?_
      | refine LeO.bind ?_ (fun _ => ?_)
    · intro y0 y1 y2 y3 y4 y5 y6
      unfold spec_CheckCertificate.l0
      repeat' first
      | (with_reducible exact ih0 _ _ _ _ _ _ _)
      | (with_reducible exact ih1 _ _ _ _ _ _ _)
      | (with_reducible exact spec_CheckSignature.mono _ _ _ _ _ _ _)
      | (with_reducible exact spec_GrantOK.mono _ _ _ _ _)
      | (with_reducible exact spec_l03Keys.mono _ _)
      | (with_reducible exact spec_l03Root.mono _ _)
      | (with_reducible exact spec_l12From.mono _ _ _)
      | (with_reducible exact spec_l12Seed.mono _ _)
      | (with_reducible exact spec_l12Text.mono _ _ _ _ _)
      | (with_reducible exact LeO.refl _)
      | (with_reducible exact LeO.none _)
      | (with_reducible refine LeO.ite ?_ ?_)
      | (with_reducible refine LeO.bind ?_ (fun _ => ?_))
      | exact ih0 _ _ _ _ _ _ _
      | exact ih1 _ _ _ _ _ _ _
      | exact spec_CheckSignature.mono _ _ _ _ _ _ _
      | exact spec_GrantOK.mono _ _ _ _ _
      | exact spec_l03Keys.mono _ _
      | exact spec_l03Root.mono _ _
      | exact spec_l12From.mono _ _ _
      | exact spec_l12Seed.mono _ _
      | exact spec_l12Text.mono _ _ _ _ _
      | exact LeO.none _
      | refine LeO.ite ?_ ?_
      | refine LeO.bind ?_ (fun _ => ?_)
theorem spec_CheckCertificate.mono : ∀ a0 a1 a2 a3 a4 a5 a6 k, LeO (spec_CheckCertificate.f k a0 a1 a2 a3 a4 a5 a6) (spec_CheckCertificate.f (k + 1) a0 a1 a2 a3 a4 a5 a6) := by
  intro a0 a1 a2 a3 a4 a5 a6 k
  obtain ⟨ih0, ih1⟩ := spec_CheckCertificate.mono_l k
  unfold spec_CheckCertificate.f
  repeat' first
      | (with_reducible exact ih0 _ _ _ _ _ _ _)
      | (with_reducible exact ih1 _ _ _ _ _ _ _)
      | (with_reducible exact spec_CheckSignature.mono _ _ _ _ _ _ _)
      | (with_reducible exact spec_GrantOK.mono _ _ _ _ _)
      | (with_reducible exact spec_l03Keys.mono _ _)
      | (with_reducible exact spec_l03Root.mono _ _)
      | (with_reducible exact spec_l12From.mono _ _ _)
      | (with_reducible exact spec_l12Seed.mono _ _)
      | (with_reducible exact spec_l12Text.mono _ _ _ _ _)
      | (with_reducible exact LeO.refl _)
      | (with_reducible exact LeO.none _)
      | (with_reducible refine LeO.ite ?_ ?_)
      | (with_reducible refine LeO.bind ?_ (fun _ => ?_))
      | exact ih0 _ _ _ _ _ _ _
      | exact ih1 _ _ _ _ _ _ _
      | exact spec_CheckSignature.mono _ _ _ _ _ _ _
      | exact spec_GrantOK.mono _ _ _ _ _
      | exact spec_l03Keys.mono _ _
      | exact spec_l03Root.mono _ _
      | exact spec_l12From.mono _ _ _
      | exact spec_l12Seed.mono _ _
      | exact spec_l12Text.mono _ _ _ _ _
      | exact LeO.none _
      | refine LeO.ite ?_ ?_
      | refine LeO.bind ?_ (fun _ => ?_)
noncomputable def spec_CheckCertificate.jv0 (x27 : Bool) (x330000 : ByteArray) (x330001 : Int) (x330002 : Int) (x330003 : Int) (x330004 : List Int) (x330005 : List (S52)) : Option (Int) := lim (fun k_ => spec_CheckCertificate.j0 k_ x27 x330000 x330001 x330002 x330003 x330004 x330005)
noncomputable def spec_CheckCertificate.lv0 (x5 : Int) (x330000 : ByteArray) (x330001 : Int) (x330002 : Int) (x330003 : Int) (x330004 : List Int) (x330005 : List (S52)) : Option (Int) := lim (fun k_ => spec_CheckCertificate.l0 k_ x5 x330000 x330001 x330002 x330003 x330004 x330005)
noncomputable def spec_CheckCertificate.v (a0 : Int) (a1_0 : ByteArray) (a1_1 : Int) (a1_2 : Int) (a1_3 : Int) (l1_4 : List Int) (l1_5 : List (S52)) : Option (Int) := lim (fun k_ => spec_CheckCertificate.f k_ a0 a1_0 a1_1 a1_2 a1_3 l1_4 l1_5)
theorem spec_CheckCertificate.jv0_lim (x27 : Bool) (x330000 : ByteArray) (x330001 : Int) (x330002 : Int) (x330003 : Int) (x330004 : List Int) (x330005 : List (S52)) : LimIs (fun k_ => spec_CheckCertificate.j0 k_ x27 x330000 x330001 x330002 x330003 x330004 x330005) (spec_CheckCertificate.jv0 x27 x330000 x330001 x330002 x330003 x330004 x330005) := lim_is (fun k_ => (spec_CheckCertificate.mono_l k_).1 x27 x330000 x330001 x330002 x330003 x330004 x330005)
theorem spec_CheckCertificate.lv0_lim (x5 : Int) (x330000 : ByteArray) (x330001 : Int) (x330002 : Int) (x330003 : Int) (x330004 : List Int) (x330005 : List (S52)) : LimIs (fun k_ => spec_CheckCertificate.l0 k_ x5 x330000 x330001 x330002 x330003 x330004 x330005) (spec_CheckCertificate.lv0 x5 x330000 x330001 x330002 x330003 x330004 x330005) := lim_is (fun k_ => (spec_CheckCertificate.mono_l k_).2 x5 x330000 x330001 x330002 x330003 x330004 x330005)
theorem spec_CheckCertificate.v_lim (a0 : Int) (a1_0 : ByteArray) (a1_1 : Int) (a1_2 : Int) (a1_3 : Int) (l1_4 : List Int) (l1_5 : List (S52)) : LimIs (fun k_ => spec_CheckCertificate.f k_ a0 a1_0 a1_1 a1_2 a1_3 l1_4 l1_5) (spec_CheckCertificate.v a0 a1_0 a1_1 a1_2 a1_3 l1_4 l1_5) := lim_is (fun k_ => spec_CheckCertificate.mono a0 a1_0 a1_1 a1_2 a1_3 l1_4 l1_5 k_)
theorem spec_CheckCertificate.jv0_eq (x27 : Bool) (x330000 : ByteArray) (x330001 : Int) (x330002 : Int) (x330003 : Int) (x330004 : List Int) (x330005 : List (S52)) : spec_CheckCertificate.jv0 x27 x330000 x330001 x330002 x330003 x330004 x330005 = (if x27 = true then (some 19) else (spec_CheckCertificate.lv0 0 x330000 x330001 x330002 x330003 x330004 x330005) : Option (Int)) := by
  refine LimIs.eq (spec_CheckCertificate.jv0_lim x27 x330000 x330001 x330002 x330003 x330004 x330005) ?_
  refine LimIs.step (fun k_ => (spec_CheckCertificate.mono_l k_).1 x27 x330000 x330001 x330002 x330003 x330004 x330005) ?_
  simp only [spec_CheckCertificate.j0]
  repeat' (with_reducible first | exact spec_CheckCertificate.lv0_lim _ _ _ _ _ _ _ | exact LimIs.const _ | refine LimIs.ite ?_ ?_ | refine LimIs.bind ?_ (fun _ => ?_))
theorem spec_CheckCertificate.lv0_eq (x5 : Int) (x330000 : ByteArray) (x330001 : Int) (x330002 : Int) (x330003 : Int) (x330004 : List Int) (x330005 : List (S52)) : spec_CheckCertificate.lv0 x5 x330000 x330001 x330002 x330003 x330004 x330005 = (if x5 < (x330004.length : Int) then (if 0 ≤ x5 then ((spec_l12Seed.v (rd x330004 x5)).bind fun t334 => ((spec_l03Keys.v t334).bind fun t335 => ((spec_l03Root.v t335).bind fun t338 => ((spec_l12Text.v x330000 x330001 x330002 x330003).bind fun t339 => (if x5 < (x330005.length : Int) then ((spec_CheckSignature.v t338 t339 ((rd_T52 x330005 x5).f0) ((rd_T52 x330005 x5).f1) ((rd_T52 x330005 x5).f2) ((rd_T52 x330005 x5).f3)).bind fun t341 => (if t341 = 0 then (spec_CheckCertificate.lv0 (wrap64 (x5 + 1)) x330000 x330001 x330002 x330003 x330004 x330005) else (some t341))) else (none)))))) else (none)) else (some 0) : Option (Int)) := by
  refine LimIs.eq (spec_CheckCertificate.lv0_lim x5 x330000 x330001 x330002 x330003 x330004 x330005) ?_
  refine LimIs.step (fun k_ => (spec_CheckCertificate.mono_l k_).2 x5 x330000 x330001 x330002 x330003 x330004 x330005) ?_
  simp only [spec_CheckCertificate.l0]
  repeat' (with_reducible first | exact spec_CheckCertificate.lv0_lim _ _ _ _ _ _ _ | exact spec_CheckSignature.v_lim _ _ _ _ _ _ | exact spec_l03Keys.v_lim _ | exact spec_l03Root.v_lim _ | exact spec_l12Seed.v_lim _ | exact spec_l12Text.v_lim _ _ _ _ | exact LimIs.const _ | refine LimIs.ite ?_ ?_ | refine LimIs.bind ?_ (fun _ => ?_))
theorem spec_CheckCertificate.v_eq (a0 : Int) (a1_0 : ByteArray) (a1_1 : Int) (a1_2 : Int) (a1_3 : Int) (l1_4 : List Int) (l1_5 : List (S52)) : spec_CheckCertificate.v a0 a1_0 a1_1 a1_2 a1_3 l1_4 l1_5 = ((spec_GrantOK.v a1_0 a1_1 a1_2 a1_3).bind fun t330 => (if t330 = true then ((spec_l04Nodes.v a0).bind fun t331 => (if t331 = true then ((spec_l12From.v a0 l1_4).bind fun t332 => (if t332 = true then (spec_CheckCertificate.jv0 ((l1_5.length : Int) != (l1_4.length : Int)) a1_0 a1_1 a1_2 a1_3 l1_4 l1_5) else (spec_CheckCertificate.jv0 true a1_0 a1_1 a1_2 a1_3 l1_4 l1_5))) else (some 4))) else (some 1)) : Option (Int)) := by
  refine LimIs.eq (spec_CheckCertificate.v_lim a0 a1_0 a1_1 a1_2 a1_3 l1_4 l1_5) ?_
  simp only [spec_CheckCertificate.f]
  repeat' (with_reducible first | exact spec_CheckCertificate.jv0_lim _ _ _ _ _ _ _ | exact spec_GrantOK.v_lim _ _ _ _ | exact spec_l04Nodes.v_lim _ | exact spec_l12From.v_lim _ _ | exact LimIs.const _ | refine LimIs.ite ?_ ?_ | refine LimIs.bind ?_ (fun _ => ?_))
def laws_toGrant.f (a0_0 : ByteArray) (a0_1 : Int) (a0_2 : Int) (a0_3 : Int) : Option (ByteArray × Int × Int × Int) := some (a0_0, a0_1, a0_2, a0_3)
def laws_toGrant.v (a0_0 : ByteArray) (a0_1 : Int) (a0_2 : Int) (a0_3 : Int) : Option (ByteArray × Int × Int × Int) := laws_toGrant.f a0_0 a0_1 a0_2 a0_3
theorem laws_toGrant.v_lim (a0_0 : ByteArray) (a0_1 : Int) (a0_2 : Int) (a0_3 : Int) : LimIs (fun _ => laws_toGrant.f a0_0 a0_1 a0_2 a0_3) (laws_toGrant.v a0_0 a0_1 a0_2 a0_3) := LimIs.const _
theorem laws_toGrant.v_eq (a0_0 : ByteArray) (a0_1 : Int) (a0_2 : Int) (a0_3 : Int) : laws_toGrant.v a0_0 a0_1 a0_2 a0_3 = (some (a0_0, a0_1, a0_2, a0_3) : Option (ByteArray × Int × Int × Int)) := rfl
def laws_toIntS.l0 : Nat → List Int → List Int → Int → Option (List Int)
  | 0, _, _, _ => none
  | k + 1, x0, x3, x4 => if x4 < (x0.length : Int) then (if 0 ≤ x4 then (if x4 < (x3.length : Int) then (laws_toIntS.l0 k x0 (x3.set (x4 : Int).toNat (rd x0 x4)) (wrap64 (x4 + 1))) else (none)) else (none)) else (some x3)
def laws_toIntS.f (k : Nat) (l0 : List Int) : Option (List Int) := if 0 ≤ (l0.length : Int) then (if ((l0.length : Int) : Int).toNat ≤ 35184372088832 then (laws_toIntS.l0 k l0 (List.replicate ((l0.length : Int) : Int).toNat 0) 0) else (none)) else (none)
theorem laws_toIntS.mono_l : ∀ k, (∀ y0 y1 y2, LeO (laws_toIntS.l0 k y0 y1 y2) (laws_toIntS.l0 (k + 1) y0 y1 y2))
  | 0 => fun _ _ _ r h => by simp [laws_toIntS.l0] at h
  | k + 1 => by
    have ih0 := laws_toIntS.mono_l k
    · intro y0 y1 y2
      unfold laws_toIntS.l0
      repeat' first
      | (with_reducible exact ih0 _ _ _)
      | (with_reducible exact LeO.refl _)
      | (with_reducible exact LeO.none _)
      | (with_reducible refine LeO.ite ?_ ?_)
      | (with_reducible refine LeO.bind ?_ (fun _ => ?_))
      | exact ih0 _ _ _
      | exact LeO.none _
      | refine LeO.ite ?_ ?_
      | refine LeO.bind ?_ (fun _ => ?_)
theorem laws_toIntS.mono : ∀ a0 k, LeO (laws_toIntS.f k a0) (laws_toIntS.f (k + 1) a0) := by
  intro a0 k
  have ih0 := laws_toIntS.mono_l k
  unfold laws_toIntS.f
  repeat' first
      | (with_reducible exact ih0 _ _ _)
      | (with_reducible exact LeO.refl _)
      | (with_reducible exact LeO.none _)
      | (with_reducible refine LeO.ite ?_ ?_)
      | (with_reducible refine LeO.bind ?_ (fun _ => ?_))
      | exact ih0 _ _ _
      | exact LeO.none _
      | refine LeO.ite ?_ ?_
      | refine LeO.bind ?_ (fun _ => ?_)
noncomputable def laws_toIntS.lv0 (x0 : List Int) (x3 : List Int) (x4 : Int) : Option (List Int) := lim (fun k_ => laws_toIntS.l0 k_ x0 x3 x4)
noncomputable def laws_toIntS.v (l0 : List Int) : Option (List Int) := lim (fun k_ => laws_toIntS.f k_ l0)
theorem laws_toIntS.lv0_lim (x0 : List Int) (x3 : List Int) (x4 : Int) : LimIs (fun k_ => laws_toIntS.l0 k_ x0 x3 x4) (laws_toIntS.lv0 x0 x3 x4) := lim_is (fun k_ => (laws_toIntS.mono_l k_) x0 x3 x4)
theorem laws_toIntS.v_lim (l0 : List Int) : LimIs (fun k_ => laws_toIntS.f k_ l0) (laws_toIntS.v l0) := lim_is (fun k_ => laws_toIntS.mono l0 k_)
theorem laws_toIntS.lv0_eq (x0 : List Int) (x3 : List Int) (x4 : Int) : laws_toIntS.lv0 x0 x3 x4 = (if x4 < (x0.length : Int) then (if 0 ≤ x4 then (if x4 < (x3.length : Int) then (laws_toIntS.lv0 x0 (x3.set (x4 : Int).toNat (rd x0 x4)) (wrap64 (x4 + 1))) else (none)) else (none)) else (some x3) : Option (List Int)) := by
  refine LimIs.eq (laws_toIntS.lv0_lim x0 x3 x4) ?_
  refine LimIs.step (fun k_ => (laws_toIntS.mono_l k_) x0 x3 x4) ?_
  simp only [laws_toIntS.l0]
  repeat' (with_reducible first | exact laws_toIntS.lv0_lim _ _ _ | exact LimIs.const _ | refine LimIs.ite ?_ ?_ | refine LimIs.bind ?_ (fun _ => ?_))
theorem laws_toIntS.v_eq (l0 : List Int) : laws_toIntS.v l0 = (if 0 ≤ (l0.length : Int) then (if ((l0.length : Int) : Int).toNat ≤ 35184372088832 then (laws_toIntS.lv0 l0 (List.replicate ((l0.length : Int) : Int).toNat 0) 0) else (none)) else (none) : Option (List Int)) := by
  refine LimIs.eq (laws_toIntS.v_lim l0) ?_
  simp only [laws_toIntS.f]
  repeat' (with_reducible first | exact laws_toIntS.lv0_lim _ _ _ | exact LimIs.const _ | refine LimIs.ite ?_ ?_ | refine LimIs.bind ?_ (fun _ => ?_))
def laws_toStringS.l0 : Nat → List ByteArray → List ByteArray → Int → Option (List ByteArray)
  | 0, _, _, _ => none
  | k + 1, x0, x3, x4 => if x4 < (x0.length : Int) then (if 0 ≤ x4 then (if x4 < (x3.length : Int) then (laws_toStringS.l0 k x0 (x3.set (x4 : Int).toNat (rdOf ByteArray.empty x0 x4)) (wrap64 (x4 + 1))) else (none)) else (none)) else (some x3)
def laws_toStringS.f (k : Nat) (l0 : List ByteArray) : Option (List ByteArray) := if 0 ≤ (l0.length : Int) then (if ((l0.length : Int) : Int).toNat ≤ 17592186044416 then (laws_toStringS.l0 k l0 (List.replicate ((l0.length : Int) : Int).toNat (⟨#[]⟩ : ByteArray)) 0) else (none)) else (none)
theorem laws_toStringS.mono_l : ∀ k, (∀ y0 y1 y2, LeO (laws_toStringS.l0 k y0 y1 y2) (laws_toStringS.l0 (k + 1) y0 y1 y2))
  | 0 => fun _ _ _ r h => by simp [laws_toStringS.l0] at h
  | k + 1 => by
    have ih0 := laws_toStringS.mono_l k
    · intro y0 y1 y2
      unfold laws_toStringS.l0
      repeat' first
      | (with_reducible exact ih0 _ _ _)
      | (with_reducible exact LeO.refl _)
      | (with_reducible exact LeO.none _)
      | (with_reducible refine LeO.ite ?_ ?_)
      | (with_reducible refine LeO.bind ?_ (fun _ => ?_))
      | exact ih0 _ _ _
      | exact LeO.none _
      | refine LeO.ite ?_ ?_
      | refine LeO.bind ?_ (fun _ => ?_)
theorem laws_toStringS.mono : ∀ a0 k, LeO (laws_toStringS.f k a0) (laws_toStringS.f (k + 1) a0) := by
  intro a0 k
  have ih0 := laws_toStringS.mono_l k
  unfold laws_toStringS.f
  repeat' first
      | (with_reducible exact ih0 _ _ _)
      | (with_reducible exact LeO.refl _)
      | (with_reducible exact LeO.none _)
      | (with_reducible refine LeO.ite ?_ ?_)
      | (with_reducible refine LeO.bind ?_ (fun _ => ?_))
      | exact ih0 _ _ _
      | exact LeO.none _
      | refine LeO.ite ?_ ?_
      | refine LeO.bind ?_ (fun _ => ?_)
noncomputable def laws_toStringS.lv0 (x0 : List ByteArray) (x3 : List ByteArray) (x4 : Int) : Option (List ByteArray) := lim (fun k_ => laws_toStringS.l0 k_ x0 x3 x4)
noncomputable def laws_toStringS.v (l0 : List ByteArray) : Option (List ByteArray) := lim (fun k_ => laws_toStringS.f k_ l0)
theorem laws_toStringS.lv0_lim (x0 : List ByteArray) (x3 : List ByteArray) (x4 : Int) : LimIs (fun k_ => laws_toStringS.l0 k_ x0 x3 x4) (laws_toStringS.lv0 x0 x3 x4) := lim_is (fun k_ => (laws_toStringS.mono_l k_) x0 x3 x4)
theorem laws_toStringS.v_lim (l0 : List ByteArray) : LimIs (fun k_ => laws_toStringS.f k_ l0) (laws_toStringS.v l0) := lim_is (fun k_ => laws_toStringS.mono l0 k_)
theorem laws_toStringS.lv0_eq (x0 : List ByteArray) (x3 : List ByteArray) (x4 : Int) : laws_toStringS.lv0 x0 x3 x4 = (if x4 < (x0.length : Int) then (if 0 ≤ x4 then (if x4 < (x3.length : Int) then (laws_toStringS.lv0 x0 (x3.set (x4 : Int).toNat (rdOf ByteArray.empty x0 x4)) (wrap64 (x4 + 1))) else (none)) else (none)) else (some x3) : Option (List ByteArray)) := by
  refine LimIs.eq (laws_toStringS.lv0_lim x0 x3 x4) ?_
  refine LimIs.step (fun k_ => (laws_toStringS.mono_l k_) x0 x3 x4) ?_
  simp only [laws_toStringS.l0]
  repeat' (with_reducible first | exact laws_toStringS.lv0_lim _ _ _ | exact LimIs.const _ | refine LimIs.ite ?_ ?_ | refine LimIs.bind ?_ (fun _ => ?_))
theorem laws_toStringS.v_eq (l0 : List ByteArray) : laws_toStringS.v l0 = (if 0 ≤ (l0.length : Int) then (if ((l0.length : Int) : Int).toNat ≤ 17592186044416 then (laws_toStringS.lv0 l0 (List.replicate ((l0.length : Int) : Int).toNat (⟨#[]⟩ : ByteArray)) 0) else (none)) else (none) : Option (List ByteArray)) := by
  refine LimIs.eq (laws_toStringS.v_lim l0) ?_
  simp only [laws_toStringS.f]
  repeat' (with_reducible first | exact laws_toStringS.lv0_lim _ _ _ | exact LimIs.const _ | refine LimIs.ite ?_ ?_ | refine LimIs.bind ?_ (fun _ => ?_))
def laws_toKeySignature.f (k : Nat) (a0_0 : Int) (l0_1 : List ByteArray) (l0_2 : List ByteArray) (l0_3 : List ByteArray) : Option (Int × List ByteArray × List ByteArray × List ByteArray) := (laws_toStringS.f k l0_1).bind fun t358 => ((laws_toStringS.f k l0_2).bind fun t361 => ((laws_toStringS.f k l0_3).bind fun t364 => (some (a0_0, t358, t361, t364))))
theorem laws_toKeySignature.mono : ∀ a0 a1 a2 a3 k, LeO (laws_toKeySignature.f k a0 a1 a2 a3) (laws_toKeySignature.f (k + 1) a0 a1 a2 a3) := by
  intro a0 a1 a2 a3 k
  unfold laws_toKeySignature.f
  repeat' first
      | (with_reducible exact laws_toStringS.mono _ _)
      | (with_reducible exact LeO.refl _)
      | (with_reducible exact LeO.none _)
      | (with_reducible refine LeO.ite ?_ ?_)
      | (with_reducible refine LeO.bind ?_ (fun _ => ?_))
      | exact laws_toStringS.mono _ _
      | exact LeO.none _
      | refine LeO.ite ?_ ?_
      | refine LeO.bind ?_ (fun _ => ?_)
noncomputable def laws_toKeySignature.v (a0_0 : Int) (l0_1 : List ByteArray) (l0_2 : List ByteArray) (l0_3 : List ByteArray) : Option (Int × List ByteArray × List ByteArray × List ByteArray) := lim (fun k_ => laws_toKeySignature.f k_ a0_0 l0_1 l0_2 l0_3)
theorem laws_toKeySignature.v_lim (a0_0 : Int) (l0_1 : List ByteArray) (l0_2 : List ByteArray) (l0_3 : List ByteArray) : LimIs (fun k_ => laws_toKeySignature.f k_ a0_0 l0_1 l0_2 l0_3) (laws_toKeySignature.v a0_0 l0_1 l0_2 l0_3) := lim_is (fun k_ => laws_toKeySignature.mono a0_0 l0_1 l0_2 l0_3 k_)
theorem laws_toKeySignature.v_eq (a0_0 : Int) (l0_1 : List ByteArray) (l0_2 : List ByteArray) (l0_3 : List ByteArray) : laws_toKeySignature.v a0_0 l0_1 l0_2 l0_3 = ((laws_toStringS.v l0_1).bind fun t358 => ((laws_toStringS.v l0_2).bind fun t361 => ((laws_toStringS.v l0_3).bind fun t364 => (some (a0_0, t358, t361, t364)))) : Option (Int × List ByteArray × List ByteArray × List ByteArray)) := by
  refine LimIs.eq (laws_toKeySignature.v_lim a0_0 l0_1 l0_2 l0_3) ?_
  simp only [laws_toKeySignature.f]
  repeat' (with_reducible first | exact laws_toStringS.v_lim _ | exact LimIs.const _ | refine LimIs.ite ?_ ?_ | refine LimIs.bind ?_ (fun _ => ?_))
def laws_toKeySignatureS.l0 : Nat → List (S139) → List (S52) → Int → Option ((List (S52)))
  | 0, _, _, _ => none
  | k + 1, x0, x3, x4 => if x4 < (x0.length : Int) then (if 0 ≤ x4 then ((laws_toKeySignature.f k ((rd_T139 x0 x4).f0) ((rd_T139 x0 x4).f1) ((rd_T139 x0 x4).f2) ((rd_T139 x0 x4).f3)).bind fun bt371 => (if x4 < (x3.length : Int) then (laws_toKeySignatureS.l0 k x0 (x3.set (x4 : Int).toNat (⟨bt371.1, bt371.2.1, bt371.2.2.1, bt371.2.2.2⟩ : S52)) (wrap64 (x4 + 1))) else (none))) else (none)) else (some x3)
def laws_toKeySignatureS.f (k : Nat) (l0 : List (S139)) : Option ((List (S52))) := if 0 ≤ (l0.length : Int) then (if ((l0.length : Int) : Int).toNat ≤ 3518437208883 then (laws_toKeySignatureS.l0 k l0 (List.replicate ((l0.length : Int) : Int).toNat z52) 0) else (none)) else (none)
theorem laws_toKeySignatureS.mono_l : ∀ k, (∀ y0 y1 y2, LeO (laws_toKeySignatureS.l0 k y0 y1 y2) (laws_toKeySignatureS.l0 (k + 1) y0 y1 y2))
  | 0 => fun _ _ _ r h => by simp [laws_toKeySignatureS.l0] at h
  | k + 1 => by
    have ih0 := laws_toKeySignatureS.mono_l k
    · intro y0 y1 y2
      unfold laws_toKeySignatureS.l0
      repeat' first
      | (with_reducible exact ih0 _ _ _)
      | (with_reducible exact laws_toKeySignature.mono _ _ _ _ _)
      | (with_reducible exact LeO.refl _)
      | (with_reducible exact LeO.none _)
      | (with_reducible refine LeO.ite ?_ ?_)
      | (with_reducible refine LeO.bind ?_ (fun _ => ?_))
      | exact ih0 _ _ _
      | exact laws_toKeySignature.mono _ _ _ _ _
      | exact LeO.none _
      | refine LeO.ite ?_ ?_
      | refine LeO.bind ?_ (fun _ => ?_)
theorem laws_toKeySignatureS.mono : ∀ a0 k, LeO (laws_toKeySignatureS.f k a0) (laws_toKeySignatureS.f (k + 1) a0) := by
  intro a0 k
  have ih0 := laws_toKeySignatureS.mono_l k
  unfold laws_toKeySignatureS.f
  repeat' first
      | (with_reducible exact ih0 _ _ _)
      | (with_reducible exact laws_toKeySignature.mono _ _ _ _ _)
      | (with_reducible exact LeO.refl _)
      | (with_reducible exact LeO.none _)
      | (with_reducible refine LeO.ite ?_ ?_)
      | (with_reducible refine LeO.bind ?_ (fun _ => ?_))
      | exact ih0 _ _ _
      | exact laws_toKeySignature.mono _ _ _ _ _
      | exact LeO.none _
      | refine LeO.ite ?_ ?_
      | refine LeO.bind ?_ (fun _ => ?_)
noncomputable def laws_toKeySignatureS.lv0 (x0 : List (S139)) (x3 : List (S52)) (x4 : Int) : Option ((List (S52))) := lim (fun k_ => laws_toKeySignatureS.l0 k_ x0 x3 x4)
noncomputable def laws_toKeySignatureS.v (l0 : List (S139)) : Option ((List (S52))) := lim (fun k_ => laws_toKeySignatureS.f k_ l0)
theorem laws_toKeySignatureS.lv0_lim (x0 : List (S139)) (x3 : List (S52)) (x4 : Int) : LimIs (fun k_ => laws_toKeySignatureS.l0 k_ x0 x3 x4) (laws_toKeySignatureS.lv0 x0 x3 x4) := lim_is (fun k_ => (laws_toKeySignatureS.mono_l k_) x0 x3 x4)
theorem laws_toKeySignatureS.v_lim (l0 : List (S139)) : LimIs (fun k_ => laws_toKeySignatureS.f k_ l0) (laws_toKeySignatureS.v l0) := lim_is (fun k_ => laws_toKeySignatureS.mono l0 k_)
theorem laws_toKeySignatureS.lv0_eq (x0 : List (S139)) (x3 : List (S52)) (x4 : Int) : laws_toKeySignatureS.lv0 x0 x3 x4 = (if x4 < (x0.length : Int) then (if 0 ≤ x4 then ((laws_toKeySignature.v ((rd_T139 x0 x4).f0) ((rd_T139 x0 x4).f1) ((rd_T139 x0 x4).f2) ((rd_T139 x0 x4).f3)).bind fun bt371 => (if x4 < (x3.length : Int) then (laws_toKeySignatureS.lv0 x0 (x3.set (x4 : Int).toNat (⟨bt371.1, bt371.2.1, bt371.2.2.1, bt371.2.2.2⟩ : S52)) (wrap64 (x4 + 1))) else (none))) else (none)) else (some x3) : Option ((List (S52)))) := by
  refine LimIs.eq (laws_toKeySignatureS.lv0_lim x0 x3 x4) ?_
  refine LimIs.step (fun k_ => (laws_toKeySignatureS.mono_l k_) x0 x3 x4) ?_
  simp only [laws_toKeySignatureS.l0]
  repeat' (with_reducible first | exact laws_toKeySignature.v_lim _ _ _ _ | exact laws_toKeySignatureS.lv0_lim _ _ _ | exact LimIs.const _ | refine LimIs.ite ?_ ?_ | refine LimIs.bind ?_ (fun _ => ?_))
theorem laws_toKeySignatureS.v_eq (l0 : List (S139)) : laws_toKeySignatureS.v l0 = (if 0 ≤ (l0.length : Int) then (if ((l0.length : Int) : Int).toNat ≤ 3518437208883 then (laws_toKeySignatureS.lv0 l0 (List.replicate ((l0.length : Int) : Int).toNat z52) 0) else (none)) else (none) : Option ((List (S52)))) := by
  refine LimIs.eq (laws_toKeySignatureS.v_lim l0) ?_
  simp only [laws_toKeySignatureS.f]
  repeat' (with_reducible first | exact laws_toKeySignatureS.lv0_lim _ _ _ | exact LimIs.const _ | refine LimIs.ite ?_ ?_ | refine LimIs.bind ?_ (fun _ => ?_))
def laws_toCertificate.f (k : Nat) (a0_0 : ByteArray) (a0_1 : Int) (a0_2 : Int) (a0_3 : Int) (l0_4 : List Int) (l0_5 : List (S139)) : Option (ByteArray × Int × Int × Int × List Int × (List (S52))) := (laws_toGrant.f a0_0 a0_1 a0_2 a0_3).bind fun bt385 => ((laws_toIntS.f k l0_4).bind fun t389 => ((laws_toKeySignatureS.f k l0_5).bind fun t392 => (some (bt385.1, bt385.2.1, bt385.2.2.1, bt385.2.2.2, t389, t392))))
theorem laws_toCertificate.mono : ∀ a0 a1 a2 a3 a4 a5 k, LeO (laws_toCertificate.f k a0 a1 a2 a3 a4 a5) (laws_toCertificate.f (k + 1) a0 a1 a2 a3 a4 a5) := by
  intro a0 a1 a2 a3 a4 a5 k
  unfold laws_toCertificate.f
  repeat' first
      | (with_reducible exact laws_toIntS.mono _ _)
      | (with_reducible exact laws_toKeySignatureS.mono _ _)
      | (with_reducible exact LeO.refl _)
      | (with_reducible exact LeO.none _)
      | (with_reducible refine LeO.ite ?_ ?_)
      | (with_reducible refine LeO.bind ?_ (fun _ => ?_))
      | exact laws_toIntS.mono _ _
      | exact laws_toKeySignatureS.mono _ _
      | exact LeO.none _
      | refine LeO.ite ?_ ?_
      | refine LeO.bind ?_ (fun _ => ?_)
noncomputable def laws_toCertificate.v (a0_0 : ByteArray) (a0_1 : Int) (a0_2 : Int) (a0_3 : Int) (l0_4 : List Int) (l0_5 : List (S139)) : Option (ByteArray × Int × Int × Int × List Int × (List (S52))) := lim (fun k_ => laws_toCertificate.f k_ a0_0 a0_1 a0_2 a0_3 l0_4 l0_5)
theorem laws_toCertificate.v_lim (a0_0 : ByteArray) (a0_1 : Int) (a0_2 : Int) (a0_3 : Int) (l0_4 : List Int) (l0_5 : List (S139)) : LimIs (fun k_ => laws_toCertificate.f k_ a0_0 a0_1 a0_2 a0_3 l0_4 l0_5) (laws_toCertificate.v a0_0 a0_1 a0_2 a0_3 l0_4 l0_5) := lim_is (fun k_ => laws_toCertificate.mono a0_0 a0_1 a0_2 a0_3 l0_4 l0_5 k_)
theorem laws_toCertificate.v_eq (a0_0 : ByteArray) (a0_1 : Int) (a0_2 : Int) (a0_3 : Int) (l0_4 : List Int) (l0_5 : List (S139)) : laws_toCertificate.v a0_0 a0_1 a0_2 a0_3 l0_4 l0_5 = ((laws_toGrant.v a0_0 a0_1 a0_2 a0_3).bind fun bt385 => ((laws_toIntS.v l0_4).bind fun t389 => ((laws_toKeySignatureS.v l0_5).bind fun t392 => (some (bt385.1, bt385.2.1, bt385.2.2.1, bt385.2.2.2, t389, t392)))) : Option (ByteArray × Int × Int × Int × List Int × (List (S52)))) := by
  refine LimIs.eq (laws_toCertificate.v_lim a0_0 a0_1 a0_2 a0_3 l0_4 l0_5) ?_
  simp only [laws_toCertificate.f]
  repeat' (with_reducible first | exact laws_toGrant.v_lim _ _ _ _ | exact laws_toIntS.v_lim _ | exact laws_toKeySignatureS.v_lim _ | exact LimIs.const _ | refine LimIs.ite ?_ ?_ | refine LimIs.bind ?_ (fun _ => ?_))
def impl_within.f (a0 : Int) (a1 : Int) (a2 : Int) : Option (Bool) := if a0 ≥ a1 then (some (decide (a0 ≤ a2))) else (some false)
def impl_within.v (a0 : Int) (a1 : Int) (a2 : Int) : Option (Bool) := impl_within.f a0 a1 a2
theorem impl_within.v_lim (a0 : Int) (a1 : Int) (a2 : Int) : LimIs (fun _ => impl_within.f a0 a1 a2) (impl_within.v a0 a1 a2) := LimIs.const _
theorem impl_within.v_eq (a0 : Int) (a1 : Int) (a2 : Int) : impl_within.v a0 a1 a2 = (if a0 ≥ a1 then (some (decide (a0 ≤ a2))) else (some false) : Option (Bool)) := rfl
def impl_isLetter.f (a0 : Int) : Option (Bool) := if a0 ≥ 97 then (if a0 ≤ 122 then (some true) else (if a0 ≥ 65 then (if a0 ≤ 90 then (some true) else (some (a0 == 95))) else (some (a0 == 95)))) else (if a0 ≥ 65 then (if a0 ≤ 90 then (some true) else (some (a0 == 95))) else (some (a0 == 95)))
def impl_isLetter.v (a0 : Int) : Option (Bool) := impl_isLetter.f a0
theorem impl_isLetter.v_lim (a0 : Int) : LimIs (fun _ => impl_isLetter.f a0) (impl_isLetter.v a0) := LimIs.const _
theorem impl_isLetter.v_eq (a0 : Int) : impl_isLetter.v a0 = (if a0 ≥ 97 then (if a0 ≤ 122 then (some true) else (if a0 ≥ 65 then (if a0 ≤ 90 then (some true) else (some (a0 == 95))) else (some (a0 == 95)))) else (if a0 ≥ 65 then (if a0 ≤ 90 then (some true) else (some (a0 == 95))) else (some (a0 == 95))) : Option (Bool)) := rfl
mutual
def impl_NameOK.j0 : Nat → ByteArray → Bool → Option (Bool)
  | 0, _, _ => none
  | k + 1, x0, x17 => if x17 = true then (some false) else (impl_NameOK.l0 k x0 (x0.size : Int) 0)
def impl_NameOK.l0 : Nat → ByteArray → Int → Int → Option (Bool)
  | 0, _, _, _ => none
  | k + 1, x0, x19, x20 => if x20 < x19 then (if 0 ≤ x20 then (if x20 < (x0.size : Int) then ((impl_isLetter.f (bt x0 x20)).bind fun t396 => (if t396 = true then (impl_NameOK.l0 k x0 x19 (wrap64 (x20 + 1))) else (if (bt x0 x20) < 48 then (some false) else (if (bt x0 x20) > 57 then (some false) else (impl_NameOK.l0 k x0 x19 (wrap64 (x20 + 1))))))) else (none)) else (none)) else (some true)
end
def impl_NameOK.f (k : Nat) (a0 : ByteArray) : Option (Bool) := if (a0.size : Int) < 1 then (impl_NameOK.j0 k a0 true) else (if (a0.size : Int) > 40 then (impl_NameOK.j0 k a0 true) else (if 0 < (a0.size : Int) then ((impl_isLetter.f (bt a0 0)).bind fun t395 => (impl_NameOK.j0 k a0 (!t395))) else (none)))
theorem impl_NameOK.mono_l : ∀ k, (∀ y0 y1, LeO (impl_NameOK.j0 k y0 y1) (impl_NameOK.j0 (k + 1) y0 y1)) ∧ (∀ y0 y1 y2, LeO (impl_NameOK.l0 k y0 y1 y2) (impl_NameOK.l0 (k + 1) y0 y1 y2))
  | 0 => ⟨fun _ _ r h => by simp [impl_NameOK.j0] at h, fun _ _ _ r h => by simp [impl_NameOK.l0] at h⟩
  | k + 1 => by
    obtain ⟨ih0, ih1⟩ := impl_NameOK.mono_l k
    refine ⟨?_, ?_⟩
    · intro y0 y1
      unfold impl_NameOK.j0
      repeat' first
      | (with_reducible exact ih0 _ _)
      | (with_reducible exact ih1 _ _ _)
      | (with_reducible exact LeO.refl _)
      | (with_reducible exact LeO.none _)
      | (with_reducible refine LeO.ite ?_ ?_)
      | (with_reducible refine LeO.bind ?_ (fun _ => ?_))
      | exact ih0 _ _
      | exact ih1 _ _ _
      | exact LeO.none _
      | refine LeO.ite ?_ ?_
      | refine LeO.bind ?_ (fun _ => ?_)
    · intro y0 y1 y2
      unfold impl_NameOK.l0
      repeat' first
      | (with_reducible exact ih0 _ _)
      | (with_reducible exact ih1 _ _ _)
      | (with_reducible exact LeO.refl _)
      | (with_reducible exact LeO.none _)
      | (with_reducible refine LeO.ite ?_ ?_)
      | (with_reducible refine LeO.bind ?_ (fun _ => ?_))
      | exact ih0 _ _
      | exact ih1 _ _ _
      | exact LeO.none _
      | refine LeO.ite ?_ ?_
      | refine LeO.bind ?_ (fun _ => ?_)
theorem impl_NameOK.mono : ∀ a0 k, LeO (impl_NameOK.f k a0) (impl_NameOK.f (k + 1) a0) := by
  intro a0 k
  obtain ⟨ih0, ih1⟩ := impl_NameOK.mono_l k
  unfold impl_NameOK.f
  repeat' first
      | (with_reducible exact ih0 _ _)
      | (with_reducible exact ih1 _ _ _)
      | (with_reducible exact LeO.refl _)
      | (with_reducible exact LeO.none _)
      | (with_reducible refine LeO.ite ?_ ?_)
      | (with_reducible refine LeO.bind ?_ (fun _ => ?_))
      | exact ih0 _ _
      | exact ih1 _ _ _
      | exact LeO.none _
      | refine LeO.ite ?_ ?_
      | refine LeO.bind ?_ (fun _ => ?_)
noncomputable def impl_NameOK.jv0 (x0 : ByteArray) (x17 : Bool) : Option (Bool) := lim (fun k_ => impl_NameOK.j0 k_ x0 x17)
noncomputable def impl_NameOK.lv0 (x0 : ByteArray) (x19 : Int) (x20 : Int) : Option (Bool) := lim (fun k_ => impl_NameOK.l0 k_ x0 x19 x20)
noncomputable def impl_NameOK.v (a0 : ByteArray) : Option (Bool) := lim (fun k_ => impl_NameOK.f k_ a0)
theorem impl_NameOK.jv0_lim (x0 : ByteArray) (x17 : Bool) : LimIs (fun k_ => impl_NameOK.j0 k_ x0 x17) (impl_NameOK.jv0 x0 x17) := lim_is (fun k_ => (impl_NameOK.mono_l k_).1 x0 x17)
theorem impl_NameOK.lv0_lim (x0 : ByteArray) (x19 : Int) (x20 : Int) : LimIs (fun k_ => impl_NameOK.l0 k_ x0 x19 x20) (impl_NameOK.lv0 x0 x19 x20) := lim_is (fun k_ => (impl_NameOK.mono_l k_).2 x0 x19 x20)
theorem impl_NameOK.v_lim (a0 : ByteArray) : LimIs (fun k_ => impl_NameOK.f k_ a0) (impl_NameOK.v a0) := lim_is (fun k_ => impl_NameOK.mono a0 k_)
theorem impl_NameOK.jv0_eq (x0 : ByteArray) (x17 : Bool) : impl_NameOK.jv0 x0 x17 = (if x17 = true then (some false) else (impl_NameOK.lv0 x0 (x0.size : Int) 0) : Option (Bool)) := by
  refine LimIs.eq (impl_NameOK.jv0_lim x0 x17) ?_
  refine LimIs.step (fun k_ => (impl_NameOK.mono_l k_).1 x0 x17) ?_
  simp only [impl_NameOK.j0]
  repeat' (with_reducible first | exact impl_NameOK.lv0_lim _ _ _ | exact LimIs.const _ | refine LimIs.ite ?_ ?_ | refine LimIs.bind ?_ (fun _ => ?_))
theorem impl_NameOK.lv0_eq (x0 : ByteArray) (x19 : Int) (x20 : Int) : impl_NameOK.lv0 x0 x19 x20 = (if x20 < x19 then (if 0 ≤ x20 then (if x20 < (x0.size : Int) then ((impl_isLetter.v (bt x0 x20)).bind fun t396 => (if t396 = true then (impl_NameOK.lv0 x0 x19 (wrap64 (x20 + 1))) else (if (bt x0 x20) < 48 then (some false) else (if (bt x0 x20) > 57 then (some false) else (impl_NameOK.lv0 x0 x19 (wrap64 (x20 + 1))))))) else (none)) else (none)) else (some true) : Option (Bool)) := by
  refine LimIs.eq (impl_NameOK.lv0_lim x0 x19 x20) ?_
  refine LimIs.step (fun k_ => (impl_NameOK.mono_l k_).2 x0 x19 x20) ?_
  simp only [impl_NameOK.l0]
  repeat' (with_reducible first | exact impl_NameOK.lv0_lim _ _ _ | exact impl_isLetter.v_lim _ | exact LimIs.const _ | refine LimIs.ite ?_ ?_ | refine LimIs.bind ?_ (fun _ => ?_))
theorem impl_NameOK.v_eq (a0 : ByteArray) : impl_NameOK.v a0 = (if (a0.size : Int) < 1 then (impl_NameOK.jv0 a0 true) else (if (a0.size : Int) > 40 then (impl_NameOK.jv0 a0 true) else (if 0 < (a0.size : Int) then ((impl_isLetter.v (bt a0 0)).bind fun t395 => (impl_NameOK.jv0 a0 (!t395))) else (none))) : Option (Bool)) := by
  refine LimIs.eq (impl_NameOK.v_lim a0) ?_
  simp only [impl_NameOK.f]
  repeat' (with_reducible first | exact impl_NameOK.jv0_lim _ _ | exact impl_isLetter.v_lim _ | exact LimIs.const _ | refine LimIs.ite ?_ ?_ | refine LimIs.bind ?_ (fun _ => ?_))
def impl_isOpName.f (k : Nat) (a0 : ByteArray) : Option (Bool) := if (a0.size : Int) ≤ 12 then ((impl_NameOK.f k a0).bind fun t397 => (some t397)) else (some false)
theorem impl_isOpName.mono : ∀ a0 k, LeO (impl_isOpName.f k a0) (impl_isOpName.f (k + 1) a0) := by
  intro a0 k
  unfold impl_isOpName.f
  repeat' first
      | (with_reducible exact impl_NameOK.mono _ _)
      | (with_reducible exact LeO.refl _)
      | (with_reducible exact LeO.none _)
      | (with_reducible refine LeO.ite ?_ ?_)
      | (with_reducible refine LeO.bind ?_ (fun _ => ?_))
      | exact impl_NameOK.mono _ _
      | exact LeO.none _
      | refine LeO.ite ?_ ?_
      | refine LeO.bind ?_ (fun _ => ?_)
noncomputable def impl_isOpName.v (a0 : ByteArray) : Option (Bool) := lim (fun k_ => impl_isOpName.f k_ a0)
theorem impl_isOpName.v_lim (a0 : ByteArray) : LimIs (fun k_ => impl_isOpName.f k_ a0) (impl_isOpName.v a0) := lim_is (fun k_ => impl_isOpName.mono a0 k_)
theorem impl_isOpName.v_eq (a0 : ByteArray) : impl_isOpName.v a0 = (if (a0.size : Int) ≤ 12 then ((impl_NameOK.v a0).bind fun t397 => (some t397)) else (some false) : Option (Bool)) := by
  refine LimIs.eq (impl_isOpName.v_lim a0) ?_
  simp only [impl_isOpName.f]
  repeat' (with_reducible first | exact impl_NameOK.v_lim _ | exact LimIs.const _ | refine LimIs.ite ?_ ?_ | refine LimIs.bind ?_ (fun _ => ?_))
def impl_GrantOK.f (k : Nat) (a0_0 : ByteArray) (a0_1 : Int) (a0_2 : Int) (a0_3 : Int) : Option (Bool) := (impl_isOpName.f k a0_0).bind fun t399 => (if t399 = true then ((impl_within.f a0_1 0 255).bind fun t400 => (if t400 = true then ((impl_within.f a0_2 1 1000000).bind fun t401 => (if t401 = true then ((impl_within.f a0_3 0 2000000000).bind fun t402 => (some t402)) else (some false))) else (some false))) else (some false))
theorem impl_GrantOK.mono : ∀ a0 a1 a2 a3 k, LeO (impl_GrantOK.f k a0 a1 a2 a3) (impl_GrantOK.f (k + 1) a0 a1 a2 a3) := by
  intro a0 a1 a2 a3 k
  unfold impl_GrantOK.f
  repeat' first
      | (with_reducible exact impl_isOpName.mono _ _)
      | (with_reducible exact LeO.refl _)
      | (with_reducible exact LeO.none _)
      | (with_reducible refine LeO.ite ?_ ?_)
      | (with_reducible refine LeO.bind ?_ (fun _ => ?_))
      | exact impl_isOpName.mono _ _
      | exact LeO.none _
      | refine LeO.ite ?_ ?_
      | refine LeO.bind ?_ (fun _ => ?_)
noncomputable def impl_GrantOK.v (a0_0 : ByteArray) (a0_1 : Int) (a0_2 : Int) (a0_3 : Int) : Option (Bool) := lim (fun k_ => impl_GrantOK.f k_ a0_0 a0_1 a0_2 a0_3)
theorem impl_GrantOK.v_lim (a0_0 : ByteArray) (a0_1 : Int) (a0_2 : Int) (a0_3 : Int) : LimIs (fun k_ => impl_GrantOK.f k_ a0_0 a0_1 a0_2 a0_3) (impl_GrantOK.v a0_0 a0_1 a0_2 a0_3) := lim_is (fun k_ => impl_GrantOK.mono a0_0 a0_1 a0_2 a0_3 k_)
theorem impl_GrantOK.v_eq (a0_0 : ByteArray) (a0_1 : Int) (a0_2 : Int) (a0_3 : Int) : impl_GrantOK.v a0_0 a0_1 a0_2 a0_3 = ((impl_isOpName.v a0_0).bind fun t399 => (if t399 = true then ((impl_within.v a0_1 0 255).bind fun t400 => (if t400 = true then ((impl_within.v a0_2 1 1000000).bind fun t401 => (if t401 = true then ((impl_within.v a0_3 0 2000000000).bind fun t402 => (some t402)) else (some false))) else (some false))) else (some false)) : Option (Bool)) := by
  refine LimIs.eq (impl_GrantOK.v_lim a0_0 a0_1 a0_2 a0_3) ?_
  simp only [impl_GrantOK.f]
  repeat' (with_reducible first | exact impl_isOpName.v_lim _ | exact impl_within.v_lim _ _ _ | exact LimIs.const _ | refine LimIs.ite ?_ ?_ | refine LimIs.bind ?_ (fun _ => ?_))
def impl_FaultsOf.f (a0 : Int) : Option (Int × Int) := if a0 = 1 then (some (wrap64 (Int.tdiv (wrap64 (a0 - 1)) 3), 0)) else (if a0 = 4 then (some (wrap64 (Int.tdiv (wrap64 (a0 - 1)) 3), 0)) else (if a0 = 7 then (some (wrap64 (Int.tdiv (wrap64 (a0 - 1)) 3), 0)) else (some (0, 4))))
def impl_FaultsOf.v (a0 : Int) : Option (Int × Int) := impl_FaultsOf.f a0
theorem impl_FaultsOf.v_eq (a0 : Int) : impl_FaultsOf.v a0 = (if a0 = 1 then (some (wrap64 (Int.tdiv (wrap64 (a0 - 1)) 3), 0)) else (if a0 = 4 then (some (wrap64 (Int.tdiv (wrap64 (a0 - 1)) 3), 0)) else (if a0 = 7 then (some (wrap64 (Int.tdiv (wrap64 (a0 - 1)) 3), 0)) else (some (0, 4)))) : Option (Int × Int)) := rfl
def impl_areNodes.f (a0 : Int) : Option (Bool) := (impl_FaultsOf.f a0).bind fun bt403 => (some (bt403.2 == 0))
def impl_areNodes.v (a0 : Int) : Option (Bool) := impl_areNodes.f a0
theorem impl_areNodes.v_lim (a0 : Int) : LimIs (fun _ => impl_areNodes.f a0) (impl_areNodes.v a0) := LimIs.const _
theorem impl_areNodes.v_eq (a0 : Int) : impl_areNodes.v a0 = ((impl_FaultsOf.v a0).bind fun bt403 => (some (bt403.2 == 0)) : Option (Bool)) := rfl
def impl_rises.l0 : Nat → List Int → Int → Int → List Int → Int → Int → Option (Bool)
  | 0, _, _, _, _, _, _ => none
  | k + 1, x0, x1, x2, x9, x10, x11 => if x11 < x10 then (if 0 ≤ x11 then (if x11 < (x9.length : Int) then ((impl_within.f (rd x9 x11) x1 x2).bind fun t406 => (if t406 = true then (if x11 > 0 then (if 0 ≤ (wrap64 (x11 - 1)) then (if (wrap64 (x11 - 1)) < (x0.length : Int) then (if (rd x0 (wrap64 (x11 - 1))) ≥ (rd x9 x11) then (some false) else (impl_rises.l0 k x0 x1 x2 x9 x10 (wrap64 (x11 + 1)))) else (none)) else (none)) else (impl_rises.l0 k x0 x1 x2 x9 x10 (wrap64 (x11 + 1)))) else (some false))) else (none)) else (none)) else (some true)
def impl_rises.f (k : Nat) (l0 : List Int) (a1 : Int) (a2 : Int) : Option (Bool) := impl_rises.l0 k l0 a1 a2 l0 (l0.length : Int) 0
theorem impl_rises.mono_l : ∀ k, (∀ y0 y1 y2 y3 y4 y5, LeO (impl_rises.l0 k y0 y1 y2 y3 y4 y5) (impl_rises.l0 (k + 1) y0 y1 y2 y3 y4 y5))
  | 0 => fun _ _ _ _ _ _ r h => by simp [impl_rises.l0] at h
  | k + 1 => by
    have ih0 := impl_rises.mono_l k
    · intro y0 y1 y2 y3 y4 y5
      unfold impl_rises.l0
      repeat' first
      | (with_reducible exact ih0 _ _ _ _ _ _)
      | (with_reducible exact LeO.refl _)
      | (with_reducible exact LeO.none _)
      | (with_reducible refine LeO.ite ?_ ?_)
      | (with_reducible refine LeO.bind ?_ (fun _ => ?_))
      | exact ih0 _ _ _ _ _ _
      | exact LeO.none _
      | refine LeO.ite ?_ ?_
      | refine LeO.bind ?_ (fun _ => ?_)
theorem impl_rises.mono : ∀ a0 a1 a2 k, LeO (impl_rises.f k a0 a1 a2) (impl_rises.f (k + 1) a0 a1 a2) := by
  intro a0 a1 a2 k
  have ih0 := impl_rises.mono_l k
  unfold impl_rises.f
  repeat' first
      | (with_reducible exact ih0 _ _ _ _ _ _)
      | (with_reducible exact LeO.refl _)
      | (with_reducible exact LeO.none _)
      | (with_reducible refine LeO.ite ?_ ?_)
      | (with_reducible refine LeO.bind ?_ (fun _ => ?_))
      | exact ih0 _ _ _ _ _ _
      | exact LeO.none _
      | refine LeO.ite ?_ ?_
      | refine LeO.bind ?_ (fun _ => ?_)
noncomputable def impl_rises.lv0 (x0 : List Int) (x1 : Int) (x2 : Int) (x9 : List Int) (x10 : Int) (x11 : Int) : Option (Bool) := lim (fun k_ => impl_rises.l0 k_ x0 x1 x2 x9 x10 x11)
noncomputable def impl_rises.v (l0 : List Int) (a1 : Int) (a2 : Int) : Option (Bool) := lim (fun k_ => impl_rises.f k_ l0 a1 a2)
theorem impl_rises.lv0_lim (x0 : List Int) (x1 : Int) (x2 : Int) (x9 : List Int) (x10 : Int) (x11 : Int) : LimIs (fun k_ => impl_rises.l0 k_ x0 x1 x2 x9 x10 x11) (impl_rises.lv0 x0 x1 x2 x9 x10 x11) := lim_is (fun k_ => (impl_rises.mono_l k_) x0 x1 x2 x9 x10 x11)
theorem impl_rises.v_lim (l0 : List Int) (a1 : Int) (a2 : Int) : LimIs (fun k_ => impl_rises.f k_ l0 a1 a2) (impl_rises.v l0 a1 a2) := lim_is (fun k_ => impl_rises.mono l0 a1 a2 k_)
theorem impl_rises.lv0_eq (x0 : List Int) (x1 : Int) (x2 : Int) (x9 : List Int) (x10 : Int) (x11 : Int) : impl_rises.lv0 x0 x1 x2 x9 x10 x11 = (if x11 < x10 then (if 0 ≤ x11 then (if x11 < (x9.length : Int) then ((impl_within.v (rd x9 x11) x1 x2).bind fun t406 => (if t406 = true then (if x11 > 0 then (if 0 ≤ (wrap64 (x11 - 1)) then (if (wrap64 (x11 - 1)) < (x0.length : Int) then (if (rd x0 (wrap64 (x11 - 1))) ≥ (rd x9 x11) then (some false) else (impl_rises.lv0 x0 x1 x2 x9 x10 (wrap64 (x11 + 1)))) else (none)) else (none)) else (impl_rises.lv0 x0 x1 x2 x9 x10 (wrap64 (x11 + 1)))) else (some false))) else (none)) else (none)) else (some true) : Option (Bool)) := by
  refine LimIs.eq (impl_rises.lv0_lim x0 x1 x2 x9 x10 x11) ?_
  refine LimIs.step (fun k_ => (impl_rises.mono_l k_) x0 x1 x2 x9 x10 x11) ?_
  simp only [impl_rises.l0]
  repeat' (with_reducible first | exact impl_rises.lv0_lim _ _ _ _ _ _ | exact impl_within.v_lim _ _ _ | exact LimIs.const _ | refine LimIs.ite ?_ ?_ | refine LimIs.bind ?_ (fun _ => ?_))
theorem impl_rises.v_eq (l0 : List Int) (a1 : Int) (a2 : Int) : impl_rises.v l0 a1 a2 = (impl_rises.lv0 l0 a1 a2 l0 (l0.length : Int) 0 : Option (Bool)) := by
  refine LimIs.eq (impl_rises.v_lim l0 a1 a2) ?_
  simp only [impl_rises.f]
  repeat' (with_reducible first | exact impl_rises.lv0_lim _ _ _ _ _ _ | exact LimIs.const _ | refine LimIs.ite ?_ ?_ | refine LimIs.bind ?_ (fun _ => ?_))
def impl_isEnough.f (k : Nat) (a0 : Int) (l1 : List Int) : Option (Bool) := if (l1.length : Int) = (wrap64 ((wrap64 (Int.tdiv (wrap64 (a0 - 1)) 3)) + 1)) then ((impl_rises.f k l1 0 (wrap64 (a0 - 1))).bind fun t408 => (some t408)) else (some false)
theorem impl_isEnough.mono : ∀ a0 a1 k, LeO (impl_isEnough.f k a0 a1) (impl_isEnough.f (k + 1) a0 a1) := by
  intro a0 a1 k
  unfold impl_isEnough.f
  repeat' first
      | (with_reducible exact impl_rises.mono _ _ _ _)
      | (with_reducible exact LeO.refl _)
      | (with_reducible exact LeO.none _)
      | (with_reducible refine LeO.ite ?_ ?_)
      | (with_reducible refine LeO.bind ?_ (fun _ => ?_))
      | exact impl_rises.mono _ _ _ _
      | exact LeO.none _
      | refine LeO.ite ?_ ?_
      | refine LeO.bind ?_ (fun _ => ?_)
noncomputable def impl_isEnough.v (a0 : Int) (l1 : List Int) : Option (Bool) := lim (fun k_ => impl_isEnough.f k_ a0 l1)
theorem impl_isEnough.v_lim (a0 : Int) (l1 : List Int) : LimIs (fun k_ => impl_isEnough.f k_ a0 l1) (impl_isEnough.v a0 l1) := lim_is (fun k_ => impl_isEnough.mono a0 l1 k_)
theorem impl_isEnough.v_eq (a0 : Int) (l1 : List Int) : impl_isEnough.v a0 l1 = (if (l1.length : Int) = (wrap64 ((wrap64 (Int.tdiv (wrap64 (a0 - 1)) 3)) + 1)) then ((impl_rises.v l1 0 (wrap64 (a0 - 1))).bind fun t408 => (some t408)) else (some false) : Option (Bool)) := by
  refine LimIs.eq (impl_isEnough.v_lim a0 l1) ?_
  simp only [impl_isEnough.f]
  repeat' (with_reducible first | exact impl_rises.v_lim _ _ _ | exact LimIs.const _ | refine LimIs.ite ?_ ?_ | refine LimIs.bind ?_ (fun _ => ?_))
def impl_isIndex.f (a0 : Int) : Option (Bool) := (impl_within.f a0 0 7).bind fun t409 => (some t409)
def impl_isIndex.v (a0 : Int) : Option (Bool) := impl_isIndex.f a0
theorem impl_isIndex.v_lim (a0 : Int) : LimIs (fun _ => impl_isIndex.f a0) (impl_isIndex.v a0) := LimIs.const _
theorem impl_isIndex.v_eq (a0 : Int) : impl_isIndex.v a0 = ((impl_within.v a0 0 7).bind fun t409 => (some t409) : Option (Bool)) := rfl
def impl_areLong_1.f (a0 : ByteArray) : Option (Bool) := some (decide ((a0.size : Int) > 65536))
def impl_areLong_1.v (a0 : ByteArray) : Option (Bool) := impl_areLong_1.f a0
theorem impl_areLong_1.v_eq (a0 : ByteArray) : impl_areLong_1.v a0 = (some (decide ((a0.size : Int) > 65536)) : Option (Bool)) := rfl
def contains_impl_areLong_1.f (l0 : List ByteArray) : Option (Bool) := some (l0.any fun s => (impl_areLong_1.f s).getD false)
def contains_impl_areLong_1.v (l0 : List ByteArray) : Option (Bool) := contains_impl_areLong_1.f l0
theorem contains_impl_areLong_1.v_eq (l0 : List ByteArray) : contains_impl_areLong_1.v l0 = (some (l0.any fun s => (impl_areLong_1.v s).getD false) : Option (Bool)) := rfl
def impl_areLong.f (l0 : List ByteArray) : Option (Bool) := (contains_impl_areLong_1.f l0).bind fun t410 => (some t410)
def impl_areLong.v (l0 : List ByteArray) : Option (Bool) := impl_areLong.f l0
theorem impl_areLong.v_lim (l0 : List ByteArray) : LimIs (fun _ => impl_areLong.f l0) (impl_areLong.v l0) := LimIs.const _
theorem impl_areLong.v_eq (l0 : List ByteArray) : impl_areLong.v l0 = ((contains_impl_areLong_1.v l0).bind fun t410 => (some t410) : Option (Bool)) := rfl
def impl_isHash.f (a0 : ByteArray) : Option (Bool) := some ((a0.size : Int) == 32)
def impl_isHash.v (a0 : ByteArray) : Option (Bool) := impl_isHash.f a0
theorem impl_isHash.v_lim (a0 : ByteArray) : LimIs (fun _ => impl_isHash.f a0) (impl_isHash.v a0) := LimIs.const _
theorem impl_isHash.v_eq (a0 : ByteArray) : impl_isHash.v a0 = (some ((a0.size : Int) == 32) : Option (Bool)) := rfl
def impl_areHashes_1.f (a0 : ByteArray) : Option (Bool) := (impl_isHash.f a0).bind fun t411 => (some (!t411))
def impl_areHashes_1.v (a0 : ByteArray) : Option (Bool) := impl_areHashes_1.f a0
theorem impl_areHashes_1.v_eq (a0 : ByteArray) : impl_areHashes_1.v a0 = ((impl_isHash.v a0).bind fun t411 => (some (!t411)) : Option (Bool)) := rfl
def contains_impl_areHashes_1.f (l0 : List ByteArray) : Option (Bool) := some (l0.any fun s => (impl_areHashes_1.f s).getD false)
def contains_impl_areHashes_1.v (l0 : List ByteArray) : Option (Bool) := contains_impl_areHashes_1.f l0
theorem contains_impl_areHashes_1.v_eq (l0 : List ByteArray) : contains_impl_areHashes_1.v l0 = (some (l0.any fun s => (impl_areHashes_1.v s).getD false) : Option (Bool)) := rfl
def impl_areHashes.f (l0 : List ByteArray) (a1 : Int) : Option (Bool) := if (l0.length : Int) = a1 then ((contains_impl_areHashes_1.f l0).bind fun t412 => (some (!t412))) else (some false)
def impl_areHashes.v (l0 : List ByteArray) (a1 : Int) : Option (Bool) := impl_areHashes.f l0 a1
theorem impl_areHashes.v_lim (l0 : List ByteArray) (a1 : Int) : LimIs (fun _ => impl_areHashes.f l0 a1) (impl_areHashes.v l0 a1) := LimIs.const _
theorem impl_areHashes.v_eq (l0 : List ByteArray) (a1 : Int) : impl_areHashes.v l0 a1 = (if (l0.length : Int) = a1 then ((contains_impl_areHashes_1.v l0).bind fun t412 => (some (!t412))) else (some false) : Option (Bool)) := rfl
def impl_number.l0 : Nat → Int → List Int → Int → Option (ByteArray)
  | 0, _, _, _ => none
  | k + 1, x0, x5, x6 => if x6 ≥ 0 then (if 0 ≤ x6 then (if x6 < (x5.length : Int) then (impl_number.l0 k (x0 / 256) (x5.set (x6 : Int).toNat ((x0) % 256)) (wrap64 (x6 - 1))) else (none)) else (none)) else (some (strOfNums x5))
def impl_number.f (k : Nat) (a0 : Int) (a1 : Int) : Option (ByteArray) := if 0 ≤ a1 then (if (a1 : Int).toNat ≤ 281474976710656 then (impl_number.l0 k a0 (List.replicate (a1 : Int).toNat 0) (wrap64 (a1 - 1))) else (none)) else (none)
theorem impl_number.mono_l : ∀ k, (∀ y0 y1 y2, LeO (impl_number.l0 k y0 y1 y2) (impl_number.l0 (k + 1) y0 y1 y2))
  | 0 => fun _ _ _ r h => by simp [impl_number.l0] at h
  | k + 1 => by
    have ih0 := impl_number.mono_l k
    · intro y0 y1 y2
      unfold impl_number.l0
      repeat' first
      | (with_reducible exact ih0 _ _ _)
      | (with_reducible exact LeO.refl _)
      | (with_reducible exact LeO.none _)
      | (with_reducible refine LeO.ite ?_ ?_)
      | (with_reducible refine LeO.bind ?_ (fun _ => ?_))
      | exact ih0 _ _ _
      | exact LeO.none _
      | refine LeO.ite ?_ ?_
      | refine LeO.bind ?_ (fun _ => ?_)
theorem impl_number.mono : ∀ a0 a1 k, LeO (impl_number.f k a0 a1) (impl_number.f (k + 1) a0 a1) := by
  intro a0 a1 k
  have ih0 := impl_number.mono_l k
  unfold impl_number.f
  repeat' first
      | (with_reducible exact ih0 _ _ _)
      | (with_reducible exact LeO.refl _)
      | (with_reducible exact LeO.none _)
      | (with_reducible refine LeO.ite ?_ ?_)
      | (with_reducible refine LeO.bind ?_ (fun _ => ?_))
      | exact ih0 _ _ _
      | exact LeO.none _
      | refine LeO.ite ?_ ?_
      | refine LeO.bind ?_ (fun _ => ?_)
noncomputable def impl_number.lv0 (x0 : Int) (x5 : List Int) (x6 : Int) : Option (ByteArray) := lim (fun k_ => impl_number.l0 k_ x0 x5 x6)
noncomputable def impl_number.v (a0 : Int) (a1 : Int) : Option (ByteArray) := lim (fun k_ => impl_number.f k_ a0 a1)
theorem impl_number.lv0_lim (x0 : Int) (x5 : List Int) (x6 : Int) : LimIs (fun k_ => impl_number.l0 k_ x0 x5 x6) (impl_number.lv0 x0 x5 x6) := lim_is (fun k_ => (impl_number.mono_l k_) x0 x5 x6)
theorem impl_number.v_lim (a0 : Int) (a1 : Int) : LimIs (fun k_ => impl_number.f k_ a0 a1) (impl_number.v a0 a1) := lim_is (fun k_ => impl_number.mono a0 a1 k_)
theorem impl_number.lv0_eq (x0 : Int) (x5 : List Int) (x6 : Int) : impl_number.lv0 x0 x5 x6 = (if x6 ≥ 0 then (if 0 ≤ x6 then (if x6 < (x5.length : Int) then (impl_number.lv0 (x0 / 256) (x5.set (x6 : Int).toNat ((x0) % 256)) (wrap64 (x6 - 1))) else (none)) else (none)) else (some (strOfNums x5)) : Option (ByteArray)) := by
  refine LimIs.eq (impl_number.lv0_lim x0 x5 x6) ?_
  refine LimIs.step (fun k_ => (impl_number.mono_l k_) x0 x5 x6) ?_
  simp only [impl_number.l0]
  repeat' (with_reducible first | exact impl_number.lv0_lim _ _ _ | exact LimIs.const _ | refine LimIs.ite ?_ ?_ | refine LimIs.bind ?_ (fun _ => ?_))
theorem impl_number.v_eq (a0 : Int) (a1 : Int) : impl_number.v a0 a1 = (if 0 ≤ a1 then (if (a1 : Int).toNat ≤ 281474976710656 then (impl_number.lv0 a0 (List.replicate (a1 : Int).toNat 0) (wrap64 (a1 - 1))) else (none)) else (none) : Option (ByteArray)) := by
  refine LimIs.eq (impl_number.v_lim a0 a1) ?_
  simp only [impl_number.f]
  repeat' (with_reducible first | exact impl_number.lv0_lim _ _ _ | exact LimIs.const _ | refine LimIs.ite ?_ ?_ | refine LimIs.bind ?_ (fun _ => ?_))
def bits_RotateLeft32.f (a0 : Int) (a1 : Int) : Option (Int) := if 0 ≤ (Go.bits .and .u64 (IntKind.u64.wrap (a1)) 31) then (if 0 ≤ (IntKind.u64.wrap (32 - (Go.bits .and .u64 (IntKind.u64.wrap (a1)) 31))) then (some (Go.bits .or .u32 (shl .u32 a0 (Go.bits .and .u64 (IntKind.u64.wrap (a1)) 31)) (shr .u32 a0 (IntKind.u64.wrap (32 - (Go.bits .and .u64 (IntKind.u64.wrap (a1)) 31)))))) else (none)) else (none)
def impl_turned.f (a0 : Int) (a1 : Int) : Option (Int) := (bits_RotateLeft32.f a0 (wrap64 (-a1))).bind fun t417 => (some t417)
def impl_hash.f (k : Nat) (a0 : ByteArray) : Option (ByteArray) := if a0.size ≤ 40000000 then (spec_l01Hash.f k (bytesOf a0)) else (none)
theorem impl_hash.mono : ∀ a0 k, LeO (impl_hash.f k a0) (impl_hash.f (k + 1) a0) := by
  intro a0 k
  unfold impl_hash.f
  repeat' first
      | (with_reducible exact spec_l01Hash.mono _ _)
      | (with_reducible exact LeO.refl _)
      | refine LeO.ite ?_ ?_
noncomputable def impl_hash.v (a0 : ByteArray) : Option (ByteArray) := lim (fun k_ => impl_hash.f k_ a0)
theorem impl_hash.v_lim (a0 : ByteArray) : LimIs (fun k_ => impl_hash.f k_ a0) (impl_hash.v a0) := lim_is (fun k_ => impl_hash.mono a0 k_)
theorem impl_hash.v_eq (a0 : ByteArray) : impl_hash.v a0 = (if a0.size ≤ 40000000 then (spec_l01Hash.v (bytesOf a0)) else (none) : Option (ByteArray)) := by
  refine LimIs.eq (impl_hash.v_lim a0) ?_
  simp only [impl_hash.f]
  repeat' (with_reducible first | exact spec_l01Hash.v_lim _ | exact LimIs.const _ | refine LimIs.ite ?_ ?_ | refine LimIs.bind ?_ (fun _ => ?_))
mutual
def impl_hashBits.l0 : Nat → ByteArray → List Int → Int → Int → Option (ByteArray)
  | 0, _, _, _, _ => none
  | k + 1, x0, x3, x11, x12 => if x12 < x11 then (impl_hashBits.l1 k x0 x3 x12 7 x11 x12) else (some (strOfNums x3))
def impl_hashBits.l1 : Nat → ByteArray → List Int → Int → Int → Int → Int → Option (ByteArray)
  | 0, _, _, _, _, _, _ => none
  | k + 1, x0, x3, x4, x5, x11, x12 => if x5 ≥ 0 then (if 0 ≤ x4 then (if x4 < (x0.size : Int) then (if 0 ≤ x5 then (if x3.length < 140737488355328 then (impl_hashBits.l1 k x0 (x3 ++ [(48 + (Go.bits .and .u8 (shr .u8 (bt x0 x4) x5) 1)) % 256]) x4 (wrap64 (x5 - 1)) x11 x12) else (none)) else (none)) else (none)) else (none)) else (impl_hashBits.l0 k x0 x3 x11 (wrap64 (x12 + 1)))
end
def impl_hashBits.f (k : Nat) (a0 : ByteArray) : Option (ByteArray) := if a0.size ≤ 1000000 then (impl_hashBits.l0 k a0 (([] : List Int)) (a0.size : Int) 0) else (none)
theorem impl_hashBits.mono_l : ∀ k, (∀ y0 y1 y2 y3, LeO (impl_hashBits.l0 k y0 y1 y2 y3) (impl_hashBits.l0 (k + 1) y0 y1 y2 y3)) ∧ (∀ y0 y1 y2 y3 y4 y5, LeO (impl_hashBits.l1 k y0 y1 y2 y3 y4 y5) (impl_hashBits.l1 (k + 1) y0 y1 y2 y3 y4 y5))
  | 0 => ⟨fun _ _ _ _ r h => by simp [impl_hashBits.l0] at h, fun _ _ _ _ _ _ r h => by simp [impl_hashBits.l1] at h⟩
  | k + 1 => by
    obtain ⟨ih0, ih1⟩ := impl_hashBits.mono_l k
    refine ⟨?_, ?_⟩
    · intro y0 y1 y2 y3
      unfold impl_hashBits.l0
      repeat' first
      | (with_reducible exact ih0 _ _ _ _)
      | (with_reducible exact ih1 _ _ _ _ _ _)
      | (with_reducible exact LeO.refl _)
      | (with_reducible exact LeO.none _)
      | (with_reducible refine LeO.ite ?_ ?_)
      | (with_reducible refine LeO.bind ?_ (fun _ => ?_))
      | exact ih0 _ _ _ _
      | exact ih1 _ _ _ _ _ _
      | exact LeO.none _
      | refine LeO.ite ?_ ?_
      | refine LeO.bind ?_ (fun _ => ?_)
    · intro y0 y1 y2 y3 y4 y5
      unfold impl_hashBits.l1
      repeat' first
      | (with_reducible exact ih0 _ _ _ _)
      | (with_reducible exact ih1 _ _ _ _ _ _)
      | (with_reducible exact LeO.refl _)
      | (with_reducible exact LeO.none _)
      | (with_reducible refine LeO.ite ?_ ?_)
      | (with_reducible refine LeO.bind ?_ (fun _ => ?_))
      | exact ih0 _ _ _ _
      | exact ih1 _ _ _ _ _ _
      | exact LeO.none _
      | refine LeO.ite ?_ ?_
      | refine LeO.bind ?_ (fun _ => ?_)
theorem impl_hashBits.mono : ∀ a0 k, LeO (impl_hashBits.f k a0) (impl_hashBits.f (k + 1) a0) := by
  intro a0 k
  obtain ⟨ih0, ih1⟩ := impl_hashBits.mono_l k
  unfold impl_hashBits.f
  repeat' first
      | (with_reducible exact ih0 _ _ _ _)
      | (with_reducible exact ih1 _ _ _ _ _ _)
      | (with_reducible exact LeO.refl _)
      | (with_reducible exact LeO.none _)
      | (with_reducible refine LeO.ite ?_ ?_)
      | (with_reducible refine LeO.bind ?_ (fun _ => ?_))
      | exact ih0 _ _ _ _
      | exact ih1 _ _ _ _ _ _
      | exact LeO.none _
      | refine LeO.ite ?_ ?_
      | refine LeO.bind ?_ (fun _ => ?_)
noncomputable def impl_hashBits.lv0 (x0 : ByteArray) (x3 : List Int) (x11 : Int) (x12 : Int) : Option (ByteArray) := lim (fun k_ => impl_hashBits.l0 k_ x0 x3 x11 x12)
noncomputable def impl_hashBits.lv1 (x0 : ByteArray) (x3 : List Int) (x4 : Int) (x5 : Int) (x11 : Int) (x12 : Int) : Option (ByteArray) := lim (fun k_ => impl_hashBits.l1 k_ x0 x3 x4 x5 x11 x12)
noncomputable def impl_hashBits.v (a0 : ByteArray) : Option (ByteArray) := lim (fun k_ => impl_hashBits.f k_ a0)
theorem impl_hashBits.lv0_lim (x0 : ByteArray) (x3 : List Int) (x11 : Int) (x12 : Int) : LimIs (fun k_ => impl_hashBits.l0 k_ x0 x3 x11 x12) (impl_hashBits.lv0 x0 x3 x11 x12) := lim_is (fun k_ => (impl_hashBits.mono_l k_).1 x0 x3 x11 x12)
theorem impl_hashBits.lv1_lim (x0 : ByteArray) (x3 : List Int) (x4 : Int) (x5 : Int) (x11 : Int) (x12 : Int) : LimIs (fun k_ => impl_hashBits.l1 k_ x0 x3 x4 x5 x11 x12) (impl_hashBits.lv1 x0 x3 x4 x5 x11 x12) := lim_is (fun k_ => (impl_hashBits.mono_l k_).2 x0 x3 x4 x5 x11 x12)
theorem impl_hashBits.v_lim (a0 : ByteArray) : LimIs (fun k_ => impl_hashBits.f k_ a0) (impl_hashBits.v a0) := lim_is (fun k_ => impl_hashBits.mono a0 k_)
theorem impl_hashBits.lv0_eq (x0 : ByteArray) (x3 : List Int) (x11 : Int) (x12 : Int) : impl_hashBits.lv0 x0 x3 x11 x12 = (if x12 < x11 then (impl_hashBits.lv1 x0 x3 x12 7 x11 x12) else (some (strOfNums x3)) : Option (ByteArray)) := by
  refine LimIs.eq (impl_hashBits.lv0_lim x0 x3 x11 x12) ?_
  refine LimIs.step (fun k_ => (impl_hashBits.mono_l k_).1 x0 x3 x11 x12) ?_
  simp only [impl_hashBits.l0]
  repeat' (with_reducible first | exact impl_hashBits.lv1_lim _ _ _ _ _ _ | exact LimIs.const _ | refine LimIs.ite ?_ ?_ | refine LimIs.bind ?_ (fun _ => ?_))
theorem impl_hashBits.lv1_eq (x0 : ByteArray) (x3 : List Int) (x4 : Int) (x5 : Int) (x11 : Int) (x12 : Int) : impl_hashBits.lv1 x0 x3 x4 x5 x11 x12 = (if x5 ≥ 0 then (if 0 ≤ x4 then (if x4 < (x0.size : Int) then (if 0 ≤ x5 then (if x3.length < 140737488355328 then (impl_hashBits.lv1 x0 (x3 ++ [(48 + (Go.bits .and .u8 (shr .u8 (bt x0 x4) x5) 1)) % 256]) x4 (wrap64 (x5 - 1)) x11 x12) else (none)) else (none)) else (none)) else (none)) else (impl_hashBits.lv0 x0 x3 x11 (wrap64 (x12 + 1))) : Option (ByteArray)) := by
  refine LimIs.eq (impl_hashBits.lv1_lim x0 x3 x4 x5 x11 x12) ?_
  refine LimIs.step (fun k_ => (impl_hashBits.mono_l k_).2 x0 x3 x4 x5 x11 x12) ?_
  simp only [impl_hashBits.l1]
  repeat' (with_reducible first | exact impl_hashBits.lv0_lim _ _ _ _ | exact impl_hashBits.lv1_lim _ _ _ _ _ _ | exact LimIs.const _ | refine LimIs.ite ?_ ?_ | refine LimIs.bind ?_ (fun _ => ?_))
theorem impl_hashBits.v_eq (a0 : ByteArray) : impl_hashBits.v a0 = (if a0.size ≤ 1000000 then (impl_hashBits.lv0 a0 (([] : List Int)) (a0.size : Int) 0) else (none) : Option (ByteArray)) := by
  refine LimIs.eq (impl_hashBits.v_lim a0) ?_
  simp only [impl_hashBits.f]
  repeat' (with_reducible first | exact impl_hashBits.lv0_lim _ _ _ _ | exact LimIs.const _ | refine LimIs.ite ?_ ?_ | refine LimIs.bind ?_ (fun _ => ?_))
def impl_messageBits.f (k : Nat) (a0 : ByteArray) : Option (ByteArray) := if 6 + a0.size ≤ 9223372036854775807 then ((impl_hash.f k ((⟨#[100, 105, 103, 101, 115, 116]⟩ : ByteArray) ++ a0)).bind fun t424 => ((impl_hashBits.f k t424).bind fun t425 => (if 0 ≤ 32 then (if 32 ≤ (t425.size : Int) then (some (t425.extract 0 32)) else (none)) else (none)))) else (none)
theorem impl_messageBits.mono : ∀ a0 k, LeO (impl_messageBits.f k a0) (impl_messageBits.f (k + 1) a0) := by
  intro a0 k
  unfold impl_messageBits.f
  repeat' first
      | (with_reducible exact impl_hash.mono _ _)
      | (with_reducible exact impl_hashBits.mono _ _)
      | (with_reducible exact LeO.refl _)
      | (with_reducible exact LeO.none _)
      | (with_reducible refine LeO.ite ?_ ?_)
      | (with_reducible refine LeO.bind ?_ (fun _ => ?_))
      | exact impl_hash.mono _ _
      | exact impl_hashBits.mono _ _
      | exact LeO.none _
      | refine LeO.ite ?_ ?_
      | refine LeO.bind ?_ (fun _ => ?_)
noncomputable def impl_messageBits.v (a0 : ByteArray) : Option (ByteArray) := lim (fun k_ => impl_messageBits.f k_ a0)
theorem impl_messageBits.v_lim (a0 : ByteArray) : LimIs (fun k_ => impl_messageBits.f k_ a0) (impl_messageBits.v a0) := lim_is (fun k_ => impl_messageBits.mono a0 k_)
theorem impl_messageBits.v_eq (a0 : ByteArray) : impl_messageBits.v a0 = (if 6 + a0.size ≤ 9223372036854775807 then ((impl_hash.v ((⟨#[100, 105, 103, 101, 115, 116]⟩ : ByteArray) ++ a0)).bind fun t424 => ((impl_hashBits.v t424).bind fun t425 => (if 0 ≤ 32 then (if 32 ≤ (t425.size : Int) then (some (t425.extract 0 32)) else (none)) else (none)))) else (none) : Option (ByteArray)) := by
  refine LimIs.eq (impl_messageBits.v_lim a0) ?_
  simp only [impl_messageBits.f]
  repeat' (with_reducible first | exact impl_hash.v_lim _ | exact impl_hashBits.v_lim _ | exact LimIs.const _ | refine LimIs.ite ?_ ?_ | refine LimIs.bind ?_ (fun _ => ?_))
def impl_node.f (k : Nat) (a0 : ByteArray) (a1 : ByteArray) : Option (ByteArray) := if 4 + a0.size ≤ 9223372036854775807 then (if ((⟨#[110, 111, 100, 101]⟩ : ByteArray) ++ a0).size + a1.size ≤ 9223372036854775807 then ((impl_hash.f k (((⟨#[110, 111, 100, 101]⟩ : ByteArray) ++ a0) ++ a1)).bind fun t426 => (some t426)) else (none)) else (none)
theorem impl_node.mono : ∀ a0 a1 k, LeO (impl_node.f k a0 a1) (impl_node.f (k + 1) a0 a1) := by
  intro a0 a1 k
  unfold impl_node.f
  repeat' first
      | (with_reducible exact impl_hash.mono _ _)
      | (with_reducible exact LeO.refl _)
      | (with_reducible exact LeO.none _)
      | (with_reducible refine LeO.ite ?_ ?_)
      | (with_reducible refine LeO.bind ?_ (fun _ => ?_))
      | exact impl_hash.mono _ _
      | exact LeO.none _
      | refine LeO.ite ?_ ?_
      | refine LeO.bind ?_ (fun _ => ?_)
noncomputable def impl_node.v (a0 : ByteArray) (a1 : ByteArray) : Option (ByteArray) := lim (fun k_ => impl_node.f k_ a0 a1)
theorem impl_node.v_lim (a0 : ByteArray) (a1 : ByteArray) : LimIs (fun k_ => impl_node.f k_ a0 a1) (impl_node.v a0 a1) := lim_is (fun k_ => impl_node.mono a0 a1 k_)
theorem impl_node.v_eq (a0 : ByteArray) (a1 : ByteArray) : impl_node.v a0 a1 = (if 4 + a0.size ≤ 9223372036854775807 then (if ((⟨#[110, 111, 100, 101]⟩ : ByteArray) ++ a0).size + a1.size ≤ 9223372036854775807 then ((impl_hash.v (((⟨#[110, 111, 100, 101]⟩ : ByteArray) ++ a0) ++ a1)).bind fun t426 => (some t426)) else (none)) else (none) : Option (ByteArray)) := by
  refine LimIs.eq (impl_node.v_lim a0 a1) ?_
  simp only [impl_node.f]
  repeat' (with_reducible first | exact impl_hash.v_lim _ | exact LimIs.const _ | refine LimIs.ite ?_ ?_ | refine LimIs.bind ?_ (fun _ => ?_))
mutual
def impl_KeySignature_leads.l0 : Nat → ByteArray → List Int → Int → Int → Int → List ByteArray → List ByteArray → List ByteArray → Option (ByteArray)
  | 0, _, _, _, _, _, _, _, _ => none
  | k + 1, x5, x14, x15, x16, x428000, x428001, x428002, x428003 => if x16 < x15 then (if 0 ≤ x16 then (if x16 < (x14.length : Int) then (if (rd x14 x16) = 48 then (if x16 < (x428001.length : Int) then ((impl_hash.f k (rdOf ByteArray.empty x428001 x16)).bind fun t434 => (if x16 < (x428002.length : Int) then (if t434.size + (rdOf ByteArray.empty x428002 x16).size ≤ 9223372036854775807 then (if x5.size + (t434 ++ (rdOf ByteArray.empty x428002 x16)).size ≤ 9223372036854775807 then (impl_KeySignature_leads.l0 k (x5 ++ (t434 ++ (rdOf ByteArray.empty x428002 x16))) x14 x15 (wrap64 (x16 + 1)) x428000 x428001 x428002 x428003) else (none)) else (none)) else (none))) else (none)) else (if x16 < (x428002.length : Int) then (if x16 < (x428001.length : Int) then ((impl_hash.f k (rdOf ByteArray.empty x428001 x16)).bind fun t438 => (if (rdOf ByteArray.empty x428002 x16).size + t438.size ≤ 9223372036854775807 then (if x5.size + ((rdOf ByteArray.empty x428002 x16) ++ t438).size ≤ 9223372036854775807 then (impl_KeySignature_leads.l0 k (x5 ++ ((rdOf ByteArray.empty x428002 x16) ++ t438)) x14 x15 (wrap64 (x16 + 1)) x428000 x428001 x428002 x428003) else (none)) else (none))) else (none)) else (none))) else (none)) else (none)) else ((impl_hash.f k x5).bind fun t439 => (impl_KeySignature_leads.l1 k t439 x428000 x428003 (x428003.length : Int) 0))
def impl_KeySignature_leads.l1 : Nat → ByteArray → Int → List ByteArray → Int → Int → Option (ByteArray)
  | 0, _, _, _, _, _ => none
  | k + 1, x8, x9, x57, x58, x59 => if x59 < x58 then (if 0 ≤ x59 then (if x59 < (x57.length : Int) then (if (Int.tmod x9 2) = 0 then ((impl_node.f k x8 (rdOf ByteArray.empty x57 x59)).bind fun t441 => (impl_KeySignature_leads.l1 k t441 (wrap64 (Int.tdiv x9 2)) x57 x58 (wrap64 (x59 + 1)))) else ((impl_node.f k (rdOf ByteArray.empty x57 x59) x8).bind fun t442 => (impl_KeySignature_leads.l1 k t442 (wrap64 (Int.tdiv x9 2)) x57 x58 (wrap64 (x59 + 1))))) else (none)) else (none)) else (some x8)
end
def impl_KeySignature_leads.f (k : Nat) (a0_0 : Int) (l0_1 : List ByteArray) (l0_2 : List ByteArray) (l0_3 : List ByteArray) (a1 : ByteArray) : Option (ByteArray) := (impl_messageBits.f k a1).bind fun t428 => (if t428.size ≤ 140737488355328 then ((some (bytesOf t428 : List Int)).bind fun y429 => (impl_KeySignature_leads.l0 k (⟨#[107, 101, 121]⟩ : ByteArray) y429 (y429.length : Int) 0 a0_0 l0_1 l0_2 l0_3)) else (none))
theorem impl_KeySignature_leads.mono_l : ∀ k, (∀ y0 y1 y2 y3 y4 y5 y6 y7, LeO (impl_KeySignature_leads.l0 k y0 y1 y2 y3 y4 y5 y6 y7) (impl_KeySignature_leads.l0 (k + 1) y0 y1 y2 y3 y4 y5 y6 y7)) ∧ (∀ y0 y1 y2 y3 y4, LeO (impl_KeySignature_leads.l1 k y0 y1 y2 y3 y4) (impl_KeySignature_leads.l1 (k + 1) y0 y1 y2 y3 y4))
  | 0 => ⟨fun _ _ _ _ _ _ _ _ r h => by simp [impl_KeySignature_leads.l0] at h, fun _ _ _ _ _ r h => by simp [impl_KeySignature_leads.l1] at h⟩
  | k + 1 => by
    obtain ⟨ih0, ih1⟩ := impl_KeySignature_leads.mono_l k
    refine ⟨?_, ?_⟩
    · intro y0 y1 y2 y3 y4 y5 y6 y7
      unfold impl_KeySignature_leads.l0
      repeat' first
      | (with_reducible exact ih0 _ _ _ _ _ _ _ _)
      | (with_reducible exact ih1 _ _ _ _ _)
      | (with_reducible exact impl_hash.mono _ _)
      | (with_reducible exact impl_messageBits.mono _ _)
      | (with_reducible exact impl_node.mono _ _ _)
      | (with_reducible exact LeO.refl _)
      | (with_reducible exact LeO.none _)
      | (with_reducible refine LeO.ite ?_ ?_)
      | (with_reducible refine LeO.bind ?_ (fun _ => ?_))
      | exact ih0 _ _ _ _ _ _ _ _
      | exact ih1 _ _ _ _ _
      | exact impl_hash.mono _ _
      | exact impl_messageBits.mono _ _
      | exact impl_node.mono _ _ _
      | exact LeO.none _
      | refine LeO.ite ?_ ?_
      | refine LeO.bind ?_ (fun _ => ?_)
    · intro y0 y1 y2 y3 y4
      unfold impl_KeySignature_leads.l1
      repeat' first
      | (with_reducible exact ih0 _ _ _ _ _ _ _ _)
      | (with_reducible exact ih1 _ _ _ _ _)
      | (with_reducible exact impl_hash.mono _ _)
      | (with_reducible exact impl_messageBits.mono _ _)
      | (with_reducible exact impl_node.mono _ _ _)
      | (with_reducible exact LeO.refl _)
      | (with_reducible exact LeO.none _)
      | (with_reducible refine LeO.ite ?_ ?_)
      | (with_reducible refine LeO.bind ?_ (fun _ => ?_))
      | exact ih0 _ _ _ _ _ _ _ _
      | exact ih1 _ _ _ _ _
      | exact impl_hash.mono _ _
      | exact impl_messageBits.mono _ _
      | exact impl_node.mono _ _ _
      | exact LeO.none _
      | refine LeO.ite ?_ ?_
      | refine LeO.bind ?_ (fun _ => ?_)
theorem impl_KeySignature_leads.mono : ∀ a0 a1 a2 a3 a4 k, LeO (impl_KeySignature_leads.f k a0 a1 a2 a3 a4) (impl_KeySignature_leads.f (k + 1) a0 a1 a2 a3 a4) := by
  intro a0 a1 a2 a3 a4 k
  obtain ⟨ih0, ih1⟩ := impl_KeySignature_leads.mono_l k
  unfold impl_KeySignature_leads.f
  repeat' first
      | (with_reducible exact ih0 _ _ _ _ _ _ _ _)
      | (with_reducible exact ih1 _ _ _ _ _)
      | (with_reducible exact impl_hash.mono _ _)
      | (with_reducible exact impl_messageBits.mono _ _)
      | (with_reducible exact impl_node.mono _ _ _)
      | (with_reducible exact LeO.refl _)
      | (with_reducible exact LeO.none _)
      | (with_reducible refine LeO.ite ?_ ?_)
      | (with_reducible refine LeO.bind ?_ (fun _ => ?_))
      | exact ih0 _ _ _ _ _ _ _ _
      | exact ih1 _ _ _ _ _
      | exact impl_hash.mono _ _
      | exact impl_messageBits.mono _ _
      | exact impl_node.mono _ _ _
      | exact LeO.none _
      | refine LeO.ite ?_ ?_
      | refine LeO.bind ?_ (fun _ => ?_)
noncomputable def impl_KeySignature_leads.lv0 (x5 : ByteArray) (x14 : List Int) (x15 : Int) (x16 : Int) (x428000 : Int) (x428001 : List ByteArray) (x428002 : List ByteArray) (x428003 : List ByteArray) : Option (ByteArray) := lim (fun k_ => impl_KeySignature_leads.l0 k_ x5 x14 x15 x16 x428000 x428001 x428002 x428003)
noncomputable def impl_KeySignature_leads.lv1 (x8 : ByteArray) (x9 : Int) (x57 : List ByteArray) (x58 : Int) (x59 : Int) : Option (ByteArray) := lim (fun k_ => impl_KeySignature_leads.l1 k_ x8 x9 x57 x58 x59)
noncomputable def impl_KeySignature_leads.v (a0_0 : Int) (l0_1 : List ByteArray) (l0_2 : List ByteArray) (l0_3 : List ByteArray) (a1 : ByteArray) : Option (ByteArray) := lim (fun k_ => impl_KeySignature_leads.f k_ a0_0 l0_1 l0_2 l0_3 a1)
theorem impl_KeySignature_leads.lv0_lim (x5 : ByteArray) (x14 : List Int) (x15 : Int) (x16 : Int) (x428000 : Int) (x428001 : List ByteArray) (x428002 : List ByteArray) (x428003 : List ByteArray) : LimIs (fun k_ => impl_KeySignature_leads.l0 k_ x5 x14 x15 x16 x428000 x428001 x428002 x428003) (impl_KeySignature_leads.lv0 x5 x14 x15 x16 x428000 x428001 x428002 x428003) := lim_is (fun k_ => (impl_KeySignature_leads.mono_l k_).1 x5 x14 x15 x16 x428000 x428001 x428002 x428003)
theorem impl_KeySignature_leads.lv1_lim (x8 : ByteArray) (x9 : Int) (x57 : List ByteArray) (x58 : Int) (x59 : Int) : LimIs (fun k_ => impl_KeySignature_leads.l1 k_ x8 x9 x57 x58 x59) (impl_KeySignature_leads.lv1 x8 x9 x57 x58 x59) := lim_is (fun k_ => (impl_KeySignature_leads.mono_l k_).2 x8 x9 x57 x58 x59)
theorem impl_KeySignature_leads.v_lim (a0_0 : Int) (l0_1 : List ByteArray) (l0_2 : List ByteArray) (l0_3 : List ByteArray) (a1 : ByteArray) : LimIs (fun k_ => impl_KeySignature_leads.f k_ a0_0 l0_1 l0_2 l0_3 a1) (impl_KeySignature_leads.v a0_0 l0_1 l0_2 l0_3 a1) := lim_is (fun k_ => impl_KeySignature_leads.mono a0_0 l0_1 l0_2 l0_3 a1 k_)
theorem impl_KeySignature_leads.lv0_eq (x5 : ByteArray) (x14 : List Int) (x15 : Int) (x16 : Int) (x428000 : Int) (x428001 : List ByteArray) (x428002 : List ByteArray) (x428003 : List ByteArray) : impl_KeySignature_leads.lv0 x5 x14 x15 x16 x428000 x428001 x428002 x428003 = (if x16 < x15 then (if 0 ≤ x16 then (if x16 < (x14.length : Int) then (if (rd x14 x16) = 48 then (if x16 < (x428001.length : Int) then ((impl_hash.v (rdOf ByteArray.empty x428001 x16)).bind fun t434 => (if x16 < (x428002.length : Int) then (if t434.size + (rdOf ByteArray.empty x428002 x16).size ≤ 9223372036854775807 then (if x5.size + (t434 ++ (rdOf ByteArray.empty x428002 x16)).size ≤ 9223372036854775807 then (impl_KeySignature_leads.lv0 (x5 ++ (t434 ++ (rdOf ByteArray.empty x428002 x16))) x14 x15 (wrap64 (x16 + 1)) x428000 x428001 x428002 x428003) else (none)) else (none)) else (none))) else (none)) else (if x16 < (x428002.length : Int) then (if x16 < (x428001.length : Int) then ((impl_hash.v (rdOf ByteArray.empty x428001 x16)).bind fun t438 => (if (rdOf ByteArray.empty x428002 x16).size + t438.size ≤ 9223372036854775807 then (if x5.size + ((rdOf ByteArray.empty x428002 x16) ++ t438).size ≤ 9223372036854775807 then (impl_KeySignature_leads.lv0 (x5 ++ ((rdOf ByteArray.empty x428002 x16) ++ t438)) x14 x15 (wrap64 (x16 + 1)) x428000 x428001 x428002 x428003) else (none)) else (none))) else (none)) else (none))) else (none)) else (none)) else ((impl_hash.v x5).bind fun t439 => (impl_KeySignature_leads.lv1 t439 x428000 x428003 (x428003.length : Int) 0)) : Option (ByteArray)) := by
  refine LimIs.eq (impl_KeySignature_leads.lv0_lim x5 x14 x15 x16 x428000 x428001 x428002 x428003) ?_
  refine LimIs.step (fun k_ => (impl_KeySignature_leads.mono_l k_).1 x5 x14 x15 x16 x428000 x428001 x428002 x428003) ?_
  simp only [impl_KeySignature_leads.l0]
  repeat' (with_reducible first | exact impl_KeySignature_leads.lv0_lim _ _ _ _ _ _ _ _ | exact impl_KeySignature_leads.lv1_lim _ _ _ _ _ | exact impl_hash.v_lim _ | exact LimIs.const _ | refine LimIs.ite ?_ ?_ | refine LimIs.bind ?_ (fun _ => ?_))
theorem impl_KeySignature_leads.lv1_eq (x8 : ByteArray) (x9 : Int) (x57 : List ByteArray) (x58 : Int) (x59 : Int) : impl_KeySignature_leads.lv1 x8 x9 x57 x58 x59 = (if x59 < x58 then (if 0 ≤ x59 then (if x59 < (x57.length : Int) then (if (Int.tmod x9 2) = 0 then ((impl_node.v x8 (rdOf ByteArray.empty x57 x59)).bind fun t441 => (impl_KeySignature_leads.lv1 t441 (wrap64 (Int.tdiv x9 2)) x57 x58 (wrap64 (x59 + 1)))) else ((impl_node.v (rdOf ByteArray.empty x57 x59) x8).bind fun t442 => (impl_KeySignature_leads.lv1 t442 (wrap64 (Int.tdiv x9 2)) x57 x58 (wrap64 (x59 + 1))))) else (none)) else (none)) else (some x8) : Option (ByteArray)) := by
  refine LimIs.eq (impl_KeySignature_leads.lv1_lim x8 x9 x57 x58 x59) ?_
  refine LimIs.step (fun k_ => (impl_KeySignature_leads.mono_l k_).2 x8 x9 x57 x58 x59) ?_
  simp only [impl_KeySignature_leads.l1]
  repeat' (with_reducible first | exact impl_KeySignature_leads.lv1_lim _ _ _ _ _ | exact impl_node.v_lim _ _ | exact LimIs.const _ | refine LimIs.ite ?_ ?_ | refine LimIs.bind ?_ (fun _ => ?_))
theorem impl_KeySignature_leads.v_eq (a0_0 : Int) (l0_1 : List ByteArray) (l0_2 : List ByteArray) (l0_3 : List ByteArray) (a1 : ByteArray) : impl_KeySignature_leads.v a0_0 l0_1 l0_2 l0_3 a1 = ((impl_messageBits.v a1).bind fun t428 => (if t428.size ≤ 140737488355328 then ((some (bytesOf t428 : List Int)).bind fun y429 => (impl_KeySignature_leads.lv0 (⟨#[107, 101, 121]⟩ : ByteArray) y429 (y429.length : Int) 0 a0_0 l0_1 l0_2 l0_3)) else (none)) : Option (ByteArray)) := by
  refine LimIs.eq (impl_KeySignature_leads.v_lim a0_0 l0_1 l0_2 l0_3 a1) ?_
  simp only [impl_KeySignature_leads.f]
  repeat' (with_reducible first | exact impl_KeySignature_leads.lv0_lim _ _ _ _ _ _ _ _ | exact impl_messageBits.v_lim _ | exact LimIs.const _ | refine LimIs.ite ?_ ?_ | refine LimIs.bind ?_ (fun _ => ?_))
mutual
def impl_CheckSignature.j0 : Nat → ByteArray → ByteArray → Bool → Int → List ByteArray → List ByteArray → List ByteArray → Option (Int)
  | 0, _, _, _, _, _, _, _ => none
  | k + 1, x0, x1, x7, x444000, x444001, x444002, x444003 => if x7 = true then (some 2) else ((impl_isHash.f x0).bind fun t448 => (if t448 = true then ((impl_areHashes.f x444001 32).bind fun t449 => (if t449 = true then ((impl_areHashes.f x444002 32).bind fun t450 => (if t450 = true then ((impl_areHashes.f x444003 3).bind fun t451 => (impl_CheckSignature.j1 k x0 x1 (!t451) x444000 x444001 x444002 x444003)) else (impl_CheckSignature.j1 k x0 x1 true x444000 x444001 x444002 x444003))) else (impl_CheckSignature.j1 k x0 x1 true x444000 x444001 x444002 x444003))) else (impl_CheckSignature.j1 k x0 x1 true x444000 x444001 x444002 x444003)))
def impl_CheckSignature.j1 : Nat → ByteArray → ByteArray → Bool → Int → List ByteArray → List ByteArray → List ByteArray → Option (Int)
  | 0, _, _, _, _, _, _, _ => none
  | k + 1, x0, x1, x16, x444000, x444001, x444002, x444003 => if x16 = true then (some 1) else ((impl_isIndex.f x444000).bind fun t452 => (if t452 = true then ((impl_KeySignature_leads.f k x444000 x444001 x444002 x444003 x1).bind fun t453 => (if t453.toList = x0.toList then (some 0) else (some 12))) else (some 4)))
end
def impl_CheckSignature.f (k : Nat) (a0 : ByteArray) (a1 : ByteArray) (a2_0 : Int) (l2_1 : List ByteArray) (l2_2 : List ByteArray) (l2_3 : List ByteArray) : Option (Int) := (impl_areLong.f (([a0] : List ByteArray))).bind fun t447 => (if t447 = true then (impl_CheckSignature.j0 k a0 a1 true a2_0 l2_1 l2_2 l2_3) else (impl_CheckSignature.j0 k a0 a1 (decide ((a1.size : Int) > 65530)) a2_0 l2_1 l2_2 l2_3))
theorem impl_CheckSignature.mono_l : ∀ k, (∀ y0 y1 y2 y3 y4 y5 y6, LeO (impl_CheckSignature.j0 k y0 y1 y2 y3 y4 y5 y6) (impl_CheckSignature.j0 (k + 1) y0 y1 y2 y3 y4 y5 y6)) ∧ (∀ y0 y1 y2 y3 y4 y5 y6, LeO (impl_CheckSignature.j1 k y0 y1 y2 y3 y4 y5 y6) (impl_CheckSignature.j1 (k + 1) y0 y1 y2 y3 y4 y5 y6))
  | 0 => ⟨fun _ _ _ _ _ _ _ r h => by simp [impl_CheckSignature.j0] at h, fun _ _ _ _ _ _ _ r h => by simp [impl_CheckSignature.j1] at h⟩
  | k + 1 => by
    obtain ⟨ih0, ih1⟩ := impl_CheckSignature.mono_l k
    refine ⟨?_, ?_⟩
    · intro y0 y1 y2 y3 y4 y5 y6
      unfold impl_CheckSignature.j0
      repeat' first
      | (with_reducible exact ih0 _ _ _ _ _ _ _)
      | (with_reducible exact ih1 _ _ _ _ _ _ _)
      | (with_reducible exact impl_KeySignature_leads.mono _ _ _ _ _ _)
      | (with_reducible exact LeO.refl _)
      | (with_reducible exact LeO.none _)
      | (with_reducible refine LeO.ite ?_ ?_)
      | (with_reducible refine LeO.bind ?_ (fun _ => ?_))
      | exact ih0 _ _ _ _ _ _ _
      | exact ih1 _ _ _ _ _ _ _
      | exact impl_KeySignature_leads.mono _ _ _ _ _ _
      | exact LeO.none _
      | refine LeO.ite ?_ ?_
      | refine LeO.bind ?_ (fun _ => ?_)
    · intro y0 y1 y2 y3 y4 y5 y6
      unfold impl_CheckSignature.j1
      repeat' first
      | (with_reducible exact ih0 _ _ _ _ _ _ _)
      | (with_reducible exact ih1 _ _ _ _ _ _ _)
      | (with_reducible exact impl_KeySignature_leads.mono _ _ _ _ _ _)
      | (with_reducible exact LeO.refl _)
      | (with_reducible exact LeO.none _)
      | (with_reducible refine LeO.ite ?_ ?_)
      | (with_reducible refine LeO.bind ?_ (fun _ => ?_))
      | exact ih0 _ _ _ _ _ _ _
      | exact ih1 _ _ _ _ _ _ _
      | exact impl_KeySignature_leads.mono _ _ _ _ _ _
      | exact LeO.none _
      | refine LeO.ite ?_ ?_
      | refine LeO.bind ?_ (fun _ => ?_)
theorem impl_CheckSignature.mono : ∀ a0 a1 a2 a3 a4 a5 k, LeO (impl_CheckSignature.f k a0 a1 a2 a3 a4 a5) (impl_CheckSignature.f (k + 1) a0 a1 a2 a3 a4 a5) := by
  intro a0 a1 a2 a3 a4 a5 k
  obtain ⟨ih0, ih1⟩ := impl_CheckSignature.mono_l k
  unfold impl_CheckSignature.f
  repeat' first
      | (with_reducible exact ih0 _ _ _ _ _ _ _)
      | (with_reducible exact ih1 _ _ _ _ _ _ _)
      | (with_reducible exact impl_KeySignature_leads.mono _ _ _ _ _ _)
      | (with_reducible exact LeO.refl _)
      | (with_reducible exact LeO.none _)
      | (with_reducible refine LeO.ite ?_ ?_)
      | (with_reducible refine LeO.bind ?_ (fun _ => ?_))
      | exact ih0 _ _ _ _ _ _ _
      | exact ih1 _ _ _ _ _ _ _
      | exact impl_KeySignature_leads.mono _ _ _ _ _ _
      | exact LeO.none _
      | refine LeO.ite ?_ ?_
      | refine LeO.bind ?_ (fun _ => ?_)
noncomputable def impl_CheckSignature.jv0 (x0 : ByteArray) (x1 : ByteArray) (x7 : Bool) (x444000 : Int) (x444001 : List ByteArray) (x444002 : List ByteArray) (x444003 : List ByteArray) : Option (Int) := lim (fun k_ => impl_CheckSignature.j0 k_ x0 x1 x7 x444000 x444001 x444002 x444003)
noncomputable def impl_CheckSignature.jv1 (x0 : ByteArray) (x1 : ByteArray) (x16 : Bool) (x444000 : Int) (x444001 : List ByteArray) (x444002 : List ByteArray) (x444003 : List ByteArray) : Option (Int) := lim (fun k_ => impl_CheckSignature.j1 k_ x0 x1 x16 x444000 x444001 x444002 x444003)
noncomputable def impl_CheckSignature.v (a0 : ByteArray) (a1 : ByteArray) (a2_0 : Int) (l2_1 : List ByteArray) (l2_2 : List ByteArray) (l2_3 : List ByteArray) : Option (Int) := lim (fun k_ => impl_CheckSignature.f k_ a0 a1 a2_0 l2_1 l2_2 l2_3)
theorem impl_CheckSignature.jv0_lim (x0 : ByteArray) (x1 : ByteArray) (x7 : Bool) (x444000 : Int) (x444001 : List ByteArray) (x444002 : List ByteArray) (x444003 : List ByteArray) : LimIs (fun k_ => impl_CheckSignature.j0 k_ x0 x1 x7 x444000 x444001 x444002 x444003) (impl_CheckSignature.jv0 x0 x1 x7 x444000 x444001 x444002 x444003) := lim_is (fun k_ => (impl_CheckSignature.mono_l k_).1 x0 x1 x7 x444000 x444001 x444002 x444003)
theorem impl_CheckSignature.jv1_lim (x0 : ByteArray) (x1 : ByteArray) (x16 : Bool) (x444000 : Int) (x444001 : List ByteArray) (x444002 : List ByteArray) (x444003 : List ByteArray) : LimIs (fun k_ => impl_CheckSignature.j1 k_ x0 x1 x16 x444000 x444001 x444002 x444003) (impl_CheckSignature.jv1 x0 x1 x16 x444000 x444001 x444002 x444003) := lim_is (fun k_ => (impl_CheckSignature.mono_l k_).2 x0 x1 x16 x444000 x444001 x444002 x444003)
theorem impl_CheckSignature.v_lim (a0 : ByteArray) (a1 : ByteArray) (a2_0 : Int) (l2_1 : List ByteArray) (l2_2 : List ByteArray) (l2_3 : List ByteArray) : LimIs (fun k_ => impl_CheckSignature.f k_ a0 a1 a2_0 l2_1 l2_2 l2_3) (impl_CheckSignature.v a0 a1 a2_0 l2_1 l2_2 l2_3) := lim_is (fun k_ => impl_CheckSignature.mono a0 a1 a2_0 l2_1 l2_2 l2_3 k_)
theorem impl_CheckSignature.jv0_eq (x0 : ByteArray) (x1 : ByteArray) (x7 : Bool) (x444000 : Int) (x444001 : List ByteArray) (x444002 : List ByteArray) (x444003 : List ByteArray) : impl_CheckSignature.jv0 x0 x1 x7 x444000 x444001 x444002 x444003 = (if x7 = true then (some 2) else ((impl_isHash.v x0).bind fun t448 => (if t448 = true then ((impl_areHashes.v x444001 32).bind fun t449 => (if t449 = true then ((impl_areHashes.v x444002 32).bind fun t450 => (if t450 = true then ((impl_areHashes.v x444003 3).bind fun t451 => (impl_CheckSignature.jv1 x0 x1 (!t451) x444000 x444001 x444002 x444003)) else (impl_CheckSignature.jv1 x0 x1 true x444000 x444001 x444002 x444003))) else (impl_CheckSignature.jv1 x0 x1 true x444000 x444001 x444002 x444003))) else (impl_CheckSignature.jv1 x0 x1 true x444000 x444001 x444002 x444003))) : Option (Int)) := by
  refine LimIs.eq (impl_CheckSignature.jv0_lim x0 x1 x7 x444000 x444001 x444002 x444003) ?_
  refine LimIs.step (fun k_ => (impl_CheckSignature.mono_l k_).1 x0 x1 x7 x444000 x444001 x444002 x444003) ?_
  simp only [impl_CheckSignature.j0]
  repeat' (with_reducible first | exact impl_CheckSignature.jv1_lim _ _ _ _ _ _ _ | exact impl_areHashes.v_lim _ _ | exact impl_isHash.v_lim _ | exact LimIs.const _ | refine LimIs.ite ?_ ?_ | refine LimIs.bind ?_ (fun _ => ?_))
theorem impl_CheckSignature.jv1_eq (x0 : ByteArray) (x1 : ByteArray) (x16 : Bool) (x444000 : Int) (x444001 : List ByteArray) (x444002 : List ByteArray) (x444003 : List ByteArray) : impl_CheckSignature.jv1 x0 x1 x16 x444000 x444001 x444002 x444003 = (if x16 = true then (some 1) else ((impl_isIndex.v x444000).bind fun t452 => (if t452 = true then ((impl_KeySignature_leads.v x444000 x444001 x444002 x444003 x1).bind fun t453 => (if t453.toList = x0.toList then (some 0) else (some 12))) else (some 4))) : Option (Int)) := by
  refine LimIs.eq (impl_CheckSignature.jv1_lim x0 x1 x16 x444000 x444001 x444002 x444003) ?_
  refine LimIs.step (fun k_ => (impl_CheckSignature.mono_l k_).2 x0 x1 x16 x444000 x444001 x444002 x444003) ?_
  simp only [impl_CheckSignature.j1]
  repeat' (with_reducible first | exact impl_KeySignature_leads.v_lim _ _ _ _ _ | exact impl_isIndex.v_lim _ | exact LimIs.const _ | refine LimIs.ite ?_ ?_ | refine LimIs.bind ?_ (fun _ => ?_))
theorem impl_CheckSignature.v_eq (a0 : ByteArray) (a1 : ByteArray) (a2_0 : Int) (l2_1 : List ByteArray) (l2_2 : List ByteArray) (l2_3 : List ByteArray) : impl_CheckSignature.v a0 a1 a2_0 l2_1 l2_2 l2_3 = ((impl_areLong.v (([a0] : List ByteArray))).bind fun t447 => (if t447 = true then (impl_CheckSignature.jv0 a0 a1 true a2_0 l2_1 l2_2 l2_3) else (impl_CheckSignature.jv0 a0 a1 (decide ((a1.size : Int) > 65530)) a2_0 l2_1 l2_2 l2_3)) : Option (Int)) := by
  refine LimIs.eq (impl_CheckSignature.v_lim a0 a1 a2_0 l2_1 l2_2 l2_3) ?_
  simp only [impl_CheckSignature.f]
  repeat' (with_reducible first | exact impl_CheckSignature.jv0_lim _ _ _ _ _ _ _ | exact impl_areLong.v_lim _ | exact LimIs.const _ | refine LimIs.ite ?_ ?_ | refine LimIs.bind ?_ (fun _ => ?_))
def impl_secret.f (k : Nat) (a0 : ByteArray) (a1 : Int) (a2 : Int) (a3 : Int) : Option (ByteArray) := if 6 + a0.size ≤ 9223372036854775807 then ((impl_number.f k a1 1).bind fun t454 => (if ((⟨#[115, 101, 99, 114, 101, 116]⟩ : ByteArray) ++ a0).size + t454.size ≤ 9223372036854775807 then ((impl_number.f k a2 1).bind fun t455 => (if (((⟨#[115, 101, 99, 114, 101, 116]⟩ : ByteArray) ++ a0) ++ t454).size + t455.size ≤ 9223372036854775807 then ((impl_number.f k a3 1).bind fun t456 => (if ((((⟨#[115, 101, 99, 114, 101, 116]⟩ : ByteArray) ++ a0) ++ t454) ++ t455).size + t456.size ≤ 9223372036854775807 then ((impl_hash.f k (((((⟨#[115, 101, 99, 114, 101, 116]⟩ : ByteArray) ++ a0) ++ t454) ++ t455) ++ t456)).bind fun t457 => (some t457)) else (none))) else (none))) else (none))) else (none)
theorem impl_secret.mono : ∀ a0 a1 a2 a3 k, LeO (impl_secret.f k a0 a1 a2 a3) (impl_secret.f (k + 1) a0 a1 a2 a3) := by
  intro a0 a1 a2 a3 k
  unfold impl_secret.f
  repeat' first
      | (with_reducible exact impl_hash.mono _ _)
      | (with_reducible exact impl_number.mono _ _ _)
      | (with_reducible exact LeO.refl _)
      | (with_reducible exact LeO.none _)
      | (with_reducible refine LeO.ite ?_ ?_)
      | (with_reducible refine LeO.bind ?_ (fun _ => ?_))
      | exact impl_hash.mono _ _
      | exact impl_number.mono _ _ _
      | exact LeO.none _
      | refine LeO.ite ?_ ?_
      | refine LeO.bind ?_ (fun _ => ?_)
noncomputable def impl_secret.v (a0 : ByteArray) (a1 : Int) (a2 : Int) (a3 : Int) : Option (ByteArray) := lim (fun k_ => impl_secret.f k_ a0 a1 a2 a3)
theorem impl_secret.v_lim (a0 : ByteArray) (a1 : Int) (a2 : Int) (a3 : Int) : LimIs (fun k_ => impl_secret.f k_ a0 a1 a2 a3) (impl_secret.v a0 a1 a2 a3) := lim_is (fun k_ => impl_secret.mono a0 a1 a2 a3 k_)
theorem impl_secret.v_eq (a0 : ByteArray) (a1 : Int) (a2 : Int) (a3 : Int) : impl_secret.v a0 a1 a2 a3 = (if 6 + a0.size ≤ 9223372036854775807 then ((impl_number.v a1 1).bind fun t454 => (if ((⟨#[115, 101, 99, 114, 101, 116]⟩ : ByteArray) ++ a0).size + t454.size ≤ 9223372036854775807 then ((impl_number.v a2 1).bind fun t455 => (if (((⟨#[115, 101, 99, 114, 101, 116]⟩ : ByteArray) ++ a0) ++ t454).size + t455.size ≤ 9223372036854775807 then ((impl_number.v a3 1).bind fun t456 => (if ((((⟨#[115, 101, 99, 114, 101, 116]⟩ : ByteArray) ++ a0) ++ t454) ++ t455).size + t456.size ≤ 9223372036854775807 then ((impl_hash.v (((((⟨#[115, 101, 99, 114, 101, 116]⟩ : ByteArray) ++ a0) ++ t454) ++ t455) ++ t456)).bind fun t457 => (some t457)) else (none))) else (none))) else (none))) else (none) : Option (ByteArray)) := by
  refine LimIs.eq (impl_secret.v_lim a0 a1 a2 a3) ?_
  simp only [impl_secret.f]
  repeat' (with_reducible first | exact impl_hash.v_lim _ | exact impl_number.v_lim _ _ | exact LimIs.const _ | refine LimIs.ite ?_ ?_ | refine LimIs.bind ?_ (fun _ => ?_))
def impl_oneTimeKey.l0 : Nat → ByteArray → Int → ByteArray → Int → Option (ByteArray)
  | 0, _, _, _, _ => none
  | k + 1, x0, x1, x5, x7 => if x7 < 32 then ((impl_secret.f k x0 x1 x7 0).bind fun t459 => ((impl_hash.f k t459).bind fun t460 => ((impl_secret.f k x0 x1 x7 1).bind fun t461 => ((impl_hash.f k t461).bind fun t462 => (if t460.size + t462.size ≤ 9223372036854775807 then (if x5.size + (t460 ++ t462).size ≤ 9223372036854775807 then (impl_oneTimeKey.l0 k x0 x1 (x5 ++ (t460 ++ t462)) (wrap64 (x7 + 1))) else (none)) else (none)))))) else ((impl_hash.f k x5).bind fun t458 => (some t458))
def impl_oneTimeKey.f (k : Nat) (a0 : ByteArray) (a1 : Int) : Option (ByteArray) := impl_oneTimeKey.l0 k a0 a1 (⟨#[107, 101, 121]⟩ : ByteArray) 0
theorem impl_oneTimeKey.mono_l : ∀ k, (∀ y0 y1 y2 y3, LeO (impl_oneTimeKey.l0 k y0 y1 y2 y3) (impl_oneTimeKey.l0 (k + 1) y0 y1 y2 y3))
  | 0 => fun _ _ _ _ r h => by simp [impl_oneTimeKey.l0] at h
  | k + 1 => by
    have ih0 := impl_oneTimeKey.mono_l k
    · intro y0 y1 y2 y3
      unfold impl_oneTimeKey.l0
      repeat' first
      | (with_reducible exact ih0 _ _ _ _)
      | (with_reducible exact impl_hash.mono _ _)
      | (with_reducible exact impl_secret.mono _ _ _ _ _)
      | (with_reducible exact LeO.refl _)
      | (with_reducible exact LeO.none _)
      | (with_reducible refine LeO.ite ?_ ?_)
      | (with_reducible refine LeO.bind ?_ (fun _ => ?_))
      | exact ih0 _ _ _ _
      | exact impl_hash.mono _ _
      | exact impl_secret.mono _ _ _ _ _
      | exact LeO.none _
      | refine LeO.ite ?_ ?_
      | refine LeO.bind ?_ (fun _ => ?_)
theorem impl_oneTimeKey.mono : ∀ a0 a1 k, LeO (impl_oneTimeKey.f k a0 a1) (impl_oneTimeKey.f (k + 1) a0 a1) := by
  intro a0 a1 k
  have ih0 := impl_oneTimeKey.mono_l k
  unfold impl_oneTimeKey.f
  repeat' first
      | (with_reducible exact ih0 _ _ _ _)
      | (with_reducible exact impl_hash.mono _ _)
      | (with_reducible exact impl_secret.mono _ _ _ _ _)
      | (with_reducible exact LeO.refl _)
      | (with_reducible exact LeO.none _)
      | (with_reducible refine LeO.ite ?_ ?_)
      | (with_reducible refine LeO.bind ?_ (fun _ => ?_))
      | exact ih0 _ _ _ _
      | exact impl_hash.mono _ _
      | exact impl_secret.mono _ _ _ _ _
      | exact LeO.none _
      | refine LeO.ite ?_ ?_
      | refine LeO.bind ?_ (fun _ => ?_)
noncomputable def impl_oneTimeKey.lv0 (x0 : ByteArray) (x1 : Int) (x5 : ByteArray) (x7 : Int) : Option (ByteArray) := lim (fun k_ => impl_oneTimeKey.l0 k_ x0 x1 x5 x7)
noncomputable def impl_oneTimeKey.v (a0 : ByteArray) (a1 : Int) : Option (ByteArray) := lim (fun k_ => impl_oneTimeKey.f k_ a0 a1)
theorem impl_oneTimeKey.lv0_lim (x0 : ByteArray) (x1 : Int) (x5 : ByteArray) (x7 : Int) : LimIs (fun k_ => impl_oneTimeKey.l0 k_ x0 x1 x5 x7) (impl_oneTimeKey.lv0 x0 x1 x5 x7) := lim_is (fun k_ => (impl_oneTimeKey.mono_l k_) x0 x1 x5 x7)
theorem impl_oneTimeKey.v_lim (a0 : ByteArray) (a1 : Int) : LimIs (fun k_ => impl_oneTimeKey.f k_ a0 a1) (impl_oneTimeKey.v a0 a1) := lim_is (fun k_ => impl_oneTimeKey.mono a0 a1 k_)
theorem impl_oneTimeKey.lv0_eq (x0 : ByteArray) (x1 : Int) (x5 : ByteArray) (x7 : Int) : impl_oneTimeKey.lv0 x0 x1 x5 x7 = (if x7 < 32 then ((impl_secret.v x0 x1 x7 0).bind fun t459 => ((impl_hash.v t459).bind fun t460 => ((impl_secret.v x0 x1 x7 1).bind fun t461 => ((impl_hash.v t461).bind fun t462 => (if t460.size + t462.size ≤ 9223372036854775807 then (if x5.size + (t460 ++ t462).size ≤ 9223372036854775807 then (impl_oneTimeKey.lv0 x0 x1 (x5 ++ (t460 ++ t462)) (wrap64 (x7 + 1))) else (none)) else (none)))))) else ((impl_hash.v x5).bind fun t458 => (some t458)) : Option (ByteArray)) := by
  refine LimIs.eq (impl_oneTimeKey.lv0_lim x0 x1 x5 x7) ?_
  refine LimIs.step (fun k_ => (impl_oneTimeKey.mono_l k_) x0 x1 x5 x7) ?_
  simp only [impl_oneTimeKey.l0]
  repeat' (with_reducible first | exact impl_hash.v_lim _ | exact impl_oneTimeKey.lv0_lim _ _ _ _ | exact impl_secret.v_lim _ _ _ _ | exact LimIs.const _ | refine LimIs.ite ?_ ?_ | refine LimIs.bind ?_ (fun _ => ?_))
theorem impl_oneTimeKey.v_eq (a0 : ByteArray) (a1 : Int) : impl_oneTimeKey.v a0 a1 = (impl_oneTimeKey.lv0 a0 a1 (⟨#[107, 101, 121]⟩ : ByteArray) 0 : Option (ByteArray)) := by
  refine LimIs.eq (impl_oneTimeKey.v_lim a0 a1) ?_
  simp only [impl_oneTimeKey.f]
  repeat' (with_reducible first | exact impl_oneTimeKey.lv0_lim _ _ _ _ | exact LimIs.const _ | refine LimIs.ite ?_ ?_ | refine LimIs.bind ?_ (fun _ => ?_))
def impl_keys.l0 : Nat → ByteArray → List ByteArray → Int → Option (List ByteArray)
  | 0, _, _, _ => none
  | k + 1, x0, x3, x5 => if x5 < 8 then ((impl_oneTimeKey.f k x0 x5).bind fun t463 => (if x3.length < 8796093022208 then (impl_keys.l0 k x0 (x3 ++ [t463]) (wrap64 (x5 + 1))) else (none))) else (some x3)
def impl_keys.f (k : Nat) (a0 : ByteArray) : Option (List ByteArray) := impl_keys.l0 k a0 ([] : List ByteArray) 0
theorem impl_keys.mono_l : ∀ k, (∀ y0 y1 y2, LeO (impl_keys.l0 k y0 y1 y2) (impl_keys.l0 (k + 1) y0 y1 y2))
  | 0 => fun _ _ _ r h => by simp [impl_keys.l0] at h
  | k + 1 => by
    have ih0 := impl_keys.mono_l k
    · intro y0 y1 y2
      unfold impl_keys.l0
      repeat' first
      | (with_reducible exact ih0 _ _ _)
      | (with_reducible exact impl_oneTimeKey.mono _ _ _)
      | (with_reducible exact LeO.refl _)
      | (with_reducible exact LeO.none _)
      | (with_reducible refine LeO.ite ?_ ?_)
      | (with_reducible refine LeO.bind ?_ (fun _ => ?_))
      | exact ih0 _ _ _
      | exact impl_oneTimeKey.mono _ _ _
      | exact LeO.none _
      | refine LeO.ite ?_ ?_
      | refine LeO.bind ?_ (fun _ => ?_)
theorem impl_keys.mono : ∀ a0 k, LeO (impl_keys.f k a0) (impl_keys.f (k + 1) a0) := by
  intro a0 k
  have ih0 := impl_keys.mono_l k
  unfold impl_keys.f
  repeat' first
      | (with_reducible exact ih0 _ _ _)
      | (with_reducible exact impl_oneTimeKey.mono _ _ _)
      | (with_reducible exact LeO.refl _)
      | (with_reducible exact LeO.none _)
      | (with_reducible refine LeO.ite ?_ ?_)
      | (with_reducible refine LeO.bind ?_ (fun _ => ?_))
      | exact ih0 _ _ _
      | exact impl_oneTimeKey.mono _ _ _
      | exact LeO.none _
      | refine LeO.ite ?_ ?_
      | refine LeO.bind ?_ (fun _ => ?_)
noncomputable def impl_keys.lv0 (x0 : ByteArray) (x3 : List ByteArray) (x5 : Int) : Option (List ByteArray) := lim (fun k_ => impl_keys.l0 k_ x0 x3 x5)
noncomputable def impl_keys.v (a0 : ByteArray) : Option (List ByteArray) := lim (fun k_ => impl_keys.f k_ a0)
theorem impl_keys.lv0_lim (x0 : ByteArray) (x3 : List ByteArray) (x5 : Int) : LimIs (fun k_ => impl_keys.l0 k_ x0 x3 x5) (impl_keys.lv0 x0 x3 x5) := lim_is (fun k_ => (impl_keys.mono_l k_) x0 x3 x5)
theorem impl_keys.v_lim (a0 : ByteArray) : LimIs (fun k_ => impl_keys.f k_ a0) (impl_keys.v a0) := lim_is (fun k_ => impl_keys.mono a0 k_)
theorem impl_keys.lv0_eq (x0 : ByteArray) (x3 : List ByteArray) (x5 : Int) : impl_keys.lv0 x0 x3 x5 = (if x5 < 8 then ((impl_oneTimeKey.v x0 x5).bind fun t463 => (if x3.length < 8796093022208 then (impl_keys.lv0 x0 (x3 ++ [t463]) (wrap64 (x5 + 1))) else (none))) else (some x3) : Option (List ByteArray)) := by
  refine LimIs.eq (impl_keys.lv0_lim x0 x3 x5) ?_
  refine LimIs.step (fun k_ => (impl_keys.mono_l k_) x0 x3 x5) ?_
  simp only [impl_keys.l0]
  repeat' (with_reducible first | exact impl_keys.lv0_lim _ _ _ | exact impl_oneTimeKey.v_lim _ _ | exact LimIs.const _ | refine LimIs.ite ?_ ?_ | refine LimIs.bind ?_ (fun _ => ?_))
theorem impl_keys.v_eq (a0 : ByteArray) : impl_keys.v a0 = (impl_keys.lv0 a0 ([] : List ByteArray) 0 : Option (List ByteArray)) := by
  refine LimIs.eq (impl_keys.v_lim a0) ?_
  simp only [impl_keys.f]
  repeat' (with_reducible first | exact impl_keys.lv0_lim _ _ _ | exact LimIs.const _ | refine LimIs.ite ?_ ?_ | refine LimIs.bind ?_ (fun _ => ?_))
def impl_above.l0 : Nat → List ByteArray → List ByteArray → Int → Option (List ByteArray)
  | 0, _, _, _ => none
  | k + 1, x0, x3, x4 => if x4 < (x0.length : Int) then (if 0 ≤ x4 then (if 0 ≤ (wrap64 (x4 + 1)) then (if (wrap64 (x4 + 1)) < (x0.length : Int) then ((impl_node.f k (rdOf ByteArray.empty x0 x4) (rdOf ByteArray.empty x0 (wrap64 (x4 + 1)))).bind fun t469 => (if x3.length < 8796093022208 then (impl_above.l0 k x0 (x3 ++ [t469]) (wrap64 (x4 + 2))) else (none))) else (none)) else (none)) else (none)) else (some x3)
def impl_above.f (k : Nat) (l0 : List ByteArray) : Option (List ByteArray) := impl_above.l0 k l0 ([] : List ByteArray) 0
theorem impl_above.mono_l : ∀ k, (∀ y0 y1 y2, LeO (impl_above.l0 k y0 y1 y2) (impl_above.l0 (k + 1) y0 y1 y2))
  | 0 => fun _ _ _ r h => by simp [impl_above.l0] at h
  | k + 1 => by
    have ih0 := impl_above.mono_l k
    · intro y0 y1 y2
      unfold impl_above.l0
      repeat' first
      | (with_reducible exact ih0 _ _ _)
      | (with_reducible exact impl_node.mono _ _ _)
      | (with_reducible exact LeO.refl _)
      | (with_reducible exact LeO.none _)
      | (with_reducible refine LeO.ite ?_ ?_)
      | (with_reducible refine LeO.bind ?_ (fun _ => ?_))
      | exact ih0 _ _ _
      | exact impl_node.mono _ _ _
      | exact LeO.none _
      | refine LeO.ite ?_ ?_
      | refine LeO.bind ?_ (fun _ => ?_)
theorem impl_above.mono : ∀ a0 k, LeO (impl_above.f k a0) (impl_above.f (k + 1) a0) := by
  intro a0 k
  have ih0 := impl_above.mono_l k
  unfold impl_above.f
  repeat' first
      | (with_reducible exact ih0 _ _ _)
      | (with_reducible exact impl_node.mono _ _ _)
      | (with_reducible exact LeO.refl _)
      | (with_reducible exact LeO.none _)
      | (with_reducible refine LeO.ite ?_ ?_)
      | (with_reducible refine LeO.bind ?_ (fun _ => ?_))
      | exact ih0 _ _ _
      | exact impl_node.mono _ _ _
      | exact LeO.none _
      | refine LeO.ite ?_ ?_
      | refine LeO.bind ?_ (fun _ => ?_)
noncomputable def impl_above.lv0 (x0 : List ByteArray) (x3 : List ByteArray) (x4 : Int) : Option (List ByteArray) := lim (fun k_ => impl_above.l0 k_ x0 x3 x4)
noncomputable def impl_above.v (l0 : List ByteArray) : Option (List ByteArray) := lim (fun k_ => impl_above.f k_ l0)
theorem impl_above.lv0_lim (x0 : List ByteArray) (x3 : List ByteArray) (x4 : Int) : LimIs (fun k_ => impl_above.l0 k_ x0 x3 x4) (impl_above.lv0 x0 x3 x4) := lim_is (fun k_ => (impl_above.mono_l k_) x0 x3 x4)
theorem impl_above.v_lim (l0 : List ByteArray) : LimIs (fun k_ => impl_above.f k_ l0) (impl_above.v l0) := lim_is (fun k_ => impl_above.mono l0 k_)
theorem impl_above.lv0_eq (x0 : List ByteArray) (x3 : List ByteArray) (x4 : Int) : impl_above.lv0 x0 x3 x4 = (if x4 < (x0.length : Int) then (if 0 ≤ x4 then (if 0 ≤ (wrap64 (x4 + 1)) then (if (wrap64 (x4 + 1)) < (x0.length : Int) then ((impl_node.v (rdOf ByteArray.empty x0 x4) (rdOf ByteArray.empty x0 (wrap64 (x4 + 1)))).bind fun t469 => (if x3.length < 8796093022208 then (impl_above.lv0 x0 (x3 ++ [t469]) (wrap64 (x4 + 2))) else (none))) else (none)) else (none)) else (none)) else (some x3) : Option (List ByteArray)) := by
  refine LimIs.eq (impl_above.lv0_lim x0 x3 x4) ?_
  refine LimIs.step (fun k_ => (impl_above.mono_l k_) x0 x3 x4) ?_
  simp only [impl_above.l0]
  repeat' (with_reducible first | exact impl_above.lv0_lim _ _ _ | exact impl_node.v_lim _ _ | exact LimIs.const _ | refine LimIs.ite ?_ ?_ | refine LimIs.bind ?_ (fun _ => ?_))
theorem impl_above.v_eq (l0 : List ByteArray) : impl_above.v l0 = (impl_above.lv0 l0 ([] : List ByteArray) 0 : Option (List ByteArray)) := by
  refine LimIs.eq (impl_above.v_lim l0) ?_
  simp only [impl_above.f]
  repeat' (with_reducible first | exact impl_above.lv0_lim _ _ _ | exact LimIs.const _ | refine LimIs.ite ?_ ?_ | refine LimIs.bind ?_ (fun _ => ?_))
def impl_chainRoot.l0 : Nat → List ByteArray → Option (ByteArray)
  | 0, _ => none
  | k + 1, x3 => if (x3.length : Int) > 1 then ((impl_above.f k x3).bind fun t476 => (impl_chainRoot.l0 k t476)) else (if 0 < (x3.length : Int) then (some (rdOf ByteArray.empty x3 0)) else (none))
def impl_chainRoot.f (k : Nat) (a0 : ByteArray) : Option (ByteArray) := (impl_keys.f k a0).bind fun t473 => (impl_chainRoot.l0 k t473)
theorem impl_chainRoot.mono_l : ∀ k, (∀ y0, LeO (impl_chainRoot.l0 k y0) (impl_chainRoot.l0 (k + 1) y0))
  | 0 => fun _ r h => by simp [impl_chainRoot.l0] at h
  | k + 1 => by
    have ih0 := impl_chainRoot.mono_l k
    · intro y0
      unfold impl_chainRoot.l0
      repeat' first
      | (with_reducible exact ih0 _)
      | (with_reducible exact impl_above.mono _ _)
      | (with_reducible exact impl_keys.mono _ _)
      | (with_reducible exact LeO.refl _)
      | (with_reducible exact LeO.none _)
      | (with_reducible refine LeO.ite ?_ ?_)
      | (with_reducible refine LeO.bind ?_ (fun _ => ?_))
      | exact ih0 _
      | exact impl_above.mono _ _
      | exact impl_keys.mono _ _
      | exact LeO.none _
      | refine LeO.ite ?_ ?_
      | refine LeO.bind ?_ (fun _ => ?_)
theorem impl_chainRoot.mono : ∀ a0 k, LeO (impl_chainRoot.f k a0) (impl_chainRoot.f (k + 1) a0) := by
  intro a0 k
  have ih0 := impl_chainRoot.mono_l k
  unfold impl_chainRoot.f
  repeat' first
      | (with_reducible exact ih0 _)
      | (with_reducible exact impl_above.mono _ _)
      | (with_reducible exact impl_keys.mono _ _)
      | (with_reducible exact LeO.refl _)
      | (with_reducible exact LeO.none _)
      | (with_reducible refine LeO.ite ?_ ?_)
      | (with_reducible refine LeO.bind ?_ (fun _ => ?_))
      | exact ih0 _
      | exact impl_above.mono _ _
      | exact impl_keys.mono _ _
      | exact LeO.none _
      | refine LeO.ite ?_ ?_
      | refine LeO.bind ?_ (fun _ => ?_)
noncomputable def impl_chainRoot.lv0 (x3 : List ByteArray) : Option (ByteArray) := lim (fun k_ => impl_chainRoot.l0 k_ x3)
noncomputable def impl_chainRoot.v (a0 : ByteArray) : Option (ByteArray) := lim (fun k_ => impl_chainRoot.f k_ a0)
theorem impl_chainRoot.lv0_lim (x3 : List ByteArray) : LimIs (fun k_ => impl_chainRoot.l0 k_ x3) (impl_chainRoot.lv0 x3) := lim_is (fun k_ => (impl_chainRoot.mono_l k_) x3)
theorem impl_chainRoot.v_lim (a0 : ByteArray) : LimIs (fun k_ => impl_chainRoot.f k_ a0) (impl_chainRoot.v a0) := lim_is (fun k_ => impl_chainRoot.mono a0 k_)
theorem impl_chainRoot.lv0_eq (x3 : List ByteArray) : impl_chainRoot.lv0 x3 = (if (x3.length : Int) > 1 then ((impl_above.v x3).bind fun t476 => (impl_chainRoot.lv0 t476)) else (if 0 < (x3.length : Int) then (some (rdOf ByteArray.empty x3 0)) else (none)) : Option (ByteArray)) := by
  refine LimIs.eq (impl_chainRoot.lv0_lim x3) ?_
  refine LimIs.step (fun k_ => (impl_chainRoot.mono_l k_) x3) ?_
  simp only [impl_chainRoot.l0]
  repeat' (with_reducible first | exact impl_above.v_lim _ | exact impl_chainRoot.lv0_lim _ | exact LimIs.const _ | refine LimIs.ite ?_ ?_ | refine LimIs.bind ?_ (fun _ => ?_))
theorem impl_chainRoot.v_eq (a0 : ByteArray) : impl_chainRoot.v a0 = ((impl_keys.v a0).bind fun t473 => (impl_chainRoot.lv0 t473) : Option (ByteArray)) := by
  refine LimIs.eq (impl_chainRoot.v_lim a0) ?_
  simp only [impl_chainRoot.f]
  repeat' (with_reducible first | exact impl_chainRoot.lv0_lim _ | exact impl_keys.v_lim _ | exact LimIs.const _ | refine LimIs.ite ?_ ?_ | refine LimIs.bind ?_ (fun _ => ?_))
def impl_nodeSeed.f (k : Nat) (a0 : Int) : Option (ByteArray) := (impl_number.f k a0 1).bind fun t480 => (if 9 + t480.size ≤ 9223372036854775807 then ((impl_hash.f k ((⟨#[110, 111, 100, 101, 32, 115, 101, 101, 100]⟩ : ByteArray) ++ t480)).bind fun t481 => (some t481)) else (none))
theorem impl_nodeSeed.mono : ∀ a0 k, LeO (impl_nodeSeed.f k a0) (impl_nodeSeed.f (k + 1) a0) := by
  intro a0 k
  unfold impl_nodeSeed.f
  repeat' first
      | (with_reducible exact impl_hash.mono _ _)
      | (with_reducible exact impl_number.mono _ _ _)
      | (with_reducible exact LeO.refl _)
      | (with_reducible exact LeO.none _)
      | (with_reducible refine LeO.ite ?_ ?_)
      | (with_reducible refine LeO.bind ?_ (fun _ => ?_))
      | exact impl_hash.mono _ _
      | exact impl_number.mono _ _ _
      | exact LeO.none _
      | refine LeO.ite ?_ ?_
      | refine LeO.bind ?_ (fun _ => ?_)
noncomputable def impl_nodeSeed.v (a0 : Int) : Option (ByteArray) := lim (fun k_ => impl_nodeSeed.f k_ a0)
theorem impl_nodeSeed.v_lim (a0 : Int) : LimIs (fun k_ => impl_nodeSeed.f k_ a0) (impl_nodeSeed.v a0) := lim_is (fun k_ => impl_nodeSeed.mono a0 k_)
theorem impl_nodeSeed.v_eq (a0 : Int) : impl_nodeSeed.v a0 = ((impl_number.v a0 1).bind fun t480 => (if 9 + t480.size ≤ 9223372036854775807 then ((impl_hash.v ((⟨#[110, 111, 100, 101, 32, 115, 101, 101, 100]⟩ : ByteArray) ++ t480)).bind fun t481 => (some t481)) else (none)) : Option (ByteArray)) := by
  refine LimIs.eq (impl_nodeSeed.v_lim a0) ?_
  simp only [impl_nodeSeed.f]
  repeat' (with_reducible first | exact impl_hash.v_lim _ | exact impl_number.v_lim _ _ | exact LimIs.const _ | refine LimIs.ite ?_ ?_ | refine LimIs.bind ?_ (fun _ => ?_))
def strconv_Itoa.f (a0 : Int) : Option (ByteArray) := if -9223372036854775808 ≤ a0 ∧ a0 ≤ 9223372036854775807 then (some (⟨(itoaL a0).toArray⟩ : ByteArray)) else (none)
def strconv_Itoa.v (a0 : Int) : Option (ByteArray) := strconv_Itoa.f a0
theorem strconv_Itoa.v_eq (a0 : Int) : strconv_Itoa.v a0 = (if -9223372036854775808 ≤ a0 ∧ a0 ≤ 9223372036854775807 then (some (⟨(itoaL a0).toArray⟩ : ByteArray)) else (none) : Option (ByteArray)) := rfl
def impl_grantText.f (a0_0 : ByteArray) (a0_1 : Int) (a0_2 : Int) (a0_3 : Int) : Option (ByteArray) := if 6 + a0_0.size ≤ 9223372036854775807 then (if ((⟨#[103, 114, 97, 110, 116, 32]⟩ : ByteArray) ++ a0_0).size + 1 ≤ 9223372036854775807 then ((strconv_Itoa.f a0_1).bind fun t483 => (if (((⟨#[103, 114, 97, 110, 116, 32]⟩ : ByteArray) ++ a0_0) ++ (⟨#[32]⟩ : ByteArray)).size + t483.size ≤ 9223372036854775807 then (if ((((⟨#[103, 114, 97, 110, 116, 32]⟩ : ByteArray) ++ a0_0) ++ (⟨#[32]⟩ : ByteArray)) ++ t483).size + 1 ≤ 9223372036854775807 then ((strconv_Itoa.f a0_2).bind fun t484 => (if (((((⟨#[103, 114, 97, 110, 116, 32]⟩ : ByteArray) ++ a0_0) ++ (⟨#[32]⟩ : ByteArray)) ++ t483) ++ (⟨#[32]⟩ : ByteArray)).size + t484.size ≤ 9223372036854775807 then (if ((((((⟨#[103, 114, 97, 110, 116, 32]⟩ : ByteArray) ++ a0_0) ++ (⟨#[32]⟩ : ByteArray)) ++ t483) ++ (⟨#[32]⟩ : ByteArray)) ++ t484).size + 1 ≤ 9223372036854775807 then ((strconv_Itoa.f a0_3).bind fun t485 => (if (((((((⟨#[103, 114, 97, 110, 116, 32]⟩ : ByteArray) ++ a0_0) ++ (⟨#[32]⟩ : ByteArray)) ++ t483) ++ (⟨#[32]⟩ : ByteArray)) ++ t484) ++ (⟨#[32]⟩ : ByteArray)).size + t485.size ≤ 9223372036854775807 then (some ((((((((⟨#[103, 114, 97, 110, 116, 32]⟩ : ByteArray) ++ a0_0) ++ (⟨#[32]⟩ : ByteArray)) ++ t483) ++ (⟨#[32]⟩ : ByteArray)) ++ t484) ++ (⟨#[32]⟩ : ByteArray)) ++ t485)) else (none))) else (none)) else (none))) else (none)) else (none))) else (none)) else (none)
def impl_grantText.v (a0_0 : ByteArray) (a0_1 : Int) (a0_2 : Int) (a0_3 : Int) : Option (ByteArray) := impl_grantText.f a0_0 a0_1 a0_2 a0_3
theorem impl_grantText.v_lim (a0_0 : ByteArray) (a0_1 : Int) (a0_2 : Int) (a0_3 : Int) : LimIs (fun _ => impl_grantText.f a0_0 a0_1 a0_2 a0_3) (impl_grantText.v a0_0 a0_1 a0_2 a0_3) := LimIs.const _
theorem impl_grantText.v_eq (a0_0 : ByteArray) (a0_1 : Int) (a0_2 : Int) (a0_3 : Int) : impl_grantText.v a0_0 a0_1 a0_2 a0_3 = (if 6 + a0_0.size ≤ 9223372036854775807 then (if ((⟨#[103, 114, 97, 110, 116, 32]⟩ : ByteArray) ++ a0_0).size + 1 ≤ 9223372036854775807 then ((strconv_Itoa.v a0_1).bind fun t483 => (if (((⟨#[103, 114, 97, 110, 116, 32]⟩ : ByteArray) ++ a0_0) ++ (⟨#[32]⟩ : ByteArray)).size + t483.size ≤ 9223372036854775807 then (if ((((⟨#[103, 114, 97, 110, 116, 32]⟩ : ByteArray) ++ a0_0) ++ (⟨#[32]⟩ : ByteArray)) ++ t483).size + 1 ≤ 9223372036854775807 then ((strconv_Itoa.v a0_2).bind fun t484 => (if (((((⟨#[103, 114, 97, 110, 116, 32]⟩ : ByteArray) ++ a0_0) ++ (⟨#[32]⟩ : ByteArray)) ++ t483) ++ (⟨#[32]⟩ : ByteArray)).size + t484.size ≤ 9223372036854775807 then (if ((((((⟨#[103, 114, 97, 110, 116, 32]⟩ : ByteArray) ++ a0_0) ++ (⟨#[32]⟩ : ByteArray)) ++ t483) ++ (⟨#[32]⟩ : ByteArray)) ++ t484).size + 1 ≤ 9223372036854775807 then ((strconv_Itoa.v a0_3).bind fun t485 => (if (((((((⟨#[103, 114, 97, 110, 116, 32]⟩ : ByteArray) ++ a0_0) ++ (⟨#[32]⟩ : ByteArray)) ++ t483) ++ (⟨#[32]⟩ : ByteArray)) ++ t484) ++ (⟨#[32]⟩ : ByteArray)).size + t485.size ≤ 9223372036854775807 then (some ((((((((⟨#[103, 114, 97, 110, 116, 32]⟩ : ByteArray) ++ a0_0) ++ (⟨#[32]⟩ : ByteArray)) ++ t483) ++ (⟨#[32]⟩ : ByteArray)) ++ t484) ++ (⟨#[32]⟩ : ByteArray)) ++ t485)) else (none))) else (none)) else (none))) else (none)) else (none))) else (none)) else (none) : Option (ByteArray)) := rfl
def impl_CheckCertificate.l0 : Nat → List Int → Int → Int → ByteArray → Int → Int → Int → List Int → List (S52) → Option (Int)
  | 0, _, _, _, _, _, _, _, _, _ => none
  | k + 1, x33, x34, x35, x487000, x487001, x487002, x487003, x487004, x487005 => if x35 < x34 then (if 0 ≤ x35 then (if x35 < (x33.length : Int) then ((impl_nodeSeed.f k (rd x33 x35)).bind fun t491 => ((impl_chainRoot.f k t491).bind fun t492 => ((impl_grantText.f x487000 x487001 x487002 x487003).bind fun t493 => (if x35 < (x487005.length : Int) then ((impl_CheckSignature.f k t492 t493 ((rd_T52 x487005 x35).f0) ((rd_T52 x487005 x35).f1) ((rd_T52 x487005 x35).f2) ((rd_T52 x487005 x35).f3)).bind fun t495 => (if t495 = 0 then (impl_CheckCertificate.l0 k x33 x34 (wrap64 (x35 + 1)) x487000 x487001 x487002 x487003 x487004 x487005) else (some t495))) else (none))))) else (none)) else (none)) else (some 0)
def impl_CheckCertificate.f (k : Nat) (a0 : Int) (a1_0 : ByteArray) (a1_1 : Int) (a1_2 : Int) (a1_3 : Int) (l1_4 : List Int) (l1_5 : List (S52)) : Option (Int) := (impl_GrantOK.f k a1_0 a1_1 a1_2 a1_3).bind fun t487 => (if t487 = true then ((impl_areNodes.f a0).bind fun t488 => (if t488 = true then ((impl_isEnough.f k a0 l1_4).bind fun t489 => (if t489 = true then (if (l1_5.length : Int) = (l1_4.length : Int) then (impl_CheckCertificate.l0 k l1_4 (l1_4.length : Int) 0 a1_0 a1_1 a1_2 a1_3 l1_4 l1_5) else (some 19)) else (some 19))) else (some 4))) else (some 1))
theorem impl_CheckCertificate.mono_l : ∀ k, (∀ y0 y1 y2 y3 y4 y5 y6 y7 y8, LeO (impl_CheckCertificate.l0 k y0 y1 y2 y3 y4 y5 y6 y7 y8) (impl_CheckCertificate.l0 (k + 1) y0 y1 y2 y3 y4 y5 y6 y7 y8))
  | 0 => fun _ _ _ _ _ _ _ _ _ r h => by simp [impl_CheckCertificate.l0] at h
  | k + 1 => by
    have ih0 := impl_CheckCertificate.mono_l k
    · intro y0 y1 y2 y3 y4 y5 y6 y7 y8
      unfold impl_CheckCertificate.l0
      repeat' first
      | (with_reducible exact ih0 _ _ _ _ _ _ _ _ _)
      | (with_reducible exact impl_CheckSignature.mono _ _ _ _ _ _ _)
      | (with_reducible exact impl_GrantOK.mono _ _ _ _ _)
      | (with_reducible exact impl_chainRoot.mono _ _)
      | (with_reducible exact impl_isEnough.mono _ _ _)
      | (with_reducible exact impl_nodeSeed.mono _ _)
      | (with_reducible exact LeO.refl _)
      | (with_reducible exact LeO.none _)
      | (with_reducible refine LeO.ite ?_ ?_)
      | (with_reducible refine LeO.bind ?_ (fun _ => ?_))
      | exact ih0 _ _ _ _ _ _ _ _ _
      | exact impl_CheckSignature.mono _ _ _ _ _ _ _
      | exact impl_GrantOK.mono _ _ _ _ _
      | exact impl_chainRoot.mono _ _
      | exact impl_isEnough.mono _ _ _
      | exact impl_nodeSeed.mono _ _
      | exact LeO.none _
      | refine LeO.ite ?_ ?_
      | refine LeO.bind ?_ (fun _ => ?_)
theorem impl_CheckCertificate.mono : ∀ a0 a1 a2 a3 a4 a5 a6 k, LeO (impl_CheckCertificate.f k a0 a1 a2 a3 a4 a5 a6) (impl_CheckCertificate.f (k + 1) a0 a1 a2 a3 a4 a5 a6) := by
  intro a0 a1 a2 a3 a4 a5 a6 k
  have ih0 := impl_CheckCertificate.mono_l k
  unfold impl_CheckCertificate.f
  repeat' first
      | (with_reducible exact ih0 _ _ _ _ _ _ _ _ _)
      | (with_reducible exact impl_CheckSignature.mono _ _ _ _ _ _ _)
      | (with_reducible exact impl_GrantOK.mono _ _ _ _ _)
      | (with_reducible exact impl_chainRoot.mono _ _)
      | (with_reducible exact impl_isEnough.mono _ _ _)
      | (with_reducible exact impl_nodeSeed.mono _ _)
      | (with_reducible exact LeO.refl _)
      | (with_reducible exact LeO.none _)
      | (with_reducible refine LeO.ite ?_ ?_)
      | (with_reducible refine LeO.bind ?_ (fun _ => ?_))
      | exact ih0 _ _ _ _ _ _ _ _ _
      | exact impl_CheckSignature.mono _ _ _ _ _ _ _
      | exact impl_GrantOK.mono _ _ _ _ _
      | exact impl_chainRoot.mono _ _
      | exact impl_isEnough.mono _ _ _
      | exact impl_nodeSeed.mono _ _
      | exact LeO.none _
      | refine LeO.ite ?_ ?_
      | refine LeO.bind ?_ (fun _ => ?_)
noncomputable def impl_CheckCertificate.lv0 (x33 : List Int) (x34 : Int) (x35 : Int) (x487000 : ByteArray) (x487001 : Int) (x487002 : Int) (x487003 : Int) (x487004 : List Int) (x487005 : List (S52)) : Option (Int) := lim (fun k_ => impl_CheckCertificate.l0 k_ x33 x34 x35 x487000 x487001 x487002 x487003 x487004 x487005)
noncomputable def impl_CheckCertificate.v (a0 : Int) (a1_0 : ByteArray) (a1_1 : Int) (a1_2 : Int) (a1_3 : Int) (l1_4 : List Int) (l1_5 : List (S52)) : Option (Int) := lim (fun k_ => impl_CheckCertificate.f k_ a0 a1_0 a1_1 a1_2 a1_3 l1_4 l1_5)
theorem impl_CheckCertificate.lv0_lim (x33 : List Int) (x34 : Int) (x35 : Int) (x487000 : ByteArray) (x487001 : Int) (x487002 : Int) (x487003 : Int) (x487004 : List Int) (x487005 : List (S52)) : LimIs (fun k_ => impl_CheckCertificate.l0 k_ x33 x34 x35 x487000 x487001 x487002 x487003 x487004 x487005) (impl_CheckCertificate.lv0 x33 x34 x35 x487000 x487001 x487002 x487003 x487004 x487005) := lim_is (fun k_ => (impl_CheckCertificate.mono_l k_) x33 x34 x35 x487000 x487001 x487002 x487003 x487004 x487005)
theorem impl_CheckCertificate.v_lim (a0 : Int) (a1_0 : ByteArray) (a1_1 : Int) (a1_2 : Int) (a1_3 : Int) (l1_4 : List Int) (l1_5 : List (S52)) : LimIs (fun k_ => impl_CheckCertificate.f k_ a0 a1_0 a1_1 a1_2 a1_3 l1_4 l1_5) (impl_CheckCertificate.v a0 a1_0 a1_1 a1_2 a1_3 l1_4 l1_5) := lim_is (fun k_ => impl_CheckCertificate.mono a0 a1_0 a1_1 a1_2 a1_3 l1_4 l1_5 k_)
theorem impl_CheckCertificate.lv0_eq (x33 : List Int) (x34 : Int) (x35 : Int) (x487000 : ByteArray) (x487001 : Int) (x487002 : Int) (x487003 : Int) (x487004 : List Int) (x487005 : List (S52)) : impl_CheckCertificate.lv0 x33 x34 x35 x487000 x487001 x487002 x487003 x487004 x487005 = (if x35 < x34 then (if 0 ≤ x35 then (if x35 < (x33.length : Int) then ((impl_nodeSeed.v (rd x33 x35)).bind fun t491 => ((impl_chainRoot.v t491).bind fun t492 => ((impl_grantText.v x487000 x487001 x487002 x487003).bind fun t493 => (if x35 < (x487005.length : Int) then ((impl_CheckSignature.v t492 t493 ((rd_T52 x487005 x35).f0) ((rd_T52 x487005 x35).f1) ((rd_T52 x487005 x35).f2) ((rd_T52 x487005 x35).f3)).bind fun t495 => (if t495 = 0 then (impl_CheckCertificate.lv0 x33 x34 (wrap64 (x35 + 1)) x487000 x487001 x487002 x487003 x487004 x487005) else (some t495))) else (none))))) else (none)) else (none)) else (some 0) : Option (Int)) := by
  refine LimIs.eq (impl_CheckCertificate.lv0_lim x33 x34 x35 x487000 x487001 x487002 x487003 x487004 x487005) ?_
  refine LimIs.step (fun k_ => (impl_CheckCertificate.mono_l k_) x33 x34 x35 x487000 x487001 x487002 x487003 x487004 x487005) ?_
  simp only [impl_CheckCertificate.l0]
  repeat' (with_reducible first | exact impl_CheckCertificate.lv0_lim _ _ _ _ _ _ _ _ _ | exact impl_CheckSignature.v_lim _ _ _ _ _ _ | exact impl_chainRoot.v_lim _ | exact impl_grantText.v_lim _ _ _ _ | exact impl_nodeSeed.v_lim _ | exact LimIs.const _ | refine LimIs.ite ?_ ?_ | refine LimIs.bind ?_ (fun _ => ?_))
theorem impl_CheckCertificate.v_eq (a0 : Int) (a1_0 : ByteArray) (a1_1 : Int) (a1_2 : Int) (a1_3 : Int) (l1_4 : List Int) (l1_5 : List (S52)) : impl_CheckCertificate.v a0 a1_0 a1_1 a1_2 a1_3 l1_4 l1_5 = ((impl_GrantOK.v a1_0 a1_1 a1_2 a1_3).bind fun t487 => (if t487 = true then ((impl_areNodes.v a0).bind fun t488 => (if t488 = true then ((impl_isEnough.v a0 l1_4).bind fun t489 => (if t489 = true then (if (l1_5.length : Int) = (l1_4.length : Int) then (impl_CheckCertificate.lv0 l1_4 (l1_4.length : Int) 0 a1_0 a1_1 a1_2 a1_3 l1_4 l1_5) else (some 19)) else (some 19))) else (some 4))) else (some 1)) : Option (Int)) := by
  refine LimIs.eq (impl_CheckCertificate.v_lim a0 a1_0 a1_1 a1_2 a1_3 l1_4 l1_5) ?_
  simp only [impl_CheckCertificate.f]
  repeat' (with_reducible first | exact impl_CheckCertificate.lv0_lim _ _ _ _ _ _ _ _ _ | exact impl_GrantOK.v_lim _ _ _ _ | exact impl_areNodes.v_lim _ | exact impl_isEnough.v_lim _ _ | exact LimIs.const _ | refine LimIs.ite ?_ ?_ | refine LimIs.bind ?_ (fun _ => ?_))
def laws_eqIntS.l0 : Nat → List Int → List Int → Int → Option (Bool)
  | 0, _, _, _ => none
  | k + 1, x0, x1, x5 => if x5 < (x0.length : Int) then (if 0 ≤ x5 then (if x5 < (x1.length : Int) then (if (rd x0 x5) = (rd x1 x5) then (laws_eqIntS.l0 k x0 x1 (wrap64 (x5 + 1))) else (some false)) else (none)) else (none)) else (some true)
def laws_eqIntS.f (k : Nat) (l0 : List Int) (l1 : List Int) : Option (Bool) := if (l0.length : Int) = (l1.length : Int) then (laws_eqIntS.l0 k l0 l1 0) else (some false)
theorem laws_eqIntS.mono_l : ∀ k, (∀ y0 y1 y2, LeO (laws_eqIntS.l0 k y0 y1 y2) (laws_eqIntS.l0 (k + 1) y0 y1 y2))
  | 0 => fun _ _ _ r h => by simp [laws_eqIntS.l0] at h
  | k + 1 => by
    have ih0 := laws_eqIntS.mono_l k
    · intro y0 y1 y2
      unfold laws_eqIntS.l0
      repeat' first
      | (with_reducible exact ih0 _ _ _)
      | (with_reducible exact LeO.refl _)
      | (with_reducible exact LeO.none _)
      | (with_reducible refine LeO.ite ?_ ?_)
      | (with_reducible refine LeO.bind ?_ (fun _ => ?_))
      | exact ih0 _ _ _
      | exact LeO.none _
      | refine LeO.ite ?_ ?_
      | refine LeO.bind ?_ (fun _ => ?_)
theorem laws_eqIntS.mono : ∀ a0 a1 k, LeO (laws_eqIntS.f k a0 a1) (laws_eqIntS.f (k + 1) a0 a1) := by
  intro a0 a1 k
  have ih0 := laws_eqIntS.mono_l k
  unfold laws_eqIntS.f
  repeat' first
      | (with_reducible exact ih0 _ _ _)
      | (with_reducible exact LeO.refl _)
      | (with_reducible exact LeO.none _)
      | (with_reducible refine LeO.ite ?_ ?_)
      | (with_reducible refine LeO.bind ?_ (fun _ => ?_))
      | exact ih0 _ _ _
      | exact LeO.none _
      | refine LeO.ite ?_ ?_
      | refine LeO.bind ?_ (fun _ => ?_)
noncomputable def laws_eqIntS.lv0 (x0 : List Int) (x1 : List Int) (x5 : Int) : Option (Bool) := lim (fun k_ => laws_eqIntS.l0 k_ x0 x1 x5)
noncomputable def laws_eqIntS.v (l0 : List Int) (l1 : List Int) : Option (Bool) := lim (fun k_ => laws_eqIntS.f k_ l0 l1)
theorem laws_eqIntS.lv0_lim (x0 : List Int) (x1 : List Int) (x5 : Int) : LimIs (fun k_ => laws_eqIntS.l0 k_ x0 x1 x5) (laws_eqIntS.lv0 x0 x1 x5) := lim_is (fun k_ => (laws_eqIntS.mono_l k_) x0 x1 x5)
theorem laws_eqIntS.v_lim (l0 : List Int) (l1 : List Int) : LimIs (fun k_ => laws_eqIntS.f k_ l0 l1) (laws_eqIntS.v l0 l1) := lim_is (fun k_ => laws_eqIntS.mono l0 l1 k_)
theorem laws_eqIntS.lv0_eq (x0 : List Int) (x1 : List Int) (x5 : Int) : laws_eqIntS.lv0 x0 x1 x5 = (if x5 < (x0.length : Int) then (if 0 ≤ x5 then (if x5 < (x1.length : Int) then (if (rd x0 x5) = (rd x1 x5) then (laws_eqIntS.lv0 x0 x1 (wrap64 (x5 + 1))) else (some false)) else (none)) else (none)) else (some true) : Option (Bool)) := by
  refine LimIs.eq (laws_eqIntS.lv0_lim x0 x1 x5) ?_
  refine LimIs.step (fun k_ => (laws_eqIntS.mono_l k_) x0 x1 x5) ?_
  simp only [laws_eqIntS.l0]
  repeat' (with_reducible first | exact laws_eqIntS.lv0_lim _ _ _ | exact LimIs.const _ | refine LimIs.ite ?_ ?_ | refine LimIs.bind ?_ (fun _ => ?_))
theorem laws_eqIntS.v_eq (l0 : List Int) (l1 : List Int) : laws_eqIntS.v l0 l1 = (if (l0.length : Int) = (l1.length : Int) then (laws_eqIntS.lv0 l0 l1 0) else (some false) : Option (Bool)) := by
  refine LimIs.eq (laws_eqIntS.v_lim l0 l1) ?_
  simp only [laws_eqIntS.f]
  repeat' (with_reducible first | exact laws_eqIntS.lv0_lim _ _ _ | exact LimIs.const _ | refine LimIs.ite ?_ ?_ | refine LimIs.bind ?_ (fun _ => ?_))
def laws_eqGrant.f (a0_0 : ByteArray) (a0_1 : Int) (a0_2 : Int) (a0_3 : Int) (a1_0 : ByteArray) (a1_1 : Int) (a1_2 : Int) (a1_3 : Int) : Option (Bool) := if a0_0.toList = a1_0.toList then (if a0_1 = a1_1 then (if a0_2 = a1_2 then (if a0_3 = a1_3 then (some true) else (some false)) else (some false)) else (some false)) else (some false)
def laws_eqGrant.v (a0_0 : ByteArray) (a0_1 : Int) (a0_2 : Int) (a0_3 : Int) (a1_0 : ByteArray) (a1_1 : Int) (a1_2 : Int) (a1_3 : Int) : Option (Bool) := laws_eqGrant.f a0_0 a0_1 a0_2 a0_3 a1_0 a1_1 a1_2 a1_3
theorem laws_eqGrant.v_lim (a0_0 : ByteArray) (a0_1 : Int) (a0_2 : Int) (a0_3 : Int) (a1_0 : ByteArray) (a1_1 : Int) (a1_2 : Int) (a1_3 : Int) : LimIs (fun _ => laws_eqGrant.f a0_0 a0_1 a0_2 a0_3 a1_0 a1_1 a1_2 a1_3) (laws_eqGrant.v a0_0 a0_1 a0_2 a0_3 a1_0 a1_1 a1_2 a1_3) := LimIs.const _
theorem laws_eqGrant.v_eq (a0_0 : ByteArray) (a0_1 : Int) (a0_2 : Int) (a0_3 : Int) (a1_0 : ByteArray) (a1_1 : Int) (a1_2 : Int) (a1_3 : Int) : laws_eqGrant.v a0_0 a0_1 a0_2 a0_3 a1_0 a1_1 a1_2 a1_3 = (if a0_0.toList = a1_0.toList then (if a0_1 = a1_1 then (if a0_2 = a1_2 then (if a0_3 = a1_3 then (some true) else (some false)) else (some false)) else (some false)) else (some false) : Option (Bool)) := rfl
def laws_eqStringS.l0 : Nat → List ByteArray → List ByteArray → Int → Option (Bool)
  | 0, _, _, _ => none
  | k + 1, x0, x1, x5 => if x5 < (x0.length : Int) then (if 0 ≤ x5 then (if x5 < (x1.length : Int) then (if (rdOf ByteArray.empty x0 x5).toList = (rdOf ByteArray.empty x1 x5).toList then (laws_eqStringS.l0 k x0 x1 (wrap64 (x5 + 1))) else (some false)) else (none)) else (none)) else (some true)
def laws_eqStringS.f (k : Nat) (l0 : List ByteArray) (l1 : List ByteArray) : Option (Bool) := if (l0.length : Int) = (l1.length : Int) then (laws_eqStringS.l0 k l0 l1 0) else (some false)
theorem laws_eqStringS.mono_l : ∀ k, (∀ y0 y1 y2, LeO (laws_eqStringS.l0 k y0 y1 y2) (laws_eqStringS.l0 (k + 1) y0 y1 y2))
  | 0 => fun _ _ _ r h => by simp [laws_eqStringS.l0] at h
  | k + 1 => by
    have ih0 := laws_eqStringS.mono_l k
    · intro y0 y1 y2
      unfold laws_eqStringS.l0
      repeat' first
      | (with_reducible exact ih0 _ _ _)
      | (with_reducible exact LeO.refl _)
      | (with_reducible exact LeO.none _)
      | (with_reducible refine LeO.ite ?_ ?_)
      | (with_reducible refine LeO.bind ?_ (fun _ => ?_))
      | exact ih0 _ _ _
      | exact LeO.none _
      | refine LeO.ite ?_ ?_
      | refine LeO.bind ?_ (fun _ => ?_)
theorem laws_eqStringS.mono : ∀ a0 a1 k, LeO (laws_eqStringS.f k a0 a1) (laws_eqStringS.f (k + 1) a0 a1) := by
  intro a0 a1 k
  have ih0 := laws_eqStringS.mono_l k
  unfold laws_eqStringS.f
  repeat' first
      | (with_reducible exact ih0 _ _ _)
      | (with_reducible exact LeO.refl _)
      | (with_reducible exact LeO.none _)
      | (with_reducible refine LeO.ite ?_ ?_)
      | (with_reducible refine LeO.bind ?_ (fun _ => ?_))
      | exact ih0 _ _ _
      | exact LeO.none _
      | refine LeO.ite ?_ ?_
      | refine LeO.bind ?_ (fun _ => ?_)
noncomputable def laws_eqStringS.lv0 (x0 : List ByteArray) (x1 : List ByteArray) (x5 : Int) : Option (Bool) := lim (fun k_ => laws_eqStringS.l0 k_ x0 x1 x5)
noncomputable def laws_eqStringS.v (l0 : List ByteArray) (l1 : List ByteArray) : Option (Bool) := lim (fun k_ => laws_eqStringS.f k_ l0 l1)
theorem laws_eqStringS.lv0_lim (x0 : List ByteArray) (x1 : List ByteArray) (x5 : Int) : LimIs (fun k_ => laws_eqStringS.l0 k_ x0 x1 x5) (laws_eqStringS.lv0 x0 x1 x5) := lim_is (fun k_ => (laws_eqStringS.mono_l k_) x0 x1 x5)
theorem laws_eqStringS.v_lim (l0 : List ByteArray) (l1 : List ByteArray) : LimIs (fun k_ => laws_eqStringS.f k_ l0 l1) (laws_eqStringS.v l0 l1) := lim_is (fun k_ => laws_eqStringS.mono l0 l1 k_)
theorem laws_eqStringS.lv0_eq (x0 : List ByteArray) (x1 : List ByteArray) (x5 : Int) : laws_eqStringS.lv0 x0 x1 x5 = (if x5 < (x0.length : Int) then (if 0 ≤ x5 then (if x5 < (x1.length : Int) then (if (rdOf ByteArray.empty x0 x5).toList = (rdOf ByteArray.empty x1 x5).toList then (laws_eqStringS.lv0 x0 x1 (wrap64 (x5 + 1))) else (some false)) else (none)) else (none)) else (some true) : Option (Bool)) := by
  refine LimIs.eq (laws_eqStringS.lv0_lim x0 x1 x5) ?_
  refine LimIs.step (fun k_ => (laws_eqStringS.mono_l k_) x0 x1 x5) ?_
  simp only [laws_eqStringS.l0]
  repeat' (with_reducible first | exact laws_eqStringS.lv0_lim _ _ _ | exact LimIs.const _ | refine LimIs.ite ?_ ?_ | refine LimIs.bind ?_ (fun _ => ?_))
theorem laws_eqStringS.v_eq (l0 : List ByteArray) (l1 : List ByteArray) : laws_eqStringS.v l0 l1 = (if (l0.length : Int) = (l1.length : Int) then (laws_eqStringS.lv0 l0 l1 0) else (some false) : Option (Bool)) := by
  refine LimIs.eq (laws_eqStringS.v_lim l0 l1) ?_
  simp only [laws_eqStringS.f]
  repeat' (with_reducible first | exact laws_eqStringS.lv0_lim _ _ _ | exact LimIs.const _ | refine LimIs.ite ?_ ?_ | refine LimIs.bind ?_ (fun _ => ?_))
def laws_eqKeySignature.f (k : Nat) (a0_0 : Int) (l0_1 : List ByteArray) (l0_2 : List ByteArray) (l0_3 : List ByteArray) (a1_0 : Int) (l1_1 : List ByteArray) (l1_2 : List ByteArray) (l1_3 : List ByteArray) : Option (Bool) := if a0_0 = a1_0 then ((laws_eqStringS.f k l0_1 l1_1).bind fun t504 => (if t504 = true then ((laws_eqStringS.f k l0_2 l1_2).bind fun t505 => (if t505 = true then ((laws_eqStringS.f k l0_3 l1_3).bind fun t506 => (if t506 = true then (some true) else (some false))) else (some false))) else (some false))) else (some false)
theorem laws_eqKeySignature.mono : ∀ a0 a1 a2 a3 a4 a5 a6 a7 k, LeO (laws_eqKeySignature.f k a0 a1 a2 a3 a4 a5 a6 a7) (laws_eqKeySignature.f (k + 1) a0 a1 a2 a3 a4 a5 a6 a7) := by
  intro a0 a1 a2 a3 a4 a5 a6 a7 k
  unfold laws_eqKeySignature.f
  repeat' first
      | (with_reducible exact laws_eqStringS.mono _ _ _)
      | (with_reducible exact LeO.refl _)
      | (with_reducible exact LeO.none _)
      | (with_reducible refine LeO.ite ?_ ?_)
      | (with_reducible refine LeO.bind ?_ (fun _ => ?_))
      | exact laws_eqStringS.mono _ _ _
      | exact LeO.none _
      | refine LeO.ite ?_ ?_
      | refine LeO.bind ?_ (fun _ => ?_)
noncomputable def laws_eqKeySignature.v (a0_0 : Int) (l0_1 : List ByteArray) (l0_2 : List ByteArray) (l0_3 : List ByteArray) (a1_0 : Int) (l1_1 : List ByteArray) (l1_2 : List ByteArray) (l1_3 : List ByteArray) : Option (Bool) := lim (fun k_ => laws_eqKeySignature.f k_ a0_0 l0_1 l0_2 l0_3 a1_0 l1_1 l1_2 l1_3)
theorem laws_eqKeySignature.v_lim (a0_0 : Int) (l0_1 : List ByteArray) (l0_2 : List ByteArray) (l0_3 : List ByteArray) (a1_0 : Int) (l1_1 : List ByteArray) (l1_2 : List ByteArray) (l1_3 : List ByteArray) : LimIs (fun k_ => laws_eqKeySignature.f k_ a0_0 l0_1 l0_2 l0_3 a1_0 l1_1 l1_2 l1_3) (laws_eqKeySignature.v a0_0 l0_1 l0_2 l0_3 a1_0 l1_1 l1_2 l1_3) := lim_is (fun k_ => laws_eqKeySignature.mono a0_0 l0_1 l0_2 l0_3 a1_0 l1_1 l1_2 l1_3 k_)
theorem laws_eqKeySignature.v_eq (a0_0 : Int) (l0_1 : List ByteArray) (l0_2 : List ByteArray) (l0_3 : List ByteArray) (a1_0 : Int) (l1_1 : List ByteArray) (l1_2 : List ByteArray) (l1_3 : List ByteArray) : laws_eqKeySignature.v a0_0 l0_1 l0_2 l0_3 a1_0 l1_1 l1_2 l1_3 = (if a0_0 = a1_0 then ((laws_eqStringS.v l0_1 l1_1).bind fun t504 => (if t504 = true then ((laws_eqStringS.v l0_2 l1_2).bind fun t505 => (if t505 = true then ((laws_eqStringS.v l0_3 l1_3).bind fun t506 => (if t506 = true then (some true) else (some false))) else (some false))) else (some false))) else (some false) : Option (Bool)) := by
  refine LimIs.eq (laws_eqKeySignature.v_lim a0_0 l0_1 l0_2 l0_3 a1_0 l1_1 l1_2 l1_3) ?_
  simp only [laws_eqKeySignature.f]
  repeat' (with_reducible first | exact laws_eqStringS.v_lim _ _ | exact LimIs.const _ | refine LimIs.ite ?_ ?_ | refine LimIs.bind ?_ (fun _ => ?_))
def laws_eqKeySignatureS.l0 : Nat → List (S52) → List (S52) → Int → Option (Bool)
  | 0, _, _, _ => none
  | k + 1, x0, x1, x5 => if x5 < (x0.length : Int) then (if 0 ≤ x5 then (if x5 < (x1.length : Int) then ((laws_eqKeySignature.f k ((rd_T52 x0 x5).f0) ((rd_T52 x0 x5).f1) ((rd_T52 x0 x5).f2) ((rd_T52 x0 x5).f3) ((rd_T52 x1 x5).f0) ((rd_T52 x1 x5).f1) ((rd_T52 x1 x5).f2) ((rd_T52 x1 x5).f3)).bind fun t509 => (if t509 = true then (laws_eqKeySignatureS.l0 k x0 x1 (wrap64 (x5 + 1))) else (some false))) else (none)) else (none)) else (some true)
def laws_eqKeySignatureS.f (k : Nat) (l0 : List (S52)) (l1 : List (S52)) : Option (Bool) := if (l0.length : Int) = (l1.length : Int) then (laws_eqKeySignatureS.l0 k l0 l1 0) else (some false)
theorem laws_eqKeySignatureS.mono_l : ∀ k, (∀ y0 y1 y2, LeO (laws_eqKeySignatureS.l0 k y0 y1 y2) (laws_eqKeySignatureS.l0 (k + 1) y0 y1 y2))
  | 0 => fun _ _ _ r h => by simp [laws_eqKeySignatureS.l0] at h
  | k + 1 => by
    have ih0 := laws_eqKeySignatureS.mono_l k
    · intro y0 y1 y2
      unfold laws_eqKeySignatureS.l0
      repeat' first
      | (with_reducible exact ih0 _ _ _)
      | (with_reducible exact laws_eqKeySignature.mono _ _ _ _ _ _ _ _ _)
      | (with_reducible exact LeO.refl _)
      | (with_reducible exact LeO.none _)
      | (with_reducible refine LeO.ite ?_ ?_)
      | (with_reducible refine LeO.bind ?_ (fun _ => ?_))
      | exact ih0 _ _ _
      | exact laws_eqKeySignature.mono _ _ _ _ _ _ _ _ _
      | exact LeO.none _
      | refine LeO.ite ?_ ?_
      | refine LeO.bind ?_ (fun _ => ?_)
theorem laws_eqKeySignatureS.mono : ∀ a0 a1 k, LeO (laws_eqKeySignatureS.f k a0 a1) (laws_eqKeySignatureS.f (k + 1) a0 a1) := by
  intro a0 a1 k
  have ih0 := laws_eqKeySignatureS.mono_l k
  unfold laws_eqKeySignatureS.f
  repeat' first
      | (with_reducible exact ih0 _ _ _)
      | (with_reducible exact laws_eqKeySignature.mono _ _ _ _ _ _ _ _ _)
      | (with_reducible exact LeO.refl _)
      | (with_reducible exact LeO.none _)
      | (with_reducible refine LeO.ite ?_ ?_)
      | (with_reducible refine LeO.bind ?_ (fun _ => ?_))
      | exact ih0 _ _ _
      | exact laws_eqKeySignature.mono _ _ _ _ _ _ _ _ _
      | exact LeO.none _
      | refine LeO.ite ?_ ?_
      | refine LeO.bind ?_ (fun _ => ?_)
noncomputable def laws_eqKeySignatureS.lv0 (x0 : List (S52)) (x1 : List (S52)) (x5 : Int) : Option (Bool) := lim (fun k_ => laws_eqKeySignatureS.l0 k_ x0 x1 x5)
noncomputable def laws_eqKeySignatureS.v (l0 : List (S52)) (l1 : List (S52)) : Option (Bool) := lim (fun k_ => laws_eqKeySignatureS.f k_ l0 l1)
theorem laws_eqKeySignatureS.lv0_lim (x0 : List (S52)) (x1 : List (S52)) (x5 : Int) : LimIs (fun k_ => laws_eqKeySignatureS.l0 k_ x0 x1 x5) (laws_eqKeySignatureS.lv0 x0 x1 x5) := lim_is (fun k_ => (laws_eqKeySignatureS.mono_l k_) x0 x1 x5)
theorem laws_eqKeySignatureS.v_lim (l0 : List (S52)) (l1 : List (S52)) : LimIs (fun k_ => laws_eqKeySignatureS.f k_ l0 l1) (laws_eqKeySignatureS.v l0 l1) := lim_is (fun k_ => laws_eqKeySignatureS.mono l0 l1 k_)
theorem laws_eqKeySignatureS.lv0_eq (x0 : List (S52)) (x1 : List (S52)) (x5 : Int) : laws_eqKeySignatureS.lv0 x0 x1 x5 = (if x5 < (x0.length : Int) then (if 0 ≤ x5 then (if x5 < (x1.length : Int) then ((laws_eqKeySignature.v ((rd_T52 x0 x5).f0) ((rd_T52 x0 x5).f1) ((rd_T52 x0 x5).f2) ((rd_T52 x0 x5).f3) ((rd_T52 x1 x5).f0) ((rd_T52 x1 x5).f1) ((rd_T52 x1 x5).f2) ((rd_T52 x1 x5).f3)).bind fun t509 => (if t509 = true then (laws_eqKeySignatureS.lv0 x0 x1 (wrap64 (x5 + 1))) else (some false))) else (none)) else (none)) else (some true) : Option (Bool)) := by
  refine LimIs.eq (laws_eqKeySignatureS.lv0_lim x0 x1 x5) ?_
  refine LimIs.step (fun k_ => (laws_eqKeySignatureS.mono_l k_) x0 x1 x5) ?_
  simp only [laws_eqKeySignatureS.l0]
  repeat' (with_reducible first | exact laws_eqKeySignature.v_lim _ _ _ _ _ _ _ _ | exact laws_eqKeySignatureS.lv0_lim _ _ _ | exact LimIs.const _ | refine LimIs.ite ?_ ?_ | refine LimIs.bind ?_ (fun _ => ?_))
theorem laws_eqKeySignatureS.v_eq (l0 : List (S52)) (l1 : List (S52)) : laws_eqKeySignatureS.v l0 l1 = (if (l0.length : Int) = (l1.length : Int) then (laws_eqKeySignatureS.lv0 l0 l1 0) else (some false) : Option (Bool)) := by
  refine LimIs.eq (laws_eqKeySignatureS.v_lim l0 l1) ?_
  simp only [laws_eqKeySignatureS.f]
  repeat' (with_reducible first | exact laws_eqKeySignatureS.lv0_lim _ _ _ | exact LimIs.const _ | refine LimIs.ite ?_ ?_ | refine LimIs.bind ?_ (fun _ => ?_))
def laws_eqCertificate.f (k : Nat) (a0_0 : ByteArray) (a0_1 : Int) (a0_2 : Int) (a0_3 : Int) (l0_4 : List Int) (l0_5 : List (S52)) (a1_0 : ByteArray) (a1_1 : Int) (a1_2 : Int) (a1_3 : Int) (l1_4 : List Int) (l1_5 : List (S52)) : Option (Bool) := (laws_eqGrant.f a0_0 a0_1 a0_2 a0_3 a1_0 a1_1 a1_2 a1_3).bind fun t512 => (if t512 = true then ((laws_eqIntS.f k l0_4 l1_4).bind fun t513 => (if t513 = true then ((laws_eqKeySignatureS.f k l0_5 l1_5).bind fun t514 => (if t514 = true then (some true) else (some false))) else (some false))) else (some false))
theorem laws_eqCertificate.mono : ∀ a0 a1 a2 a3 a4 a5 a6 a7 a8 a9 a10 a11 k, LeO (laws_eqCertificate.f k a0 a1 a2 a3 a4 a5 a6 a7 a8 a9 a10 a11) (laws_eqCertificate.f (k + 1) a0 a1 a2 a3 a4 a5 a6 a7 a8 a9 a10 a11) := by
  intro a0 a1 a2 a3 a4 a5 a6 a7 a8 a9 a10 a11 k
  unfold laws_eqCertificate.f
  repeat' first
      | (with_reducible exact laws_eqIntS.mono _ _ _)
      | (with_reducible exact laws_eqKeySignatureS.mono _ _ _)
      | (with_reducible exact LeO.refl _)
      | (with_reducible exact LeO.none _)
      | (with_reducible refine LeO.ite ?_ ?_)
      | (with_reducible refine LeO.bind ?_ (fun _ => ?_))
      | exact laws_eqIntS.mono _ _ _
      | exact laws_eqKeySignatureS.mono _ _ _
      | exact LeO.none _
      | refine LeO.ite ?_ ?_
      | refine LeO.bind ?_ (fun _ => ?_)
noncomputable def laws_eqCertificate.v (a0_0 : ByteArray) (a0_1 : Int) (a0_2 : Int) (a0_3 : Int) (l0_4 : List Int) (l0_5 : List (S52)) (a1_0 : ByteArray) (a1_1 : Int) (a1_2 : Int) (a1_3 : Int) (l1_4 : List Int) (l1_5 : List (S52)) : Option (Bool) := lim (fun k_ => laws_eqCertificate.f k_ a0_0 a0_1 a0_2 a0_3 l0_4 l0_5 a1_0 a1_1 a1_2 a1_3 l1_4 l1_5)
theorem laws_eqCertificate.v_lim (a0_0 : ByteArray) (a0_1 : Int) (a0_2 : Int) (a0_3 : Int) (l0_4 : List Int) (l0_5 : List (S52)) (a1_0 : ByteArray) (a1_1 : Int) (a1_2 : Int) (a1_3 : Int) (l1_4 : List Int) (l1_5 : List (S52)) : LimIs (fun k_ => laws_eqCertificate.f k_ a0_0 a0_1 a0_2 a0_3 l0_4 l0_5 a1_0 a1_1 a1_2 a1_3 l1_4 l1_5) (laws_eqCertificate.v a0_0 a0_1 a0_2 a0_3 l0_4 l0_5 a1_0 a1_1 a1_2 a1_3 l1_4 l1_5) := lim_is (fun k_ => laws_eqCertificate.mono a0_0 a0_1 a0_2 a0_3 l0_4 l0_5 a1_0 a1_1 a1_2 a1_3 l1_4 l1_5 k_)
theorem laws_eqCertificate.v_eq (a0_0 : ByteArray) (a0_1 : Int) (a0_2 : Int) (a0_3 : Int) (l0_4 : List Int) (l0_5 : List (S52)) (a1_0 : ByteArray) (a1_1 : Int) (a1_2 : Int) (a1_3 : Int) (l1_4 : List Int) (l1_5 : List (S52)) : laws_eqCertificate.v a0_0 a0_1 a0_2 a0_3 l0_4 l0_5 a1_0 a1_1 a1_2 a1_3 l1_4 l1_5 = ((laws_eqGrant.v a0_0 a0_1 a0_2 a0_3 a1_0 a1_1 a1_2 a1_3).bind fun t512 => (if t512 = true then ((laws_eqIntS.v l0_4 l1_4).bind fun t513 => (if t513 = true then ((laws_eqKeySignatureS.v l0_5 l1_5).bind fun t514 => (if t514 = true then (some true) else (some false))) else (some false))) else (some false)) : Option (Bool)) := by
  refine LimIs.eq (laws_eqCertificate.v_lim a0_0 a0_1 a0_2 a0_3 l0_4 l0_5 a1_0 a1_1 a1_2 a1_3 l1_4 l1_5) ?_
  simp only [laws_eqCertificate.f]
  repeat' (with_reducible first | exact laws_eqGrant.v_lim _ _ _ _ _ _ _ _ | exact laws_eqIntS.v_lim _ _ | exact laws_eqKeySignatureS.v_lim _ _ | exact LimIs.const _ | refine LimIs.ite ?_ ?_ | refine LimIs.bind ?_ (fun _ => ?_))
def laws_FnExactCheckCertificate.f (k : Nat) (a0 : Int) (a1_0 : ByteArray) (a1_1 : Int) (a1_2 : Int) (a1_3 : Int) (l1_4 : List Int) (l1_5 : List (S139)) : Option (Bool) := (laws_szCertificate.f k a1_0 a1_1 a1_2 a1_3 l1_4 l1_5 1048576).bind fun t516 => (if t516 < 0 then (some true) else ((laws_toCertificate.f k a1_0 a1_1 a1_2 a1_3 l1_4 l1_5).bind fun bt517 => ((spec_CheckCertificate.f k a0 bt517.1 bt517.2.1 bt517.2.2.1 bt517.2.2.2.1 bt517.2.2.2.2.1 bt517.2.2.2.2.2).bind fun t527 => ((laws_toCertificate.f k a1_0 a1_1 a1_2 a1_3 l1_4 l1_5).bind fun bt528 => ((impl_CheckCertificate.f k a0 bt528.1 bt528.2.1 bt528.2.2.1 bt528.2.2.2.1 bt528.2.2.2.2.1 bt528.2.2.2.2.2).bind fun t539 => (if t539 = t527 then ((laws_toCertificate.f k a1_0 a1_1 a1_2 a1_3 l1_4 l1_5).bind fun bt540 => ((laws_eqCertificate.f k bt528.1 bt528.2.1 bt528.2.2.1 bt528.2.2.2.1 bt528.2.2.2.2.1 bt528.2.2.2.2.2 bt540.1 bt540.2.1 bt540.2.2.1 bt540.2.2.2.1 bt540.2.2.2.2.1 bt540.2.2.2.2.2).bind fun t550 => (if t550 = true then (some true) else (some false)))) else (some false)))))))
theorem laws_FnExactCheckCertificate.mono : ∀ a0 a1 a2 a3 a4 a5 a6 k, LeO (laws_FnExactCheckCertificate.f k a0 a1 a2 a3 a4 a5 a6) (laws_FnExactCheckCertificate.f (k + 1) a0 a1 a2 a3 a4 a5 a6) := by
  intro a0 a1 a2 a3 a4 a5 a6 k
  unfold laws_FnExactCheckCertificate.f
  repeat' first
      | (with_reducible exact impl_CheckCertificate.mono _ _ _ _ _ _ _ _)
      | (with_reducible exact laws_eqCertificate.mono _ _ _ _ _ _ _ _ _ _ _ _ _)
      | (with_reducible exact laws_szCertificate.mono _ _ _ _ _ _ _ _)
      | (with_reducible exact laws_toCertificate.mono _ _ _ _ _ _ _)
      | (with_reducible exact spec_CheckCertificate.mono _ _ _ _ _ _ _ _)
      | (with_reducible exact LeO.refl _)
      | (with_reducible exact LeO.none _)
      | (with_reducible refine LeO.ite ?_ ?_)
      | (with_reducible refine LeO.bind ?_ (fun _ => ?_))
      | exact impl_CheckCertificate.mono _ _ _ _ _ _ _ _
      | exact laws_eqCertificate.mono _ _ _ _ _ _ _ _ _ _ _ _ _
      | exact laws_szCertificate.mono _ _ _ _ _ _ _ _
      | exact laws_toCertificate.mono _ _ _ _ _ _ _
      | exact spec_CheckCertificate.mono _ _ _ _ _ _ _ _
      | exact LeO.none _
      | refine LeO.ite ?_ ?_
      | refine LeO.bind ?_ (fun _ => ?_)
noncomputable def laws_FnExactCheckCertificate.v (a0 : Int) (a1_0 : ByteArray) (a1_1 : Int) (a1_2 : Int) (a1_3 : Int) (l1_4 : List Int) (l1_5 : List (S139)) : Option (Bool) := lim (fun k_ => laws_FnExactCheckCertificate.f k_ a0 a1_0 a1_1 a1_2 a1_3 l1_4 l1_5)
theorem laws_FnExactCheckCertificate.v_lim (a0 : Int) (a1_0 : ByteArray) (a1_1 : Int) (a1_2 : Int) (a1_3 : Int) (l1_4 : List Int) (l1_5 : List (S139)) : LimIs (fun k_ => laws_FnExactCheckCertificate.f k_ a0 a1_0 a1_1 a1_2 a1_3 l1_4 l1_5) (laws_FnExactCheckCertificate.v a0 a1_0 a1_1 a1_2 a1_3 l1_4 l1_5) := lim_is (fun k_ => laws_FnExactCheckCertificate.mono a0 a1_0 a1_1 a1_2 a1_3 l1_4 l1_5 k_)
theorem laws_FnExactCheckCertificate.v_eq (a0 : Int) (a1_0 : ByteArray) (a1_1 : Int) (a1_2 : Int) (a1_3 : Int) (l1_4 : List Int) (l1_5 : List (S139)) : laws_FnExactCheckCertificate.v a0 a1_0 a1_1 a1_2 a1_3 l1_4 l1_5 = ((laws_szCertificate.v a1_0 a1_1 a1_2 a1_3 l1_4 l1_5 1048576).bind fun t516 => (if t516 < 0 then (some true) else ((laws_toCertificate.v a1_0 a1_1 a1_2 a1_3 l1_4 l1_5).bind fun bt517 => ((spec_CheckCertificate.v a0 bt517.1 bt517.2.1 bt517.2.2.1 bt517.2.2.2.1 bt517.2.2.2.2.1 bt517.2.2.2.2.2).bind fun t527 => ((laws_toCertificate.v a1_0 a1_1 a1_2 a1_3 l1_4 l1_5).bind fun bt528 => ((impl_CheckCertificate.v a0 bt528.1 bt528.2.1 bt528.2.2.1 bt528.2.2.2.1 bt528.2.2.2.2.1 bt528.2.2.2.2.2).bind fun t539 => (if t539 = t527 then ((laws_toCertificate.v a1_0 a1_1 a1_2 a1_3 l1_4 l1_5).bind fun bt540 => ((laws_eqCertificate.v bt528.1 bt528.2.1 bt528.2.2.1 bt528.2.2.2.1 bt528.2.2.2.2.1 bt528.2.2.2.2.2 bt540.1 bt540.2.1 bt540.2.2.1 bt540.2.2.2.1 bt540.2.2.2.2.1 bt540.2.2.2.2.2).bind fun t550 => (if t550 = true then (some true) else (some false)))) else (some false))))))) : Option (Bool)) := by
  refine LimIs.eq (laws_FnExactCheckCertificate.v_lim a0 a1_0 a1_1 a1_2 a1_3 l1_4 l1_5) ?_
  simp only [laws_FnExactCheckCertificate.f]
  repeat' (with_reducible first | exact impl_CheckCertificate.v_lim _ _ _ _ _ _ _ | exact laws_eqCertificate.v_lim _ _ _ _ _ _ _ _ _ _ _ _ | exact laws_szCertificate.v_lim _ _ _ _ _ _ _ | exact laws_toCertificate.v_lim _ _ _ _ _ _ | exact spec_CheckCertificate.v_lim _ _ _ _ _ _ _ | exact LimIs.const _ | refine LimIs.ite ?_ ?_ | refine LimIs.bind ?_ (fun _ => ?_))
end Go.Proofs.YtlifdodphkimpaaDoor.A
end

section
namespace Go.Proofs.YtlifdodphkimpaaDoorW.PrintWords
open Go.RowKit
theorem add0 (g j : Nat) : (⟨g, 0, none⟩ : Addr).add j = ⟨g, j, none⟩ := by rw [add_plain]; first | done | rw [Nat.zero_add]
/-- Block g holds the bytes l at its head; it has cap cells, none of them marked. -/
structure Bm (W : World) (g cap : Nat) (l : List Int) : Prop where
  cell : ∀ j, j < l.length → W.cell? ⟨g, j, none⟩ = some (.int .u8 (l.getD j 0))
  there : ∀ j, j < cap → (W.cell? ⟨g, j, none⟩).isSome = true
  free : ∀ j, j < cap → W.frozen? ⟨g, j, none⟩ = false
  room : l.length ≤ cap
theorem Bm.at {W W' : World} {g cap : Nat} {l : List Int} (h : Bm W g cap l) (e : W'.heap[g]? = W.heap[g]?) : Bm W' g cap l :=
  ⟨fun j hj => (World.cell?_of_block (a := ⟨g, j, none⟩) e).trans (h.cell j hj), fun j hj => by rw [World.cell?_of_block (a := ⟨g, j, none⟩) e]; exact h.there j hj, fun j hj => (World.frozen?_of_block (a := ⟨g, j, none⟩) e).trans (h.free j hj), h.room⟩
theorem Bm.conv (W : World) (e : Nat) (s : ByteArray) : Bm (Lib.bytesWorld W e s) W.heap.size (grownCap W s.size 0 e) (bytesOf s) := by
  have hc : s.size ≤ grownCap W s.size 0 e := grownCap_ge _ _ _ _
  have hsz : (Lib.bytesCells W e s).size = grownCap W s.size 0 e := by simp [Lib.bytesCells]; omega
  refine ⟨fun j hj => ?_, fun j hj => ?_, fun j hj => ?_, by rw [bytesOf_length]; exact hc⟩
  · rw [bytesOf_length] at hj
    rw [Lib.bytesWorld_cell W e s j hj]
    simp [bytesOf, List.getD, hj]
  · unfold World.cell?
    rw [Lib.bytesWorld_at_new]
    simp [hsz, hj]
  · unfold World.frozen?
    rw [Lib.bytesWorld_at_new]
    simp [hsz]
    omega
section
variable {P : Program} {ops : Array Oper} {rest : List Oper} {o : Oper} {a : Act} {Q : Exit → Act → World → Prop}
theorem Bm.grown {W : World} {g cap : Nat} {l ys : List Int} {e : Nat} {n : Nat} {fill : List Value} (h : Bm W g cap l) (hn : n = l.length + ys.length) :
    ∀ w1, w1.heap[W.heap.size]? = some (.cells (((nums .u8 l) ++ (nums .u8 ys) ++ fill).toArray) e (0, 0)) → Bm w1 W.heap.size (n + fill.length) (l ++ ys) := by
  intro w1 hw
  have hl : (nums .u8 l ++ nums .u8 ys ++ fill).length = n + fill.length := by simp [nums]; omega
  refine ⟨fun j hj => ?_, fun j hj => ?_, fun j hj => ?_, by simp; omega⟩
  · unfold World.cell?
    rw [hw]
    rw [List.length_append] at hj
    simp only [Option.isSome_none, Bool.false_eq_true, if_false, List.getElem?_toArray]
    rw [← nums_append, List.getElem?_append_left (by simp [nums]; omega)]
    have hjl : j < (l ++ ys).length := by rw [List.length_append]; exact hj
    simp only [nums, List.getElem?_map, List.getElem?_eq_getElem hjl, Option.map_some, List.getD, Option.getD_some]
  · unfold World.cell?
    rw [hw]
    simp only [Option.isSome_none, Bool.false_eq_true, if_false, List.getElem?_toArray]
    rw [List.getElem?_eq_getElem (by omega)]
    rfl
  · unfold World.frozen?
    rw [hw]
    simp
theorem Bm.set {W : World} {g cap : Nat} {l ys : List Int} (h : Bm W g cap l) (hr : l.length + ys.length ≤ cap) : Bm (W.setCells g l.length (nums .u8 ys)) g cap (l ++ ys) := by
  have hlen : (nums .u8 ys).length = ys.length := nums_length _ _
  refine ⟨fun j hj => ?_, fun j hj => ?_, fun j hj => ?_, by simp; omega⟩
  · rw [List.length_append] at hj
    by_cases c : j < l.length
    · rw [World.cell?_setCells_out g _ _ _ _ (fun _ _ => by dsimp only; omega), h.cell j c]
      simp [List.getD, List.getElem?_append_left c]
    · have := World.cell?_setCells_in g (nums .u8 ys) l.length W (fun i hi => h.there _ (by omega)) (j - l.length) (by omega)
      rw [show l.length + (j - l.length) = j by omega] at this
      rw [this]
      simp [nums, List.getD, List.getElem?_append_right (show l.length ≤ j by omega), List.getElem?_eq_getElem (show j - l.length < ys.length by omega)]
  · by_cases c : l.length ≤ j ∧ j < l.length + ys.length
    · have := World.cell?_setCells_in g (nums .u8 ys) l.length W (fun i hi => h.there _ (by omega)) (j - l.length) (by omega)
      rw [show l.length + (j - l.length) = j by omega] at this
      rw [this]
      rfl
    · rw [World.cell?_setCells_out g _ _ _ _ (fun _ _ => by dsimp only; omega)]
      exact h.there j hj
  · rw [World.frozen?_setCells]
    exact h.free j hj
theorem setCells_old (b : Nat) : ∀ (vs : List Value) (o : Nat) (w : World), (w.setCells b o vs).os = w.os ∧ (w.setCells b o vs).tape = w.tape ∧ (w.setCells b o vs).output = w.output ∧ (w.setCells b o vs).heap.size = w.heap.size ∧ ∀ k, k ≠ b → (w.setCells b o vs).heap[k]? = w.heap[k]?
  | [], _, w => ⟨rfl, rfl, rfl, rfl, fun _ _ => rfl⟩
  | v :: r, o, w => by
    obtain ⟨h1, h2, h3, h4, h5⟩ := setCells_old b r (o + 1) (w.setCell ⟨b, o, none⟩ v)
    refine ⟨h1, h2, h3, ?_, fun k hk => ?_⟩
    · rw [World.setCells, h4]; simp [World.setCell]
    · rw [World.setCells, h5 k hk]
      simp [World.setCell, Array.getElem?_modify, Ne.symm hk]
/-- An append to such a row. -/
theorem run_append_bm {W : World} {g cap : Nat} {l : List Int} (t u ty e : TypeId) (ht : P.underlying t = some (.slice e)) (hu : P.underlying u = some .string ∨ P.underlying u = some (.slice e)) (hinfo : (P.info? e).map (fun i => (i.zero, i.size, i.bytes)) = some (some (.int .u8 0), 1, 1))
    (x : Value) (ys : List Int) (hlen : ∀ W', (Builtin.lenOf x).run P W' = .ok ys.length W') (hf : ∀ W', W'.heap = W.heap → (Builtin.firstCells 1 ys.length x).run P W' = .ok (nums .u8 ys).toArray W')
    (HB : Bm W g cap l) (hl : l.length + ys.length ≤ 140737488355328) :
    ∃ g' cap' w1, (Builtin.append_ #[t, u] ty #[.slice (some ⟨g, 0, none⟩) l.length cap, x]).run P W = .ok (.slice (some ⟨g', 0, none⟩) (l.length + ys.length) cap') w1 ∧ Bm w1 g' cap' (l ++ ys) ∧ W.grownBy w1 (some g) ∧ (g' = g ∨ W.heap.size ≤ g') := by
  obtain ⟨i, hi, hzz⟩ := Option.map_eq_some_iff.1 hinfo
  simp only [Prod.mk.injEq] at hzz
  obtain ⟨hz, hs1, hb1⟩ := hzz
  have hnl : (nums .u8 ys).length = ys.length := nums_length _ _
  have hnl2 : (nums .u8 l).length = l.length := nums_length _ _
  by_cases hroom : l.length + ys.length ≤ cap
  · have hst := run_storeCells_cells (P := P) g l.length (nums .u8 ys) 0 W (fun j hj => HB.there _ (by omega)) (fun j hj => HB.free _ (by omega)) (fun v hv => by
      obtain ⟨z, _, rfl⟩ := List.mem_map.1 hv; rfl)
    simp only [Nat.add_zero] at hst
    refine ⟨g, cap, W.setCells g l.length (nums .u8 ys), ?_, HB.set hroom, ?_, Or.inl rfl⟩
    · rcases hu with hu | hu <;> simp [Builtin.append_, run_underlying ht, run_underlying hu, sizeOf, typeInfo, hi, hs1, hlen, hroom, hf W rfl, add0, hst]
    · obtain ⟨h1, h2, h3, h4, h5⟩ := setCells_old g (nums .u8 ys) l.length W
      exact ⟨h1, h2, h3, by omega, fun k hk hn => h5 k (by intro e; exact hn (by rw [e]))⟩
  · have h63' : ¬ (9223372036854775807 < ((l.length : Int) + (ys.length : Int))) := by omega
    have hfit : Builtin.nextslicecap (l.length + ys.length) cap * i.bytes ≤ 281474976710656 := by rw [hb1]; exact growslice_fits (by omega) (by omega)
    have h48' : ¬ (281474976710656 < Builtin.nextslicecap (l.length + ys.length) cap * i.bytes) := by omega
    have hfo := run_firstCells_some (P := P) W.drew 1 l.length ⟨g, 0, none⟩ l.length cap (nums .u8 l) (by omega) (fun j v hj => by
      rw [add0]
      have hjl : j < l.length := by
        have := (List.getElem?_eq_some_iff.1 hj).1
        omega
      have := HB.cell j hjl
      simp only [nums, List.getElem?_map, List.getElem?_eq_getElem hjl, Option.map_some, Option.some.injEq] at hj
      subst hj
      simpa [List.getD, hjl] using this)
    have hfs := hf W.drew rfl
    have hr : (Builtin.append_ #[t, u] ty #[.slice (some ⟨g, 0, none⟩) l.length cap, x]).run P W = .ok (.slice (some ⟨W.heap.size, 0, none⟩) (l.length + ys.length) (grownCap W (l.length + ys.length) cap e))
        (W.drew.alloc (.cells ((nums .u8 l).toArray ++ (nums .u8 ys).toArray ++ Builtin.zeroCells #[.int .u8 0] (grownCap W (l.length + ys.length) cap e - (l.length + ys.length))) e)) := by
      rw [← hs1] at hfo hfs
      have hzc : (Value.int .u8 0).cells = #[.int .u8 0] := rfl
      rcases hu with hu | hu <;> simp [Builtin.append_, run_underlying ht, run_underlying hu, sizeOf, typeInfo, zeroValue, hi, hz, hlen, hroom, h63', h48', Question.forced, hfs, hfo, newRow, grownCap, hzc]
      all_goals (congr 2; apply Array.ext'; simp [List.append_assoc])
    have hge : l.length + ys.length ≤ grownCap W (l.length + ys.length) cap e := grownCap_ge _ _ _ _
    refine ⟨W.heap.size, _, _, hr, ?_, ?_, Or.inr (Nat.le_refl _)⟩
    · have := HB.grown (e := e) (ys := ys) (n := l.length + ys.length) (fill := (Builtin.zeroCells #[.int .u8 0] (grownCap W (l.length + ys.length) cap e - (l.length + ys.length))).toList) rfl (W.drew.alloc (.cells ((nums .u8 l).toArray ++ (nums .u8 ys).toArray ++ Builtin.zeroCells #[.int .u8 0] (grownCap W (l.length + ys.length) cap e - (l.length + ys.length))) e)) (by
        simp [World.alloc, World.drew, -World.alloc_eq, -World.drew_eq])
      have hz2 : (Builtin.zeroCells #[.int .u8 0] (grownCap W (l.length + ys.length) cap e - (l.length + ys.length))).toList.length = grownCap W (l.length + ys.length) cap e - (l.length + ys.length) := by simp [Builtin.zeroCells]
      rw [hz2, show l.length + ys.length + (grownCap W (l.length + ys.length) cap e - (l.length + ys.length)) = grownCap W (l.length + ys.length) cap e by omega] at this
      exact this
    · exact ⟨rfl, rfl, rfl, by simp [World.alloc, World.drew, -World.alloc_eq, -World.drew_eq], fun k hk hn => by
        have : W.heap.size ≠ k := by omega
        simp [World.alloc, World.drew, -World.alloc_eq, -World.drew_eq, Array.getElem?_push, Ne.symm this]⟩
end
end Go.Proofs.YtlifdodphkimpaaDoorW.PrintWords
end
