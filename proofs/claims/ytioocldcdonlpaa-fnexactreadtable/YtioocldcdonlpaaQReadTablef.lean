/- A part of the proof that FnExactReadTable returns true at every input: plain functions, contracts and lemmas. No conditions. -/
import Derived.Test.YtioocldcdonlpaaQReadTablee
set_option linter.unusedVariables false
set_option linter.unusedSimpArgs false
set_option linter.unusedSectionVars false
section
namespace Go.Proofs.Ytioocldcdonlpaa.B
open Go.RowKit Go.Proofs.YtioocldcdonlpaaW.PrintWords Go.Proofs.YtioocldcdonlpaaW.PrintLast Go.Proofs.YtioocldcdonlpaaW.PrintMore
attribute [local go_sem] max2_int min2_int max_two min_two max_three min_three max_four min_four
theorem sgeq_48 (t : TypeId) (a b : ByteArray) : Go.binOp .geq t (.string a) (.string b) = pure (.bool !(Op.bytesLess a.toList b.toList)) := by simp [Go.binOp, Op.stringOp]
attribute [local go_sem] sgeq_48
def spec_TableOK.T7 : Bool × List (List Nat × List Nat) := (true, [([], []), ([0], [0]), ([1], [1]), ([2], [2]), ([3, 2], [3]), ([4], [4]), ([5, 4], [4, 5]), ([6, 4, 4], [4, 6]), ([7], [7]), ([8, 7], [7, 8]), ([7], [7]), ([10, 7], [7, 10]), ([9, 11, 7], [7, 9, 11]), ([12, 7], [7, 12]), ([13, 7], [7, 13]), ([7], [7]), ([15, 7], [7, 15]), ([14, 16, 7], [7, 14, 16]), ([7, 17, 4], [4, 7, 17]), ([4, 18], [4, 18]), ([19, 7], [19]), ([20], [20]), ([21, 20], [20, 21]), ([20], [20]), ([23, 20], [20, 23]), ([24, 20], [20, 24]), ([22, 25, 20, 20], [20, 22, 25]), ([26, 20], [20, 26]), ([20, 27], [20, 27]), ([28, 26], [28]), ([29], [29]), ([30, 29], [29, 30]), ([31, 29, 29], [29, 31]), ([32, 29], [29, 32]), ([29, 33], [29, 33]), ([34, 32], [34]), ([35], [35]), ([36, 35], [35, 36]), ([37, 35, 35], [35, 37]), ([38, 35], [35, 38]), ([35, 39], [35, 39]), ([40, 38], [40]), ([41], [41]), ([42, 41], [41, 42]), ([43, 41], [41, 43]), ([44, 41], [41, 44]), ([41, 45], [41, 45])])
def spec_TableOK.B7 : List Nat := [0, 1, 3, 7, 15, 31, 63, 127, 255, 511, 255, 1279, 4095, 8191, 16383, 255, 33023, 131071, 262143, 524287, 1048575, 2097151, 4194303, 2097151, 10485759, 27262975, 67108863, 134217727, 268435455, 536870911, 1073741823, 2147483647, 4294967295, 8589934591, 17179869183, 34359738367, 68719476735, 137438953471, 274877906943, 549755813887, 1099511627775, 2199023255551, 4398046511103, 8796093022207, 17592186044415, 35184372088831, 70368744177663]
theorem spec_TableOK.tab7 : rtab .any (opsOf Try.f48 7) = spec_TableOK.T7 := by kernel_rfl
theorem spec_TableOK.bits7 : waitsOk spec_TableOK.T7.2 spec_TableOK.B7 = true := by kernel_rfl
def spec_TableOK.T20 : Bool × List (List Nat × List Nat) := (true, [([], []), ([0], [0]), ([], []), ([1, 2], [1, 2]), ([3], [3]), ([4], [4]), ([], []), ([6], [6]), ([5, 7], [5, 7])])
def spec_TableOK.B20 : List Nat := [0, 1, 0, 7, 15, 31, 0, 64, 255]
theorem spec_TableOK.tab20 : rtab .any (opsOf Try.f48 20) = spec_TableOK.T20 := by kernel_rfl
theorem spec_TableOK.bits20 : waitsOk spec_TableOK.T20.2 spec_TableOK.B20 = true := by kernel_rfl
def spec_TableOK.T26 : Bool × List (List Nat × List Nat) := (true, [([], []), ([0], [0]), ([1], [1]), ([2], [2]), ([3, 2], [3]), ([4], [4]), ([5, 4], [4, 5]), ([6, 4, 4], [4, 6]), ([7, 4], [4, 7]), ([4, 8], [4, 8]), ([9, 7], [9]), ([10], [10]), ([11, 10], [10, 11]), ([12, 10, 10], [10, 12]), ([13, 10], [10, 13]), ([10, 14], [10, 14]), ([15, 13], [15]), ([16], [16]), ([17, 16], [16, 17]), ([18, 16, 16], [16, 18]), ([19], [19]), ([20, 19], [19, 20]), ([19], [19]), ([22, 19], [19, 22]), ([21, 23, 19], [19, 21, 23]), ([24, 19], [19, 24]), ([25, 19], [19, 25]), ([19], [19]), ([27, 19], [19, 27]), ([26, 28, 19], [19, 26, 28]), ([19, 29, 16], [16, 19, 29]), ([16, 30], [16, 30])])
def spec_TableOK.B26 : List Nat := [0, 1, 3, 7, 15, 31, 63, 127, 255, 511, 1023, 2047, 4095, 8191, 16383, 32767, 65535, 131071, 262143, 524287, 1048575, 2097151, 1048575, 5242879, 16777215, 33554431, 67108863, 1048575, 135266303, 536870911, 1073741823, 2147483647]
theorem spec_TableOK.tab26 : rtab .any (opsOf Try.f48 26) = spec_TableOK.T26 := by kernel_rfl
theorem spec_TableOK.bits26 : waitsOk spec_TableOK.T26.2 spec_TableOK.B26 = true := by kernel_rfl
set_option maxHeartbeats 8000000 in
set_option maxRecDepth 100000 in
theorem spec_TableOK.calls (k : Nat) (a0_0 : Int) (a0_1 : Int) (A0_2 : Option Addr) (c0_2 : Nat) (l0_2 : List (S78)) (A0_3 : Option Addr) (c0_3 : Nat) (l0_3 : List (S84)) (r : Bool) (w : World) (hr0_2 : Kd.C k78 w A0_2 l0_2.length l0_2) (hc0_2 : l0_2.length ≤ c0_2) (hr0_3 : Kd.C k84 w A0_3 l0_3.length l0_3) (hc0_3 : l0_3.length ≤ c0_3) (h : spec_TableOK.f k a0_0 a0_1 l0_2 l0_3 = some r) :
  Calls Try.prog 48 #[.agg #[.int .i64 a0_0, .int .i64 a0_1, .slice A0_2 l0_2.length c0_2, .slice A0_3 l0_3.length c0_3]] w fun e w' => e = .returned (.bool r) ∧ Below w.heap.size w w' := by
 have hu26 := Try.underlying26
 have hu78 := Try.underlying78
 have hu80 := Try.underlying80
 have hu84 := Try.underlying84
 have hu82 := Try.underlying82
 have HR0_2 := am_ hr0_2
 have HC0_2 := am_ hc0_2
 clear hr0_2 hc0_2
 have HR0_3 := am_ hr0_3
 have HC0_3 := am_ hc0_3
 clear hr0_3 hc0_3
 have HB := am_ (Below.refl w.heap.size w)
 have H : ((spec_l01In.f a0_0 0 1000000000).bind fun t117 => (if t117 = true then ((spec_l01In.f a0_1 1 1000000).bind fun t118 => (if t118 = true then (if (l0_2.length : Int) > 4 then (spec_TableOK.j0 k true a0_0 a0_1 l0_2 l0_3) else (spec_TableOK.j0 k (decide ((l0_3.length : Int) > 6)) a0_0 a0_1 l0_2 l0_3)) else (spec_TableOK.j0 k true a0_0 a0_1 l0_2 l0_3))) else (spec_TableOK.j0 k true a0_0 a0_1 l0_2 l0_3))) = some r := h
 clear h
 have HC2 := am_ H
 clear H
 go_enter Try.func48, Try.ntmps48
 go_upto_region 1 with (first | ((with_reducible refine gate_dst (N := 1) rfl ?_); (try (refine gate_guard (by rfl) ?_; dsimp only)); refine zbx (N := 1) (cs := #[.int .i64 a0_0, .int .i64 a0_1, .slice A0_2 l0_2.length c0_2, .slice A0_3 l0_3.length c0_3]) (t := 26) ?_; intro gb116 hg w3 hbox hb; have BK116 := am_ (hbox); have GW116 := zw_ HB hg; have GE116 := zw_ HB hg; replace HB := zs_ HB hb; clear hb hbox hg))
 (try simp only [Act.put, p1_, p2_, p3_])
 go_cut [31] (fun v31 wc => ∃ (kq : Nat) (x31_1 : Bool), v31 = .bool x31_1 ∧ Aside0 (spec_TableOK.j0 kq x31_1 a0_0 a0_1 l0_2 l0_3 = some r) ∧ Aside0 (kq ≤ k) ∧ Aside0 (wc.heap[gb116]? = some (.cells #[.int .i64 a0_0, .int .i64 a0_1, (.slice A0_2 l0_2.length c0_2), (.slice A0_3 l0_3.length c0_3)] 26 (0, 0))) ∧ Aside0 (Below w.heap.size w wc))
 case first =>
  have H := HC2.out
  clear HC2
  replace H := Option.bind_eq_some_iff.mp H
  obtain ⟨t117, A40, H⟩ := H
  replace H : (if t117 = true then ((spec_l01In.f a0_1 1 1000000).bind fun t118 => (if t118 = true then (if (l0_2.length : Int) > 4 then (spec_TableOK.j0 k true a0_0 a0_1 l0_2 l0_3) else (spec_TableOK.j0 k (decide ((l0_3.length : Int) > 6)) a0_0 a0_1 l0_2 l0_3)) else (spec_TableOK.j0 k true a0_0 a0_1 l0_2 l0_3))) else (spec_TableOK.j0 k true a0_0 a0_1 l0_2 l0_3)) = some r := H
  have A4 := am_ A40
  clear A40
  by_cases c5 : t117 = true
  ·subst c5
   have H1 : ((spec_l01In.f a0_1 1 1000000).bind fun t118 => (if t118 = true then (if (l0_2.length : Int) > 4 then (spec_TableOK.j0 k true a0_0 a0_1 l0_2 l0_3) else (spec_TableOK.j0 k (decide ((l0_3.length : Int) > 6)) a0_0 a0_1 l0_2 l0_3)) else (spec_TableOK.j0 k true a0_0 a0_1 l0_2 l0_3))) = some r := by rw [if_pos rfl] at H; exact H
   clear H
   have H := H1
   clear H1
   replace H := Option.bind_eq_some_iff.mp H
   obtain ⟨t118, A60, H⟩ := H
   replace H : (if t118 = true then (if (l0_2.length : Int) > 4 then (spec_TableOK.j0 k true a0_0 a0_1 l0_2 l0_3) else (spec_TableOK.j0 k (decide ((l0_3.length : Int) > 6)) a0_0 a0_1 l0_2 l0_3)) else (spec_TableOK.j0 k true a0_0 a0_1 l0_2 l0_3)) = some r := H
   have A6 := am_ A60
   clear A60
   by_cases c7 : t118 = true
   ·subst c7
    have H1 : (if (l0_2.length : Int) > 4 then (spec_TableOK.j0 k true a0_0 a0_1 l0_2 l0_3) else (spec_TableOK.j0 k (decide ((l0_3.length : Int) > 6)) a0_0 a0_1 l0_2 l0_3)) = some r := by rw [if_pos rfl] at H; exact H
    clear H
    have H := H1
    clear H1
    by_cases c8 : (l0_2.length : Int) > 4
    ·rw [if_pos c8] at H
     have c8b0 : decide (4 < (l0_2.length : Int)) = true := decide_eq_true c8
     have c8b1 : decide (4 < l0_2.length) = true := decide_eq_true (by omega)
     clear c8
     (first | rw [c8b0] | (simp only [i64_w, i32_w]; rw [c8b0]) | skip)
     have H' := am_ H
     clear H
     obtain ⟨hcz9_0, hcz9_1, hcz9_2, hcz9_3, hfz9_0, hfz9_1, hfz9_2, hfz9_3⟩ := zc4 BK116
     go_wp2_with (first | ((with_reducible refine gate_callee (f := 58) rfl ?_); refine zgl (some 12) Try.func58 #[.int .i64 a0_0, .int .i64 0, .int .i64 1000000000] ?_; (with_reducible refine (spec_l01In.calls a0_0 0 1000000000 true _ A4.out).mono ?_); rintro e w' ⟨rfl, ⟨nd, rfl⟩⟩; refine ⟨_, rfl, ?_⟩) | (go_at_call 58; (with_reducible refine (spec_l01In.calls a0_1 1 1000000 true _ A6.out).mono ?_); rintro e w' ⟨rfl, ⟨nd, rfl⟩⟩))
     go_meet
     case rel => exact ⟨_, (true), (by first | rfl | (simp; done) | (simp [*]; done)), H', ⟨by first | omega | exact Nat.le_refl _⟩, ⟨by (with_reducible repeat (first | apply k1_ | apply k2_ | apply k3_)); exact BK116.out⟩, ⟨zl_ HB⟩⟩
    ·rw [if_neg c8] at H
     have c8b0 : decide (4 < (l0_2.length : Int)) = false := decide_eq_false c8
     have c8b1 : decide (4 < l0_2.length) = false := decide_eq_false (by omega)
     clear c8
     (first | rw [c8b0] | (simp only [i64_w, i32_w]; rw [c8b0]) | skip)
     have H' := am_ H
     clear H
     obtain ⟨hcz10_0, hcz10_1, hcz10_2, hcz10_3, hfz10_0, hfz10_1, hfz10_2, hfz10_3⟩ := zc4 BK116
     go_wp2_with (first | ((with_reducible refine gate_callee (f := 58) rfl ?_); refine zgl (some 12) Try.func58 #[.int .i64 a0_0, .int .i64 0, .int .i64 1000000000] ?_; (with_reducible refine (spec_l01In.calls a0_0 0 1000000000 true _ A4.out).mono ?_); rintro e w' ⟨rfl, ⟨nd, rfl⟩⟩; refine ⟨_, rfl, ?_⟩) | (go_at_call 58; (with_reducible refine (spec_l01In.calls a0_1 1 1000000 true _ A6.out).mono ?_); rintro e w' ⟨rfl, ⟨nd, rfl⟩⟩))
     go_meet
     case rel => exact ⟨_, (decide ((l0_3.length : Int) > 6)), (by first | rfl | (simp; done) | (simp [*]; done)), H', ⟨by first | omega | exact Nat.le_refl _⟩, ⟨by (with_reducible repeat (first | apply k1_ | apply k2_ | apply k3_)); exact BK116.out⟩, ⟨zl_ HB⟩⟩
   ·replace c7 := Bool.eq_false_iff.mpr c7
    subst c7
    have H1 : (spec_TableOK.j0 k true a0_0 a0_1 l0_2 l0_3) = some r := by rw [if_neg (show ¬ (false = true) by decide)] at H; exact H
    clear H
    have H := H1
    clear H1
    have H' := am_ H
    clear H
    obtain ⟨hcz11_0, hcz11_1, hcz11_2, hcz11_3, hfz11_0, hfz11_1, hfz11_2, hfz11_3⟩ := zc4 BK116
    go_wp2_with (first | ((with_reducible refine gate_callee (f := 58) rfl ?_); refine zgl (some 12) Try.func58 #[.int .i64 a0_0, .int .i64 0, .int .i64 1000000000] ?_; (with_reducible refine (spec_l01In.calls a0_0 0 1000000000 true _ A4.out).mono ?_); rintro e w' ⟨rfl, ⟨nd, rfl⟩⟩; refine ⟨_, rfl, ?_⟩) | (go_at_call 58; (with_reducible refine (spec_l01In.calls a0_1 1 1000000 false _ A6.out).mono ?_); rintro e w' ⟨rfl, ⟨nd, rfl⟩⟩))
    go_meet
    case rel => exact ⟨_, (true), (by first | rfl | (simp; done) | (simp [*]; done)), H', ⟨by first | omega | exact Nat.le_refl _⟩, ⟨by (with_reducible repeat (first | apply k1_ | apply k2_ | apply k3_)); exact BK116.out⟩, ⟨zl_ HB⟩⟩
  ·replace c5 := Bool.eq_false_iff.mpr c5
   subst c5
   have H1 : (spec_TableOK.j0 k true a0_0 a0_1 l0_2 l0_3) = some r := by rw [if_neg (show ¬ (false = true) by decide)] at H; exact H
   clear H
   have H := H1
   clear H1
   have H' := am_ H
   clear H
   obtain ⟨hcz12_0, hcz12_1, hcz12_2, hcz12_3, hfz12_0, hfz12_1, hfz12_2, hfz12_3⟩ := zc4 BK116
   go_wp2_with (first | ((with_reducible refine gate_callee (f := 58) rfl ?_); refine zgl (some 12) Try.func58 #[.int .i64 a0_0, .int .i64 0, .int .i64 1000000000] ?_; (with_reducible refine (spec_l01In.calls a0_0 0 1000000000 false _ A4.out).mono ?_); rintro e w' ⟨rfl, ⟨nd, rfl⟩⟩; refine ⟨_, rfl, ?_⟩))
   go_meet
   case rel => exact ⟨_, (true), (by first | rfl | (simp; done) | (simp [*]; done)), H', ⟨by first | omega | exact Nat.le_refl _⟩, ⟨by (with_reducible repeat (first | apply k1_ | apply k2_ | apply k3_)); exact BK116.out⟩, ⟨zl_ HB⟩⟩
 case rest =>
  revert u10 u11 u12 u13 u14 u15 u16 u17 u18 u19 u20 u21 u22 u23 u24 u25 u26 u27 u28 u29 u30 u31 u32 u33 u34 u35 u36 u37 u38 u39 u40 u41 u42 u43 u44 u45 u46 u47 u48 u49 u50 u51 u52 u53 u54 u55 u56 u57 u58 u59 u60 u61 u62 u63 u64 u65 u66 u67 u68 u69 u70 u71 u72 u73 u74 u75 u76 u77 u78 u79 u80 u81 u82 u83 u84 u85 u86 u87 u88 u89 u90 u91 u92 u93 u94 u95 u96 u97 u98 u99 u100 u101 u102 u103 u104 u105 u106 u107 u108 u109 u110 u111 u112 u113 u114 u115 u116 u117 u118 u119 u120 u121 u122 u123 u124 u125 u126 u127 u128 u129 u130 u131 u132 u133 u134 u135 u136 u137 u138 u139 u140 u141 u142 u143 u144 u145 u146 u147 u148 u149 u150 u151 u152 u153 u154 u155 u156 u157 u158 u159 u160 u161 u162 u163 u164 u165 u166 u167 u168 u169 u170 u171 u172 u173 u174 u175 u176 u177 u178 u179 u180 u181 u182 u183 u184 u185 u186 u187 u188 u189 u190 u191
  refine id ?_
  intro u10 u11 u12 u13 u14 u15 u16 u17 u18 u19 u20 u21 u22 u23 u24 u25 u26 u27 u28 u29 u30 u31 u32 u33 u34 u35 u36 u37 u38 u39 u40 u41 u42 u43 u44 u45 u46 u47 u48 u49 u50 u51 u52 u53 u54 u55 u56 u57 u58 u59 u60 u61 u62 u63 u64 u65 u66 u67 u68 u69 u70 u71 u72 u73 u74 u75 u76 u77 u78 u79 u80 u81 u82 u83 u84 u85 u86 u87 u88 u89 u90 u91 u92 u93 u94 u95 u96 u97 u98 u99 u100 u101 u102 u103 u104 u105 u106 u107 u108 u109 u110 u111 u112 u113 u114 u115 u116 u117 u118 u119 u120 u121 u122 u123 u124 u125 u126 u127 u128 u129 u130 u131 u132 u133 u134 u135 u136 u137 u138 u139 u140 u141 u142 u143 u144 u145 u146 u147 u148 u149 u150 u151 u152 u153 u154 u155 u156 u157 u158 u159 u160 u161 u162 u163 u164 u165 u166 u167 u168 u169 u170 u171 u172 u173 u174 u175 u176 u177 u178 u179 u180 u181 u182 u183 u184 u185 u186 u187 u188 u189 u190 u191 hcut
  clear HC2
  try clear p2
  try clear c4
  try clear c5
  try clear c7
  try clear c8
  try clear c8b0
  try clear c8b1
  try clear hcz10_0
  try clear hcz10_1
  try clear hcz10_2
  try clear hcz10_3
  try clear hcz11_0
  try clear hcz11_1
  try clear hcz11_2
  try clear hcz11_3
  try clear hcz12_0
  try clear hcz12_1
  try clear hcz12_2
  try clear hcz12_3
  try clear hcz9_0
  try clear hcz9_1
  try clear hcz9_2
  try clear hcz9_3
  try clear hfz10_0
  try clear hfz10_1
  try clear hfz10_2
  try clear hfz10_3
  try clear hfz11_0
  try clear hfz11_1
  try clear hfz11_2
  try clear hfz11_3
  try clear hfz12_0
  try clear hfz12_1
  try clear hfz12_2
  try clear hfz12_3
  try clear hfz9_0
  try clear hfz9_1
  try clear hfz9_2
  try clear hfz9_3
  obtain ⟨kq, x31_1, rfl, HA, HJ1, BK116, HB⟩ := hcut
  cases kq with
  | zero => exact absurd HA.out (by simp [spec_TableOK.j0])
  | succ kj1 =>
   have H := HA.out
   clear HA
   simp only [spec_TableOK.j0] at H
   by_cases c13 : x31_1 = true
   ·subst c13
    have H1 : (some false) = some r := by rw [if_pos rfl] at H; exact H
    clear H
    have H := H1
    clear H1
    obtain rfl := Option.some.inj H
    go_wp2
    go_ret
    exact ⟨zt_, zl_ HB⟩
   ·replace c13 := Bool.eq_false_iff.mpr c13
    subst c13
    have H1 : (spec_TableOK.l0 kj1 0 a0_0 a0_1 l0_2 l0_3) = some r := by rw [if_neg (show ¬ (false = true) by decide)] at H; exact H
    clear H
    have H := H1
    clear H1
    have H' := am_ H
    clear H
    go_wp2
    go_loopg [3] kj1 (fun kq v3 w' => ∃ (x3_2 : Int), v3 = .int .i64 x3_2 ∧ Aside0 (spec_TableOK.l0 kq x3_2 a0_0 a0_1 l0_2 l0_3 = some r) ∧ Aside0 (kq ≤ kj1) ∧ Aside0 (w'.heap[gb116]? = some (.cells #[.int .i64 a0_0, .int .i64 a0_1, (.slice A0_2 l0_2.length c0_2), (.slice A0_3 l0_3.length c0_3)] 26 (0, 0))) ∧ Aside0 (Below w.heap.size w w'))
    case atStart => exact ⟨(0), (by first | rfl | (simp; done) | (simp [*]; done)), H', ⟨Nat.le_refl _⟩, ⟨by (with_reducible repeat (first | apply k1_ | apply k2_ | apply k3_)); exact BK116.out⟩, ⟨zl_ HB⟩⟩
    case round =>
     revert u2 u3 u4 u5 u6 u7 u32 u33 u34 u35 u36 u37 u38 u39 u40 u41 u42 u43 u44 u45 u46 u47 u48 u49 u50 u51 u52 u53 u54 u55 u56 u57 u58 u59 u60 u61 u62 u63 u64 u65 u66 u67 u68 u69 u70 u71 u72 u73 u74 u75 u76 u77 u78 u79 u80 u81 u82 u83 u84 u85 u86 u87 u88 u89 u90 u91 u92 u93 u94 u95 u96 u97 u98 u99 u100 u101 u102 u103 u104 u105 u106 u107 u108 u109 u110 u111 u112 u113 u114 u115 u116 u117 u118 u119 u120 u121 u122 u123 u124 u125 u126 u127 u128 u129 u130 u131 u132 u133 u134 u135 u136 u137 u138 u139 u140 u141 u142 u143 u144 u145 u146 u147
     refine id ?_
     intro u2 u3 u4 u5 u6 u7 u32 u33 u34 u35 u36 u37 u38 u39 u40 u41 u42 u43 u44 u45 u46 u47 u48 u49 u50 u51 u52 u53 u54 u55 u56 u57 u58 u59 u60 u61 u62 u63 u64 u65 u66 u67 u68 u69 u70 u71 u72 u73 u74 u75 u76 u77 u78 u79 u80 u81 u82 u83 u84 u85 u86 u87 u88 u89 u90 u91 u92 u93 u94 u95 u96 u97 u98 u99 u100 u101 u102 u103 u104 u105 u106 u107 u108 u109 u110 u111 u112 u113 u114 u115 u116 u117 u118 u119 u120 u121 u122 u123 u124 u125 u126 u127 u128 u129 u130 u131 u132 u133 u134 u135 u136 u137 u138 u139 u140 u141 u142 u143 u144 u145 u146 u147 hrel
     clear H'
     try clear c1
     try clear p2
     try clear c4
     try clear c5
     try clear c7
     try clear c8
     try clear c8b0
     try clear c8b1
     try clear c13
     try clear hcz10_0
     try clear hcz10_1
     try clear hcz10_2
     try clear hcz10_3
     try clear hcz11_0
     try clear hcz11_1
     try clear hcz11_2
     try clear hcz11_3
     try clear hcz12_0
     try clear hcz12_1
     try clear hcz12_2
     try clear hcz12_3
     try clear hcz9_0
     try clear hcz9_1
     try clear hcz9_2
     try clear hcz9_3
     try clear hfz10_0
     try clear hfz10_1
     try clear hfz10_2
     try clear hfz10_3
     try clear hfz11_0
     try clear hfz11_1
     try clear hfz11_2
     try clear hfz11_3
     try clear hfz12_0
     try clear hfz12_1
     try clear hfz12_2
     try clear hfz12_3
     try clear hfz9_0
     try clear hfz9_1
     try clear hfz9_2
     try clear hfz9_3
     try clear p2
     obtain ⟨x3_2, rfl, HA, HK2, BK116, HB⟩ := hrel
     cases gk with
     | zero => exact absurd HA.out (by simp [spec_TableOK.l0])
     | succ k2 =>
      have H := HA.out
      clear HA
      simp only [spec_TableOK.l0] at H
      by_cases c14 : x3_2 < (l0_2.length : Int)
      ·rw [if_pos c14] at H
       have c14b0 : decide (x3_2 < (l0_2.length : Int)) = true := decide_eq_true c14
       clear c14
       by_cases c15 : 0 ≤ x3_2
       ·rw [if_pos c15] at H
        have c15b0 : decide (0 ≤ x3_2) = true := decide_eq_true c15
        clear c15
        have HC16 := am_ H
        clear H
        obtain ⟨hcz17_0, hcz17_1, hcz17_2, hcz17_3, hfz17_0, hfz17_1, hfz17_2, hfz17_3⟩ := zc4 BK116
        have p119 : 0 ≤ (x3_2 : Int) := zo_
        have q119 : x3_2 < (l0_2.length : Int) := zo_
        obtain ⟨ad119, A119_4, c119_4, e119, hx119_0, hx119_1, hx119_2, hx119_3, hx119_4, hl119_4, hi119_4⟩ := at_T78 HR0_2.out x3_2 p119 q119
        have hv119_4 := hx119_4
        cases e119
        replace hx119_0 := zx_ HB hx119_0
        replace hx119_1 := zx_ HB hx119_1
        replace hx119_2 := zx_ HB hx119_2
        replace hx119_3 := zx_ HB hx119_3
        replace hx119_4 := zx_ HB hx119_4
        have HR119_4 := am_ hi119_4
        have HC119_4 := am_ hl119_4
        clear hi119_4 hl119_4
        replace p119 := eq_true p119
        replace q119 := eq_true q119
        go_upto_region 7 with (first | ((with_reducible refine gate_dst (N := 4) rfl ?_); (try (refine gate_guard (by rfl) ?_; dsimp only)); refine zbx (N := 4) (cs := #[.string (⟨#[]⟩ : ByteArray), .int .i64 0, .int .i64 0, .int .i64 0, .slice none 0 0]) (t := 78) ?_; intro gb120 hg w18 hbox hb; have BK120 := am_ (hbox); have GW120 := zw_ HB hg; have GE120 := zw_ HB hg; replace HB := zs_ HB hb; have NB116_120 := zl hg BK116; have NB120_116 := zg hg BK116; replace BK116 := zb BK116 hb; clear hb hbox hg; have hnb19 := NB120_116.out; have hnc19 := NB116_120.out; obtain ⟨hcz20_0, hcz20_1, hcz20_2, hcz20_3, hcz20_4, hfz20_0, hfz20_1, hfz20_2, hfz20_3, hfz20_4⟩ := zc5 BK120))
        (try simp only [Act.put, p1_, p2_, p3_])
        go_cut [90] (fun v90 wc => ∃ (kq : Nat) (x90_15 : Bool), v90 = .bool x90_15 ∧ Aside0 (spec_TableOK.j2 kq x3_2 x90_15 a0_0 a0_1 l0_2 l0_3 ((rd_T78 l0_2 x3_2).f0) ((rd_T78 l0_2 x3_2).f1) ((rd_T78 l0_2 x3_2).f2) ((rd_T78 l0_2 x3_2).f3) ((rd_T78 l0_2 x3_2).f4) = some r) ∧ Aside0 (kq ≤ k2) ∧ Aside0 (wc.heap[gb116]? = some (.cells #[.int .i64 a0_0, .int .i64 a0_1, (.slice (some ad119) l0_2.length c0_2), (.slice A0_3 l0_3.length c0_3)] 26 (0, 0))) ∧ Aside0 (wc.heap[gb120]? = some (.cells #[.string ((rd_T78 l0_2 x3_2).f0), .int .i64 ((rd_T78 l0_2 x3_2).f1), .int .i64 ((rd_T78 l0_2 x3_2).f2), .int .i64 ((rd_T78 l0_2 x3_2).f3), (.slice A119_4 ((rd_T78 l0_2 x3_2).f4).length c119_4)] 78 (0, 0))) ∧ Aside0 (Below w.heap.size w wc))
        case first =>
         have H := HC16.out
         clear HC16
         replace H := Option.bind_eq_some_iff.mp H
         obtain ⟨t121, A210, H⟩ := H
         replace H : (if t121 = true then (if x3_2 > 0 then (if 0 ≤ (wrap64 (x3_2 - 1)) then (if (wrap64 (x3_2 - 1)) < (l0_2.length : Int) then (if ((Op.bytesLess (((rd_T78 l0_2 (wrap64 (x3_2 - 1))).f0).toList) (((rd_T78 l0_2 x3_2).f0).toList)) = true) then ((spec_l01In.f ((rd_T78 l0_2 x3_2).f1) 0 (wrap64 (a0_1 - 1))).bind fun t123 => (if t123 = true then ((spec_l01In.f ((rd_T78 l0_2 x3_2).f2) (-1) 255).bind fun t124 => (if t124 = true then ((spec_l01In.f ((rd_T78 l0_2 x3_2).f3) 0 2000000000).bind fun t125 => (if t125 = true then (spec_TableOK.j2 k2 x3_2 (decide ((((rd_T78 l0_2 x3_2).f4).length : Int) > 4)) a0_0 a0_1 l0_2 l0_3 ((rd_T78 l0_2 x3_2).f0) ((rd_T78 l0_2 x3_2).f1) ((rd_T78 l0_2 x3_2).f2) ((rd_T78 l0_2 x3_2).f3) ((rd_T78 l0_2 x3_2).f4)) else (spec_TableOK.j2 k2 x3_2 true a0_0 a0_1 l0_2 l0_3 ((rd_T78 l0_2 x3_2).f0) ((rd_T78 l0_2 x3_2).f1) ((rd_T78 l0_2 x3_2).f2) ((rd_T78 l0_2 x3_2).f3) ((rd_T78 l0_2 x3_2).f4)))) else (spec_TableOK.j2 k2 x3_2 true a0_0 a0_1 l0_2 l0_3 ((rd_T78 l0_2 x3_2).f0) ((rd_T78 l0_2 x3_2).f1) ((rd_T78 l0_2 x3_2).f2) ((rd_T78 l0_2 x3_2).f3) ((rd_T78 l0_2 x3_2).f4)))) else (spec_TableOK.j2 k2 x3_2 true a0_0 a0_1 l0_2 l0_3 ((rd_T78 l0_2 x3_2).f0) ((rd_T78 l0_2 x3_2).f1) ((rd_T78 l0_2 x3_2).f2) ((rd_T78 l0_2 x3_2).f3) ((rd_T78 l0_2 x3_2).f4)))) else (spec_TableOK.j2 k2 x3_2 true a0_0 a0_1 l0_2 l0_3 ((rd_T78 l0_2 x3_2).f0) ((rd_T78 l0_2 x3_2).f1) ((rd_T78 l0_2 x3_2).f2) ((rd_T78 l0_2 x3_2).f3) ((rd_T78 l0_2 x3_2).f4))) else (none)) else (none)) else ((spec_l01In.f ((rd_T78 l0_2 x3_2).f1) 0 (wrap64 (a0_1 - 1))).bind fun t126 => (if t126 = true then ((spec_l01In.f ((rd_T78 l0_2 x3_2).f2) (-1) 255).bind fun t127 => (if t127 = true then ((spec_l01In.f ((rd_T78 l0_2 x3_2).f3) 0 2000000000).bind fun t128 => (if t128 = true then (spec_TableOK.j2 k2 x3_2 (decide ((((rd_T78 l0_2 x3_2).f4).length : Int) > 4)) a0_0 a0_1 l0_2 l0_3 ((rd_T78 l0_2 x3_2).f0) ((rd_T78 l0_2 x3_2).f1) ((rd_T78 l0_2 x3_2).f2) ((rd_T78 l0_2 x3_2).f3) ((rd_T78 l0_2 x3_2).f4)) else (spec_TableOK.j2 k2 x3_2 true a0_0 a0_1 l0_2 l0_3 ((rd_T78 l0_2 x3_2).f0) ((rd_T78 l0_2 x3_2).f1) ((rd_T78 l0_2 x3_2).f2) ((rd_T78 l0_2 x3_2).f3) ((rd_T78 l0_2 x3_2).f4)))) else (spec_TableOK.j2 k2 x3_2 true a0_0 a0_1 l0_2 l0_3 ((rd_T78 l0_2 x3_2).f0) ((rd_T78 l0_2 x3_2).f1) ((rd_T78 l0_2 x3_2).f2) ((rd_T78 l0_2 x3_2).f3) ((rd_T78 l0_2 x3_2).f4)))) else (spec_TableOK.j2 k2 x3_2 true a0_0 a0_1 l0_2 l0_3 ((rd_T78 l0_2 x3_2).f0) ((rd_T78 l0_2 x3_2).f1) ((rd_T78 l0_2 x3_2).f2) ((rd_T78 l0_2 x3_2).f3) ((rd_T78 l0_2 x3_2).f4))))) else (spec_TableOK.j2 k2 x3_2 true a0_0 a0_1 l0_2 l0_3 ((rd_T78 l0_2 x3_2).f0) ((rd_T78 l0_2 x3_2).f1) ((rd_T78 l0_2 x3_2).f2) ((rd_T78 l0_2 x3_2).f3) ((rd_T78 l0_2 x3_2).f4))) = some r := H
         have A21 := am_ A210
         clear A210
         by_cases c22 : t121 = true
         ·subst c22
          have H1 : (if x3_2 > 0 then (if 0 ≤ (wrap64 (x3_2 - 1)) then (if (wrap64 (x3_2 - 1)) < (l0_2.length : Int) then (if ((Op.bytesLess (((rd_T78 l0_2 (wrap64 (x3_2 - 1))).f0).toList) (((rd_T78 l0_2 x3_2).f0).toList)) = true) then ((spec_l01In.f ((rd_T78 l0_2 x3_2).f1) 0 (wrap64 (a0_1 - 1))).bind fun t123 => (if t123 = true then ((spec_l01In.f ((rd_T78 l0_2 x3_2).f2) (-1) 255).bind fun t124 => (if t124 = true then ((spec_l01In.f ((rd_T78 l0_2 x3_2).f3) 0 2000000000).bind fun t125 => (if t125 = true then (spec_TableOK.j2 k2 x3_2 (decide ((((rd_T78 l0_2 x3_2).f4).length : Int) > 4)) a0_0 a0_1 l0_2 l0_3 ((rd_T78 l0_2 x3_2).f0) ((rd_T78 l0_2 x3_2).f1) ((rd_T78 l0_2 x3_2).f2) ((rd_T78 l0_2 x3_2).f3) ((rd_T78 l0_2 x3_2).f4)) else (spec_TableOK.j2 k2 x3_2 true a0_0 a0_1 l0_2 l0_3 ((rd_T78 l0_2 x3_2).f0) ((rd_T78 l0_2 x3_2).f1) ((rd_T78 l0_2 x3_2).f2) ((rd_T78 l0_2 x3_2).f3) ((rd_T78 l0_2 x3_2).f4)))) else (spec_TableOK.j2 k2 x3_2 true a0_0 a0_1 l0_2 l0_3 ((rd_T78 l0_2 x3_2).f0) ((rd_T78 l0_2 x3_2).f1) ((rd_T78 l0_2 x3_2).f2) ((rd_T78 l0_2 x3_2).f3) ((rd_T78 l0_2 x3_2).f4)))) else (spec_TableOK.j2 k2 x3_2 true a0_0 a0_1 l0_2 l0_3 ((rd_T78 l0_2 x3_2).f0) ((rd_T78 l0_2 x3_2).f1) ((rd_T78 l0_2 x3_2).f2) ((rd_T78 l0_2 x3_2).f3) ((rd_T78 l0_2 x3_2).f4)))) else (spec_TableOK.j2 k2 x3_2 true a0_0 a0_1 l0_2 l0_3 ((rd_T78 l0_2 x3_2).f0) ((rd_T78 l0_2 x3_2).f1) ((rd_T78 l0_2 x3_2).f2) ((rd_T78 l0_2 x3_2).f3) ((rd_T78 l0_2 x3_2).f4))) else (none)) else (none)) else ((spec_l01In.f ((rd_T78 l0_2 x3_2).f1) 0 (wrap64 (a0_1 - 1))).bind fun t126 => (if t126 = true then ((spec_l01In.f ((rd_T78 l0_2 x3_2).f2) (-1) 255).bind fun t127 => (if t127 = true then ((spec_l01In.f ((rd_T78 l0_2 x3_2).f3) 0 2000000000).bind fun t128 => (if t128 = true then (spec_TableOK.j2 k2 x3_2 (decide ((((rd_T78 l0_2 x3_2).f4).length : Int) > 4)) a0_0 a0_1 l0_2 l0_3 ((rd_T78 l0_2 x3_2).f0) ((rd_T78 l0_2 x3_2).f1) ((rd_T78 l0_2 x3_2).f2) ((rd_T78 l0_2 x3_2).f3) ((rd_T78 l0_2 x3_2).f4)) else (spec_TableOK.j2 k2 x3_2 true a0_0 a0_1 l0_2 l0_3 ((rd_T78 l0_2 x3_2).f0) ((rd_T78 l0_2 x3_2).f1) ((rd_T78 l0_2 x3_2).f2) ((rd_T78 l0_2 x3_2).f3) ((rd_T78 l0_2 x3_2).f4)))) else (spec_TableOK.j2 k2 x3_2 true a0_0 a0_1 l0_2 l0_3 ((rd_T78 l0_2 x3_2).f0) ((rd_T78 l0_2 x3_2).f1) ((rd_T78 l0_2 x3_2).f2) ((rd_T78 l0_2 x3_2).f3) ((rd_T78 l0_2 x3_2).f4)))) else (spec_TableOK.j2 k2 x3_2 true a0_0 a0_1 l0_2 l0_3 ((rd_T78 l0_2 x3_2).f0) ((rd_T78 l0_2 x3_2).f1) ((rd_T78 l0_2 x3_2).f2) ((rd_T78 l0_2 x3_2).f3) ((rd_T78 l0_2 x3_2).f4))))) = some r := by rw [if_pos rfl] at H; exact H
          clear H
          have H := H1
          clear H1
          by_cases c23 : x3_2 > 0
          ·rw [if_pos c23] at H
           have c23b0 : decide (0 < x3_2) = true := decide_eq_true c23
           clear c23
           (first | rw [c23b0] | (simp only [i64_w, i32_w]; rw [c23b0]) | skip)
           obtain ⟨ji24, hji24⟩ : ∃ j_ : Int, (wrap64 (x3_2 - 1)) = j_ := ⟨_, rfl⟩
           replace H : (if 0 ≤ (ji24) then (if (ji24) < (l0_2.length : Int) then (if ((Op.bytesLess (((rd_T78 l0_2 (ji24)).f0).toList) (((rd_T78 l0_2 x3_2).f0).toList)) = true) then ((spec_l01In.f ((rd_T78 l0_2 x3_2).f1) 0 (wrap64 (a0_1 - 1))).bind fun t123 => (if t123 = true then ((spec_l01In.f ((rd_T78 l0_2 x3_2).f2) (-1) 255).bind fun t124 => (if t124 = true then ((spec_l01In.f ((rd_T78 l0_2 x3_2).f3) 0 2000000000).bind fun t125 => (if t125 = true then (spec_TableOK.j2 k2 x3_2 (decide ((((rd_T78 l0_2 x3_2).f4).length : Int) > 4)) a0_0 a0_1 l0_2 l0_3 ((rd_T78 l0_2 x3_2).f0) ((rd_T78 l0_2 x3_2).f1) ((rd_T78 l0_2 x3_2).f2) ((rd_T78 l0_2 x3_2).f3) ((rd_T78 l0_2 x3_2).f4)) else (spec_TableOK.j2 k2 x3_2 true a0_0 a0_1 l0_2 l0_3 ((rd_T78 l0_2 x3_2).f0) ((rd_T78 l0_2 x3_2).f1) ((rd_T78 l0_2 x3_2).f2) ((rd_T78 l0_2 x3_2).f3) ((rd_T78 l0_2 x3_2).f4)))) else (spec_TableOK.j2 k2 x3_2 true a0_0 a0_1 l0_2 l0_3 ((rd_T78 l0_2 x3_2).f0) ((rd_T78 l0_2 x3_2).f1) ((rd_T78 l0_2 x3_2).f2) ((rd_T78 l0_2 x3_2).f3) ((rd_T78 l0_2 x3_2).f4)))) else (spec_TableOK.j2 k2 x3_2 true a0_0 a0_1 l0_2 l0_3 ((rd_T78 l0_2 x3_2).f0) ((rd_T78 l0_2 x3_2).f1) ((rd_T78 l0_2 x3_2).f2) ((rd_T78 l0_2 x3_2).f3) ((rd_T78 l0_2 x3_2).f4)))) else (spec_TableOK.j2 k2 x3_2 true a0_0 a0_1 l0_2 l0_3 ((rd_T78 l0_2 x3_2).f0) ((rd_T78 l0_2 x3_2).f1) ((rd_T78 l0_2 x3_2).f2) ((rd_T78 l0_2 x3_2).f3) ((rd_T78 l0_2 x3_2).f4))) else (none)) else (none)) = some r := by first | (rw [hji24] at H; exact H) | (simp only [hji24] at H ⊢; exact H)
           (try rw [hji24] at A21)
           have hji24w : (IntKind.i64.wrap (x3_2 - 1)) = ji24 := (i64_w _).trans hji24
           by_cases c25 : 0 ≤ (ji24)
           ·rw [if_pos c25] at H
            have c25b0 : decide (0 ≤ (ji24)) = true := decide_eq_true c25
            clear c25
            by_cases c26 : (ji24) < (l0_2.length : Int)
            ·rw [if_pos c26] at H
             have c26b0 : decide ((ji24) < (l0_2.length : Int)) = true := decide_eq_true c26
             clear c26
             try go_wp2
             have n0_ : Aside0 ((((((w18.setCell ⟨gb120, 0, none⟩ (.string ((rd_T78 l0_2 x3_2).f0))).setCell ⟨gb120, 1, none⟩ (.int .i64 ((rd_T78 l0_2 x3_2).f1))).setCell ⟨gb120, 2, none⟩ (.int .i64 ((rd_T78 l0_2 x3_2).f2))).setCell ⟨gb120, 3, none⟩ (.int .i64 ((rd_T78 l0_2 x3_2).f3))).setCell ⟨gb120, 4, none⟩ (.slice A119_4 ((rd_T78 l0_2 x3_2).f4).length c119_4)).heap[gb116]? = some (.cells #[.int .i64 a0_0, .int .i64 a0_1, .slice (some ad119) l0_2.length c0_2, .slice A0_3 l0_3.length c0_3] 26 (0, 0))) := ⟨zq BK116⟩
             have n1_ : Aside0 ((((((w18.setCell ⟨gb120, 0, none⟩ (.string ((rd_T78 l0_2 x3_2).f0))).setCell ⟨gb120, 1, none⟩ (.int .i64 ((rd_T78 l0_2 x3_2).f1))).setCell ⟨gb120, 2, none⟩ (.int .i64 ((rd_T78 l0_2 x3_2).f2))).setCell ⟨gb120, 3, none⟩ (.int .i64 ((rd_T78 l0_2 x3_2).f3))).setCell ⟨gb120, 4, none⟩ (.slice A119_4 ((rd_T78 l0_2 x3_2).f4).length c119_4)).heap[gb120]? = some (.cells #[.string ((rd_T78 l0_2 x3_2).f0), .int .i64 ((rd_T78 l0_2 x3_2).f1), .int .i64 ((rd_T78 l0_2 x3_2).f2), .int .i64 ((rd_T78 l0_2 x3_2).f3), .slice A119_4 ((rd_T78 l0_2 x3_2).f4).length c119_4] 78 (0, 0))) := ⟨zq BK120⟩
             have n2_ : Aside0 (Below w.heap.size w (((((w18.setCell ⟨gb120, 0, none⟩ (.string ((rd_T78 l0_2 x3_2).f0))).setCell ⟨gb120, 1, none⟩ (.int .i64 ((rd_T78 l0_2 x3_2).f1))).setCell ⟨gb120, 2, none⟩ (.int .i64 ((rd_T78 l0_2 x3_2).f2))).setCell ⟨gb120, 3, none⟩ (.int .i64 ((rd_T78 l0_2 x3_2).f3))).setCell ⟨gb120, 4, none⟩ (.slice A119_4 ((rd_T78 l0_2 x3_2).f4).length c119_4))) := ⟨zl_ HB⟩
             (try clear BK116)
             (try clear BK120)
             (try clear HB)
             generalize (((((w18.setCell ⟨gb120, 0, none⟩ (.string ((rd_T78 l0_2 x3_2).f0))).setCell ⟨gb120, 1, none⟩ (.int .i64 ((rd_T78 l0_2 x3_2).f1))).setCell ⟨gb120, 2, none⟩ (.int .i64 ((rd_T78 l0_2 x3_2).f2))).setCell ⟨gb120, 3, none⟩ (.int .i64 ((rd_T78 l0_2 x3_2).f3))).setCell ⟨gb120, 4, none⟩ (.slice A119_4 ((rd_T78 l0_2 x3_2).f4).length c119_4)) = w34 at n0_ n1_ n2_ ⊢
             have BK116 := n0_
             have BK120 := n1_
             have HB := n2_
             clear n0_ n1_ n2_
             replace BK116 := am_ (blk_drew BK116.out)
             replace BK120 := am_ (blk_drew BK120.out)
             replace HB := am_ (below_drew1 HB.out)
             have p122 : 0 ≤ ((ji24) : Int) := zo_
             have q122 : (ji24) < (l0_2.length : Int) := zo_
             obtain ⟨ad122, A122_4, c122_4, e122, hx122_0, hx122_1, hx122_2, hx122_3, hx122_4, hl122_4, hi122_4⟩ := at_T78 HR0_2.out (ji24) p122 q122
             have hw122_4 := hx122_4
             have hw122_3 := hx122_3
             have hw122_2 := hx122_2
             have hw122_1 := hx122_1
             have hw122_0 := hx122_0
             have hv122_4 := hx122_4
             obtain rfl : ad119 = ad122 := (by injection e122)
             replace hx122_0 := zx_ HB hx122_0
             replace hx122_1 := zx_ HB hx122_1
             replace hx122_2 := zx_ HB hx122_2
             replace hx122_3 := zx_ HB hx122_3
             replace hx122_4 := zx_ HB hx122_4
             have HR122_4 := am_ hi122_4
             have HC122_4 := am_ hl122_4
             clear hi122_4 hl122_4
             replace p122 := eq_true p122
             replace q122 := eq_true q122
             refine start_ (n := 47) (S := fun w' => w'.cell? ⟨gb120, 0, none⟩ = some (.string ((rd_T78 l0_2 x3_2).f0)) ∧ w'.cell? ⟨gb120, 1, none⟩ = some (.int .i64 ((rd_T78 l0_2 x3_2).f1)) ∧ w'.cell? ⟨gb120, 2, none⟩ = some (.int .i64 ((rd_T78 l0_2 x3_2).f2)) ∧ w'.cell? ⟨gb120, 3, none⟩ = some (.int .i64 ((rd_T78 l0_2 x3_2).f3)) ∧ w'.cell? ⟨gb120, 4, none⟩ = some (.slice A119_4 ((rd_T78 l0_2 x3_2).f4).length c119_4) ∧ w'.cell? ⟨gb116, 0, none⟩ = some (.int .i64 a0_0) ∧ w'.cell? ⟨gb116, 1, none⟩ = some (.int .i64 a0_1) ∧ w'.cell? ⟨gb116, 2, none⟩ = some (.slice (some ad119) l0_2.length c0_2) ∧ w'.cell? ⟨gb116, 3, none⟩ = some (.slice A0_3 l0_3.length c0_3) ∧ w'.cell? (ad119.add (((ji24)).toNat * 5)) = some (.string ((rd_T78 l0_2 (ji24)).f0)) ∧ w'.cell? ⟨(ad119.add (((ji24)).toNat * 5)).block, (ad119.add (((ji24)).toNat * 5)).off + 1, none⟩ = some (.int .i64 ((rd_T78 l0_2 (ji24)).f1)) ∧ w'.cell? ⟨(ad119.add (((ji24)).toNat * 5)).block, (ad119.add (((ji24)).toNat * 5)).off + 2, none⟩ = some (.int .i64 ((rd_T78 l0_2 (ji24)).f2)) ∧ w'.cell? ⟨(ad119.add (((ji24)).toNat * 5)).block, (ad119.add (((ji24)).toNat * 5)).off + 3, none⟩ = some (.int .i64 ((rd_T78 l0_2 (ji24)).f3)) ∧ w'.cell? ⟨(ad119.add (((ji24)).toNat * 5)).block, (ad119.add (((ji24)).toNat * 5)).off + 4, none⟩ = some (.slice A122_4 ((rd_T78 l0_2 (ji24)).f4).length c122_4)) (ds := []) #[false, false, false, false, false, false, false, false, false, false, false, false, false, false, false, false, false, false, false, false, false, false, false, false, false, false, false, false, false, false, false, false, false, false, false, false, false, false, false, false, false, false, false, false, false, false, false] (by kernel_rfl) rfl rfl ⟨(blk_cell BK120.out 0).trans rfl, (blk_cell BK120.out 1).trans rfl, (blk_cell BK120.out 2).trans rfl, (blk_cell BK120.out 3).trans rfl, (blk_cell BK120.out 4).trans rfl, (blk_cell BK116.out 0).trans rfl, (blk_cell BK116.out 1).trans rfl, (blk_cell BK116.out 2).trans rfl, (blk_cell BK116.out 3).trans rfl, (zx_ HB hw122_0), (zx_ HB hw122_1), (zx_ HB hw122_2), (zx_ HB hw122_3), (zx_ HB hw122_4)⟩ (fun hHeld => ?_); refine with_tabW spec_TableOK.tab7 spec_TableOK.bits7 (fun HT_ HW_ => ?_)
             generalize w34.drew = w35 at BK116 BK120 HB HR122_4 hx122_0 hx122_1 hx122_2 hx122_3 hx122_4 hHeld ⊢
             refine zpu 0 (N := some 44) HT_ ?_
             refine ztk 1 (N := some 45) HT_ HW_ hHeld ?_
             refine zon 2 (N := some 46) HT_ (fun K hK => ?_)
             refine zgo Try.func74 #[.string ((rd_T78 l0_2 x3_2).f0), .int .i64 12] ?_
             with_reducible refine (spec_l02Text.calls k2 ((rd_T78 l0_2 x3_2).f0) 12 true _ A21.out).mono ?_
             rintro e w' ⟨rfl, ⟨nd, rfl⟩⟩
             refine ⟨_, rfl, ?_⟩
             refine hK.out _ _ ⟨(blk_cell BK120.out 0).trans rfl, (blk_cell BK120.out 1).trans rfl, (blk_cell BK120.out 2).trans rfl, (blk_cell BK120.out 3).trans rfl, (blk_cell BK120.out 4).trans rfl, (blk_cell BK116.out 0).trans rfl, (blk_cell BK116.out 1).trans rfl, (blk_cell BK116.out 2).trans rfl, (blk_cell BK116.out 3).trans rfl, (zx_ ⟨pw_below_drewN HB.out nd⟩ hw122_0), (zx_ ⟨pw_below_drewN HB.out nd⟩ hw122_1), (zx_ ⟨pw_below_drewN HB.out nd⟩ hw122_2), (zx_ ⟨pw_below_drewN HB.out nd⟩ hw122_3), (zx_ ⟨pw_below_drewN HB.out nd⟩ hw122_4)⟩ (fun hHeld => ?_)
             clear hK K
             refine norm_ (a' := ?_) ?_ ?_
             rotate_left
             ·show Act.put _ (some 46) _ = _
              simp only [Act.put, p1_, p2_, p3_, i64_w, i32_w]
              rfl
             by_cases c27 : ((Op.bytesLess (((rd_T78 l0_2 (ji24)).f0).toList) (((rd_T78 l0_2 x3_2).f0).toList)) = true)
             ·rw [if_pos c27] at H
              have c27b0 : (Op.bytesLess (((rd_T78 l0_2 (ji24)).f0).toList) (((rd_T78 l0_2 x3_2).f0).toList)) = true := c27
              clear c27
              replace H := Option.bind_eq_some_iff.mp H
              obtain ⟨t123, A280, H⟩ := H
              replace H : (if t123 = true then ((spec_l01In.f ((rd_T78 l0_2 x3_2).f2) (-1) 255).bind fun t124 => (if t124 = true then ((spec_l01In.f ((rd_T78 l0_2 x3_2).f3) 0 2000000000).bind fun t125 => (if t125 = true then (spec_TableOK.j2 k2 x3_2 (decide ((((rd_T78 l0_2 x3_2).f4).length : Int) > 4)) a0_0 a0_1 l0_2 l0_3 ((rd_T78 l0_2 x3_2).f0) ((rd_T78 l0_2 x3_2).f1) ((rd_T78 l0_2 x3_2).f2) ((rd_T78 l0_2 x3_2).f3) ((rd_T78 l0_2 x3_2).f4)) else (spec_TableOK.j2 k2 x3_2 true a0_0 a0_1 l0_2 l0_3 ((rd_T78 l0_2 x3_2).f0) ((rd_T78 l0_2 x3_2).f1) ((rd_T78 l0_2 x3_2).f2) ((rd_T78 l0_2 x3_2).f3) ((rd_T78 l0_2 x3_2).f4)))) else (spec_TableOK.j2 k2 x3_2 true a0_0 a0_1 l0_2 l0_3 ((rd_T78 l0_2 x3_2).f0) ((rd_T78 l0_2 x3_2).f1) ((rd_T78 l0_2 x3_2).f2) ((rd_T78 l0_2 x3_2).f3) ((rd_T78 l0_2 x3_2).f4)))) else (spec_TableOK.j2 k2 x3_2 true a0_0 a0_1 l0_2 l0_3 ((rd_T78 l0_2 x3_2).f0) ((rd_T78 l0_2 x3_2).f1) ((rd_T78 l0_2 x3_2).f2) ((rd_T78 l0_2 x3_2).f3) ((rd_T78 l0_2 x3_2).f4))) = some r := H
              have A28 := am_ A280
              clear A280
              refine zpu 3 (N := some 47) HT_ ?_
              refine zpu 4 (N := some 48) HT_ ?_
              refine zpu 5 (N := some 49) HT_ ?_
              refine zpu 6 (N := some 50) HT_ ?_
              refine zpu 7 (N := some 51) HT_ ?_
              refine zpu 8 (N := some 52) HT_ ?_
              refine zpu 10 (N := some 54) HT_ ?_
              refine zpu 11 (N := some 55) HT_ ?_
              refine zpu 15 (N := some 59) HT_ ?_
              refine ztk 9 (N := some 53) HT_ HW_ hHeld ?_
              refine zpu 12 (N := some 56) HT_ ?_
              refine zpu 13 (N := some 57) HT_ ?_
              refine ztk 14 (N := some 58) HT_ HW_ hHeld ?_
              refine ztk 16 (N := some 60) HT_ HW_ hHeld ?_
              refine zpu 17 (N := some 61) HT_ ?_
              refine zpu 18 (N := some 62) HT_ ?_
              refine zpu 19 (N := some 63) HT_ ?_
              refine zpu 20 (N := some 64) HT_ ?_
              refine zpu 21 (N := some 65) HT_ ?_
              refine zpu 23 (N := some 67) HT_ ?_
              refine ztk 22 (N := some 66) HT_ HW_ hHeld ?_
              refine ztk 24 (N := some 68) HT_ HW_ hHeld ?_
              refine zpu 25 (N := some 69) HT_ ?_
              refine zon 26 (N := some 70) HT_ (fun K hK => ?_)
              refine zgo Try.func58 #[.int .i64 ((rd_T78 l0_2 x3_2).f1), .int .i64 0, .int .i64 (wrap64 (a0_1 - 1))] ?_
              with_reducible refine (spec_l01In.calls ((rd_T78 l0_2 x3_2).f1) 0 (wrap64 (a0_1 - 1)) t123 _ A28.out).mono ?_
              rintro e w' ⟨rfl, ⟨nd, rfl⟩⟩
              refine ⟨_, rfl, ?_⟩
              refine hK.out _ _ ⟨(blk_cell BK120.out 0).trans rfl, (blk_cell BK120.out 1).trans rfl, (blk_cell BK120.out 2).trans rfl, (blk_cell BK120.out 3).trans rfl, (blk_cell BK120.out 4).trans rfl, (blk_cell BK116.out 0).trans rfl, (blk_cell BK116.out 1).trans rfl, (blk_cell BK116.out 2).trans rfl, (blk_cell BK116.out 3).trans rfl, (zx_ ⟨pw_below_drewN (pw_below_drewN HB.out _) nd⟩ hw122_0), (zx_ ⟨pw_below_drewN (pw_below_drewN HB.out _) nd⟩ hw122_1), (zx_ ⟨pw_below_drewN (pw_below_drewN HB.out _) nd⟩ hw122_2), (zx_ ⟨pw_below_drewN (pw_below_drewN HB.out _) nd⟩ hw122_3), (zx_ ⟨pw_below_drewN (pw_below_drewN HB.out _) nd⟩ hw122_4)⟩ (fun hHeld => ?_)
              clear hK K
              refine norm_ (a' := ?_) ?_ ?_
              rotate_left
              ·show Act.put _ (some 70) _ = _
               simp only [Act.put, p1_, p2_, p3_, i64_w, i32_w]
               rfl
              by_cases c29 : t123 = true
              ·subst c29
               have H1 : ((spec_l01In.f ((rd_T78 l0_2 x3_2).f2) (-1) 255).bind fun t124 => (if t124 = true then ((spec_l01In.f ((rd_T78 l0_2 x3_2).f3) 0 2000000000).bind fun t125 => (if t125 = true then (spec_TableOK.j2 k2 x3_2 (decide ((((rd_T78 l0_2 x3_2).f4).length : Int) > 4)) a0_0 a0_1 l0_2 l0_3 ((rd_T78 l0_2 x3_2).f0) ((rd_T78 l0_2 x3_2).f1) ((rd_T78 l0_2 x3_2).f2) ((rd_T78 l0_2 x3_2).f3) ((rd_T78 l0_2 x3_2).f4)) else (spec_TableOK.j2 k2 x3_2 true a0_0 a0_1 l0_2 l0_3 ((rd_T78 l0_2 x3_2).f0) ((rd_T78 l0_2 x3_2).f1) ((rd_T78 l0_2 x3_2).f2) ((rd_T78 l0_2 x3_2).f3) ((rd_T78 l0_2 x3_2).f4)))) else (spec_TableOK.j2 k2 x3_2 true a0_0 a0_1 l0_2 l0_3 ((rd_T78 l0_2 x3_2).f0) ((rd_T78 l0_2 x3_2).f1) ((rd_T78 l0_2 x3_2).f2) ((rd_T78 l0_2 x3_2).f3) ((rd_T78 l0_2 x3_2).f4)))) = some r := by rw [if_pos rfl] at H; exact H
               clear H
               have H := H1
               clear H1
               replace H := Option.bind_eq_some_iff.mp H
               obtain ⟨t124, A300, H⟩ := H
               replace H : (if t124 = true then ((spec_l01In.f ((rd_T78 l0_2 x3_2).f3) 0 2000000000).bind fun t125 => (if t125 = true then (spec_TableOK.j2 k2 x3_2 (decide ((((rd_T78 l0_2 x3_2).f4).length : Int) > 4)) a0_0 a0_1 l0_2 l0_3 ((rd_T78 l0_2 x3_2).f0) ((rd_T78 l0_2 x3_2).f1) ((rd_T78 l0_2 x3_2).f2) ((rd_T78 l0_2 x3_2).f3) ((rd_T78 l0_2 x3_2).f4)) else (spec_TableOK.j2 k2 x3_2 true a0_0 a0_1 l0_2 l0_3 ((rd_T78 l0_2 x3_2).f0) ((rd_T78 l0_2 x3_2).f1) ((rd_T78 l0_2 x3_2).f2) ((rd_T78 l0_2 x3_2).f3) ((rd_T78 l0_2 x3_2).f4)))) else (spec_TableOK.j2 k2 x3_2 true a0_0 a0_1 l0_2 l0_3 ((rd_T78 l0_2 x3_2).f0) ((rd_T78 l0_2 x3_2).f1) ((rd_T78 l0_2 x3_2).f2) ((rd_T78 l0_2 x3_2).f3) ((rd_T78 l0_2 x3_2).f4))) = some r := H
               have A30 := am_ A300
               clear A300
               refine zpu 27 (N := some 71) HT_ ?_
               refine zpu 28 (N := some 72) HT_ ?_
               refine zpu 29 (N := some 73) HT_ ?_
               refine zpu 30 (N := some 74) HT_ ?_
               refine ztk 31 (N := some 75) HT_ HW_ hHeld ?_
               refine zon 32 (N := some 76) HT_ (fun K hK => ?_)
               refine zgo Try.func58 #[.int .i64 ((rd_T78 l0_2 x3_2).f2), .int .i64 (-1), .int .i64 255] ?_
               with_reducible refine (spec_l01In.calls ((rd_T78 l0_2 x3_2).f2) (-1) 255 t124 _ A30.out).mono ?_
               rintro e w' ⟨rfl, ⟨nd, rfl⟩⟩
               refine ⟨_, rfl, ?_⟩
               refine hK.out _ _ ⟨(blk_cell BK120.out 0).trans rfl, (blk_cell BK120.out 1).trans rfl, (blk_cell BK120.out 2).trans rfl, (blk_cell BK120.out 3).trans rfl, (blk_cell BK120.out 4).trans rfl, (blk_cell BK116.out 0).trans rfl, (blk_cell BK116.out 1).trans rfl, (blk_cell BK116.out 2).trans rfl, (blk_cell BK116.out 3).trans rfl, (zx_ ⟨pw_below_drewN (pw_below_drewN (pw_below_drewN HB.out _) _) nd⟩ hw122_0), (zx_ ⟨pw_below_drewN (pw_below_drewN (pw_below_drewN HB.out _) _) nd⟩ hw122_1), (zx_ ⟨pw_below_drewN (pw_below_drewN (pw_below_drewN HB.out _) _) nd⟩ hw122_2), (zx_ ⟨pw_below_drewN (pw_below_drewN (pw_below_drewN HB.out _) _) nd⟩ hw122_3), (zx_ ⟨pw_below_drewN (pw_below_drewN (pw_below_drewN HB.out _) _) nd⟩ hw122_4)⟩ (fun hHeld => ?_)
               clear hK K
               refine norm_ (a' := ?_) ?_ ?_
               rotate_left
               ·show Act.put _ (some 76) _ = _
                simp only [Act.put, p1_, p2_, p3_, i64_w, i32_w]
                rfl
               by_cases c31 : t124 = true
               ·subst c31
                have H1 : ((spec_l01In.f ((rd_T78 l0_2 x3_2).f3) 0 2000000000).bind fun t125 => (if t125 = true then (spec_TableOK.j2 k2 x3_2 (decide ((((rd_T78 l0_2 x3_2).f4).length : Int) > 4)) a0_0 a0_1 l0_2 l0_3 ((rd_T78 l0_2 x3_2).f0) ((rd_T78 l0_2 x3_2).f1) ((rd_T78 l0_2 x3_2).f2) ((rd_T78 l0_2 x3_2).f3) ((rd_T78 l0_2 x3_2).f4)) else (spec_TableOK.j2 k2 x3_2 true a0_0 a0_1 l0_2 l0_3 ((rd_T78 l0_2 x3_2).f0) ((rd_T78 l0_2 x3_2).f1) ((rd_T78 l0_2 x3_2).f2) ((rd_T78 l0_2 x3_2).f3) ((rd_T78 l0_2 x3_2).f4)))) = some r := by rw [if_pos rfl] at H; exact H
                clear H
                have H := H1
                clear H1
                replace H := Option.bind_eq_some_iff.mp H
                obtain ⟨t125, A320, H⟩ := H
                replace H : (if t125 = true then (spec_TableOK.j2 k2 x3_2 (decide ((((rd_T78 l0_2 x3_2).f4).length : Int) > 4)) a0_0 a0_1 l0_2 l0_3 ((rd_T78 l0_2 x3_2).f0) ((rd_T78 l0_2 x3_2).f1) ((rd_T78 l0_2 x3_2).f2) ((rd_T78 l0_2 x3_2).f3) ((rd_T78 l0_2 x3_2).f4)) else (spec_TableOK.j2 k2 x3_2 true a0_0 a0_1 l0_2 l0_3 ((rd_T78 l0_2 x3_2).f0) ((rd_T78 l0_2 x3_2).f1) ((rd_T78 l0_2 x3_2).f2) ((rd_T78 l0_2 x3_2).f3) ((rd_T78 l0_2 x3_2).f4))) = some r := H
                have A32 := am_ A320
                clear A320
                refine zpu 33 (N := some 77) HT_ ?_
                refine zpu 34 (N := some 78) HT_ ?_
                refine zpu 35 (N := some 79) HT_ ?_
                refine zpu 36 (N := some 80) HT_ ?_
                refine ztk 37 (N := some 81) HT_ HW_ hHeld ?_
                refine zon 38 (N := some 82) HT_ (fun K hK => ?_)
                refine zgo Try.func58 #[.int .i64 ((rd_T78 l0_2 x3_2).f3), .int .i64 0, .int .i64 2000000000] ?_
                with_reducible refine (spec_l01In.calls ((rd_T78 l0_2 x3_2).f3) 0 2000000000 t125 _ A32.out).mono ?_
                rintro e w' ⟨rfl, ⟨nd, rfl⟩⟩
                refine ⟨_, rfl, ?_⟩
                refine hK.out _ _ ⟨(blk_cell BK120.out 0).trans rfl, (blk_cell BK120.out 1).trans rfl, (blk_cell BK120.out 2).trans rfl, (blk_cell BK120.out 3).trans rfl, (blk_cell BK120.out 4).trans rfl, (blk_cell BK116.out 0).trans rfl, (blk_cell BK116.out 1).trans rfl, (blk_cell BK116.out 2).trans rfl, (blk_cell BK116.out 3).trans rfl, (zx_ ⟨pw_below_drewN (pw_below_drewN (pw_below_drewN (pw_below_drewN HB.out _) _) _) nd⟩ hw122_0), (zx_ ⟨pw_below_drewN (pw_below_drewN (pw_below_drewN (pw_below_drewN HB.out _) _) _) nd⟩ hw122_1), (zx_ ⟨pw_below_drewN (pw_below_drewN (pw_below_drewN (pw_below_drewN HB.out _) _) _) nd⟩ hw122_2), (zx_ ⟨pw_below_drewN (pw_below_drewN (pw_below_drewN (pw_below_drewN HB.out _) _) _) nd⟩ hw122_3), (zx_ ⟨pw_below_drewN (pw_below_drewN (pw_below_drewN (pw_below_drewN HB.out _) _) _) nd⟩ hw122_4)⟩ (fun hHeld => ?_)
                clear hK K
                refine norm_ (a' := ?_) ?_ ?_
                rotate_left
                ·show Act.put _ (some 82) _ = _
                 simp only [Act.put, p1_, p2_, p3_, i64_w, i32_w]
                 rfl
                by_cases c33 : t125 = true
                ·subst c33
                 have H1 : (spec_TableOK.j2 k2 x3_2 (decide ((((rd_T78 l0_2 x3_2).f4).length : Int) > 4)) a0_0 a0_1 l0_2 l0_3 ((rd_T78 l0_2 x3_2).f0) ((rd_T78 l0_2 x3_2).f1) ((rd_T78 l0_2 x3_2).f2) ((rd_T78 l0_2 x3_2).f3) ((rd_T78 l0_2 x3_2).f4)) = some r := by rw [if_pos rfl] at H; exact H
                 clear H
                 have H := H1
                 clear H1
                 have H' := am_ H
                 clear H
                 refine zpu 39 (N := some 83) HT_ ?_
                 refine zpu 40 (N := some 84) HT_ ?_
                 refine zpu 41 (N := some 85) HT_ ?_
                 refine zpu 42 (N := some 86) HT_ ?_
                 refine ztk 43 (N := some 87) HT_ HW_ hHeld ?_
                 refine zpu 44 (N := some 88) HT_ ?_
                 refine zpu 45 (N := some 89) HT_ ?_
                 refine zpu 46 (N := some 90) HT_ ?_
                 refine done_ (done_of HT_.out (by kernel_rfl)) ?_
                 try go_wp2
                 go_meet
                 case rel => exact ⟨_, (decide ((((rd_T78 l0_2 x3_2).f4).length : Int) > 4)), (by first | rfl | (simp; done) | (simp [*]; done)), H', ⟨by have := HJ1.out; have := HK2.out; first | omega | exact Nat.le_refl _⟩, ⟨by (with_reducible repeat (first | apply k1_ | apply k2_ | apply k3_)); exact BK116.out⟩, ⟨by (with_reducible repeat (first | apply k1_ | apply k2_ | apply k3_)); exact BK120.out⟩, ⟨zl_ HB⟩⟩
                ·replace c33 := Bool.eq_false_iff.mpr c33
                 subst c33
                 have H1 : (spec_TableOK.j2 k2 x3_2 true a0_0 a0_1 l0_2 l0_3 ((rd_T78 l0_2 x3_2).f0) ((rd_T78 l0_2 x3_2).f1) ((rd_T78 l0_2 x3_2).f2) ((rd_T78 l0_2 x3_2).f3) ((rd_T78 l0_2 x3_2).f4)) = some r := by rw [if_neg (show ¬ (false = true) by decide)] at H; exact H
                 clear H
                 have H := H1
                 clear H1
                 have H' := am_ H
                 clear H
                 refine zpu 39 (N := some 83) HT_ ?_
                 refine zpu 40 (N := some 84) HT_ ?_
                 refine zpu 41 (N := some 85) HT_ ?_
                 refine zpx 42 (N := some 86) HT_ ?_
                 refine zpx 43 (N := some 87) HT_ ?_
                 refine zpx 44 (N := some 88) HT_ ?_
                 refine zpx 45 (N := some 89) HT_ ?_
                 refine zpu 46 (N := some 90) HT_ ?_
                 refine done_ (done_of HT_.out (by kernel_rfl)) ?_
                 try go_wp2
                 go_meet
                 case rel => exact ⟨_, (true), (by first | rfl | (simp; done) | (simp [*]; done)), H', ⟨by have := HJ1.out; have := HK2.out; first | omega | exact Nat.le_refl _⟩, ⟨by (with_reducible repeat (first | apply k1_ | apply k2_ | apply k3_)); exact BK116.out⟩, ⟨by (with_reducible repeat (first | apply k1_ | apply k2_ | apply k3_)); exact BK120.out⟩, ⟨zl_ HB⟩⟩
               ·replace c31 := Bool.eq_false_iff.mpr c31
                subst c31
                have H1 : (spec_TableOK.j2 k2 x3_2 true a0_0 a0_1 l0_2 l0_3 ((rd_T78 l0_2 x3_2).f0) ((rd_T78 l0_2 x3_2).f1) ((rd_T78 l0_2 x3_2).f2) ((rd_T78 l0_2 x3_2).f3) ((rd_T78 l0_2 x3_2).f4)) = some r := by rw [if_neg (show ¬ (false = true) by decide)] at H; exact H
                clear H
                have H := H1
                clear H1
                have H' := am_ H
                clear H
                refine zpu 33 (N := some 77) HT_ ?_
                refine zpu 34 (N := some 78) HT_ ?_
                refine zpu 35 (N := some 79) HT_ ?_
                refine zpx 36 (N := some 80) HT_ ?_
                refine zpx 37 (N := some 81) HT_ ?_
                refine zpx 38 (N := some 82) HT_ ?_
                refine zpx 39 (N := some 83) HT_ ?_
                refine zpu 40 (N := some 84) HT_ ?_
                refine zpu 41 (N := some 85) HT_ ?_
                refine zpx 42 (N := some 86) HT_ ?_
                refine zpx 43 (N := some 87) HT_ ?_
                refine zpx 44 (N := some 88) HT_ ?_
                refine zpx 45 (N := some 89) HT_ ?_
                refine zpu 46 (N := some 90) HT_ ?_
                refine done_ (done_of HT_.out (by kernel_rfl)) ?_
                try go_wp2
                go_meet
                case rel => exact ⟨_, (true), (by first | rfl | (simp; done) | (simp [*]; done)), H', ⟨by have := HJ1.out; have := HK2.out; first | omega | exact Nat.le_refl _⟩, ⟨by (with_reducible repeat (first | apply k1_ | apply k2_ | apply k3_)); exact BK116.out⟩, ⟨by (with_reducible repeat (first | apply k1_ | apply k2_ | apply k3_)); exact BK120.out⟩, ⟨zl_ HB⟩⟩
              ·replace c29 := Bool.eq_false_iff.mpr c29
               subst c29
               have H1 : (spec_TableOK.j2 k2 x3_2 true a0_0 a0_1 l0_2 l0_3 ((rd_T78 l0_2 x3_2).f0) ((rd_T78 l0_2 x3_2).f1) ((rd_T78 l0_2 x3_2).f2) ((rd_T78 l0_2 x3_2).f3) ((rd_T78 l0_2 x3_2).f4)) = some r := by rw [if_neg (show ¬ (false = true) by decide)] at H; exact H
               clear H
               have H := H1
               clear H1
               have H' := am_ H
               clear H
               refine zpu 27 (N := some 71) HT_ ?_
               refine zpu 28 (N := some 72) HT_ ?_
               refine zpu 29 (N := some 73) HT_ ?_
               refine zpx 30 (N := some 74) HT_ ?_
               refine zpx 31 (N := some 75) HT_ ?_
               refine zpx 32 (N := some 76) HT_ ?_
               refine zpx 33 (N := some 77) HT_ ?_
               refine zpu 34 (N := some 78) HT_ ?_
               refine zpu 35 (N := some 79) HT_ ?_
               refine zpx 36 (N := some 80) HT_ ?_
               refine zpx 37 (N := some 81) HT_ ?_
               refine zpx 38 (N := some 82) HT_ ?_
               refine zpx 39 (N := some 83) HT_ ?_
               refine zpu 40 (N := some 84) HT_ ?_
               refine zpu 41 (N := some 85) HT_ ?_
               refine zpx 42 (N := some 86) HT_ ?_
               refine zpx 43 (N := some 87) HT_ ?_
               refine zpx 44 (N := some 88) HT_ ?_
               refine zpx 45 (N := some 89) HT_ ?_
               refine zpu 46 (N := some 90) HT_ ?_
               refine done_ (done_of HT_.out (by kernel_rfl)) ?_
               try go_wp2
               go_meet
               case rel => exact ⟨_, (true), (by first | rfl | (simp; done) | (simp [*]; done)), H', ⟨by have := HJ1.out; have := HK2.out; first | omega | exact Nat.le_refl _⟩, ⟨by (with_reducible repeat (first | apply k1_ | apply k2_ | apply k3_)); exact BK116.out⟩, ⟨by (with_reducible repeat (first | apply k1_ | apply k2_ | apply k3_)); exact BK120.out⟩, ⟨zl_ HB⟩⟩
             ·rw [if_neg c27] at H
              have c27b0 : (Op.bytesLess (((rd_T78 l0_2 (ji24)).f0).toList) (((rd_T78 l0_2 x3_2).f0).toList)) = false := by simpa using c27
              clear c27
              have H' := am_ H
              clear H
              refine zpu 3 (N := some 47) HT_ ?_
              refine zpu 4 (N := some 48) HT_ ?_
              refine zpu 5 (N := some 49) HT_ ?_
              refine zpu 6 (N := some 50) HT_ ?_
              refine zpu 7 (N := some 51) HT_ ?_
              refine zpu 8 (N := some 52) HT_ ?_
              refine zpu 10 (N := some 54) HT_ ?_
              refine zpu 11 (N := some 55) HT_ ?_
              refine zpu 15 (N := some 59) HT_ ?_
              refine ztk 9 (N := some 53) HT_ HW_ hHeld ?_
              refine zpu 12 (N := some 56) HT_ ?_
              refine zpu 13 (N := some 57) HT_ ?_
              refine ztk 14 (N := some 58) HT_ HW_ hHeld ?_
              refine ztk 16 (N := some 60) HT_ HW_ hHeld ?_
              refine zpu 17 (N := some 61) HT_ ?_
              refine zpu 18 (N := some 62) HT_ ?_
              refine zpu 19 (N := some 63) HT_ ?_
              refine zpu 20 (N := some 64) HT_ ?_
              refine zpx 21 (N := some 65) HT_ ?_
              refine zpx 22 (N := some 66) HT_ ?_
              refine zpx 23 (N := some 67) HT_ ?_
              refine zpx 24 (N := some 68) HT_ ?_
              refine zpx 25 (N := some 69) HT_ ?_
              refine zpx 26 (N := some 70) HT_ ?_
              refine zpx 27 (N := some 71) HT_ ?_
              refine zpu 28 (N := some 72) HT_ ?_
              refine zpu 29 (N := some 73) HT_ ?_
              refine zpx 30 (N := some 74) HT_ ?_
              refine zpx 31 (N := some 75) HT_ ?_
              refine zpx 32 (N := some 76) HT_ ?_
              refine zpx 33 (N := some 77) HT_ ?_
              refine zpu 34 (N := some 78) HT_ ?_
              refine zpu 35 (N := some 79) HT_ ?_
              refine zpx 36 (N := some 80) HT_ ?_
              refine zpx 37 (N := some 81) HT_ ?_
              refine zpx 38 (N := some 82) HT_ ?_
              refine zpx 39 (N := some 83) HT_ ?_
              refine zpu 40 (N := some 84) HT_ ?_
              refine zpu 41 (N := some 85) HT_ ?_
              refine zpx 42 (N := some 86) HT_ ?_
              refine zpx 43 (N := some 87) HT_ ?_
              refine zpx 44 (N := some 88) HT_ ?_
              refine zpx 45 (N := some 89) HT_ ?_
              refine zpu 46 (N := some 90) HT_ ?_
              refine done_ (done_of HT_.out (by kernel_rfl)) ?_
              try go_wp2
              go_meet
              case rel => exact ⟨_, (true), (by first | rfl | (simp; done) | (simp [*]; done)), H', ⟨by have := HJ1.out; have := HK2.out; first | omega | exact Nat.le_refl _⟩, ⟨by (with_reducible repeat (first | apply k1_ | apply k2_ | apply k3_)); exact BK116.out⟩, ⟨by (with_reducible repeat (first | apply k1_ | apply k2_ | apply k3_)); exact BK120.out⟩, ⟨zl_ HB⟩⟩
            ·rw [if_neg c26] at H
             exact absurd H (by simp)
           ·rw [if_neg c25] at H
            exact absurd H (by simp)
          ·rw [if_neg c23] at H
           have c23b0 : decide (0 < x3_2) = false := decide_eq_false c23
           clear c23
           (first | rw [c23b0] | (simp only [i64_w, i32_w]; rw [c23b0]) | skip)
           replace H := Option.bind_eq_some_iff.mp H
           obtain ⟨t126, A440, H⟩ := H
           replace H : (if t126 = true then ((spec_l01In.f ((rd_T78 l0_2 x3_2).f2) (-1) 255).bind fun t127 => (if t127 = true then ((spec_l01In.f ((rd_T78 l0_2 x3_2).f3) 0 2000000000).bind fun t128 => (if t128 = true then (spec_TableOK.j2 k2 x3_2 (decide ((((rd_T78 l0_2 x3_2).f4).length : Int) > 4)) a0_0 a0_1 l0_2 l0_3 ((rd_T78 l0_2 x3_2).f0) ((rd_T78 l0_2 x3_2).f1) ((rd_T78 l0_2 x3_2).f2) ((rd_T78 l0_2 x3_2).f3) ((rd_T78 l0_2 x3_2).f4)) else (spec_TableOK.j2 k2 x3_2 true a0_0 a0_1 l0_2 l0_3 ((rd_T78 l0_2 x3_2).f0) ((rd_T78 l0_2 x3_2).f1) ((rd_T78 l0_2 x3_2).f2) ((rd_T78 l0_2 x3_2).f3) ((rd_T78 l0_2 x3_2).f4)))) else (spec_TableOK.j2 k2 x3_2 true a0_0 a0_1 l0_2 l0_3 ((rd_T78 l0_2 x3_2).f0) ((rd_T78 l0_2 x3_2).f1) ((rd_T78 l0_2 x3_2).f2) ((rd_T78 l0_2 x3_2).f3) ((rd_T78 l0_2 x3_2).f4)))) else (spec_TableOK.j2 k2 x3_2 true a0_0 a0_1 l0_2 l0_3 ((rd_T78 l0_2 x3_2).f0) ((rd_T78 l0_2 x3_2).f1) ((rd_T78 l0_2 x3_2).f2) ((rd_T78 l0_2 x3_2).f3) ((rd_T78 l0_2 x3_2).f4))) = some r := H
           have A44 := am_ A440
           clear A440
           try go_wp2
           have n0_ : Aside0 ((((((w18.setCell ⟨gb120, 0, none⟩ (.string ((rd_T78 l0_2 x3_2).f0))).setCell ⟨gb120, 1, none⟩ (.int .i64 ((rd_T78 l0_2 x3_2).f1))).setCell ⟨gb120, 2, none⟩ (.int .i64 ((rd_T78 l0_2 x3_2).f2))).setCell ⟨gb120, 3, none⟩ (.int .i64 ((rd_T78 l0_2 x3_2).f3))).setCell ⟨gb120, 4, none⟩ (.slice A119_4 ((rd_T78 l0_2 x3_2).f4).length c119_4)).heap[gb116]? = some (.cells #[.int .i64 a0_0, .int .i64 a0_1, .slice (some ad119) l0_2.length c0_2, .slice A0_3 l0_3.length c0_3] 26 (0, 0))) := ⟨zq BK116⟩
           have n1_ : Aside0 ((((((w18.setCell ⟨gb120, 0, none⟩ (.string ((rd_T78 l0_2 x3_2).f0))).setCell ⟨gb120, 1, none⟩ (.int .i64 ((rd_T78 l0_2 x3_2).f1))).setCell ⟨gb120, 2, none⟩ (.int .i64 ((rd_T78 l0_2 x3_2).f2))).setCell ⟨gb120, 3, none⟩ (.int .i64 ((rd_T78 l0_2 x3_2).f3))).setCell ⟨gb120, 4, none⟩ (.slice A119_4 ((rd_T78 l0_2 x3_2).f4).length c119_4)).heap[gb120]? = some (.cells #[.string ((rd_T78 l0_2 x3_2).f0), .int .i64 ((rd_T78 l0_2 x3_2).f1), .int .i64 ((rd_T78 l0_2 x3_2).f2), .int .i64 ((rd_T78 l0_2 x3_2).f3), .slice A119_4 ((rd_T78 l0_2 x3_2).f4).length c119_4] 78 (0, 0))) := ⟨zq BK120⟩
           have n2_ : Aside0 (Below w.heap.size w (((((w18.setCell ⟨gb120, 0, none⟩ (.string ((rd_T78 l0_2 x3_2).f0))).setCell ⟨gb120, 1, none⟩ (.int .i64 ((rd_T78 l0_2 x3_2).f1))).setCell ⟨gb120, 2, none⟩ (.int .i64 ((rd_T78 l0_2 x3_2).f2))).setCell ⟨gb120, 3, none⟩ (.int .i64 ((rd_T78 l0_2 x3_2).f3))).setCell ⟨gb120, 4, none⟩ (.slice A119_4 ((rd_T78 l0_2 x3_2).f4).length c119_4))) := ⟨zl_ HB⟩
           (try clear BK116)
           (try clear BK120)
           (try clear HB)
           generalize (((((w18.setCell ⟨gb120, 0, none⟩ (.string ((rd_T78 l0_2 x3_2).f0))).setCell ⟨gb120, 1, none⟩ (.int .i64 ((rd_T78 l0_2 x3_2).f1))).setCell ⟨gb120, 2, none⟩ (.int .i64 ((rd_T78 l0_2 x3_2).f2))).setCell ⟨gb120, 3, none⟩ (.int .i64 ((rd_T78 l0_2 x3_2).f3))).setCell ⟨gb120, 4, none⟩ (.slice A119_4 ((rd_T78 l0_2 x3_2).f4).length c119_4)) = w50 at n0_ n1_ n2_ ⊢
           have BK116 := n0_
           have BK120 := n1_
           have HB := n2_
           clear n0_ n1_ n2_
           replace BK116 := am_ (blk_drew BK116.out)
           replace BK120 := am_ (blk_drew BK120.out)
           replace HB := am_ (below_drew1 HB.out)
           refine start_ (n := 47) (S := fun w' => w'.cell? ⟨gb120, 0, none⟩ = some (.string ((rd_T78 l0_2 x3_2).f0)) ∧ w'.cell? ⟨gb120, 1, none⟩ = some (.int .i64 ((rd_T78 l0_2 x3_2).f1)) ∧ w'.cell? ⟨gb120, 2, none⟩ = some (.int .i64 ((rd_T78 l0_2 x3_2).f2)) ∧ w'.cell? ⟨gb120, 3, none⟩ = some (.int .i64 ((rd_T78 l0_2 x3_2).f3)) ∧ w'.cell? ⟨gb120, 4, none⟩ = some (.slice A119_4 ((rd_T78 l0_2 x3_2).f4).length c119_4) ∧ w'.cell? ⟨gb116, 0, none⟩ = some (.int .i64 a0_0) ∧ w'.cell? ⟨gb116, 1, none⟩ = some (.int .i64 a0_1) ∧ w'.cell? ⟨gb116, 2, none⟩ = some (.slice (some ad119) l0_2.length c0_2) ∧ w'.cell? ⟨gb116, 3, none⟩ = some (.slice A0_3 l0_3.length c0_3)) (ds := []) #[false, false, false, false, false, false, false, false, false, false, false, false, false, false, false, false, false, false, false, false, false, false, false, false, false, false, false, false, false, false, false, false, false, false, false, false, false, false, false, false, false, false, false, false, false, false, false] (by kernel_rfl) rfl rfl ⟨(blk_cell BK120.out 0).trans rfl, (blk_cell BK120.out 1).trans rfl, (blk_cell BK120.out 2).trans rfl, (blk_cell BK120.out 3).trans rfl, (blk_cell BK120.out 4).trans rfl, (blk_cell BK116.out 0).trans rfl, (blk_cell BK116.out 1).trans rfl, (blk_cell BK116.out 2).trans rfl, (blk_cell BK116.out 3).trans rfl⟩ (fun hHeld => ?_); refine with_tabW spec_TableOK.tab7 spec_TableOK.bits7 (fun HT_ HW_ => ?_)
           generalize w50.drew = w51 at BK116 BK120 HB hHeld ⊢
           refine zpu 0 (N := some 44) HT_ ?_
           refine ztk 1 (N := some 45) HT_ HW_ hHeld ?_
           refine zon 2 (N := some 46) HT_ (fun K hK => ?_)
           refine zgo Try.func74 #[.string ((rd_T78 l0_2 x3_2).f0), .int .i64 12] ?_
           with_reducible refine (spec_l02Text.calls k2 ((rd_T78 l0_2 x3_2).f0) 12 true _ A21.out).mono ?_
           rintro e w' ⟨rfl, ⟨nd, rfl⟩⟩
           refine ⟨_, rfl, ?_⟩
           refine hK.out _ _ ⟨(blk_cell BK120.out 0).trans rfl, (blk_cell BK120.out 1).trans rfl, (blk_cell BK120.out 2).trans rfl, (blk_cell BK120.out 3).trans rfl, (blk_cell BK120.out 4).trans rfl, (blk_cell BK116.out 0).trans rfl, (blk_cell BK116.out 1).trans rfl, (blk_cell BK116.out 2).trans rfl, (blk_cell BK116.out 3).trans rfl⟩ (fun hHeld => ?_)
           clear hK K
           refine norm_ (a' := ?_) ?_ ?_
           rotate_left
           ·show Act.put _ (some 46) _ = _
            simp only [Act.put, p1_, p2_, p3_, i64_w, i32_w]
            rfl
           refine zpu 3 (N := some 47) HT_ ?_
           refine zpu 4 (N := some 48) HT_ ?_
           refine zpu 5 (N := some 49) HT_ ?_
           refine zpu 6 (N := some 50) HT_ ?_
           refine zpu 7 (N := some 51) HT_ ?_
           refine zpx 8 (N := some 52) HT_ ?_
           refine zpx 9 (N := some 53) HT_ ?_
           refine zpx 10 (N := some 54) HT_ ?_
           refine zpx 11 (N := some 55) HT_ ?_
           refine zpx 12 (N := some 56) HT_ ?_
           refine zpx 13 (N := some 57) HT_ ?_
           refine zpx 14 (N := some 58) HT_ ?_
           refine zpx 15 (N := some 59) HT_ ?_
           refine zpx 16 (N := some 60) HT_ ?_
           refine zpx 17 (N := some 61) HT_ ?_
           refine zpu 18 (N := some 62) HT_ ?_
           refine zpu 19 (N := some 63) HT_ ?_
           refine zpu 20 (N := some 64) HT_ ?_
           refine zpu 21 (N := some 65) HT_ ?_
           refine zpu 23 (N := some 67) HT_ ?_
           refine ztk 22 (N := some 66) HT_ HW_ hHeld ?_
           refine ztk 24 (N := some 68) HT_ HW_ hHeld ?_
           refine zpu 25 (N := some 69) HT_ ?_
           refine zon 26 (N := some 70) HT_ (fun K hK => ?_)
           refine zgo Try.func58 #[.int .i64 ((rd_T78 l0_2 x3_2).f1), .int .i64 0, .int .i64 (wrap64 (a0_1 - 1))] ?_
           with_reducible refine (spec_l01In.calls ((rd_T78 l0_2 x3_2).f1) 0 (wrap64 (a0_1 - 1)) t126 _ A44.out).mono ?_
           rintro e w' ⟨rfl, ⟨nd, rfl⟩⟩
           refine ⟨_, rfl, ?_⟩
           refine hK.out _ _ ⟨(blk_cell BK120.out 0).trans rfl, (blk_cell BK120.out 1).trans rfl, (blk_cell BK120.out 2).trans rfl, (blk_cell BK120.out 3).trans rfl, (blk_cell BK120.out 4).trans rfl, (blk_cell BK116.out 0).trans rfl, (blk_cell BK116.out 1).trans rfl, (blk_cell BK116.out 2).trans rfl, (blk_cell BK116.out 3).trans rfl⟩ (fun hHeld => ?_)
           clear hK K
           refine norm_ (a' := ?_) ?_ ?_
           rotate_left
           ·show Act.put _ (some 70) _ = _
            simp only [Act.put, p1_, p2_, p3_, i64_w, i32_w]
            rfl
           by_cases c45 : t126 = true
           ·subst c45
            have H1 : ((spec_l01In.f ((rd_T78 l0_2 x3_2).f2) (-1) 255).bind fun t127 => (if t127 = true then ((spec_l01In.f ((rd_T78 l0_2 x3_2).f3) 0 2000000000).bind fun t128 => (if t128 = true then (spec_TableOK.j2 k2 x3_2 (decide ((((rd_T78 l0_2 x3_2).f4).length : Int) > 4)) a0_0 a0_1 l0_2 l0_3 ((rd_T78 l0_2 x3_2).f0) ((rd_T78 l0_2 x3_2).f1) ((rd_T78 l0_2 x3_2).f2) ((rd_T78 l0_2 x3_2).f3) ((rd_T78 l0_2 x3_2).f4)) else (spec_TableOK.j2 k2 x3_2 true a0_0 a0_1 l0_2 l0_3 ((rd_T78 l0_2 x3_2).f0) ((rd_T78 l0_2 x3_2).f1) ((rd_T78 l0_2 x3_2).f2) ((rd_T78 l0_2 x3_2).f3) ((rd_T78 l0_2 x3_2).f4)))) else (spec_TableOK.j2 k2 x3_2 true a0_0 a0_1 l0_2 l0_3 ((rd_T78 l0_2 x3_2).f0) ((rd_T78 l0_2 x3_2).f1) ((rd_T78 l0_2 x3_2).f2) ((rd_T78 l0_2 x3_2).f3) ((rd_T78 l0_2 x3_2).f4)))) = some r := by rw [if_pos rfl] at H; exact H
            clear H
            have H := H1
            clear H1
            replace H := Option.bind_eq_some_iff.mp H
            obtain ⟨t127, A460, H⟩ := H
            replace H : (if t127 = true then ((spec_l01In.f ((rd_T78 l0_2 x3_2).f3) 0 2000000000).bind fun t128 => (if t128 = true then (spec_TableOK.j2 k2 x3_2 (decide ((((rd_T78 l0_2 x3_2).f4).length : Int) > 4)) a0_0 a0_1 l0_2 l0_3 ((rd_T78 l0_2 x3_2).f0) ((rd_T78 l0_2 x3_2).f1) ((rd_T78 l0_2 x3_2).f2) ((rd_T78 l0_2 x3_2).f3) ((rd_T78 l0_2 x3_2).f4)) else (spec_TableOK.j2 k2 x3_2 true a0_0 a0_1 l0_2 l0_3 ((rd_T78 l0_2 x3_2).f0) ((rd_T78 l0_2 x3_2).f1) ((rd_T78 l0_2 x3_2).f2) ((rd_T78 l0_2 x3_2).f3) ((rd_T78 l0_2 x3_2).f4)))) else (spec_TableOK.j2 k2 x3_2 true a0_0 a0_1 l0_2 l0_3 ((rd_T78 l0_2 x3_2).f0) ((rd_T78 l0_2 x3_2).f1) ((rd_T78 l0_2 x3_2).f2) ((rd_T78 l0_2 x3_2).f3) ((rd_T78 l0_2 x3_2).f4))) = some r := H
            have A46 := am_ A460
            clear A460
            refine zpu 27 (N := some 71) HT_ ?_
            refine zpu 28 (N := some 72) HT_ ?_
            refine zpu 29 (N := some 73) HT_ ?_
            refine zpu 30 (N := some 74) HT_ ?_
            refine ztk 31 (N := some 75) HT_ HW_ hHeld ?_
            refine zon 32 (N := some 76) HT_ (fun K hK => ?_)
            refine zgo Try.func58 #[.int .i64 ((rd_T78 l0_2 x3_2).f2), .int .i64 (-1), .int .i64 255] ?_
            with_reducible refine (spec_l01In.calls ((rd_T78 l0_2 x3_2).f2) (-1) 255 t127 _ A46.out).mono ?_
            rintro e w' ⟨rfl, ⟨nd, rfl⟩⟩
            refine ⟨_, rfl, ?_⟩
            refine hK.out _ _ ⟨(blk_cell BK120.out 0).trans rfl, (blk_cell BK120.out 1).trans rfl, (blk_cell BK120.out 2).trans rfl, (blk_cell BK120.out 3).trans rfl, (blk_cell BK120.out 4).trans rfl, (blk_cell BK116.out 0).trans rfl, (blk_cell BK116.out 1).trans rfl, (blk_cell BK116.out 2).trans rfl, (blk_cell BK116.out 3).trans rfl⟩ (fun hHeld => ?_)
            clear hK K
            refine norm_ (a' := ?_) ?_ ?_
            rotate_left
            ·show Act.put _ (some 76) _ = _
             simp only [Act.put, p1_, p2_, p3_, i64_w, i32_w]
             rfl
            by_cases c47 : t127 = true
            ·subst c47
             have H1 : ((spec_l01In.f ((rd_T78 l0_2 x3_2).f3) 0 2000000000).bind fun t128 => (if t128 = true then (spec_TableOK.j2 k2 x3_2 (decide ((((rd_T78 l0_2 x3_2).f4).length : Int) > 4)) a0_0 a0_1 l0_2 l0_3 ((rd_T78 l0_2 x3_2).f0) ((rd_T78 l0_2 x3_2).f1) ((rd_T78 l0_2 x3_2).f2) ((rd_T78 l0_2 x3_2).f3) ((rd_T78 l0_2 x3_2).f4)) else (spec_TableOK.j2 k2 x3_2 true a0_0 a0_1 l0_2 l0_3 ((rd_T78 l0_2 x3_2).f0) ((rd_T78 l0_2 x3_2).f1) ((rd_T78 l0_2 x3_2).f2) ((rd_T78 l0_2 x3_2).f3) ((rd_T78 l0_2 x3_2).f4)))) = some r := by rw [if_pos rfl] at H; exact H
             clear H
             have H := H1
             clear H1
             replace H := Option.bind_eq_some_iff.mp H
             obtain ⟨t128, A480, H⟩ := H
             replace H : (if t128 = true then (spec_TableOK.j2 k2 x3_2 (decide ((((rd_T78 l0_2 x3_2).f4).length : Int) > 4)) a0_0 a0_1 l0_2 l0_3 ((rd_T78 l0_2 x3_2).f0) ((rd_T78 l0_2 x3_2).f1) ((rd_T78 l0_2 x3_2).f2) ((rd_T78 l0_2 x3_2).f3) ((rd_T78 l0_2 x3_2).f4)) else (spec_TableOK.j2 k2 x3_2 true a0_0 a0_1 l0_2 l0_3 ((rd_T78 l0_2 x3_2).f0) ((rd_T78 l0_2 x3_2).f1) ((rd_T78 l0_2 x3_2).f2) ((rd_T78 l0_2 x3_2).f3) ((rd_T78 l0_2 x3_2).f4))) = some r := H
             have A48 := am_ A480
             clear A480
             refine zpu 33 (N := some 77) HT_ ?_
             refine zpu 34 (N := some 78) HT_ ?_
             refine zpu 35 (N := some 79) HT_ ?_
             refine zpu 36 (N := some 80) HT_ ?_
             refine ztk 37 (N := some 81) HT_ HW_ hHeld ?_
             refine zon 38 (N := some 82) HT_ (fun K hK => ?_)
             refine zgo Try.func58 #[.int .i64 ((rd_T78 l0_2 x3_2).f3), .int .i64 0, .int .i64 2000000000] ?_
             with_reducible refine (spec_l01In.calls ((rd_T78 l0_2 x3_2).f3) 0 2000000000 t128 _ A48.out).mono ?_
             rintro e w' ⟨rfl, ⟨nd, rfl⟩⟩
             refine ⟨_, rfl, ?_⟩
             refine hK.out _ _ ⟨(blk_cell BK120.out 0).trans rfl, (blk_cell BK120.out 1).trans rfl, (blk_cell BK120.out 2).trans rfl, (blk_cell BK120.out 3).trans rfl, (blk_cell BK120.out 4).trans rfl, (blk_cell BK116.out 0).trans rfl, (blk_cell BK116.out 1).trans rfl, (blk_cell BK116.out 2).trans rfl, (blk_cell BK116.out 3).trans rfl⟩ (fun hHeld => ?_)
             clear hK K
             refine norm_ (a' := ?_) ?_ ?_
             rotate_left
             ·show Act.put _ (some 82) _ = _
              simp only [Act.put, p1_, p2_, p3_, i64_w, i32_w]
              rfl
             by_cases c49 : t128 = true
             ·subst c49
              have H1 : (spec_TableOK.j2 k2 x3_2 (decide ((((rd_T78 l0_2 x3_2).f4).length : Int) > 4)) a0_0 a0_1 l0_2 l0_3 ((rd_T78 l0_2 x3_2).f0) ((rd_T78 l0_2 x3_2).f1) ((rd_T78 l0_2 x3_2).f2) ((rd_T78 l0_2 x3_2).f3) ((rd_T78 l0_2 x3_2).f4)) = some r := by rw [if_pos rfl] at H; exact H
              clear H
              have H := H1
              clear H1
              have H' := am_ H
              clear H
              refine zpu 39 (N := some 83) HT_ ?_
              refine zpu 40 (N := some 84) HT_ ?_
              refine zpu 41 (N := some 85) HT_ ?_
              refine zpu 42 (N := some 86) HT_ ?_
              refine ztk 43 (N := some 87) HT_ HW_ hHeld ?_
              refine zpu 44 (N := some 88) HT_ ?_
              refine zpu 45 (N := some 89) HT_ ?_
              refine zpu 46 (N := some 90) HT_ ?_
              refine done_ (done_of HT_.out (by kernel_rfl)) ?_
              try go_wp2
              go_meet
              case rel => exact ⟨_, (decide ((((rd_T78 l0_2 x3_2).f4).length : Int) > 4)), (by first | rfl | (simp; done) | (simp [*]; done)), H', ⟨by have := HJ1.out; have := HK2.out; first | omega | exact Nat.le_refl _⟩, ⟨by (with_reducible repeat (first | apply k1_ | apply k2_ | apply k3_)); exact BK116.out⟩, ⟨by (with_reducible repeat (first | apply k1_ | apply k2_ | apply k3_)); exact BK120.out⟩, ⟨zl_ HB⟩⟩
             ·replace c49 := Bool.eq_false_iff.mpr c49
              subst c49
              have H1 : (spec_TableOK.j2 k2 x3_2 true a0_0 a0_1 l0_2 l0_3 ((rd_T78 l0_2 x3_2).f0) ((rd_T78 l0_2 x3_2).f1) ((rd_T78 l0_2 x3_2).f2) ((rd_T78 l0_2 x3_2).f3) ((rd_T78 l0_2 x3_2).f4)) = some r := by rw [if_neg (show ¬ (false = true) by decide)] at H; exact H
              clear H
              have H := H1
              clear H1
              have H' := am_ H
              clear H
              refine zpu 39 (N := some 83) HT_ ?_
              refine zpu 40 (N := some 84) HT_ ?_
              refine zpu 41 (N := some 85) HT_ ?_
              refine zpx 42 (N := some 86) HT_ ?_
              refine zpx 43 (N := some 87) HT_ ?_
              refine zpx 44 (N := some 88) HT_ ?_
              refine zpx 45 (N := some 89) HT_ ?_
              refine zpu 46 (N := some 90) HT_ ?_
              refine done_ (done_of HT_.out (by kernel_rfl)) ?_
              try go_wp2
              go_meet
              case rel => exact ⟨_, (true), (by first | rfl | (simp; done) | (simp [*]; done)), H', ⟨by have := HJ1.out; have := HK2.out; first | omega | exact Nat.le_refl _⟩, ⟨by (with_reducible repeat (first | apply k1_ | apply k2_ | apply k3_)); exact BK116.out⟩, ⟨by (with_reducible repeat (first | apply k1_ | apply k2_ | apply k3_)); exact BK120.out⟩, ⟨zl_ HB⟩⟩
            ·replace c47 := Bool.eq_false_iff.mpr c47
             subst c47
             have H1 : (spec_TableOK.j2 k2 x3_2 true a0_0 a0_1 l0_2 l0_3 ((rd_T78 l0_2 x3_2).f0) ((rd_T78 l0_2 x3_2).f1) ((rd_T78 l0_2 x3_2).f2) ((rd_T78 l0_2 x3_2).f3) ((rd_T78 l0_2 x3_2).f4)) = some r := by rw [if_neg (show ¬ (false = true) by decide)] at H; exact H
             clear H
             have H := H1
             clear H1
             have H' := am_ H
             clear H
             refine zpu 33 (N := some 77) HT_ ?_
             refine zpu 34 (N := some 78) HT_ ?_
             refine zpu 35 (N := some 79) HT_ ?_
             refine zpx 36 (N := some 80) HT_ ?_
             refine zpx 37 (N := some 81) HT_ ?_
             refine zpx 38 (N := some 82) HT_ ?_
             refine zpx 39 (N := some 83) HT_ ?_
             refine zpu 40 (N := some 84) HT_ ?_
             refine zpu 41 (N := some 85) HT_ ?_
             refine zpx 42 (N := some 86) HT_ ?_
             refine zpx 43 (N := some 87) HT_ ?_
             refine zpx 44 (N := some 88) HT_ ?_
             refine zpx 45 (N := some 89) HT_ ?_
             refine zpu 46 (N := some 90) HT_ ?_
             refine done_ (done_of HT_.out (by kernel_rfl)) ?_
             try go_wp2
             go_meet
             case rel => exact ⟨_, (true), (by first | rfl | (simp; done) | (simp [*]; done)), H', ⟨by have := HJ1.out; have := HK2.out; first | omega | exact Nat.le_refl _⟩, ⟨by (with_reducible repeat (first | apply k1_ | apply k2_ | apply k3_)); exact BK116.out⟩, ⟨by (with_reducible repeat (first | apply k1_ | apply k2_ | apply k3_)); exact BK120.out⟩, ⟨zl_ HB⟩⟩
           ·replace c45 := Bool.eq_false_iff.mpr c45
            subst c45
            have H1 : (spec_TableOK.j2 k2 x3_2 true a0_0 a0_1 l0_2 l0_3 ((rd_T78 l0_2 x3_2).f0) ((rd_T78 l0_2 x3_2).f1) ((rd_T78 l0_2 x3_2).f2) ((rd_T78 l0_2 x3_2).f3) ((rd_T78 l0_2 x3_2).f4)) = some r := by rw [if_neg (show ¬ (false = true) by decide)] at H; exact H
            clear H
            have H := H1
            clear H1
            have H' := am_ H
            clear H
            refine zpu 27 (N := some 71) HT_ ?_
            refine zpu 28 (N := some 72) HT_ ?_
            refine zpu 29 (N := some 73) HT_ ?_
            refine zpx 30 (N := some 74) HT_ ?_
            refine zpx 31 (N := some 75) HT_ ?_
            refine zpx 32 (N := some 76) HT_ ?_
            refine zpx 33 (N := some 77) HT_ ?_
            refine zpu 34 (N := some 78) HT_ ?_
            refine zpu 35 (N := some 79) HT_ ?_
            refine zpx 36 (N := some 80) HT_ ?_
            refine zpx 37 (N := some 81) HT_ ?_
            refine zpx 38 (N := some 82) HT_ ?_
            refine zpx 39 (N := some 83) HT_ ?_
            refine zpu 40 (N := some 84) HT_ ?_
            refine zpu 41 (N := some 85) HT_ ?_
            refine zpx 42 (N := some 86) HT_ ?_
            refine zpx 43 (N := some 87) HT_ ?_
            refine zpx 44 (N := some 88) HT_ ?_
            refine zpx 45 (N := some 89) HT_ ?_
            refine zpu 46 (N := some 90) HT_ ?_
            refine done_ (done_of HT_.out (by kernel_rfl)) ?_
            try go_wp2
            go_meet
            case rel => exact ⟨_, (true), (by first | rfl | (simp; done) | (simp [*]; done)), H', ⟨by have := HJ1.out; have := HK2.out; first | omega | exact Nat.le_refl _⟩, ⟨by (with_reducible repeat (first | apply k1_ | apply k2_ | apply k3_)); exact BK116.out⟩, ⟨by (with_reducible repeat (first | apply k1_ | apply k2_ | apply k3_)); exact BK120.out⟩, ⟨zl_ HB⟩⟩
         ·replace c22 := Bool.eq_false_iff.mpr c22
          subst c22
          have H1 : (spec_TableOK.j2 k2 x3_2 true a0_0 a0_1 l0_2 l0_3 ((rd_T78 l0_2 x3_2).f0) ((rd_T78 l0_2 x3_2).f1) ((rd_T78 l0_2 x3_2).f2) ((rd_T78 l0_2 x3_2).f3) ((rd_T78 l0_2 x3_2).f4)) = some r := by rw [if_neg (show ¬ (false = true) by decide)] at H; exact H
          clear H
          have H := H1
          clear H1
          have H' := am_ H
          clear H
          try go_wp2
          have n0_ : Aside0 ((((((w18.setCell ⟨gb120, 0, none⟩ (.string ((rd_T78 l0_2 x3_2).f0))).setCell ⟨gb120, 1, none⟩ (.int .i64 ((rd_T78 l0_2 x3_2).f1))).setCell ⟨gb120, 2, none⟩ (.int .i64 ((rd_T78 l0_2 x3_2).f2))).setCell ⟨gb120, 3, none⟩ (.int .i64 ((rd_T78 l0_2 x3_2).f3))).setCell ⟨gb120, 4, none⟩ (.slice A119_4 ((rd_T78 l0_2 x3_2).f4).length c119_4)).heap[gb116]? = some (.cells #[.int .i64 a0_0, .int .i64 a0_1, .slice (some ad119) l0_2.length c0_2, .slice A0_3 l0_3.length c0_3] 26 (0, 0))) := ⟨zq BK116⟩
          have n1_ : Aside0 ((((((w18.setCell ⟨gb120, 0, none⟩ (.string ((rd_T78 l0_2 x3_2).f0))).setCell ⟨gb120, 1, none⟩ (.int .i64 ((rd_T78 l0_2 x3_2).f1))).setCell ⟨gb120, 2, none⟩ (.int .i64 ((rd_T78 l0_2 x3_2).f2))).setCell ⟨gb120, 3, none⟩ (.int .i64 ((rd_T78 l0_2 x3_2).f3))).setCell ⟨gb120, 4, none⟩ (.slice A119_4 ((rd_T78 l0_2 x3_2).f4).length c119_4)).heap[gb120]? = some (.cells #[.string ((rd_T78 l0_2 x3_2).f0), .int .i64 ((rd_T78 l0_2 x3_2).f1), .int .i64 ((rd_T78 l0_2 x3_2).f2), .int .i64 ((rd_T78 l0_2 x3_2).f3), .slice A119_4 ((rd_T78 l0_2 x3_2).f4).length c119_4] 78 (0, 0))) := ⟨zq BK120⟩
          have n2_ : Aside0 (Below w.heap.size w (((((w18.setCell ⟨gb120, 0, none⟩ (.string ((rd_T78 l0_2 x3_2).f0))).setCell ⟨gb120, 1, none⟩ (.int .i64 ((rd_T78 l0_2 x3_2).f1))).setCell ⟨gb120, 2, none⟩ (.int .i64 ((rd_T78 l0_2 x3_2).f2))).setCell ⟨gb120, 3, none⟩ (.int .i64 ((rd_T78 l0_2 x3_2).f3))).setCell ⟨gb120, 4, none⟩ (.slice A119_4 ((rd_T78 l0_2 x3_2).f4).length c119_4))) := ⟨zl_ HB⟩
          (try clear BK116)
          (try clear BK120)
          (try clear HB)
          generalize (((((w18.setCell ⟨gb120, 0, none⟩ (.string ((rd_T78 l0_2 x3_2).f0))).setCell ⟨gb120, 1, none⟩ (.int .i64 ((rd_T78 l0_2 x3_2).f1))).setCell ⟨gb120, 2, none⟩ (.int .i64 ((rd_T78 l0_2 x3_2).f2))).setCell ⟨gb120, 3, none⟩ (.int .i64 ((rd_T78 l0_2 x3_2).f3))).setCell ⟨gb120, 4, none⟩ (.slice A119_4 ((rd_T78 l0_2 x3_2).f4).length c119_4)) = w58 at n0_ n1_ n2_ ⊢
          have BK116 := n0_
          have BK120 := n1_
          have HB := n2_
          clear n0_ n1_ n2_
          replace BK116 := am_ (blk_drew BK116.out)
          replace BK120 := am_ (blk_drew BK120.out)
          replace HB := am_ (below_drew1 HB.out)
          refine start_ (n := 47) (S := fun w' => w'.cell? ⟨gb120, 0, none⟩ = some (.string ((rd_T78 l0_2 x3_2).f0)) ∧ w'.cell? ⟨gb120, 1, none⟩ = some (.int .i64 ((rd_T78 l0_2 x3_2).f1)) ∧ w'.cell? ⟨gb120, 2, none⟩ = some (.int .i64 ((rd_T78 l0_2 x3_2).f2)) ∧ w'.cell? ⟨gb120, 3, none⟩ = some (.int .i64 ((rd_T78 l0_2 x3_2).f3)) ∧ w'.cell? ⟨gb120, 4, none⟩ = some (.slice A119_4 ((rd_T78 l0_2 x3_2).f4).length c119_4)) (ds := []) #[false, false, false, false, false, false, false, false, false, false, false, false, false, false, false, false, false, false, false, false, false, false, false, false, false, false, false, false, false, false, false, false, false, false, false, false, false, false, false, false, false, false, false, false, false, false, false] (by kernel_rfl) rfl rfl ⟨(blk_cell BK120.out 0).trans rfl, (blk_cell BK120.out 1).trans rfl, (blk_cell BK120.out 2).trans rfl, (blk_cell BK120.out 3).trans rfl, (blk_cell BK120.out 4).trans rfl⟩ (fun hHeld => ?_); refine with_tabW spec_TableOK.tab7 spec_TableOK.bits7 (fun HT_ HW_ => ?_)
          generalize w58.drew = w59 at BK116 BK120 HB hHeld ⊢
          refine zpu 0 (N := some 44) HT_ ?_
          refine ztk 1 (N := some 45) HT_ HW_ hHeld ?_
          refine zon 2 (N := some 46) HT_ (fun K hK => ?_)
          refine zgo Try.func74 #[.string ((rd_T78 l0_2 x3_2).f0), .int .i64 12] ?_
          with_reducible refine (spec_l02Text.calls k2 ((rd_T78 l0_2 x3_2).f0) 12 false _ A21.out).mono ?_
          rintro e w' ⟨rfl, ⟨nd, rfl⟩⟩
          refine ⟨_, rfl, ?_⟩
          refine hK.out _ _ ⟨(blk_cell BK120.out 0).trans rfl, (blk_cell BK120.out 1).trans rfl, (blk_cell BK120.out 2).trans rfl, (blk_cell BK120.out 3).trans rfl, (blk_cell BK120.out 4).trans rfl⟩ (fun hHeld => ?_)
          clear hK K
          refine norm_ (a' := ?_) ?_ ?_
          rotate_left
          ·show Act.put _ (some 46) _ = _
           simp only [Act.put, p1_, p2_, p3_, i64_w, i32_w]
           rfl
          refine zpu 3 (N := some 47) HT_ ?_
          refine zpu 4 (N := some 48) HT_ ?_
          refine zpx 5 (N := some 49) HT_ ?_
          refine zpx 6 (N := some 50) HT_ ?_
          refine zpx 7 (N := some 51) HT_ ?_
          refine zpx 8 (N := some 52) HT_ ?_
          refine zpx 9 (N := some 53) HT_ ?_
          refine zpx 10 (N := some 54) HT_ ?_
          refine zpx 11 (N := some 55) HT_ ?_
          refine zpx 12 (N := some 56) HT_ ?_
          refine zpx 13 (N := some 57) HT_ ?_
          refine zpx 14 (N := some 58) HT_ ?_
          refine zpx 15 (N := some 59) HT_ ?_
          refine zpx 16 (N := some 60) HT_ ?_
          refine zpx 17 (N := some 61) HT_ ?_
          refine zpx 18 (N := some 62) HT_ ?_
          refine zpu 19 (N := some 63) HT_ ?_
          refine zpu 20 (N := some 64) HT_ ?_
          refine zpx 21 (N := some 65) HT_ ?_
          refine zpx 22 (N := some 66) HT_ ?_
          refine zpx 23 (N := some 67) HT_ ?_
          refine zpx 24 (N := some 68) HT_ ?_
          refine zpx 25 (N := some 69) HT_ ?_
          refine zpx 26 (N := some 70) HT_ ?_
          refine zpx 27 (N := some 71) HT_ ?_
          refine zpu 28 (N := some 72) HT_ ?_
          refine zpu 29 (N := some 73) HT_ ?_
          refine zpx 30 (N := some 74) HT_ ?_
          refine zpx 31 (N := some 75) HT_ ?_
          refine zpx 32 (N := some 76) HT_ ?_
          refine zpx 33 (N := some 77) HT_ ?_
          refine zpu 34 (N := some 78) HT_ ?_
          refine zpu 35 (N := some 79) HT_ ?_
          refine zpx 36 (N := some 80) HT_ ?_
          refine zpx 37 (N := some 81) HT_ ?_
          refine zpx 38 (N := some 82) HT_ ?_
          refine zpx 39 (N := some 83) HT_ ?_
          refine zpu 40 (N := some 84) HT_ ?_
          refine zpu 41 (N := some 85) HT_ ?_
          refine zpx 42 (N := some 86) HT_ ?_
          refine zpx 43 (N := some 87) HT_ ?_
          refine zpx 44 (N := some 88) HT_ ?_
          refine zpx 45 (N := some 89) HT_ ?_
          refine zpu 46 (N := some 90) HT_ ?_
          refine done_ (done_of HT_.out (by kernel_rfl)) ?_
          try go_wp2
          go_meet
          case rel => exact ⟨_, (true), (by first | rfl | (simp; done) | (simp [*]; done)), H', ⟨by have := HJ1.out; have := HK2.out; first | omega | exact Nat.le_refl _⟩, ⟨by (with_reducible repeat (first | apply k1_ | apply k2_ | apply k3_)); exact BK116.out⟩, ⟨by (with_reducible repeat (first | apply k1_ | apply k2_ | apply k3_)); exact BK120.out⟩, ⟨zl_ HB⟩⟩
        case rest =>
         revert u32 u33 u34 u35 u36 u37 u38 u39 u40 u41 u42 u43 u44 u45 u46 u47 u48 u49 u50 u51 u52 u53 u54 u55 u56 u57 u58 u59 u60 u61 u62 u63 u64 u65 u66 u67 u68 u69 u70 u71 u72 u73 u74 u75 u76 u77 u78 u79 u80 u81 u82 u83 u84 u85 u86 u87 u88 u89 u90 u91 u92 u93 u94 u95 u96 u97 u98 u99 u100 u101 u102 u103 u104 u105 u106 u107 u108 u109 u110 u111 u112 u113 u114 u115 u116 u117 u118 u119 u120 u121 u122 u123 u124 u125 u126 u127 u128 u129 u130 u131 u132 u133 u134 u135 u136 u137 u138 u139 u140 u141 u142 u143 u144 u145 u146 u147
         refine id ?_
         intro u32 u33 u34 u35 u36 u37 u38 u39 u40 u41 u42 u43 u44 u45 u46 u47 u48 u49 u50 u51 u52 u53 u54 u55 u56 u57 u58 u59 u60 u61 u62 u63 u64 u65 u66 u67 u68 u69 u70 u71 u72 u73 u74 u75 u76 u77 u78 u79 u80 u81 u82 u83 u84 u85 u86 u87 u88 u89 u90 u91 u92 u93 u94 u95 u96 u97 u98 u99 u100 u101 u102 u103 u104 u105 u106 u107 u108 u109 u110 u111 u112 u113 u114 u115 u116 u117 u118 u119 u120 u121 u122 u123 u124 u125 u126 u127 u128 u129 u130 u131 u132 u133 u134 u135 u136 u137 u138 u139 u140 u141 u142 u143 u144 u145 u146 u147 hcut
         clear HC16
         try clear c1
         try clear c2
         try clear p2
         try clear c5
         try clear p6
         try clear c7
         try clear c11
         try clear c22
         try clear c58
         obtain ⟨kq, x90_15, rfl, HA, HJ15, BK116, BK120, HB⟩ := hcut
         cases kq with
         | zero => exact absurd HA.out (by simp [spec_TableOK.j2])
         | succ kj15 =>
          have H := HA.out
          clear HA
          simp only [spec_TableOK.j2] at H
          by_cases c60 : x90_15 = true
          ·subst c60
           have H1 : (some false) = some r := by rw [if_pos rfl] at H; exact H
           clear H
           have H := H1
           clear H1
           obtain rfl := Option.some.inj H
           go_wp2
           go_ret
           exact ⟨zt_, zl_ HB⟩
          ·replace c60 := Bool.eq_false_iff.mpr c60
           subst c60
           have H1 : (if ((rd_T78 l0_2 x3_2).f2) < 0 then (if ((rd_T78 l0_2 x3_2).f3) = 0 then (spec_TableOK.j3 kj15 x3_2 ((((rd_T78 l0_2 x3_2).f4).length : Int) != 0) a0_0 a0_1 l0_2 l0_3 ((rd_T78 l0_2 x3_2).f0) ((rd_T78 l0_2 x3_2).f1) ((rd_T78 l0_2 x3_2).f2) ((rd_T78 l0_2 x3_2).f3) ((rd_T78 l0_2 x3_2).f4)) else (spec_TableOK.j3 kj15 x3_2 true a0_0 a0_1 l0_2 l0_3 ((rd_T78 l0_2 x3_2).f0) ((rd_T78 l0_2 x3_2).f1) ((rd_T78 l0_2 x3_2).f2) ((rd_T78 l0_2 x3_2).f3) ((rd_T78 l0_2 x3_2).f4))) else (spec_TableOK.j3 kj15 x3_2 false a0_0 a0_1 l0_2 l0_3 ((rd_T78 l0_2 x3_2).f0) ((rd_T78 l0_2 x3_2).f1) ((rd_T78 l0_2 x3_2).f2) ((rd_T78 l0_2 x3_2).f3) ((rd_T78 l0_2 x3_2).f4))) = some r := by rw [if_neg (show ¬ (false = true) by decide)] at H; exact H
           clear H
           have H := H1
           clear H1
           have HC61 := am_ H
           clear H
           go_upto_region 9 with (fail)
           go_cut [104] (fun v104 wc => ∃ (kq : Nat) (x104_60 : Bool), v104 = .bool x104_60 ∧ Aside0 (spec_TableOK.j3 kq x3_2 x104_60 a0_0 a0_1 l0_2 l0_3 ((rd_T78 l0_2 x3_2).f0) ((rd_T78 l0_2 x3_2).f1) ((rd_T78 l0_2 x3_2).f2) ((rd_T78 l0_2 x3_2).f3) ((rd_T78 l0_2 x3_2).f4) = some r) ∧ Aside0 (kq ≤ kj15) ∧ Aside0 (wc.heap[gb116]? = some (.cells #[.int .i64 a0_0, .int .i64 a0_1, (.slice (some ad119) l0_2.length c0_2), (.slice A0_3 l0_3.length c0_3)] 26 (0, 0))) ∧ Aside0 (wc.heap[gb120]? = some (.cells #[.string ((rd_T78 l0_2 x3_2).f0), .int .i64 ((rd_T78 l0_2 x3_2).f1), .int .i64 ((rd_T78 l0_2 x3_2).f2), .int .i64 ((rd_T78 l0_2 x3_2).f3), (.slice A119_4 ((rd_T78 l0_2 x3_2).f4).length c119_4)] 78 (0, 0))) ∧ Aside0 (Below w.heap.size w wc))
           case first =>
            have H := HC61.out
            clear HC61
            by_cases c62 : ((rd_T78 l0_2 x3_2).f2) < 0
            ·rw [if_pos c62] at H
             have c62b0 : decide (((rd_T78 l0_2 x3_2).f2) < 0) = true := decide_eq_true c62
             clear c62
             (first | rw [c62b0] | (simp only [i64_w, i32_w]; rw [c62b0]) | skip)
             by_cases c63 : ((rd_T78 l0_2 x3_2).f3) = 0
             ·rw [if_pos c63] at H
              have c63b0 : (((rd_T78 l0_2 x3_2).f3) == 0) = true := beq_iff_eq.mpr c63
              have c63b1 : (((rd_T78 l0_2 x3_2).f3) != 0) = false := bne_eq_false_iff_eq.mpr c63
              clear c63
              have H' := am_ H
              clear H
              have hnb64 := NB120_116.out
              have hnc64 := NB116_120.out
              obtain ⟨hcz65_0, hcz65_1, hcz65_2, hcz65_3, hcz65_4, hfz65_0, hfz65_1, hfz65_2, hfz65_3, hfz65_4⟩ := zc5 BK120
              go_wp2
              go_meet
              case rel => exact ⟨_, (((((rd_T78 l0_2 x3_2).f4).length : Int) != 0)), (by first | rfl | (simp; done) | (simp [*]; done)), H', ⟨by have := HJ1.out; have := HK2.out; have := HJ15.out; first | omega | exact Nat.le_refl _⟩, ⟨by (with_reducible repeat (first | apply k1_ | apply k2_ | apply k3_)); exact BK116.out⟩, ⟨by (with_reducible repeat (first | apply k1_ | apply k2_ | apply k3_)); exact BK120.out⟩, ⟨zl_ HB⟩⟩
             ·rw [if_neg c63] at H
              have c63b0 : (((rd_T78 l0_2 x3_2).f3) == 0) = false := beq_eq_false_iff_ne.mpr c63
              have c63b1 : (((rd_T78 l0_2 x3_2).f3) != 0) = true := bne_iff_ne.mpr c63
              have H' := am_ H
              clear H
              have hnb66 := NB120_116.out
              have hnc66 := NB116_120.out
              obtain ⟨hcz67_0, hcz67_1, hcz67_2, hcz67_3, hcz67_4, hfz67_0, hfz67_1, hfz67_2, hfz67_3, hfz67_4⟩ := zc5 BK120
              go_wp2
              go_meet
              case rel => exact ⟨_, (true), (by first | rfl | (simp; done) | (simp [*]; done)), H', ⟨by have := HJ1.out; have := HK2.out; have := HJ15.out; first | omega | exact Nat.le_refl _⟩, ⟨by (with_reducible repeat (first | apply k1_ | apply k2_ | apply k3_)); exact BK116.out⟩, ⟨by (with_reducible repeat (first | apply k1_ | apply k2_ | apply k3_)); exact BK120.out⟩, ⟨zl_ HB⟩⟩
            ·rw [if_neg c62] at H
             have c62b0 : decide (((rd_T78 l0_2 x3_2).f2) < 0) = false := decide_eq_false c62
             clear c62
             (first | rw [c62b0] | (simp only [i64_w, i32_w]; rw [c62b0]) | skip)
             have H' := am_ H
             clear H
             have hnb68 := NB120_116.out
             have hnc68 := NB116_120.out
             obtain ⟨hcz69_0, hcz69_1, hcz69_2, hcz69_3, hcz69_4, hfz69_0, hfz69_1, hfz69_2, hfz69_3, hfz69_4⟩ := zc5 BK120
             go_wp2
             go_meet
             case rel => exact ⟨_, (false), (by first | rfl | (simp; done) | (simp [*]; done)), H', ⟨by have := HJ1.out; have := HK2.out; have := HJ15.out; first | omega | exact Nat.le_refl _⟩, ⟨by (with_reducible repeat (first | apply k1_ | apply k2_ | apply k3_)); exact BK116.out⟩, ⟨by (with_reducible repeat (first | apply k1_ | apply k2_ | apply k3_)); exact BK120.out⟩, ⟨zl_ HB⟩⟩
           case rest =>
            revert u32 u33 u34 u35 u36 u37 u38 u39 u40 u41 u42 u43 u44 u45 u46 u47 u48 u49 u50 u51 u52 u53 u54 u55 u56 u57 u58 u59 u60 u61 u62 u63 u64 u65 u66 u67 u68 u69 u70 u71 u72 u73 u74 u75 u76 u77 u78 u79 u80 u81 u82 u83 u84 u85 u86 u87 u88 u89 u90 u91 u92 u93 u94 u95 u96 u97 u98 u99 u100 u101 u102 u103 u104 u105 u106 u107 u108 u109 u110 u111 u112 u113 u114 u115 u116 u117 u118 u119 u120 u121 u122 u123 u124 u125 u126 u127 u128 u129 u130 u131 u132 u133 u134 u135 u136 u137 u138 u139 u140 u141 u142 u143 u144 u145 u146 u147
            refine id ?_
            intro u32 u33 u34 u35 u36 u37 u38 u39 u40 u41 u42 u43 u44 u45 u46 u47 u48 u49 u50 u51 u52 u53 u54 u55 u56 u57 u58 u59 u60 u61 u62 u63 u64 u65 u66 u67 u68 u69 u70 u71 u72 u73 u74 u75 u76 u77 u78 u79 u80 u81 u82 u83 u84 u85 u86 u87 u88 u89 u90 u91 u92 u93 u94 u95 u96 u97 u98 u99 u100 u101 u102 u103 u104 u105 u106 u107 u108 u109 u110 u111 u112 u113 u114 u115 u116 u117 u118 u119 u120 u121 u122 u123 u124 u125 u126 u127 u128 u129 u130 u131 u132 u133 u134 u135 u136 u137 u138 u139 u140 u141 u142 u143 u144 u145 u146 u147 hcut
            clear HC61
            try clear c1
            try clear c2
            try clear p2
            try clear c5
            try clear c6
            try clear p6
            try clear c7
            try clear c11
            try clear c22
            try clear c58
            try clear c60
            try clear c62
            try clear c62b0
            try clear c63
            try clear c63b0
            try clear c63b1
            try clear c64
            try clear p64
            try clear c66
            try clear c68
            try clear hcz65_0
            try clear hcz65_1
            try clear hcz65_2
            try clear hcz65_3
            try clear hcz65_4
            try clear hcz67_0
            try clear hcz67_1
            try clear hcz67_2
            try clear hcz67_3
            try clear hcz67_4
            try clear hcz69_0
            try clear hcz69_1
            try clear hcz69_2
            try clear hcz69_3
            try clear hcz69_4
            try clear hfz65_0
            try clear hfz65_1
            try clear hfz65_2
            try clear hfz65_3
            try clear hfz65_4
            try clear hfz67_0
            try clear hfz67_1
            try clear hfz67_2
            try clear hfz67_3
            try clear hfz67_4
            try clear hfz69_0
            try clear hfz69_1
            try clear hfz69_2
            try clear hfz69_3
            try clear hfz69_4
            try clear p2
            try clear p6
            obtain ⟨kq, x104_60, rfl, HA, HJ60, BK116, BK120, HB⟩ := hcut
            cases kq with
            | zero => exact absurd HA.out (by simp [spec_TableOK.j3])
            | succ kj60 =>
             have H := HA.out
             clear HA
             simp only [spec_TableOK.j3] at H
             by_cases c70 : x104_60 = true
             ·subst c70
              have H1 : (some false) = some r := by rw [if_pos rfl] at H; exact H
              clear H
              have H := H1
              clear H1
              obtain rfl := Option.some.inj H
              go_wp2
              go_ret
              exact ⟨zt_, zl_ HB⟩
             ·replace c70 := Bool.eq_false_iff.mpr c70
              subst c70
              have H1 : (spec_TableOK.l1 kj60 x3_2 0 a0_0 a0_1 l0_2 l0_3 ((rd_T78 l0_2 x3_2).f0) ((rd_T78 l0_2 x3_2).f1) ((rd_T78 l0_2 x3_2).f2) ((rd_T78 l0_2 x3_2).f3) ((rd_T78 l0_2 x3_2).f4)) = some r := by rw [if_neg (show ¬ (false = true) by decide)] at H; exact H
              clear H
              have H := H1
              clear H1
              have H' := am_ H
              clear H
              go_wp2
              go_loopg [5] kj60 (fun kq v5 w' => ∃ (x5_5 : Int), v5 = .int .i64 x5_5 ∧ Aside0 (spec_TableOK.l1 kq x3_2 x5_5 a0_0 a0_1 l0_2 l0_3 ((rd_T78 l0_2 x3_2).f0) ((rd_T78 l0_2 x3_2).f1) ((rd_T78 l0_2 x3_2).f2) ((rd_T78 l0_2 x3_2).f3) ((rd_T78 l0_2 x3_2).f4) = some r) ∧ Aside0 (kq ≤ kj60) ∧ Aside0 (w'.heap[gb116]? = some (.cells #[.int .i64 a0_0, .int .i64 a0_1, (.slice (some ad119) l0_2.length c0_2), (.slice A0_3 l0_3.length c0_3)] 26 (0, 0))) ∧ Aside0 (w'.heap[gb120]? = some (.cells #[.string ((rd_T78 l0_2 x3_2).f0), .int .i64 ((rd_T78 l0_2 x3_2).f1), .int .i64 ((rd_T78 l0_2 x3_2).f2), .int .i64 ((rd_T78 l0_2 x3_2).f3), (.slice A119_4 ((rd_T78 l0_2 x3_2).f4).length c119_4)] 78 (0, 0))) ∧ Aside0 (Below w.heap.size w w'))
              case atStart => exact ⟨(0), (by first | rfl | (simp; done) | (simp [*]; done)), H', ⟨Nat.le_refl _⟩, ⟨by (with_reducible repeat (first | apply k1_ | apply k2_ | apply k3_)); exact BK116.out⟩, ⟨by (with_reducible repeat (first | apply k1_ | apply k2_ | apply k3_)); exact BK120.out⟩, ⟨zl_ HB⟩⟩
              case round =>
               revert u2 u5 u6 u7 u105 u106 u107 u108 u109 u110 u111 u112 u113 u114 u115 u116 u117 u118 u119 u120 u121 u122 u123 u124 u125 u126 u127 u128 u129 u130 u131 u132 u133 u134 u135 u136 u137 u138 u139 u140 u141 u142 u143 u144 u145 u146 u147
               refine id ?_
               intro u2 u5 u6 u7 u105 u106 u107 u108 u109 u110 u111 u112 u113 u114 u115 u116 u117 u118 u119 u120 u121 u122 u123 u124 u125 u126 u127 u128 u129 u130 u131 u132 u133 u134 u135 u136 u137 u138 u139 u140 u141 u142 u143 u144 u145 u146 u147 hrel
               clear H'
               try clear c1
               try clear c2
               try clear p2
               try clear c5
               try clear c6
               try clear p6
               try clear c7
               try clear c11
               try clear c22
               try clear c58
               try clear c60
               try clear c62
               try clear c62b0
               try clear c63
               try clear c63b0
               try clear c63b1
               try clear c64
               try clear p64
               try clear c66
               try clear c68
               try clear c70
               try clear hcz65_0
               try clear hcz65_1
               try clear hcz65_2
               try clear hcz65_3
               try clear hcz65_4
               try clear hcz67_0
               try clear hcz67_1
               try clear hcz67_2
               try clear hcz67_3
               try clear hcz67_4
               try clear hcz69_0
               try clear hcz69_1
               try clear hcz69_2
               try clear hcz69_3
               try clear hcz69_4
               try clear hfz65_0
               try clear hfz65_1
               try clear hfz65_2
               try clear hfz65_3
               try clear hfz65_4
               try clear hfz67_0
               try clear hfz67_1
               try clear hfz67_2
               try clear hfz67_3
               try clear hfz67_4
               try clear hfz69_0
               try clear hfz69_1
               try clear hfz69_2
               try clear hfz69_3
               try clear hfz69_4
               try clear p2
               try clear p6
               try clear p64
               obtain ⟨x5_5, rfl, HA, HK5, BK116, BK120, HB⟩ := hrel
               cases gk with
               | zero => exact absurd HA.out (by simp [spec_TableOK.l1])
               | succ k5 =>
                have H := HA.out
                clear HA
                simp only [spec_TableOK.l1] at H
                by_cases c71 : x5_5 < (((rd_T78 l0_2 x3_2).f4).length : Int)
                ·rw [if_pos c71] at H
                 have c71b0 : decide (x5_5 < (((rd_T78 l0_2 x3_2).f4).length : Int)) = true := decide_eq_true c71
                 clear c71
                 by_cases c72 : 0 ≤ x5_5
                 ·rw [if_pos c72] at H
                  have c72b0 : decide (0 ≤ x5_5) = true := decide_eq_true c72
                  clear c72
                  have HC73 := am_ H
                  clear H
                  have hnb74 := NB120_116.out
                  have hnc74 := NB116_120.out
                  obtain ⟨hcz75_0, hcz75_1, hcz75_2, hcz75_3, hcz75_4, hfz75_0, hfz75_1, hfz75_2, hfz75_3, hfz75_4⟩ := zc5 BK120
                  have p129 : 0 ≤ (x5_5 : Int) := zo_
                  have q129 : x5_5 < (((rd_T78 l0_2 x3_2).f4).length : Int) := zo_
                  obtain ⟨ad129, e129, hx129_0, hx129_1⟩ := at_T80 HR119_4.out x5_5 p129 q129
                  cases e129
                  replace hx129_0 := zx_ HB hx129_0
                  replace hx129_1 := zx_ HB hx129_1
                  replace p129 := eq_true p129
                  replace q129 := eq_true q129
                  go_upto_region 15 with (first | ((with_reducible refine gate_dst (N := 6) rfl ?_); (try (refine gate_guard (by rfl) ?_; dsimp only)); refine zbx (N := 6) (cs := #[.int .i64 0, .int .i64 0]) (t := 80) ?_; intro gb130 hg w76 hbox hb; have BK130 := am_ (hbox); have GW130 := zw_ HB hg; have GE130 := zw_ HB hg; replace HB := zs_ HB hb; have NB116_130 := zl hg BK116; have NB130_116 := zg hg BK116; replace BK116 := zb BK116 hb; have NB120_130 := zl hg BK120; have NB130_120 := zg hg BK120; replace BK120 := zb BK120 hb; clear hb hbox hg; have hnb77 := NB130_116.out; have hnc77 := NB116_130.out; have hnb78 := NB130_120.out; have hnc78 := NB120_130.out; obtain ⟨hcz79_0, hcz79_1, hfz79_0, hfz79_1⟩ := zc2 BK130))
                  (try simp only [Act.put, p1_, p2_, p3_])
                  go_cut [133] (fun v133 wc => ∃ (kq : Nat) (x133_72 : Bool), v133 = .bool x133_72 ∧ Aside0 (spec_TableOK.j5 kq x3_2 x5_5 x133_72 a0_0 a0_1 l0_2 l0_3 ((rd_T78 l0_2 x3_2).f0) ((rd_T78 l0_2 x3_2).f1) ((rd_T78 l0_2 x3_2).f2) ((rd_T78 l0_2 x3_2).f3) ((rd_T78 l0_2 x3_2).f4) ((rd_T80 ((rd_T78 l0_2 x3_2).f4) x5_5).f0) ((rd_T80 ((rd_T78 l0_2 x3_2).f4) x5_5).f1) = some r) ∧ Aside0 (kq ≤ k5) ∧ Aside0 (wc.heap[gb116]? = some (.cells #[.int .i64 a0_0, .int .i64 a0_1, (.slice (some ad119) l0_2.length c0_2), (.slice A0_3 l0_3.length c0_3)] 26 (0, 0))) ∧ Aside0 (wc.heap[gb120]? = some (.cells #[.string ((rd_T78 l0_2 x3_2).f0), .int .i64 ((rd_T78 l0_2 x3_2).f1), .int .i64 ((rd_T78 l0_2 x3_2).f2), .int .i64 ((rd_T78 l0_2 x3_2).f3), (.slice (some ad129) ((rd_T78 l0_2 x3_2).f4).length c119_4)] 78 (0, 0))) ∧ Aside0 (wc.heap[gb130]? = some (.cells #[.int .i64 ((rd_T80 ((rd_T78 l0_2 x3_2).f4) x5_5).f0), .int .i64 ((rd_T80 ((rd_T78 l0_2 x3_2).f4) x5_5).f1)] 80 (0, 0))) ∧ Aside0 (Below w.heap.size w wc))
                  case first =>
                   have H := HC73.out
                   clear HC73
                   replace H := Option.bind_eq_some_iff.mp H
                   obtain ⟨t131, A800, H⟩ := H
                   replace H : (if t131 = true then ((spec_l01In.f ((rd_T80 ((rd_T78 l0_2 x3_2).f4) x5_5).f1) 1 1000).bind fun t132 => (if t132 = true then (spec_TableOK.j5 k5 x3_2 x5_5 (((rd_T80 ((rd_T78 l0_2 x3_2).f4) x5_5).f0) == ((rd_T78 l0_2 x3_2).f2)) a0_0 a0_1 l0_2 l0_3 ((rd_T78 l0_2 x3_2).f0) ((rd_T78 l0_2 x3_2).f1) ((rd_T78 l0_2 x3_2).f2) ((rd_T78 l0_2 x3_2).f3) ((rd_T78 l0_2 x3_2).f4) ((rd_T80 ((rd_T78 l0_2 x3_2).f4) x5_5).f0) ((rd_T80 ((rd_T78 l0_2 x3_2).f4) x5_5).f1)) else (spec_TableOK.j5 k5 x3_2 x5_5 true a0_0 a0_1 l0_2 l0_3 ((rd_T78 l0_2 x3_2).f0) ((rd_T78 l0_2 x3_2).f1) ((rd_T78 l0_2 x3_2).f2) ((rd_T78 l0_2 x3_2).f3) ((rd_T78 l0_2 x3_2).f4) ((rd_T80 ((rd_T78 l0_2 x3_2).f4) x5_5).f0) ((rd_T80 ((rd_T78 l0_2 x3_2).f4) x5_5).f1)))) else (spec_TableOK.j5 k5 x3_2 x5_5 true a0_0 a0_1 l0_2 l0_3 ((rd_T78 l0_2 x3_2).f0) ((rd_T78 l0_2 x3_2).f1) ((rd_T78 l0_2 x3_2).f2) ((rd_T78 l0_2 x3_2).f3) ((rd_T78 l0_2 x3_2).f4) ((rd_T80 ((rd_T78 l0_2 x3_2).f4) x5_5).f0) ((rd_T80 ((rd_T78 l0_2 x3_2).f4) x5_5).f1))) = some r := H
                   have A80 := am_ A800
                   clear A800
                   by_cases c81 : t131 = true
                   ·subst c81
                    have H1 : ((spec_l01In.f ((rd_T80 ((rd_T78 l0_2 x3_2).f4) x5_5).f1) 1 1000).bind fun t132 => (if t132 = true then (spec_TableOK.j5 k5 x3_2 x5_5 (((rd_T80 ((rd_T78 l0_2 x3_2).f4) x5_5).f0) == ((rd_T78 l0_2 x3_2).f2)) a0_0 a0_1 l0_2 l0_3 ((rd_T78 l0_2 x3_2).f0) ((rd_T78 l0_2 x3_2).f1) ((rd_T78 l0_2 x3_2).f2) ((rd_T78 l0_2 x3_2).f3) ((rd_T78 l0_2 x3_2).f4) ((rd_T80 ((rd_T78 l0_2 x3_2).f4) x5_5).f0) ((rd_T80 ((rd_T78 l0_2 x3_2).f4) x5_5).f1)) else (spec_TableOK.j5 k5 x3_2 x5_5 true a0_0 a0_1 l0_2 l0_3 ((rd_T78 l0_2 x3_2).f0) ((rd_T78 l0_2 x3_2).f1) ((rd_T78 l0_2 x3_2).f2) ((rd_T78 l0_2 x3_2).f3) ((rd_T78 l0_2 x3_2).f4) ((rd_T80 ((rd_T78 l0_2 x3_2).f4) x5_5).f0) ((rd_T80 ((rd_T78 l0_2 x3_2).f4) x5_5).f1)))) = some r := by rw [if_pos rfl] at H; exact H
                    clear H
                    have H := H1
                    clear H1
                    replace H := Option.bind_eq_some_iff.mp H
                    obtain ⟨t132, A820, H⟩ := H
                    replace H : (if t132 = true then (spec_TableOK.j5 k5 x3_2 x5_5 (((rd_T80 ((rd_T78 l0_2 x3_2).f4) x5_5).f0) == ((rd_T78 l0_2 x3_2).f2)) a0_0 a0_1 l0_2 l0_3 ((rd_T78 l0_2 x3_2).f0) ((rd_T78 l0_2 x3_2).f1) ((rd_T78 l0_2 x3_2).f2) ((rd_T78 l0_2 x3_2).f3) ((rd_T78 l0_2 x3_2).f4) ((rd_T80 ((rd_T78 l0_2 x3_2).f4) x5_5).f0) ((rd_T80 ((rd_T78 l0_2 x3_2).f4) x5_5).f1)) else (spec_TableOK.j5 k5 x3_2 x5_5 true a0_0 a0_1 l0_2 l0_3 ((rd_T78 l0_2 x3_2).f0) ((rd_T78 l0_2 x3_2).f1) ((rd_T78 l0_2 x3_2).f2) ((rd_T78 l0_2 x3_2).f3) ((rd_T78 l0_2 x3_2).f4) ((rd_T80 ((rd_T78 l0_2 x3_2).f4) x5_5).f0) ((rd_T80 ((rd_T78 l0_2 x3_2).f4) x5_5).f1))) = some r := H
                    have A82 := am_ A820
                    clear A820
                    by_cases c83 : t132 = true
                    ·subst c83
                     have H1 : (spec_TableOK.j5 k5 x3_2 x5_5 (((rd_T80 ((rd_T78 l0_2 x3_2).f4) x5_5).f0) == ((rd_T78 l0_2 x3_2).f2)) a0_0 a0_1 l0_2 l0_3 ((rd_T78 l0_2 x3_2).f0) ((rd_T78 l0_2 x3_2).f1) ((rd_T78 l0_2 x3_2).f2) ((rd_T78 l0_2 x3_2).f3) ((rd_T78 l0_2 x3_2).f4) ((rd_T80 ((rd_T78 l0_2 x3_2).f4) x5_5).f0) ((rd_T80 ((rd_T78 l0_2 x3_2).f4) x5_5).f1)) = some r := by rw [if_pos rfl] at H; exact H
                     clear H
                     have H := H1
                     clear H1
                     have H' := am_ H
                     clear H
                     have hnb84 := NB130_116.out
                     have hnc84 := NB116_130.out
                     have hnb85 := NB130_120.out
                     have hnc85 := NB120_130.out
                     obtain ⟨hcz86_0, hcz86_1, hfz86_0, hfz86_1⟩ := zc2 BK130
                     go_wp2_with (first | ((with_reducible refine gate_callee (f := 58) rfl ?_); refine zgl (some 119) Try.func58 #[.int .i64 ((rd_T80 ((rd_T78 l0_2 x3_2).f4) x5_5).f0), .int .i64 0, .int .i64 255] ?_; (with_reducible refine (spec_l01In.calls ((rd_T80 ((rd_T78 l0_2 x3_2).f4) x5_5).f0) 0 255 true _ A80.out).mono ?_); rintro e w' ⟨rfl, ⟨nd, rfl⟩⟩; refine ⟨_, rfl, ?_⟩) | (go_at_call 58; (with_reducible refine (spec_l01In.calls ((rd_T80 ((rd_T78 l0_2 x3_2).f4) x5_5).f1) 1 1000 true _ A82.out).mono ?_); rintro e w' ⟨rfl, ⟨nd, rfl⟩⟩; have hnb87 := NB120_116.out; have hnc87 := NB116_120.out; obtain ⟨hcz88_0, hcz88_1, hcz88_2, hcz88_3, hcz88_4, hfz88_0, hfz88_1, hfz88_2, hfz88_3, hfz88_4⟩ := zc5 BK120))
                     go_meet
                     case rel => exact ⟨_, ((((rd_T80 ((rd_T78 l0_2 x3_2).f4) x5_5).f0) == ((rd_T78 l0_2 x3_2).f2))), (by first | rfl | (simp; done) | (simp [*]; done)), H', ⟨by have := HJ1.out; have := HK2.out; have := HJ15.out; have := HJ60.out; have := HK5.out; first | omega | exact Nat.le_refl _⟩, ⟨zq BK116⟩, ⟨zq BK120⟩, ⟨zq BK130⟩, ⟨zl_ HB⟩⟩
                    ·replace c83 := Bool.eq_false_iff.mpr c83
                     subst c83
                     have H1 : (spec_TableOK.j5 k5 x3_2 x5_5 true a0_0 a0_1 l0_2 l0_3 ((rd_T78 l0_2 x3_2).f0) ((rd_T78 l0_2 x3_2).f1) ((rd_T78 l0_2 x3_2).f2) ((rd_T78 l0_2 x3_2).f3) ((rd_T78 l0_2 x3_2).f4) ((rd_T80 ((rd_T78 l0_2 x3_2).f4) x5_5).f0) ((rd_T80 ((rd_T78 l0_2 x3_2).f4) x5_5).f1)) = some r := by rw [if_neg (show ¬ (false = true) by decide)] at H; exact H
                     clear H
                     have H := H1
                     clear H1
                     have H' := am_ H
                     clear H
                     have hnb89 := NB130_116.out
                     have hnc89 := NB116_130.out
                     have hnb90 := NB130_120.out
                     have hnc90 := NB120_130.out
                     obtain ⟨hcz91_0, hcz91_1, hfz91_0, hfz91_1⟩ := zc2 BK130
                     go_wp2_with (first | ((with_reducible refine gate_callee (f := 58) rfl ?_); refine zgl (some 119) Try.func58 #[.int .i64 ((rd_T80 ((rd_T78 l0_2 x3_2).f4) x5_5).f0), .int .i64 0, .int .i64 255] ?_; (with_reducible refine (spec_l01In.calls ((rd_T80 ((rd_T78 l0_2 x3_2).f4) x5_5).f0) 0 255 true _ A80.out).mono ?_); rintro e w' ⟨rfl, ⟨nd, rfl⟩⟩; refine ⟨_, rfl, ?_⟩) | (go_at_call 58; (with_reducible refine (spec_l01In.calls ((rd_T80 ((rd_T78 l0_2 x3_2).f4) x5_5).f1) 1 1000 false _ A82.out).mono ?_); rintro e w' ⟨rfl, ⟨nd, rfl⟩⟩))
                     go_meet
                     case rel => exact ⟨_, (true), (by first | rfl | (simp; done) | (simp [*]; done)), H', ⟨by have := HJ1.out; have := HK2.out; have := HJ15.out; have := HJ60.out; have := HK5.out; first | omega | exact Nat.le_refl _⟩, ⟨zq BK116⟩, ⟨zq BK120⟩, ⟨zq BK130⟩, ⟨zl_ HB⟩⟩
                   ·replace c81 := Bool.eq_false_iff.mpr c81
                    subst c81
                    have H1 : (spec_TableOK.j5 k5 x3_2 x5_5 true a0_0 a0_1 l0_2 l0_3 ((rd_T78 l0_2 x3_2).f0) ((rd_T78 l0_2 x3_2).f1) ((rd_T78 l0_2 x3_2).f2) ((rd_T78 l0_2 x3_2).f3) ((rd_T78 l0_2 x3_2).f4) ((rd_T80 ((rd_T78 l0_2 x3_2).f4) x5_5).f0) ((rd_T80 ((rd_T78 l0_2 x3_2).f4) x5_5).f1)) = some r := by rw [if_neg (show ¬ (false = true) by decide)] at H; exact H
                    clear H
                    have H := H1
                    clear H1
                    have H' := am_ H
                    clear H
                    have hnb92 := NB130_116.out
                    have hnc92 := NB116_130.out
                    have hnb93 := NB130_120.out
                    have hnc93 := NB120_130.out
                    obtain ⟨hcz94_0, hcz94_1, hfz94_0, hfz94_1⟩ := zc2 BK130
                    go_wp2_with (first | ((with_reducible refine gate_callee (f := 58) rfl ?_); refine zgl (some 119) Try.func58 #[.int .i64 ((rd_T80 ((rd_T78 l0_2 x3_2).f4) x5_5).f0), .int .i64 0, .int .i64 255] ?_; (with_reducible refine (spec_l01In.calls ((rd_T80 ((rd_T78 l0_2 x3_2).f4) x5_5).f0) 0 255 false _ A80.out).mono ?_); rintro e w' ⟨rfl, ⟨nd, rfl⟩⟩; refine ⟨_, rfl, ?_⟩))
                    go_meet
                    case rel => exact ⟨_, (true), (by first | rfl | (simp; done) | (simp [*]; done)), H', ⟨by have := HJ1.out; have := HK2.out; have := HJ15.out; have := HJ60.out; have := HK5.out; first | omega | exact Nat.le_refl _⟩, ⟨zq BK116⟩, ⟨zq BK120⟩, ⟨zq BK130⟩, ⟨zl_ HB⟩⟩
                  case rest =>
                   revert u105 u106 u107 u108 u109 u110 u111 u112 u113 u114 u115 u116 u117 u118 u119 u120 u121 u122 u123 u124 u125 u126 u127 u128 u129 u130 u131 u132 u133 u134 u135 u136 u137 u138 u139 u140 u141 u142 u143 u144 u145 u146 u147
                   refine id ?_
                   intro u105 u106 u107 u108 u109 u110 u111 u112 u113 u114 u115 u116 u117 u118 u119 u120 u121 u122 u123 u124 u125 u126 u127 u128 u129 u130 u131 u132 u133 u134 u135 u136 u137 u138 u139 u140 u141 u142 u143 u144 u145 u146 u147 hcut
                   clear HC73
                   try clear c1
                   try clear p1
                   try clear q1
                   try clear hx1
                   try clear c2
                   try clear p2
                   try clear c5
                   try clear c6
                   try clear p6
                   try clear c7
                   try clear c8
                   try clear c9
                   try clear c11
                   try clear p12
                   try clear q12
                   try clear hx12
                   try clear c22
                   try clear c58
                   try clear c60
                   try clear c62
                   try clear c62b0
                   try clear c63
                   try clear c63b0
                   try clear c63b1
                   try clear c64
                   try clear p64
                   try clear c66
                   try clear c68
                   try clear c70
                   try clear c71
                   try clear c71b0
                   try clear c72
                   try clear c72b0
                   try clear c74
                   try clear c77
                   try clear c78
                   try clear c81
                   try clear c83
                   try clear c84
                   try clear c85
                   try clear c87
                   try clear c89
                   try clear c90
                   try clear c92
                   try clear c93
                   try clear hcz65_0
                   try clear hcz65_1
                   try clear hcz65_2
                   try clear hcz65_3
                   try clear hcz65_4
                   try clear hcz67_0
                   try clear hcz67_1
                   try clear hcz67_2
                   try clear hcz67_3
                   try clear hcz67_4
                   try clear hcz69_0
                   try clear hcz69_1
                   try clear hcz69_2
                   try clear hcz69_3
                   try clear hcz69_4
                   try clear hcz75_0
                   try clear hcz75_1
                   try clear hcz75_2
                   try clear hcz75_3
                   try clear hcz75_4
                   try clear hcz79_0
                   try clear hcz79_1
                   try clear hcz86_0
                   try clear hcz86_1
                   try clear hcz88_0
                   try clear hcz88_1
                   try clear hcz88_2
                   try clear hcz88_3
                   try clear hcz88_4
                   try clear hcz91_0
                   try clear hcz91_1
                   try clear hcz94_0
                   try clear hcz94_1
                   try clear hfz65_0
                   try clear hfz65_1
                   try clear hfz65_2
                   try clear hfz65_3
                   try clear hfz65_4
                   try clear hfz67_0
                   try clear hfz67_1
                   try clear hfz67_2
                   try clear hfz67_3
                   try clear hfz67_4
                   try clear hfz69_0
                   try clear hfz69_1
                   try clear hfz69_2
                   try clear hfz69_3
                   try clear hfz69_4
                   try clear hfz75_0
                   try clear hfz75_1
                   try clear hfz75_2
                   try clear hfz75_3
                   try clear hfz75_4
                   try clear hfz79_0
                   try clear hfz79_1
                   try clear hfz86_0
                   try clear hfz86_1
                   try clear hfz88_0
                   try clear hfz88_1
                   try clear hfz88_2
                   try clear hfz88_3
                   try clear hfz88_4
                   try clear hfz91_0
                   try clear hfz91_1
                   try clear hfz94_0
                   try clear hfz94_1
                   try clear hx129_0
                   try clear hx129_1
                   try clear p129
                   try clear p2
                   try clear p6
                   try clear p64
                   try clear q129
                   obtain ⟨kq, x133_72, rfl, HA, HJ72, BK116, BK120, BK130, HB⟩ := hcut
                   cases kq with
                   | zero => exact absurd HA.out (by simp [spec_TableOK.j5])
                   | succ kj72 =>
                    have H := HA.out
                    clear HA
                    simp only [spec_TableOK.j5] at H
                    by_cases c95 : x133_72 = true
                    ·subst c95
                     have H1 : (some false) = some r := by rw [if_pos rfl] at H; exact H
                     clear H
                     have H := H1
                     clear H1
                     obtain rfl := Option.some.inj H
                     go_wp2
                     go_ret
                     exact ⟨zt_, zl_ HB⟩
                    ·replace c95 := Bool.eq_false_iff.mpr c95
                     subst c95
                     have H1 : (spec_TableOK.l2 kj72 x3_2 x5_5 0 a0_0 a0_1 l0_2 l0_3 ((rd_T78 l0_2 x3_2).f0) ((rd_T78 l0_2 x3_2).f1) ((rd_T78 l0_2 x3_2).f2) ((rd_T78 l0_2 x3_2).f3) ((rd_T78 l0_2 x3_2).f4) ((rd_T80 ((rd_T78 l0_2 x3_2).f4) x5_5).f0) ((rd_T80 ((rd_T78 l0_2 x3_2).f4) x5_5).f1)) = some r := by rw [if_neg (show ¬ (false = true) by decide)] at H; exact H
                     clear H
                     have H := H1
                     clear H1
                     have H' := am_ H
                     clear H
                     go_wp2
                     go_loopg [7] kj72 (fun kq v7 w' => ∃ (x7_7 : Int), v7 = .int .i64 x7_7 ∧ Aside0 (spec_TableOK.l2 kq x3_2 x5_5 x7_7 a0_0 a0_1 l0_2 l0_3 ((rd_T78 l0_2 x3_2).f0) ((rd_T78 l0_2 x3_2).f1) ((rd_T78 l0_2 x3_2).f2) ((rd_T78 l0_2 x3_2).f3) ((rd_T78 l0_2 x3_2).f4) ((rd_T80 ((rd_T78 l0_2 x3_2).f4) x5_5).f0) ((rd_T80 ((rd_T78 l0_2 x3_2).f4) x5_5).f1) = some r) ∧ Aside0 (kq ≤ kj72) ∧ Aside0 (w'.heap[gb116]? = some (.cells #[.int .i64 a0_0, .int .i64 a0_1, (.slice (some ad119) l0_2.length c0_2), (.slice A0_3 l0_3.length c0_3)] 26 (0, 0))) ∧ Aside0 (w'.heap[gb120]? = some (.cells #[.string ((rd_T78 l0_2 x3_2).f0), .int .i64 ((rd_T78 l0_2 x3_2).f1), .int .i64 ((rd_T78 l0_2 x3_2).f2), .int .i64 ((rd_T78 l0_2 x3_2).f3), (.slice (some ad129) ((rd_T78 l0_2 x3_2).f4).length c119_4)] 78 (0, 0))) ∧ Aside0 (w'.heap[gb130]? = some (.cells #[.int .i64 ((rd_T80 ((rd_T78 l0_2 x3_2).f4) x5_5).f0), .int .i64 ((rd_T80 ((rd_T78 l0_2 x3_2).f4) x5_5).f1)] 80 (0, 0))) ∧ Aside0 (Below w.heap.size w w'))
                     case atStart => exact ⟨(0), (by first | rfl | (simp; done) | (simp [*]; done)), H', ⟨Nat.le_refl _⟩, ⟨by (with_reducible repeat (first | apply k1_ | apply k2_ | apply k3_)); exact BK116.out⟩, ⟨by (with_reducible repeat (first | apply k1_ | apply k2_ | apply k3_)); exact BK120.out⟩, ⟨by (with_reducible repeat (first | apply k1_ | apply k2_ | apply k3_)); exact BK130.out⟩, ⟨zl_ HB⟩⟩
                     case round =>
                      revert u2 u7 u134 u135 u136 u137 u138 u139 u140 u141 u142 u143 u144 u145 u146 u147
                      refine id ?_
                      intro u2 u7 u134 u135 u136 u137 u138 u139 u140 u141 u142 u143 u144 u145 u146 u147 hrel
                      clear H'
                      try clear c1
                      try clear p1
                      try clear q1
                      try clear hx1
                      try clear c2
                      try clear p2
                      try clear c5
                      try clear c6
                      try clear p6
                      try clear c7
                      try clear c8
                      try clear c9
                      try clear c11
                      try clear p12
                      try clear q12
                      try clear hx12
                      try clear c22
                      try clear c58
                      try clear c60
                      try clear c62
                      try clear c62b0
                      try clear c63
                      try clear c63b0
                      try clear c63b1
                      try clear c64
                      try clear p64
                      try clear c66
                      try clear c68
                      try clear c70
                      try clear c71
                      try clear c71b0
                      try clear c72
                      try clear c72b0
                      try clear c74
                      try clear c77
                      try clear c78
                      try clear c81
                      try clear c83
                      try clear c84
                      try clear c85
                      try clear c87
                      try clear c89
                      try clear c90
                      try clear c92
                      try clear c93
                      try clear c95
                      try clear hcz65_0
                      try clear hcz65_1
                      try clear hcz65_2
                      try clear hcz65_3
                      try clear hcz65_4
                      try clear hcz67_0
                      try clear hcz67_1
                      try clear hcz67_2
                      try clear hcz67_3
                      try clear hcz67_4
                      try clear hcz69_0
                      try clear hcz69_1
                      try clear hcz69_2
                      try clear hcz69_3
                      try clear hcz69_4
                      try clear hcz75_0
                      try clear hcz75_1
                      try clear hcz75_2
                      try clear hcz75_3
                      try clear hcz75_4
                      try clear hcz79_0
                      try clear hcz79_1
                      try clear hcz86_0
                      try clear hcz86_1
                      try clear hcz88_0
                      try clear hcz88_1
                      try clear hcz88_2
                      try clear hcz88_3
                      try clear hcz88_4
                      try clear hcz91_0
                      try clear hcz91_1
                      try clear hcz94_0
                      try clear hcz94_1
                      try clear hfz65_0
                      try clear hfz65_1
                      try clear hfz65_2
                      try clear hfz65_3
                      try clear hfz65_4
                      try clear hfz67_0
                      try clear hfz67_1
                      try clear hfz67_2
                      try clear hfz67_3
                      try clear hfz67_4
                      try clear hfz69_0
                      try clear hfz69_1
                      try clear hfz69_2
                      try clear hfz69_3
                      try clear hfz69_4
                      try clear hfz75_0
                      try clear hfz75_1
                      try clear hfz75_2
                      try clear hfz75_3
                      try clear hfz75_4
                      try clear hfz79_0
                      try clear hfz79_1
                      try clear hfz86_0
                      try clear hfz86_1
                      try clear hfz88_0
                      try clear hfz88_1
                      try clear hfz88_2
                      try clear hfz88_3
                      try clear hfz88_4
                      try clear hfz91_0
                      try clear hfz91_1
                      try clear hfz94_0
                      try clear hfz94_1
                      try clear hx129_0
                      try clear hx129_1
                      try clear p1
                      try clear p12
                      try clear p129
                      try clear p2
                      try clear p6
                      try clear p64
                      try clear q1
                      try clear q12
                      try clear q129
                      obtain ⟨x7_7, rfl, HA, HK7, BK116, BK120, BK130, HB⟩ := hrel
                      cases gk with
                      | zero => exact absurd HA.out (by simp [spec_TableOK.l2])
                      | succ k7 =>
                       have H := HA.out
                       clear HA
                       simp only [spec_TableOK.l2] at H
                       by_cases c96 : x7_7 < x5_5
                       ·rw [if_pos c96] at H
                        have c96b0 : decide (x7_7 < x5_5) = true := decide_eq_true c96
                        clear c96
                        by_cases c97 : 0 ≤ x7_7
                        ·rw [if_pos c97] at H
                         have c97b0 : decide (0 ≤ x7_7) = true := decide_eq_true c97
                         clear c97
                         by_cases c98 : x7_7 < (((rd_T78 l0_2 x3_2).f4).length : Int)
                         ·rw [if_pos c98] at H
                          have c98b0 : decide (x7_7 < (((rd_T78 l0_2 x3_2).f4).length : Int)) = true := decide_eq_true c98
                          clear c98
                          try go_wp2
                          replace BK116 := am_ (blk_drew BK116.out)
                          replace BK120 := am_ (blk_drew BK120.out)
                          replace BK130 := am_ (blk_drew BK130.out)
                          replace HB := am_ (below_drew1 HB.out)
                          have p133 : 0 ≤ (x7_7 : Int) := zo_
                          have q133 : x7_7 < (((rd_T78 l0_2 x3_2).f4).length : Int) := zo_
                          obtain ⟨ad133, e133, hx133_0, hx133_1⟩ := at_T80 HR119_4.out x7_7 p133 q133
                          have hw133_1 := hx133_1
                          have hw133_0 := hx133_0
                          obtain rfl : ad129 = ad133 := (by injection e133)
                          replace hx133_0 := zx_ HB hx133_0
                          replace hx133_1 := zx_ HB hx133_1
                          replace p133 := eq_true p133
                          replace q133 := eq_true q133
                          refine start_ (n := 9) (S := fun w' => w'.cell? ⟨gb120, 0, none⟩ = some (.string ((rd_T78 l0_2 x3_2).f0)) ∧ w'.cell? ⟨gb120, 1, none⟩ = some (.int .i64 ((rd_T78 l0_2 x3_2).f1)) ∧ w'.cell? ⟨gb120, 2, none⟩ = some (.int .i64 ((rd_T78 l0_2 x3_2).f2)) ∧ w'.cell? ⟨gb120, 3, none⟩ = some (.int .i64 ((rd_T78 l0_2 x3_2).f3)) ∧ w'.cell? ⟨gb120, 4, none⟩ = some (.slice (some ad129) ((rd_T78 l0_2 x3_2).f4).length c119_4) ∧ w'.cell? ⟨gb130, 0, none⟩ = some (.int .i64 ((rd_T80 ((rd_T78 l0_2 x3_2).f4) x5_5).f0)) ∧ w'.cell? ⟨gb130, 1, none⟩ = some (.int .i64 ((rd_T80 ((rd_T78 l0_2 x3_2).f4) x5_5).f1)) ∧ w'.cell? (ad129.add ((x7_7).toNat * 2)) = some (.int .i64 ((rd_T80 ((rd_T78 l0_2 x3_2).f4) x7_7).f0)) ∧ w'.cell? ⟨(ad129.add ((x7_7).toNat * 2)).block, (ad129.add ((x7_7).toNat * 2)).off + 1, none⟩ = some (.int .i64 ((rd_T80 ((rd_T78 l0_2 x3_2).f4) x7_7).f1))) (ds := []) #[false, false, false, false, false, false, false, false, false] (by kernel_rfl) rfl rfl ⟨(blk_cell BK120.out 0).trans rfl, (blk_cell BK120.out 1).trans rfl, (blk_cell BK120.out 2).trans rfl, (blk_cell BK120.out 3).trans rfl, (blk_cell BK120.out 4).trans rfl, (blk_cell BK130.out 0).trans rfl, (blk_cell BK130.out 1).trans rfl, (zx_ HB hw133_0), (zx_ HB hw133_1)⟩ (fun hHeld => ?_); refine with_tabW spec_TableOK.tab20 spec_TableOK.bits20 (fun HT_ HW_ => ?_)
                          generalize wr.drew = w100 at BK116 BK120 BK130 HB hx133_0 hx133_1 hHeld ⊢
                          by_cases c99 : ((rd_T80 ((rd_T78 l0_2 x3_2).f4) x7_7).f0) = ((rd_T80 ((rd_T78 l0_2 x3_2).f4) x5_5).f0)
                          ·rw [if_pos c99] at H
                           have c99b0 : (((rd_T80 ((rd_T78 l0_2 x3_2).f4) x7_7).f0) == ((rd_T80 ((rd_T78 l0_2 x3_2).f4) x5_5).f0)) = true := beq_iff_eq.mpr c99
                           have c99b1 : (((rd_T80 ((rd_T78 l0_2 x3_2).f4) x7_7).f0) != ((rd_T80 ((rd_T78 l0_2 x3_2).f4) x5_5).f0)) = false := bne_eq_false_iff_eq.mpr c99
                           clear c99
                           obtain rfl := Option.some.inj H
                           refine zpu 0 (N := some 139) HT_ ?_
                           refine zpu 2 (N := some 141) HT_ ?_
                           refine zpu 6 (N := some 145) HT_ ?_
                           refine ztk 1 (N := some 140) HT_ HW_ hHeld ?_
                           refine zpu 3 (N := some 142) HT_ ?_
                           refine zpu 4 (N := some 143) HT_ ?_
                           refine ztk 5 (N := some 144) HT_ HW_ hHeld ?_
                           refine ztk 7 (N := some 146) HT_ HW_ hHeld ?_
                           refine zpu 8 (N := some 147) HT_ ?_
                           refine done_ (done_of HT_.out (by kernel_rfl)) ?_
                           try go_wp2
                           go_ret
                           exact ⟨zt_, zl_ HB⟩
                          ·rw [if_neg c99] at H
                           have c99b0 : (((rd_T80 ((rd_T78 l0_2 x3_2).f4) x7_7).f0) == ((rd_T80 ((rd_T78 l0_2 x3_2).f4) x5_5).f0)) = false := beq_eq_false_iff_ne.mpr c99
                           have c99b1 : (((rd_T80 ((rd_T78 l0_2 x3_2).f4) x7_7).f0) != ((rd_T80 ((rd_T78 l0_2 x3_2).f4) x5_5).f0)) = true := bne_iff_ne.mpr c99
                           have H' := am_ H
                           clear H
                           refine zpu 0 (N := some 139) HT_ ?_
                           refine zpu 2 (N := some 141) HT_ ?_
                           refine zpu 6 (N := some 145) HT_ ?_
                           refine ztk 1 (N := some 140) HT_ HW_ hHeld ?_
                           refine zpu 3 (N := some 142) HT_ ?_
                           refine zpu 4 (N := some 143) HT_ ?_
                           refine ztk 5 (N := some 144) HT_ HW_ hHeld ?_
                           refine ztk 7 (N := some 146) HT_ HW_ hHeld ?_
                           refine zpu 8 (N := some 147) HT_ ?_
                           refine done_ (done_of HT_.out (by kernel_rfl)) ?_
                           try go_wp2
                           go_roundg k7
                           case measure => have := HJ1.out; have := HK2.out; have := HJ15.out; have := HJ60.out; have := HK5.out; have := HJ72.out; have := HK7.out; omega
                           case rel => exact ⟨(wrap64 (x7_7 + 1)), (by first | rfl | (simp; done) | (simp [*]; done)), H', ⟨by have := HJ1.out; have := HK2.out; have := HJ15.out; have := HJ60.out; have := HK5.out; have := HJ72.out; have := HK7.out; omega⟩, ⟨by (with_reducible repeat (first | apply k1_ | apply k2_ | apply k3_)); exact BK116.out⟩, ⟨by (with_reducible repeat (first | apply k1_ | apply k2_ | apply k3_)); exact BK120.out⟩, ⟨by (with_reducible repeat (first | apply k1_ | apply k2_ | apply k3_)); exact BK130.out⟩, ⟨zl_ HB⟩⟩
                         ·rw [if_neg c98] at H
                          exact absurd H (by simp)
                        ·rw [if_neg c97] at H
                         exact absurd H (by simp)
                       ·rw [if_neg c96] at H
                        have c96b0 : decide (x7_7 < x5_5) = false := decide_eq_false c96
                        clear c96
                        have H' := am_ H
                        clear H
                        go_wp2
                        go_roundg k7
                        case measure => have := HJ1.out; have := HK2.out; have := HJ15.out; have := HJ60.out; have := HK5.out; have := HJ72.out; have := HK7.out; omega
                        case rel => exact ⟨(wrap64 (x5_5 + 1)), (by first | rfl | (simp; done) | (simp [*]; done)), H', ⟨by have := HJ1.out; have := HK2.out; have := HJ15.out; have := HJ60.out; have := HK5.out; have := HJ72.out; have := HK7.out; omega⟩, ⟨by (with_reducible repeat (first | apply k1_ | apply k2_ | apply k3_)); exact BK116.out⟩, ⟨by (with_reducible repeat (first | apply k1_ | apply k2_ | apply k3_)); exact BK120.out⟩, ⟨zl_ HB⟩⟩
                 ·rw [if_neg c72] at H
                  exact absurd H (by simp)
                ·rw [if_neg c71] at H
                 have c71b0 : decide (x5_5 < (((rd_T78 l0_2 x3_2).f4).length : Int)) = false := decide_eq_false c71
                 clear c71
                 have H' := am_ H
                 clear H
                 have hnb102 := NB120_116.out
                 have hnc102 := NB116_120.out
                 obtain ⟨hcz103_0, hcz103_1, hcz103_2, hcz103_3, hcz103_4, hfz103_0, hfz103_1, hfz103_2, hfz103_3, hfz103_4⟩ := zc5 BK120
                 go_wp2
                 go_roundg k5
                 case measure => have := HJ1.out; have := HK2.out; have := HJ15.out; have := HJ60.out; have := HK5.out; omega
                 case rel => exact ⟨(wrap64 (x3_2 + 1)), (by first | rfl | (simp; done) | (simp [*]; done)), H', ⟨by have := HJ1.out; have := HK2.out; have := HJ15.out; have := HJ60.out; have := HK5.out; omega⟩, ⟨by (with_reducible repeat (first | apply k1_ | apply k2_ | apply k3_)); exact BK116.out⟩, ⟨zl_ HB⟩⟩
       ·rw [if_neg c15] at H
        exact absurd H (by simp)
      ·rw [if_neg c14] at H
       have c14b0 : decide (x3_2 < (l0_2.length : Int)) = false := decide_eq_false c14
       clear c14
       have H' := am_ H
       clear H
       obtain ⟨hcz104_0, hcz104_1, hcz104_2, hcz104_3, hfz104_0, hfz104_1, hfz104_2, hfz104_3⟩ := zc4 BK116
       go_wp2
       go_loopg [8] k2 (fun kq v8 w' => ∃ (x8_3 : Int), v8 = .int .i64 x8_3 ∧ Aside0 (spec_TableOK.l3 kq x8_3 a0_0 a0_1 l0_2 l0_3 = some r) ∧ Aside0 (kq ≤ k2) ∧ Aside0 (w'.heap[gb116]? = some (.cells #[.int .i64 a0_0, .int .i64 a0_1, (.slice A0_2 l0_2.length c0_2), (.slice A0_3 l0_3.length c0_3)] 26 (0, 0))) ∧ Aside0 (Below w.heap.size w w'))
       case atStart => exact ⟨(0), (by first | rfl | (simp; done) | (simp [*]; done)), H', ⟨Nat.le_refl _⟩, ⟨by (with_reducible repeat (first | apply k1_ | apply k2_ | apply k3_)); exact BK116.out⟩, ⟨zl_ HB⟩⟩
       case round =>
        revert u2 u8 u9 u148 u149 u150 u151 u152 u153 u154 u155 u156 u157 u158 u159 u160 u161 u162 u163 u164 u165 u166 u167 u168 u169 u170 u171 u172 u173 u174 u175 u176 u177 u178 u179 u180 u181 u182 u183 u184 u185 u186 u187 u188 u189 u190 u191
        refine id ?_
        intro u2 u8 u9 u148 u149 u150 u151 u152 u153 u154 u155 u156 u157 u158 u159 u160 u161 u162 u163 u164 u165 u166 u167 u168 u169 u170 u171 u172 u173 u174 u175 u176 u177 u178 u179 u180 u181 u182 u183 u184 u185 u186 u187 u188 u189 u190 u191 hrel
        clear H'
        try clear c1
        try clear p1
        try clear q1
        try clear hx1
        try clear c2
        try clear p2
        try clear c5
        try clear c6
        try clear p6
        try clear c7
        try clear c8
        try clear c9
        try clear c10
        try clear c11
        try clear p12
        try clear q12
        try clear hx12
        try clear p13
        try clear q13
        try clear hx13
        try clear c14
        try clear c14b0
        try clear c15
        try clear c22
        try clear c58
        try clear c60
        try clear c62
        try clear c62b0
        try clear c63
        try clear c63b0
        try clear c63b1
        try clear c64
        try clear p64
        try clear c66
        try clear c68
        try clear c70
        try clear c71
        try clear c71b0
        try clear c72
        try clear c72b0
        try clear c74
        try clear c77
        try clear c78
        try clear c81
        try clear c83
        try clear c84
        try clear c85
        try clear c87
        try clear c89
        try clear c90
        try clear c92
        try clear c93
        try clear c95
        try clear c96
        try clear c96b0
        try clear c97
        try clear c97b0
        try clear c98
        try clear c98b0
        try clear c99
        try clear c99b0
        try clear c99b1
        try clear c102
        try clear hcz103_0
        try clear hcz103_1
        try clear hcz103_2
        try clear hcz103_3
        try clear hcz103_4
        try clear hcz104_0
        try clear hcz104_1
        try clear hcz104_2
        try clear hcz104_3
        try clear hcz65_0
        try clear hcz65_1
        try clear hcz65_2
        try clear hcz65_3
        try clear hcz65_4
        try clear hcz67_0
        try clear hcz67_1
        try clear hcz67_2
        try clear hcz67_3
        try clear hcz67_4
        try clear hcz69_0
        try clear hcz69_1
        try clear hcz69_2
        try clear hcz69_3
        try clear hcz69_4
        try clear hcz75_0
        try clear hcz75_1
        try clear hcz75_2
        try clear hcz75_3
        try clear hcz75_4
        try clear hcz79_0
        try clear hcz79_1
        try clear hcz86_0
        try clear hcz86_1
        try clear hcz88_0
        try clear hcz88_1
        try clear hcz88_2
        try clear hcz88_3
        try clear hcz88_4
        try clear hcz91_0
        try clear hcz91_1
        try clear hcz94_0
        try clear hcz94_1
        try clear hfz103_0
        try clear hfz103_1
        try clear hfz103_2
        try clear hfz103_3
        try clear hfz103_4
        try clear hfz104_0
        try clear hfz104_1
        try clear hfz104_2
        try clear hfz104_3
        try clear hfz65_0
        try clear hfz65_1
        try clear hfz65_2
        try clear hfz65_3
        try clear hfz65_4
        try clear hfz67_0
        try clear hfz67_1
        try clear hfz67_2
        try clear hfz67_3
        try clear hfz67_4
        try clear hfz69_0
        try clear hfz69_1
        try clear hfz69_2
        try clear hfz69_3
        try clear hfz69_4
        try clear hfz75_0
        try clear hfz75_1
        try clear hfz75_2
        try clear hfz75_3
        try clear hfz75_4
        try clear hfz79_0
        try clear hfz79_1
        try clear hfz86_0
        try clear hfz86_1
        try clear hfz88_0
        try clear hfz88_1
        try clear hfz88_2
        try clear hfz88_3
        try clear hfz88_4
        try clear hfz91_0
        try clear hfz91_1
        try clear hfz94_0
        try clear hfz94_1
        try clear hx129_0
        try clear hx129_1
        try clear hx133_0
        try clear hx133_1
        try clear p1
        try clear p12
        try clear p129
        try clear p133
        try clear p2
        try clear p6
        try clear p64
        try clear q1
        try clear q12
        try clear q129
        try clear q133
        obtain ⟨x8_3, rfl, HA, HK3, BK116, HB⟩ := hrel
        cases gk with
        | zero => exact absurd HA.out (by simp [spec_TableOK.l3])
        | succ k3 =>
         have H := HA.out
         clear HA
         simp only [spec_TableOK.l3] at H
         by_cases c105 : x8_3 < (l0_3.length : Int)
         ·rw [if_pos c105] at H
          have c105b0 : decide (x8_3 < (l0_3.length : Int)) = true := decide_eq_true c105
          clear c105
          by_cases c106 : 0 ≤ x8_3
          ·rw [if_pos c106] at H
           have c106b0 : decide (0 ≤ x8_3) = true := decide_eq_true c106
           clear c106
           replace H := Option.bind_eq_some_iff.mp H
           obtain ⟨t136, A1070, H⟩ := H
           replace H : (if t136 = true then ((spec_l01In.f ((rd_T84 l0_3 x8_3).f1) 1 65535).bind fun t137 => (if t137 = true then ((spec_l05Answer.f ((rd_T84 l0_3 x8_3).f2.f0) ((rd_T84 l0_3 x8_3).f2.f1) ((rd_T84 l0_3 x8_3).f2.f2) ((rd_T84 l0_3 x8_3).f2.f3)).bind fun t138 => (if t138 = true then (if x8_3 > 0 then (if 0 ≤ (wrap64 (x8_3 - 1)) then (if (wrap64 (x8_3 - 1)) < (l0_3.length : Int) then (if ((rd_T84 l0_3 (wrap64 (x8_3 - 1))).f0) ≥ ((rd_T84 l0_3 x8_3).f0) then (some false) else (spec_TableOK.l3 k3 (wrap64 (x8_3 + 1)) a0_0 a0_1 l0_2 l0_3)) else (none)) else (none)) else (spec_TableOK.l3 k3 (wrap64 (x8_3 + 1)) a0_0 a0_1 l0_2 l0_3)) else (some false))) else (some false))) else (some false)) = some r := H
           have A107 := am_ A1070
           clear A1070
           obtain ⟨hcz118_0, hcz118_1, hcz118_2, hcz118_3, hfz118_0, hfz118_1, hfz118_2, hfz118_3⟩ := zc4 BK116
           have p134 : 0 ≤ (x8_3 : Int) := zo_
           have q134 : x8_3 < (l0_3.length : Int) := zo_
           obtain ⟨ad134, e134, hx134_0, hx134_1, hx134_2, hx134_3, hx134_4, hx134_5⟩ := at_T84 HR0_3.out x8_3 p134 q134
           cases e134
           replace hx134_0 := zx_ HB hx134_0
           replace hx134_1 := zx_ HB hx134_1
           replace hx134_2 := zx_ HB hx134_2
           replace hx134_3 := zx_ HB hx134_3
           replace hx134_4 := zx_ HB hx134_4
           replace hx134_5 := zx_ HB hx134_5
           replace p134 := eq_true p134
           replace q134 := eq_true q134
           try go_wp2_with (first | ((with_reducible refine gate_dst (N := 9) rfl ?_); (try (refine gate_guard (by rfl) ?_; dsimp only)); refine zbx (N := 9) (cs := #[.int .i64 0, .int .i64 0, .int .i64 0, .int .i64 0, .int .i64 0, .int .i64 0]) (t := 84) ?_; intro gb135 hg w119 hbox hb; have BK135 := am_ (hbox); have GW135 := zw_ HB hg; have GE135 := zw_ HB hg; replace HB := zs_ HB hb; have NB116_135 := zl hg BK116; have NB135_116 := zg hg BK116; replace BK116 := zb BK116 hb; clear hb hbox hg; have hnb120 := NB135_116.out; have hnc120 := NB116_135.out; obtain ⟨hcz121_0, hcz121_1, hcz121_2, hcz121_3, hcz121_4, hcz121_5, hfz121_0, hfz121_1, hfz121_2, hfz121_3, hfz121_4, hfz121_5⟩ := zc6 BK135))
           have n0_ : Aside0 (((((((w119.setCell ⟨gb135, 0, none⟩ (.int .i64 ((rd_T84 l0_3 x8_3).f0))).setCell ⟨gb135, 1, none⟩ (.int .i64 ((rd_T84 l0_3 x8_3).f1))).setCell ⟨gb135, 2, none⟩ (.int .i64 ((rd_T84 l0_3 x8_3).f2.f0))).setCell ⟨gb135, 3, none⟩ (.int .i64 ((rd_T84 l0_3 x8_3).f2.f1))).setCell ⟨gb135, 4, none⟩ (.int .i64 ((rd_T84 l0_3 x8_3).f2.f2))).setCell ⟨gb135, 5, none⟩ (.int .i64 ((rd_T84 l0_3 x8_3).f2.f3))).heap[gb116]? = some (.cells #[.int .i64 a0_0, .int .i64 a0_1, .slice A0_2 l0_2.length c0_2, .slice (some ad134) l0_3.length c0_3] 26 (0, 0))) := ⟨zq BK116⟩
           have n1_ : Aside0 (((((((w119.setCell ⟨gb135, 0, none⟩ (.int .i64 ((rd_T84 l0_3 x8_3).f0))).setCell ⟨gb135, 1, none⟩ (.int .i64 ((rd_T84 l0_3 x8_3).f1))).setCell ⟨gb135, 2, none⟩ (.int .i64 ((rd_T84 l0_3 x8_3).f2.f0))).setCell ⟨gb135, 3, none⟩ (.int .i64 ((rd_T84 l0_3 x8_3).f2.f1))).setCell ⟨gb135, 4, none⟩ (.int .i64 ((rd_T84 l0_3 x8_3).f2.f2))).setCell ⟨gb135, 5, none⟩ (.int .i64 ((rd_T84 l0_3 x8_3).f2.f3))).heap[gb135]? = some (.cells #[.int .i64 ((rd_T84 l0_3 x8_3).f0), .int .i64 ((rd_T84 l0_3 x8_3).f1), .int .i64 ((rd_T84 l0_3 x8_3).f2.f0), .int .i64 ((rd_T84 l0_3 x8_3).f2.f1), .int .i64 ((rd_T84 l0_3 x8_3).f2.f2), .int .i64 ((rd_T84 l0_3 x8_3).f2.f3)] 84 (0, 0))) := ⟨zq BK135⟩
           have n2_ : Aside0 (Below w.heap.size w ((((((w119.setCell ⟨gb135, 0, none⟩ (.int .i64 ((rd_T84 l0_3 x8_3).f0))).setCell ⟨gb135, 1, none⟩ (.int .i64 ((rd_T84 l0_3 x8_3).f1))).setCell ⟨gb135, 2, none⟩ (.int .i64 ((rd_T84 l0_3 x8_3).f2.f0))).setCell ⟨gb135, 3, none⟩ (.int .i64 ((rd_T84 l0_3 x8_3).f2.f1))).setCell ⟨gb135, 4, none⟩ (.int .i64 ((rd_T84 l0_3 x8_3).f2.f2))).setCell ⟨gb135, 5, none⟩ (.int .i64 ((rd_T84 l0_3 x8_3).f2.f3)))) := ⟨zl_ HB⟩
           (try clear BK116)
           (try clear BK135)
           (try clear HB)
           generalize ((((((w119.setCell ⟨gb135, 0, none⟩ (.int .i64 ((rd_T84 l0_3 x8_3).f0))).setCell ⟨gb135, 1, none⟩ (.int .i64 ((rd_T84 l0_3 x8_3).f1))).setCell ⟨gb135, 2, none⟩ (.int .i64 ((rd_T84 l0_3 x8_3).f2.f0))).setCell ⟨gb135, 3, none⟩ (.int .i64 ((rd_T84 l0_3 x8_3).f2.f1))).setCell ⟨gb135, 4, none⟩ (.int .i64 ((rd_T84 l0_3 x8_3).f2.f2))).setCell ⟨gb135, 5, none⟩ (.int .i64 ((rd_T84 l0_3 x8_3).f2.f3))) = w122 at n0_ n1_ n2_ ⊢
           have BK116 := n0_
           have BK135 := n1_
           have HB := n2_
           clear n0_ n1_ n2_
           replace BK116 := am_ (blk_drew BK116.out)
           replace BK135 := am_ (blk_drew BK135.out)
           replace HB := am_ (below_drew1 HB.out)
           by_cases c108 : t136 = true
           ·subst c108
            have H1 : ((spec_l01In.f ((rd_T84 l0_3 x8_3).f1) 1 65535).bind fun t137 => (if t137 = true then ((spec_l05Answer.f ((rd_T84 l0_3 x8_3).f2.f0) ((rd_T84 l0_3 x8_3).f2.f1) ((rd_T84 l0_3 x8_3).f2.f2) ((rd_T84 l0_3 x8_3).f2.f3)).bind fun t138 => (if t138 = true then (if x8_3 > 0 then (if 0 ≤ (wrap64 (x8_3 - 1)) then (if (wrap64 (x8_3 - 1)) < (l0_3.length : Int) then (if ((rd_T84 l0_3 (wrap64 (x8_3 - 1))).f0) ≥ ((rd_T84 l0_3 x8_3).f0) then (some false) else (spec_TableOK.l3 k3 (wrap64 (x8_3 + 1)) a0_0 a0_1 l0_2 l0_3)) else (none)) else (none)) else (spec_TableOK.l3 k3 (wrap64 (x8_3 + 1)) a0_0 a0_1 l0_2 l0_3)) else (some false))) else (some false))) = some r := by rw [if_pos rfl] at H; exact H
            clear H
            have H := H1
            clear H1
            replace H := Option.bind_eq_some_iff.mp H
            obtain ⟨t137, A1090, H⟩ := H
            replace H : (if t137 = true then ((spec_l05Answer.f ((rd_T84 l0_3 x8_3).f2.f0) ((rd_T84 l0_3 x8_3).f2.f1) ((rd_T84 l0_3 x8_3).f2.f2) ((rd_T84 l0_3 x8_3).f2.f3)).bind fun t138 => (if t138 = true then (if x8_3 > 0 then (if 0 ≤ (wrap64 (x8_3 - 1)) then (if (wrap64 (x8_3 - 1)) < (l0_3.length : Int) then (if ((rd_T84 l0_3 (wrap64 (x8_3 - 1))).f0) ≥ ((rd_T84 l0_3 x8_3).f0) then (some false) else (spec_TableOK.l3 k3 (wrap64 (x8_3 + 1)) a0_0 a0_1 l0_2 l0_3)) else (none)) else (none)) else (spec_TableOK.l3 k3 (wrap64 (x8_3 + 1)) a0_0 a0_1 l0_2 l0_3)) else (some false))) else (some false)) = some r := H
            have A109 := am_ A1090
            clear A1090
            by_cases c110 : t137 = true
            ·subst c110
             have H1 : ((spec_l05Answer.f ((rd_T84 l0_3 x8_3).f2.f0) ((rd_T84 l0_3 x8_3).f2.f1) ((rd_T84 l0_3 x8_3).f2.f2) ((rd_T84 l0_3 x8_3).f2.f3)).bind fun t138 => (if t138 = true then (if x8_3 > 0 then (if 0 ≤ (wrap64 (x8_3 - 1)) then (if (wrap64 (x8_3 - 1)) < (l0_3.length : Int) then (if ((rd_T84 l0_3 (wrap64 (x8_3 - 1))).f0) ≥ ((rd_T84 l0_3 x8_3).f0) then (some false) else (spec_TableOK.l3 k3 (wrap64 (x8_3 + 1)) a0_0 a0_1 l0_2 l0_3)) else (none)) else (none)) else (spec_TableOK.l3 k3 (wrap64 (x8_3 + 1)) a0_0 a0_1 l0_2 l0_3)) else (some false))) = some r := by rw [if_pos rfl] at H; exact H
             clear H
             have H := H1
             clear H1
             replace H := Option.bind_eq_some_iff.mp H
             obtain ⟨t138, A1110, H⟩ := H
             replace H : (if t138 = true then (if x8_3 > 0 then (if 0 ≤ (wrap64 (x8_3 - 1)) then (if (wrap64 (x8_3 - 1)) < (l0_3.length : Int) then (if ((rd_T84 l0_3 (wrap64 (x8_3 - 1))).f0) ≥ ((rd_T84 l0_3 x8_3).f0) then (some false) else (spec_TableOK.l3 k3 (wrap64 (x8_3 + 1)) a0_0 a0_1 l0_2 l0_3)) else (none)) else (none)) else (spec_TableOK.l3 k3 (wrap64 (x8_3 + 1)) a0_0 a0_1 l0_2 l0_3)) else (some false)) = some r := H
             have A111 := am_ A1110
             clear A1110
             by_cases c112 : t138 = true
             ·subst c112
              have H1 : (if x8_3 > 0 then (if 0 ≤ (wrap64 (x8_3 - 1)) then (if (wrap64 (x8_3 - 1)) < (l0_3.length : Int) then (if ((rd_T84 l0_3 (wrap64 (x8_3 - 1))).f0) ≥ ((rd_T84 l0_3 x8_3).f0) then (some false) else (spec_TableOK.l3 k3 (wrap64 (x8_3 + 1)) a0_0 a0_1 l0_2 l0_3)) else (none)) else (none)) else (spec_TableOK.l3 k3 (wrap64 (x8_3 + 1)) a0_0 a0_1 l0_2 l0_3)) = some r := by rw [if_pos rfl] at H; exact H
              clear H
              have H := H1
              clear H1
              by_cases c113 : x8_3 > 0
              ·rw [if_pos c113] at H
               have c113b0 : decide (0 < x8_3) = true := decide_eq_true c113
               clear c113
               obtain ⟨ji114, hji114⟩ : ∃ j_ : Int, (wrap64 (x8_3 - 1)) = j_ := ⟨_, rfl⟩
               replace H : (if 0 ≤ (ji114) then (if (ji114) < (l0_3.length : Int) then (if ((rd_T84 l0_3 (ji114)).f0) ≥ ((rd_T84 l0_3 x8_3).f0) then (some false) else (spec_TableOK.l3 k3 (wrap64 (x8_3 + 1)) a0_0 a0_1 l0_2 l0_3)) else (none)) else (none)) = some r := by first | (rw [hji114] at H; exact H) | (simp only [hji114] at H ⊢; exact H)
               (try rw [hji114] at A107)
               (try rw [hji114] at A109)
               (try rw [hji114] at A111)
               have hji114w : (IntKind.i64.wrap (x8_3 - 1)) = ji114 := (i64_w _).trans hji114
               by_cases c115 : 0 ≤ (ji114)
               ·rw [if_pos c115] at H
                have c115b0 : decide (0 ≤ (ji114)) = true := decide_eq_true c115
                clear c115
                by_cases c116 : (ji114) < (l0_3.length : Int)
                ·rw [if_pos c116] at H
                 have c116b0 : decide ((ji114) < (l0_3.length : Int)) = true := decide_eq_true c116
                 clear c116
                 have p139 : 0 ≤ ((ji114) : Int) := zo_
                 have q139 : (ji114) < (l0_3.length : Int) := zo_
                 obtain ⟨ad139, e139, hx139_0, hx139_1, hx139_2, hx139_3, hx139_4, hx139_5⟩ := at_T84 HR0_3.out (ji114) p139 q139
                 have hw139_5 := hx139_5
                 have hw139_4 := hx139_4
                 have hw139_3 := hx139_3
                 have hw139_2 := hx139_2
                 have hw139_1 := hx139_1
                 have hw139_0 := hx139_0
                 obtain rfl : ad134 = ad139 := (by injection e139)
                 replace hx139_0 := zx_ HB hx139_0
                 replace hx139_1 := zx_ HB hx139_1
                 replace hx139_2 := zx_ HB hx139_2
                 replace hx139_3 := zx_ HB hx139_3
                 replace hx139_4 := zx_ HB hx139_4
                 replace hx139_5 := zx_ HB hx139_5
                 replace p139 := eq_true p139
                 replace q139 := eq_true q139
                 refine start_ (n := 32) (S := fun w' => w'.cell? ⟨gb135, 0, none⟩ = some (.int .i64 ((rd_T84 l0_3 x8_3).f0)) ∧ w'.cell? ⟨gb135, 1, none⟩ = some (.int .i64 ((rd_T84 l0_3 x8_3).f1)) ∧ w'.cell? ⟨gb135, 2, none⟩ = some (.int .i64 ((rd_T84 l0_3 x8_3).f2.f0)) ∧ w'.cell? ⟨gb135, 3, none⟩ = some (.int .i64 ((rd_T84 l0_3 x8_3).f2.f1)) ∧ w'.cell? ⟨gb135, 4, none⟩ = some (.int .i64 ((rd_T84 l0_3 x8_3).f2.f2)) ∧ w'.cell? ⟨gb135, 5, none⟩ = some (.int .i64 ((rd_T84 l0_3 x8_3).f2.f3)) ∧ w'.cell? ⟨gb116, 0, none⟩ = some (.int .i64 a0_0) ∧ w'.cell? ⟨gb116, 1, none⟩ = some (.int .i64 a0_1) ∧ w'.cell? ⟨gb116, 2, none⟩ = some (.slice A0_2 l0_2.length c0_2) ∧ w'.cell? ⟨gb116, 3, none⟩ = some (.slice (some ad134) l0_3.length c0_3) ∧ w'.cell? (ad134.add (((ji114)).toNat * 6)) = some (.int .i64 ((rd_T84 l0_3 (ji114)).f0)) ∧ w'.cell? ⟨(ad134.add (((ji114)).toNat * 6)).block, (ad134.add (((ji114)).toNat * 6)).off + 1, none⟩ = some (.int .i64 ((rd_T84 l0_3 (ji114)).f1)) ∧ w'.cell? ⟨(ad134.add (((ji114)).toNat * 6)).block, (ad134.add (((ji114)).toNat * 6)).off + 2, none⟩ = some (.int .i64 ((rd_T84 l0_3 (ji114)).f2.f0)) ∧ w'.cell? ⟨(ad134.add (((ji114)).toNat * 6)).block, (ad134.add (((ji114)).toNat * 6)).off + 3, none⟩ = some (.int .i64 ((rd_T84 l0_3 (ji114)).f2.f1)) ∧ w'.cell? ⟨(ad134.add (((ji114)).toNat * 6)).block, (ad134.add (((ji114)).toNat * 6)).off + 4, none⟩ = some (.int .i64 ((rd_T84 l0_3 (ji114)).f2.f2)) ∧ w'.cell? ⟨(ad134.add (((ji114)).toNat * 6)).block, (ad134.add (((ji114)).toNat * 6)).off + 5, none⟩ = some (.int .i64 ((rd_T84 l0_3 (ji114)).f2.f3))) (ds := []) #[false, false, false, false, false, false, false, false, false, false, false, false, false, false, false, false, false, false, false, false, false, false, false, false, false, false, false, false, false, false, false, false] (by kernel_rfl) rfl rfl ⟨(blk_cell BK135.out 0).trans rfl, (blk_cell BK135.out 1).trans rfl, (blk_cell BK135.out 2).trans rfl, (blk_cell BK135.out 3).trans rfl, (blk_cell BK135.out 4).trans rfl, (blk_cell BK135.out 5).trans rfl, (blk_cell BK116.out 0).trans rfl, (blk_cell BK116.out 1).trans rfl, (blk_cell BK116.out 2).trans rfl, (blk_cell BK116.out 3).trans rfl, (zx_ HB hw139_0), (zx_ HB hw139_1), (zx_ HB hw139_2), (zx_ HB hw139_3), (zx_ HB hw139_4), (zx_ HB hw139_5)⟩ (fun hHeld => ?_); refine with_tabW spec_TableOK.tab26 spec_TableOK.bits26 (fun HT_ HW_ => ?_)
                 generalize w122.drew = w123 at BK116 BK135 HB hx139_0 hx139_1 hx139_2 hx139_3 hx139_4 hx139_5 hHeld ⊢
                 refine zpu 0 (N := some 160) HT_ ?_
                 refine ztk 1 (N := some 161) HT_ HW_ hHeld ?_
                 refine zon 2 (N := some 162) HT_ (fun K hK => ?_)
                 refine zgo Try.func58 #[.int .i64 ((rd_T84 l0_3 x8_3).f0), .int .i64 0, .int .i64 255] ?_
                 with_reducible refine (spec_l01In.calls ((rd_T84 l0_3 x8_3).f0) 0 255 true _ A107.out).mono ?_
                 rintro e w' ⟨rfl, ⟨nd, rfl⟩⟩
                 refine ⟨_, rfl, ?_⟩
                 refine hK.out _ _ ⟨(blk_cell BK135.out 0).trans rfl, (blk_cell BK135.out 1).trans rfl, (blk_cell BK135.out 2).trans rfl, (blk_cell BK135.out 3).trans rfl, (blk_cell BK135.out 4).trans rfl, (blk_cell BK135.out 5).trans rfl, (blk_cell BK116.out 0).trans rfl, (blk_cell BK116.out 1).trans rfl, (blk_cell BK116.out 2).trans rfl, (blk_cell BK116.out 3).trans rfl, (zx_ ⟨pw_below_drewN HB.out nd⟩ hw139_0), (zx_ ⟨pw_below_drewN HB.out nd⟩ hw139_1), (zx_ ⟨pw_below_drewN HB.out nd⟩ hw139_2), (zx_ ⟨pw_below_drewN HB.out nd⟩ hw139_3), (zx_ ⟨pw_below_drewN HB.out nd⟩ hw139_4), (zx_ ⟨pw_below_drewN HB.out nd⟩ hw139_5)⟩ (fun hHeld => ?_)
                 clear hK K
                 refine norm_ (a' := ?_) ?_ ?_
                 rotate_left
                 ·show Act.put _ (some 162) _ = _
                  simp only [Act.put, p1_, p2_, p3_, i64_w, i32_w]
                  rfl
                 refine zpu 3 (N := some 163) HT_ ?_
                 refine zpu 4 (N := some 164) HT_ ?_
                 refine zpu 5 (N := some 165) HT_ ?_
                 refine ztk 6 (N := some 166) HT_ HW_ hHeld ?_
                 refine zon 7 (N := some 167) HT_ (fun K hK => ?_)
                 refine zgo Try.func58 #[.int .i64 ((rd_T84 l0_3 x8_3).f1), .int .i64 1, .int .i64 65535] ?_
                 with_reducible refine (spec_l01In.calls ((rd_T84 l0_3 x8_3).f1) 1 65535 true _ A109.out).mono ?_
                 rintro e w' ⟨rfl, ⟨nd, rfl⟩⟩
                 refine ⟨_, rfl, ?_⟩
                 refine hK.out _ _ ⟨(blk_cell BK135.out 0).trans rfl, (blk_cell BK135.out 1).trans rfl, (blk_cell BK135.out 2).trans rfl, (blk_cell BK135.out 3).trans rfl, (blk_cell BK135.out 4).trans rfl, (blk_cell BK135.out 5).trans rfl, (blk_cell BK116.out 0).trans rfl, (blk_cell BK116.out 1).trans rfl, (blk_cell BK116.out 2).trans rfl, (blk_cell BK116.out 3).trans rfl, (zx_ ⟨pw_below_drewN (pw_below_drewN HB.out _) nd⟩ hw139_0), (zx_ ⟨pw_below_drewN (pw_below_drewN HB.out _) nd⟩ hw139_1), (zx_ ⟨pw_below_drewN (pw_below_drewN HB.out _) nd⟩ hw139_2), (zx_ ⟨pw_below_drewN (pw_below_drewN HB.out _) nd⟩ hw139_3), (zx_ ⟨pw_below_drewN (pw_below_drewN HB.out _) nd⟩ hw139_4), (zx_ ⟨pw_below_drewN (pw_below_drewN HB.out _) nd⟩ hw139_5)⟩ (fun hHeld => ?_)
                 clear hK K
                 refine norm_ (a' := ?_) ?_ ?_
                 rotate_left
                 ·show Act.put _ (some 167) _ = _
                  simp only [Act.put, p1_, p2_, p3_, i64_w, i32_w]
                  rfl
                 refine zpu 8 (N := some 168) HT_ ?_
                 refine zpu 9 (N := some 169) HT_ ?_
                 refine zpu 10 (N := some 170) HT_ ?_
                 refine zpu 11 (N := some 171) HT_ ?_
                 refine ztk 12 (N := some 172) HT_ HW_ hHeld ?_
                 refine zon 13 (N := some 173) HT_ (fun K hK => ?_)
                 refine zgo Try.func75 #[.agg #[.int .i64 ((rd_T84 l0_3 x8_3).f2.f0), .int .i64 ((rd_T84 l0_3 x8_3).f2.f1), .int .i64 ((rd_T84 l0_3 x8_3).f2.f2), .int .i64 ((rd_T84 l0_3 x8_3).f2.f3)]] ?_
                 with_reducible refine (spec_l05Answer.calls ((rd_T84 l0_3 x8_3).f2.f0) ((rd_T84 l0_3 x8_3).f2.f1) ((rd_T84 l0_3 x8_3).f2.f2) ((rd_T84 l0_3 x8_3).f2.f3) true _ A111.out).mono ?_
                 rintro e w124 ⟨rfl, hb⟩
                 refine ⟨_, rfl, ?_⟩
                 replace BK116 := zb BK116 hb
                 replace BK135 := zb BK135 hb
                 replace HB := zs_ HB hb
                 (try clear hb)
                 (try clear hb2)
                 (try clear hk)
                 (try clear hi)
                 refine hK.out _ _ ⟨(blk_cell BK135.out 0).trans rfl, (blk_cell BK135.out 1).trans rfl, (blk_cell BK135.out 2).trans rfl, (blk_cell BK135.out 3).trans rfl, (blk_cell BK135.out 4).trans rfl, (blk_cell BK135.out 5).trans rfl, (blk_cell BK116.out 0).trans rfl, (blk_cell BK116.out 1).trans rfl, (blk_cell BK116.out 2).trans rfl, (blk_cell BK116.out 3).trans rfl, (zx_ HB hw139_0), (zx_ HB hw139_1), (zx_ HB hw139_2), (zx_ HB hw139_3), (zx_ HB hw139_4), (zx_ HB hw139_5)⟩ (fun hHeld => ?_)
                 clear hK K
                 refine norm_ (a' := ?_) ?_ ?_
                 rotate_left
                 ·show Act.put _ (some 173) _ = _
                  simp only [Act.put, p1_, p2_, p3_, i64_w, i32_w]
                  rfl
                 by_cases c117 : ((rd_T84 l0_3 (ji114)).f0) ≥ ((rd_T84 l0_3 x8_3).f0)
                 ·rw [if_pos c117] at H
                  have c117b0 : decide (((rd_T84 l0_3 x8_3).f0) ≤ ((rd_T84 l0_3 (ji114)).f0)) = true := decide_eq_true c117
                  clear c117
                  obtain rfl := Option.some.inj H
                  refine zpu 14 (N := some 174) HT_ ?_
                  refine zpu 15 (N := some 175) HT_ ?_
                  refine zpu 16 (N := some 176) HT_ ?_
                  refine zpu 17 (N := some 177) HT_ ?_
                  refine zpu 18 (N := some 178) HT_ ?_
                  refine zpu 19 (N := some 179) HT_ ?_
                  refine zpu 20 (N := some 180) HT_ ?_
                  refine zpu 22 (N := some 182) HT_ ?_
                  refine zpu 23 (N := some 183) HT_ ?_
                  refine zpu 27 (N := some 187) HT_ ?_
                  refine ztk 21 (N := some 181) HT_ HW_ hHeld ?_
                  refine zpu 24 (N := some 184) HT_ ?_
                  refine zpu 25 (N := some 185) HT_ ?_
                  refine ztk 26 (N := some 186) HT_ HW_ hHeld ?_
                  refine ztk 28 (N := some 188) HT_ HW_ hHeld ?_
                  refine zpu 29 (N := some 189) HT_ ?_
                  refine zpu 30 (N := some 190) HT_ ?_
                  refine zpu 31 (N := some 191) HT_ ?_
                  refine done_ (done_of HT_.out (by kernel_rfl)) ?_
                  try go_wp2
                  go_ret
                  exact ⟨by first | rfl | (simp [e1_, e2_] <;> rfl) | (simp only [← hji114]; first | rfl | (simp [e1_, e2_] <;> rfl)) | (simp [*, e1_, e2_] <;> rfl) | (simp [e3_, e4_]; done) | (simp [*, e3_, e4_]; done), zl_ HB⟩
                 ·rw [if_neg c117] at H
                  have c117b0 : decide (((rd_T84 l0_3 x8_3).f0) ≤ ((rd_T84 l0_3 (ji114)).f0)) = false := decide_eq_false c117
                  clear c117
                  have H' := am_ H
                  clear H
                  refine zpu 14 (N := some 174) HT_ ?_
                  refine zpu 15 (N := some 175) HT_ ?_
                  refine zpu 16 (N := some 176) HT_ ?_
                  refine zpu 17 (N := some 177) HT_ ?_
                  refine zpu 18 (N := some 178) HT_ ?_
                  refine zpu 19 (N := some 179) HT_ ?_
                  refine zpu 20 (N := some 180) HT_ ?_
                  refine zpu 22 (N := some 182) HT_ ?_
                  refine zpu 23 (N := some 183) HT_ ?_
                  refine zpu 27 (N := some 187) HT_ ?_
                  refine ztk 21 (N := some 181) HT_ HW_ hHeld ?_
                  refine zpu 24 (N := some 184) HT_ ?_
                  refine zpu 25 (N := some 185) HT_ ?_
                  refine ztk 26 (N := some 186) HT_ HW_ hHeld ?_
                  refine ztk 28 (N := some 188) HT_ HW_ hHeld ?_
                  refine zpu 29 (N := some 189) HT_ ?_
                  refine zpu 30 (N := some 190) HT_ ?_
                  refine zpu 31 (N := some 191) HT_ ?_
                  refine done_ (done_of HT_.out (by kernel_rfl)) ?_
                  try go_wp2
                  go_roundg k3
                  case measure => have := HJ1.out; have := HK2.out; have := HK3.out; omega
                  case rel => exact ⟨(wrap64 (x8_3 + 1)), (by first | rfl | (simp; done) | (simp [*]; done)), H', ⟨by have := HJ1.out; have := HK2.out; have := HK3.out; omega⟩, ⟨by (with_reducible repeat (first | apply k1_ | apply k2_ | apply k3_)); exact BK116.out⟩, ⟨zl_ HB⟩⟩
                ·rw [if_neg c116] at H
                 exact absurd H (by simp)
               ·rw [if_neg c115] at H
                exact absurd H (by simp)
              ·rw [if_neg c113] at H
               have c113b0 : decide (0 < x8_3) = false := decide_eq_false c113
               clear c113
               have H' := am_ H
               clear H
               refine start_ (n := 32) (S := fun w' => w'.cell? ⟨gb135, 0, none⟩ = some (.int .i64 ((rd_T84 l0_3 x8_3).f0)) ∧ w'.cell? ⟨gb135, 1, none⟩ = some (.int .i64 ((rd_T84 l0_3 x8_3).f1)) ∧ w'.cell? ⟨gb135, 2, none⟩ = some (.int .i64 ((rd_T84 l0_3 x8_3).f2.f0)) ∧ w'.cell? ⟨gb135, 3, none⟩ = some (.int .i64 ((rd_T84 l0_3 x8_3).f2.f1)) ∧ w'.cell? ⟨gb135, 4, none⟩ = some (.int .i64 ((rd_T84 l0_3 x8_3).f2.f2)) ∧ w'.cell? ⟨gb135, 5, none⟩ = some (.int .i64 ((rd_T84 l0_3 x8_3).f2.f3))) (ds := []) #[false, false, false, false, false, false, false, false, false, false, false, false, false, false, false, false, false, false, false, false, false, false, false, false, false, false, false, false, false, false, false, false] (by kernel_rfl) rfl rfl ⟨(blk_cell BK135.out 0).trans rfl, (blk_cell BK135.out 1).trans rfl, (blk_cell BK135.out 2).trans rfl, (blk_cell BK135.out 3).trans rfl, (blk_cell BK135.out 4).trans rfl, (blk_cell BK135.out 5).trans rfl⟩ (fun hHeld => ?_); refine with_tabW spec_TableOK.tab26 spec_TableOK.bits26 (fun HT_ HW_ => ?_)
               generalize w122.drew = w137 at BK116 BK135 HB hHeld ⊢
               refine zpu 0 (N := some 160) HT_ ?_
               refine ztk 1 (N := some 161) HT_ HW_ hHeld ?_
               refine zon 2 (N := some 162) HT_ (fun K hK => ?_)
               refine zgo Try.func58 #[.int .i64 ((rd_T84 l0_3 x8_3).f0), .int .i64 0, .int .i64 255] ?_
               with_reducible refine (spec_l01In.calls ((rd_T84 l0_3 x8_3).f0) 0 255 true _ A107.out).mono ?_
               rintro e w' ⟨rfl, ⟨nd, rfl⟩⟩
               refine ⟨_, rfl, ?_⟩
               refine hK.out _ _ ⟨(blk_cell BK135.out 0).trans rfl, (blk_cell BK135.out 1).trans rfl, (blk_cell BK135.out 2).trans rfl, (blk_cell BK135.out 3).trans rfl, (blk_cell BK135.out 4).trans rfl, (blk_cell BK135.out 5).trans rfl⟩ (fun hHeld => ?_)
               clear hK K
               refine norm_ (a' := ?_) ?_ ?_
               rotate_left
               ·show Act.put _ (some 162) _ = _
                simp only [Act.put, p1_, p2_, p3_, i64_w, i32_w]
                rfl
               refine zpu 3 (N := some 163) HT_ ?_
               refine zpu 4 (N := some 164) HT_ ?_
               refine zpu 5 (N := some 165) HT_ ?_
               refine ztk 6 (N := some 166) HT_ HW_ hHeld ?_
               refine zon 7 (N := some 167) HT_ (fun K hK => ?_)
               refine zgo Try.func58 #[.int .i64 ((rd_T84 l0_3 x8_3).f1), .int .i64 1, .int .i64 65535] ?_
               with_reducible refine (spec_l01In.calls ((rd_T84 l0_3 x8_3).f1) 1 65535 true _ A109.out).mono ?_
               rintro e w' ⟨rfl, ⟨nd, rfl⟩⟩
               refine ⟨_, rfl, ?_⟩
               refine hK.out _ _ ⟨(blk_cell BK135.out 0).trans rfl, (blk_cell BK135.out 1).trans rfl, (blk_cell BK135.out 2).trans rfl, (blk_cell BK135.out 3).trans rfl, (blk_cell BK135.out 4).trans rfl, (blk_cell BK135.out 5).trans rfl⟩ (fun hHeld => ?_)
               clear hK K
               refine norm_ (a' := ?_) ?_ ?_
               rotate_left
               ·show Act.put _ (some 167) _ = _
                simp only [Act.put, p1_, p2_, p3_, i64_w, i32_w]
                rfl
               refine zpu 8 (N := some 168) HT_ ?_
               refine zpu 9 (N := some 169) HT_ ?_
               refine zpu 10 (N := some 170) HT_ ?_
               refine zpu 11 (N := some 171) HT_ ?_
               refine ztk 12 (N := some 172) HT_ HW_ hHeld ?_
               refine zon 13 (N := some 173) HT_ (fun K hK => ?_)
               refine zgo Try.func75 #[.agg #[.int .i64 ((rd_T84 l0_3 x8_3).f2.f0), .int .i64 ((rd_T84 l0_3 x8_3).f2.f1), .int .i64 ((rd_T84 l0_3 x8_3).f2.f2), .int .i64 ((rd_T84 l0_3 x8_3).f2.f3)]] ?_
               with_reducible refine (spec_l05Answer.calls ((rd_T84 l0_3 x8_3).f2.f0) ((rd_T84 l0_3 x8_3).f2.f1) ((rd_T84 l0_3 x8_3).f2.f2) ((rd_T84 l0_3 x8_3).f2.f3) true _ A111.out).mono ?_
               rintro e w138 ⟨rfl, hb⟩
               refine ⟨_, rfl, ?_⟩
               replace BK116 := zb BK116 hb
               replace BK135 := zb BK135 hb
               replace HB := zs_ HB hb
               (try clear hb)
               (try clear hb2)
               (try clear hk)
               (try clear hi)
               refine hK.out _ _ ⟨(blk_cell BK135.out 0).trans rfl, (blk_cell BK135.out 1).trans rfl, (blk_cell BK135.out 2).trans rfl, (blk_cell BK135.out 3).trans rfl, (blk_cell BK135.out 4).trans rfl, (blk_cell BK135.out 5).trans rfl⟩ (fun hHeld => ?_)
               clear hK K
               refine norm_ (a' := ?_) ?_ ?_
               rotate_left
               ·show Act.put _ (some 173) _ = _
                simp only [Act.put, p1_, p2_, p3_, i64_w, i32_w]
                rfl
               refine zpu 14 (N := some 174) HT_ ?_
               refine zpu 15 (N := some 175) HT_ ?_
               refine zpu 16 (N := some 176) HT_ ?_
               refine zpu 17 (N := some 177) HT_ ?_
               refine zpu 18 (N := some 178) HT_ ?_
               refine zpu 19 (N := some 179) HT_ ?_
               refine zpx 20 (N := some 180) HT_ ?_
               refine zpx 21 (N := some 181) HT_ ?_
               refine zpx 22 (N := some 182) HT_ ?_
               refine zpx 23 (N := some 183) HT_ ?_
               refine zpx 24 (N := some 184) HT_ ?_
               refine zpx 25 (N := some 185) HT_ ?_
               refine zpx 26 (N := some 186) HT_ ?_
               refine zpx 27 (N := some 187) HT_ ?_
               refine zpx 28 (N := some 188) HT_ ?_
               refine zpx 29 (N := some 189) HT_ ?_
               refine zpu 30 (N := some 190) HT_ ?_
               refine zpu 31 (N := some 191) HT_ ?_
               refine done_ (done_of HT_.out (by kernel_rfl)) ?_
               try go_wp2
               go_roundg k3
               case measure => have := HJ1.out; have := HK2.out; have := HK3.out; omega
               case rel => exact ⟨(wrap64 (x8_3 + 1)), (by first | rfl | (simp; done) | (simp [*]; done)), H', ⟨by have := HJ1.out; have := HK2.out; have := HK3.out; omega⟩, ⟨by (with_reducible repeat (first | apply k1_ | apply k2_ | apply k3_)); exact BK116.out⟩, ⟨zl_ HB⟩⟩
             ·replace c112 := Bool.eq_false_iff.mpr c112
              subst c112
              have H1 : (some false) = some r := by rw [if_neg (show ¬ (false = true) by decide)] at H; exact H
              clear H
              have H := H1
              clear H1
              obtain rfl := Option.some.inj H
              refine start_ (n := 32) (S := fun w' => w'.cell? ⟨gb135, 0, none⟩ = some (.int .i64 ((rd_T84 l0_3 x8_3).f0)) ∧ w'.cell? ⟨gb135, 1, none⟩ = some (.int .i64 ((rd_T84 l0_3 x8_3).f1)) ∧ w'.cell? ⟨gb135, 2, none⟩ = some (.int .i64 ((rd_T84 l0_3 x8_3).f2.f0)) ∧ w'.cell? ⟨gb135, 3, none⟩ = some (.int .i64 ((rd_T84 l0_3 x8_3).f2.f1)) ∧ w'.cell? ⟨gb135, 4, none⟩ = some (.int .i64 ((rd_T84 l0_3 x8_3).f2.f2)) ∧ w'.cell? ⟨gb135, 5, none⟩ = some (.int .i64 ((rd_T84 l0_3 x8_3).f2.f3))) (ds := []) #[false, false, false, false, false, false, false, false, false, false, false, false, false, false, false, false, false, false, false, false, false, false, false, false, false, false, false, false, false, false, false, false] (by kernel_rfl) rfl rfl ⟨(blk_cell BK135.out 0).trans rfl, (blk_cell BK135.out 1).trans rfl, (blk_cell BK135.out 2).trans rfl, (blk_cell BK135.out 3).trans rfl, (blk_cell BK135.out 4).trans rfl, (blk_cell BK135.out 5).trans rfl⟩ (fun hHeld => ?_); refine with_tabW spec_TableOK.tab26 spec_TableOK.bits26 (fun HT_ HW_ => ?_)
              generalize w122.drew = w144 at BK116 BK135 HB hHeld ⊢
              refine zpu 0 (N := some 160) HT_ ?_
              refine ztk 1 (N := some 161) HT_ HW_ hHeld ?_
              refine zon 2 (N := some 162) HT_ (fun K hK => ?_)
              refine zgo Try.func58 #[.int .i64 ((rd_T84 l0_3 x8_3).f0), .int .i64 0, .int .i64 255] ?_
              with_reducible refine (spec_l01In.calls ((rd_T84 l0_3 x8_3).f0) 0 255 true _ A107.out).mono ?_
              rintro e w' ⟨rfl, ⟨nd, rfl⟩⟩
              refine ⟨_, rfl, ?_⟩
              refine hK.out _ _ ⟨(blk_cell BK135.out 0).trans rfl, (blk_cell BK135.out 1).trans rfl, (blk_cell BK135.out 2).trans rfl, (blk_cell BK135.out 3).trans rfl, (blk_cell BK135.out 4).trans rfl, (blk_cell BK135.out 5).trans rfl⟩ (fun hHeld => ?_)
              clear hK K
              refine norm_ (a' := ?_) ?_ ?_
              rotate_left
              ·show Act.put _ (some 162) _ = _
               simp only [Act.put, p1_, p2_, p3_, i64_w, i32_w]
               rfl
              refine zpu 3 (N := some 163) HT_ ?_
              refine zpu 4 (N := some 164) HT_ ?_
              refine zpu 5 (N := some 165) HT_ ?_
              refine ztk 6 (N := some 166) HT_ HW_ hHeld ?_
              refine zon 7 (N := some 167) HT_ (fun K hK => ?_)
              refine zgo Try.func58 #[.int .i64 ((rd_T84 l0_3 x8_3).f1), .int .i64 1, .int .i64 65535] ?_
              with_reducible refine (spec_l01In.calls ((rd_T84 l0_3 x8_3).f1) 1 65535 true _ A109.out).mono ?_
              rintro e w' ⟨rfl, ⟨nd, rfl⟩⟩
              refine ⟨_, rfl, ?_⟩
              refine hK.out _ _ ⟨(blk_cell BK135.out 0).trans rfl, (blk_cell BK135.out 1).trans rfl, (blk_cell BK135.out 2).trans rfl, (blk_cell BK135.out 3).trans rfl, (blk_cell BK135.out 4).trans rfl, (blk_cell BK135.out 5).trans rfl⟩ (fun hHeld => ?_)
              clear hK K
              refine norm_ (a' := ?_) ?_ ?_
              rotate_left
              ·show Act.put _ (some 167) _ = _
               simp only [Act.put, p1_, p2_, p3_, i64_w, i32_w]
               rfl
              refine zpu 8 (N := some 168) HT_ ?_
              refine zpu 9 (N := some 169) HT_ ?_
              refine zpu 10 (N := some 170) HT_ ?_
              refine zpu 11 (N := some 171) HT_ ?_
              refine ztk 12 (N := some 172) HT_ HW_ hHeld ?_
              refine zon 13 (N := some 173) HT_ (fun K hK => ?_)
              refine zgo Try.func75 #[.agg #[.int .i64 ((rd_T84 l0_3 x8_3).f2.f0), .int .i64 ((rd_T84 l0_3 x8_3).f2.f1), .int .i64 ((rd_T84 l0_3 x8_3).f2.f2), .int .i64 ((rd_T84 l0_3 x8_3).f2.f3)]] ?_
              with_reducible refine (spec_l05Answer.calls ((rd_T84 l0_3 x8_3).f2.f0) ((rd_T84 l0_3 x8_3).f2.f1) ((rd_T84 l0_3 x8_3).f2.f2) ((rd_T84 l0_3 x8_3).f2.f3) false _ A111.out).mono ?_
              rintro e w145 ⟨rfl, hb⟩
              refine ⟨_, rfl, ?_⟩
              replace BK135 := zb BK135 hb
              replace HB := zs_ HB hb
              (try clear hb)
              (try clear hb2)
              (try clear hk)
              (try clear hi)
              refine hK.out _ _ ⟨(blk_cell BK135.out 0).trans rfl, (blk_cell BK135.out 1).trans rfl, (blk_cell BK135.out 2).trans rfl, (blk_cell BK135.out 3).trans rfl, (blk_cell BK135.out 4).trans rfl, (blk_cell BK135.out 5).trans rfl⟩ (fun hHeld => ?_)
              clear hK K
              refine norm_ (a' := ?_) ?_ ?_
              rotate_left
              ·show Act.put _ (some 173) _ = _
               simp only [Act.put, p1_, p2_, p3_, i64_w, i32_w]
               rfl
              refine zpu 14 (N := some 174) HT_ ?_
              refine zpu 15 (N := some 175) HT_ ?_
              refine zpu 16 (N := some 176) HT_ ?_
              refine zpx 17 (N := some 177) HT_ ?_
              refine zpx 18 (N := some 178) HT_ ?_
              refine zpx 19 (N := some 179) HT_ ?_
              refine zpx 20 (N := some 180) HT_ ?_
              refine zpx 21 (N := some 181) HT_ ?_
              refine zpx 22 (N := some 182) HT_ ?_
              refine zpx 23 (N := some 183) HT_ ?_
              refine zpx 24 (N := some 184) HT_ ?_
              refine zpx 25 (N := some 185) HT_ ?_
              refine zpx 26 (N := some 186) HT_ ?_
              refine zpx 27 (N := some 187) HT_ ?_
              refine zpx 28 (N := some 188) HT_ ?_
              refine zpx 29 (N := some 189) HT_ ?_
              refine zpx 30 (N := some 190) HT_ ?_
              refine zpu 31 (N := some 191) HT_ ?_
              refine done_ (done_of HT_.out (by kernel_rfl)) ?_
              try go_wp2
              go_ret
              exact ⟨zt_, zl_ HB⟩
            ·replace c110 := Bool.eq_false_iff.mpr c110
             subst c110
             have H1 : (some false) = some r := by rw [if_neg (show ¬ (false = true) by decide)] at H; exact H
             clear H
             have H := H1
             clear H1
             obtain rfl := Option.some.inj H
             refine start_ (n := 32) (S := fun w' => w'.cell? ⟨gb135, 0, none⟩ = some (.int .i64 ((rd_T84 l0_3 x8_3).f0)) ∧ w'.cell? ⟨gb135, 1, none⟩ = some (.int .i64 ((rd_T84 l0_3 x8_3).f1)) ∧ w'.cell? ⟨gb135, 2, none⟩ = some (.int .i64 ((rd_T84 l0_3 x8_3).f2.f0)) ∧ w'.cell? ⟨gb135, 3, none⟩ = some (.int .i64 ((rd_T84 l0_3 x8_3).f2.f1)) ∧ w'.cell? ⟨gb135, 4, none⟩ = some (.int .i64 ((rd_T84 l0_3 x8_3).f2.f2)) ∧ w'.cell? ⟨gb135, 5, none⟩ = some (.int .i64 ((rd_T84 l0_3 x8_3).f2.f3))) (ds := []) #[false, false, false, false, false, false, false, false, false, false, false, false, false, false, false, false, false, false, false, false, false, false, false, false, false, false, false, false, false, false, false, false] (by kernel_rfl) rfl rfl ⟨(blk_cell BK135.out 0).trans rfl, (blk_cell BK135.out 1).trans rfl, (blk_cell BK135.out 2).trans rfl, (blk_cell BK135.out 3).trans rfl, (blk_cell BK135.out 4).trans rfl, (blk_cell BK135.out 5).trans rfl⟩ (fun hHeld => ?_); refine with_tabW spec_TableOK.tab26 spec_TableOK.bits26 (fun HT_ HW_ => ?_)
             generalize w122.drew = w151 at BK116 BK135 HB hHeld ⊢
             refine zpu 0 (N := some 160) HT_ ?_
             refine ztk 1 (N := some 161) HT_ HW_ hHeld ?_
             refine zon 2 (N := some 162) HT_ (fun K hK => ?_)
             refine zgo Try.func58 #[.int .i64 ((rd_T84 l0_3 x8_3).f0), .int .i64 0, .int .i64 255] ?_
             with_reducible refine (spec_l01In.calls ((rd_T84 l0_3 x8_3).f0) 0 255 true _ A107.out).mono ?_
             rintro e w' ⟨rfl, ⟨nd, rfl⟩⟩
             refine ⟨_, rfl, ?_⟩
             refine hK.out _ _ ⟨(blk_cell BK135.out 0).trans rfl, (blk_cell BK135.out 1).trans rfl, (blk_cell BK135.out 2).trans rfl, (blk_cell BK135.out 3).trans rfl, (blk_cell BK135.out 4).trans rfl, (blk_cell BK135.out 5).trans rfl⟩ (fun hHeld => ?_)
             clear hK K
             refine norm_ (a' := ?_) ?_ ?_
             rotate_left
             ·show Act.put _ (some 162) _ = _
              simp only [Act.put, p1_, p2_, p3_, i64_w, i32_w]
              rfl
             refine zpu 3 (N := some 163) HT_ ?_
             refine zpu 4 (N := some 164) HT_ ?_
             refine zpu 5 (N := some 165) HT_ ?_
             refine ztk 6 (N := some 166) HT_ HW_ hHeld ?_
             refine zon 7 (N := some 167) HT_ (fun K hK => ?_)
             refine zgo Try.func58 #[.int .i64 ((rd_T84 l0_3 x8_3).f1), .int .i64 1, .int .i64 65535] ?_
             with_reducible refine (spec_l01In.calls ((rd_T84 l0_3 x8_3).f1) 1 65535 false _ A109.out).mono ?_
             rintro e w' ⟨rfl, ⟨nd, rfl⟩⟩
             refine ⟨_, rfl, ?_⟩
             refine hK.out _ _ ⟨(blk_cell BK135.out 0).trans rfl, (blk_cell BK135.out 1).trans rfl, (blk_cell BK135.out 2).trans rfl, (blk_cell BK135.out 3).trans rfl, (blk_cell BK135.out 4).trans rfl, (blk_cell BK135.out 5).trans rfl⟩ (fun hHeld => ?_)
             clear hK K
             refine norm_ (a' := ?_) ?_ ?_
             rotate_left
             ·show Act.put _ (some 167) _ = _
              simp only [Act.put, p1_, p2_, p3_, i64_w, i32_w]
              rfl
             refine zpu 8 (N := some 168) HT_ ?_
             refine zpu 9 (N := some 169) HT_ ?_
             refine zpu 10 (N := some 170) HT_ ?_
             refine zpx 11 (N := some 171) HT_ ?_
             refine zpx 12 (N := some 172) HT_ ?_
             refine zpx 13 (N := some 173) HT_ ?_
             refine zpx 14 (N := some 174) HT_ ?_
             refine zpu 15 (N := some 175) HT_ ?_
             refine zpu 16 (N := some 176) HT_ ?_
             refine zpx 17 (N := some 177) HT_ ?_
             refine zpx 18 (N := some 178) HT_ ?_
             refine zpx 19 (N := some 179) HT_ ?_
             refine zpx 20 (N := some 180) HT_ ?_
             refine zpx 21 (N := some 181) HT_ ?_
             refine zpx 22 (N := some 182) HT_ ?_
             refine zpx 23 (N := some 183) HT_ ?_
             refine zpx 24 (N := some 184) HT_ ?_
             refine zpx 25 (N := some 185) HT_ ?_
             refine zpx 26 (N := some 186) HT_ ?_
             refine zpx 27 (N := some 187) HT_ ?_
             refine zpx 28 (N := some 188) HT_ ?_
             refine zpx 29 (N := some 189) HT_ ?_
             refine zpx 30 (N := some 190) HT_ ?_
             refine zpu 31 (N := some 191) HT_ ?_
             refine done_ (done_of HT_.out (by kernel_rfl)) ?_
             try go_wp2
             go_ret
             exact ⟨zt_, zl_ HB⟩
           ·replace c108 := Bool.eq_false_iff.mpr c108
            subst c108
            have H1 : (some false) = some r := by rw [if_neg (show ¬ (false = true) by decide)] at H; exact H
            clear H
            have H := H1
            clear H1
            obtain rfl := Option.some.inj H
            refine start_ (n := 32) (S := fun w' => w'.cell? ⟨gb135, 0, none⟩ = some (.int .i64 ((rd_T84 l0_3 x8_3).f0)) ∧ w'.cell? ⟨gb135, 1, none⟩ = some (.int .i64 ((rd_T84 l0_3 x8_3).f1)) ∧ w'.cell? ⟨gb135, 2, none⟩ = some (.int .i64 ((rd_T84 l0_3 x8_3).f2.f0)) ∧ w'.cell? ⟨gb135, 3, none⟩ = some (.int .i64 ((rd_T84 l0_3 x8_3).f2.f1)) ∧ w'.cell? ⟨gb135, 4, none⟩ = some (.int .i64 ((rd_T84 l0_3 x8_3).f2.f2)) ∧ w'.cell? ⟨gb135, 5, none⟩ = some (.int .i64 ((rd_T84 l0_3 x8_3).f2.f3))) (ds := []) #[false, false, false, false, false, false, false, false, false, false, false, false, false, false, false, false, false, false, false, false, false, false, false, false, false, false, false, false, false, false, false, false] (by kernel_rfl) rfl rfl ⟨(blk_cell BK135.out 0).trans rfl, (blk_cell BK135.out 1).trans rfl, (blk_cell BK135.out 2).trans rfl, (blk_cell BK135.out 3).trans rfl, (blk_cell BK135.out 4).trans rfl, (blk_cell BK135.out 5).trans rfl⟩ (fun hHeld => ?_); refine with_tabW spec_TableOK.tab26 spec_TableOK.bits26 (fun HT_ HW_ => ?_)
            generalize w122.drew = w157 at BK116 BK135 HB hHeld ⊢
            refine zpu 0 (N := some 160) HT_ ?_
            refine ztk 1 (N := some 161) HT_ HW_ hHeld ?_
            refine zon 2 (N := some 162) HT_ (fun K hK => ?_)
            refine zgo Try.func58 #[.int .i64 ((rd_T84 l0_3 x8_3).f0), .int .i64 0, .int .i64 255] ?_
            with_reducible refine (spec_l01In.calls ((rd_T84 l0_3 x8_3).f0) 0 255 false _ A107.out).mono ?_
            rintro e w' ⟨rfl, ⟨nd, rfl⟩⟩
            refine ⟨_, rfl, ?_⟩
            refine hK.out _ _ ⟨(blk_cell BK135.out 0).trans rfl, (blk_cell BK135.out 1).trans rfl, (blk_cell BK135.out 2).trans rfl, (blk_cell BK135.out 3).trans rfl, (blk_cell BK135.out 4).trans rfl, (blk_cell BK135.out 5).trans rfl⟩ (fun hHeld => ?_)
            clear hK K
            refine norm_ (a' := ?_) ?_ ?_
            rotate_left
            ·show Act.put _ (some 162) _ = _
             simp only [Act.put, p1_, p2_, p3_, i64_w, i32_w]
             rfl
            refine zpu 3 (N := some 163) HT_ ?_
            refine zpu 4 (N := some 164) HT_ ?_
            refine zpx 5 (N := some 165) HT_ ?_
            refine zpx 6 (N := some 166) HT_ ?_
            refine zpx 7 (N := some 167) HT_ ?_
            refine zpx 8 (N := some 168) HT_ ?_
            refine zpu 9 (N := some 169) HT_ ?_
            refine zpu 10 (N := some 170) HT_ ?_
            refine zpx 11 (N := some 171) HT_ ?_
            refine zpx 12 (N := some 172) HT_ ?_
            refine zpx 13 (N := some 173) HT_ ?_
            refine zpx 14 (N := some 174) HT_ ?_
            refine zpu 15 (N := some 175) HT_ ?_
            refine zpu 16 (N := some 176) HT_ ?_
            refine zpx 17 (N := some 177) HT_ ?_
            refine zpx 18 (N := some 178) HT_ ?_
            refine zpx 19 (N := some 179) HT_ ?_
            refine zpx 20 (N := some 180) HT_ ?_
            refine zpx 21 (N := some 181) HT_ ?_
            refine zpx 22 (N := some 182) HT_ ?_
            refine zpx 23 (N := some 183) HT_ ?_
            refine zpx 24 (N := some 184) HT_ ?_
            refine zpx 25 (N := some 185) HT_ ?_
            refine zpx 26 (N := some 186) HT_ ?_
            refine zpx 27 (N := some 187) HT_ ?_
            refine zpx 28 (N := some 188) HT_ ?_
            refine zpx 29 (N := some 189) HT_ ?_
            refine zpx 30 (N := some 190) HT_ ?_
            refine zpu 31 (N := some 191) HT_ ?_
            refine done_ (done_of HT_.out (by kernel_rfl)) ?_
            try go_wp2
            go_ret
            exact ⟨zt_, zl_ HB⟩
          ·rw [if_neg c106] at H
           exact absurd H (by simp)
         ·rw [if_neg c105] at H
          have c105b0 : decide (x8_3 < (l0_3.length : Int)) = false := decide_eq_false c105
          clear c105
          obtain rfl := Option.some.inj H
          obtain ⟨hcz158_0, hcz158_1, hcz158_2, hcz158_3, hfz158_0, hfz158_1, hfz158_2, hfz158_3⟩ := zc4 BK116
          go_wp2
          go_ret
          exact ⟨zt_, zl_ HB⟩
end Go.Proofs.Ytioocldcdonlpaa.B
end
