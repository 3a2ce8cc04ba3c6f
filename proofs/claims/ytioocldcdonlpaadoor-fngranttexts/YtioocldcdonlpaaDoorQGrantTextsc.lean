/- A part of the proof that FnGrantTexts returns true at every input: plain functions, contracts and lemmas. No conditions. -/
import Derived.Test.YtioocldcdonlpaaDoorQGrantTextsb
set_option linter.unusedVariables false
set_option linter.unusedSimpArgs false
set_option linter.unusedSectionVars false
section
namespace Go.Proofs.YtioocldcdonlpaaDoor.A
open Go.RowKit Go.Proofs.YtioocldcdonlpaaDoorW.PrintWords Go.Proofs.YtioocldcdonlpaaDoorW.PrintLast Go.Proofs.YtioocldcdonlpaaDoorW.PrintMore
attribute [local go_sem] max2_int min2_int max_two min_two max_three min_three max_four min_four
set_option maxHeartbeats 8000000 in
set_option maxRecDepth 100000 in
theorem spec_l00Word.calls (k : Nat) (a0 : ByteArray) (r : Bool) (w : World) (h : spec_l00Word.f k a0 = some r) :
    Calls Tryd.prog 50 #[.string a0] w fun e w' => e = .returned (.bool r) ∧ Drawn0 w w' := by
  have H : (if (a0.size : Int) < 1 then (spec_l00Word.j0 k a0 true) else (if (a0.size : Int) > 40 then (spec_l00Word.j0 k a0 true) else (if 0 < (a0.size : Int) then ((spec_l00Letter.f (bt a0 0)).bind fun t110 => (spec_l00Word.j0 k a0 (!t110))) else (none)))) = some r := h
  clear h
  have HC2 := Aside0.mk H
  clear H
  go_enter Tryd.func50, Tryd.ntmps50
  go_upto_region 1 with (fail)
  go_cut [17] (fun v17 wc => ∃ (kq : Nat) (x17_1 : Bool), v17 = .bool x17_1 ∧ Aside0 (spec_l00Word.j0 kq a0 x17_1 = some r) ∧ Aside0 (kq ≤ k) ∧ Drawn0 w wc)
  case first =>
    have H := HC2.out
    clear HC2
    by_cases c3 : (a0.size : Int) < 1
    · rw [if_pos c3] at H
      have c3b0 : decide ((a0.size : Int) < 1) = true := decide_eq_true c3
      have c3b1 : decide (a0.size < 1) = true := decide_eq_true (by omega)
      clear c3
      (first | rw [c3b0] | (simp only [i64_w, i32_w]; rw [c3b0]) | skip)
      have H' := Aside0.mk H
      clear H
      go_wp2
      go_meet
      case rel => exact ⟨_, (true), (by first | rfl | (simp; done) | (simp [*]; done)), H', ⟨by first | omega | exact Nat.le_refl _⟩, by repeat (first | exact Drawn0.refl _ | apply Drawn0.step)⟩
    · rw [if_neg c3] at H
      have c3b0 : decide ((a0.size : Int) < 1) = false := decide_eq_false c3
      have c3b1 : decide (a0.size < 1) = false := decide_eq_false (by omega)
      clear c3
      (first | rw [c3b0] | (simp only [i64_w, i32_w]; rw [c3b0]) | skip)
      by_cases c4 : (a0.size : Int) > 40
      · rw [if_pos c4] at H
        have c4b0 : decide (40 < (a0.size : Int)) = true := decide_eq_true c4
        have c4b1 : decide (40 < a0.size) = true := decide_eq_true (by omega)
        clear c4
        have H' := Aside0.mk H
        clear H
        go_wp2
        go_meet
        case rel => exact ⟨_, (true), (by first | rfl | (simp; done) | (simp [*]; done)), H', ⟨by first | omega | exact Nat.le_refl _⟩, by repeat (first | exact Drawn0.refl _ | apply Drawn0.step)⟩
      · rw [if_neg c4] at H
        have c4b0 : decide (40 < (a0.size : Int)) = false := decide_eq_false c4
        have c4b1 : decide (40 < a0.size) = false := decide_eq_false (by omega)
        clear c4
        by_cases c5 : 0 < (a0.size : Int)
        · rw [if_pos c5] at H
          have c5b0 : decide (0 < (a0.size : Int)) = true := decide_eq_true c5
          have c5b1 : decide (0 < a0.size) = true := decide_eq_true (by omega)
          clear c5
          replace H := Option.bind_eq_some_iff.mp H
          obtain ⟨t110, A70, H⟩ := H
          replace H : (spec_l00Word.j0 k a0 (!t110)) = some r := H
          have A7 := Aside0.mk A70
          clear A70
          have H' := Aside0.mk H
          clear H
          have p6 : 0 ≤ (0 : Int) := (by omega)
          have q6 : 0 < a0.size := (by have : (0 : Int) < (a0.size : Int) := zo_; omega)
          have hx6 : ∀ h : 0 < a0.size, ((a0[0]'h).toNat : Int) = bt a0 0 := bt_at a0 0
          clear p6
          have qi6 : (0 < (a0.size : Int)) = True := eq_true (zo_)
          replace q6 := eq_true q6
          go_wp2_with (first | (go_at_call 62; (with_reducible refine (spec_l00Letter.calls (bt a0 0) t110 _ A7.out).mono ?_); rintro e w' ⟨rfl, ⟨nd, rfl⟩⟩))
          go_meet
          case rel => exact ⟨_, (!t110), (by first | rfl | (simp; done) | (simp [*]; done)), H', ⟨by first | omega | exact Nat.le_refl _⟩, by repeat (first | exact Drawn0.refl _ | apply Drawn0.step)⟩
        · rw [if_neg c5] at H
          exact absurd H (by simp)
  case rest =>
    clear HC2
    try clear p2
    try clear c3
    try clear c3b0
    try clear c3b1
    try clear c4
    try clear c4b0
    try clear c4b1
    try clear c5
    try clear c5b0
    try clear c5b1
    try clear p6
    try clear q6
    try clear hx6
    try clear qi6
    try clear p6
    try clear q6
    obtain ⟨kq, x17_1, rfl, HA, HJ1, ⟨mc1, rfl⟩⟩ := hcut
    cases kq with
    | zero => exact absurd HA.out (by simp [spec_l00Word.j0])
    | succ kj1 =>
      have H := HA.out
      clear HA
      simp only [spec_l00Word.j0] at H
      by_cases c8 : x17_1 = true
      · subst c8
        have H1 : (some false) = some r := by rw [if_pos rfl] at H; exact H
        clear H
        have H := H1
        clear H1
        obtain rfl := Option.some.inj H
        go_wp2
        go_ret
        exact ⟨by first | rfl | (simp; done) | (simp [*]; done), by repeat (first | exact Drawn0.refl _ | apply Drawn0.step)⟩
      · replace c8 := Bool.eq_false_iff.mpr c8
        subst c8
        have H1 : (spec_l00Word.l0 kj1 a0 1) = some r := by rw [if_neg (show ¬ (false = true) by decide)] at H; exact H
        clear H
        have H := H1
        clear H1
        have H' := Aside0.mk H
        clear H
        go_wp2
        go_loopg [3] kj1 (fun kq v3 w' => ∃ (x3_2 : Int), v3 = .int .i64 x3_2 ∧ Aside0 (spec_l00Word.l0 kq a0 x3_2 = some r) ∧ Aside0 (kq ≤ kj1) ∧ Drawn0 w w')
        case atStart => exact ⟨(1), (by first | rfl | (simp; done) | (simp [*]; done)), H', ⟨Nat.le_refl _⟩, by repeat (first | exact Drawn0.refl _ | apply Drawn0.step)⟩
        case round =>
          clear H'
          try clear c1
          try clear p2
          try clear c3
          try clear c3b0
          try clear c3b1
          try clear c4
          try clear c4b0
          try clear c4b1
          try clear c5
          try clear c5b0
          try clear c5b1
          try clear p6
          try clear q6
          try clear hx6
          try clear qi6
          try clear c8
          try clear p2
          try clear p6
          try clear q6
          obtain ⟨x3_2, rfl, HA, HK2, ⟨m2, rfl⟩⟩ := hrel
          cases gk with
          | zero => exact absurd HA.out (by simp [spec_l00Word.l0])
          | succ k2 =>
            have H := HA.out
            clear HA
            simp only [spec_l00Word.l0] at H
            by_cases c9 : x3_2 < (a0.size : Int)
            · rw [if_pos c9] at H
              have c9b0 : decide (x3_2 < (a0.size : Int)) = true := decide_eq_true c9
              clear c9
              by_cases c10 : 0 ≤ x3_2
              · rw [if_pos c10] at H
                have c10b0 : decide (0 ≤ x3_2) = true := decide_eq_true c10
                clear c10
                replace H := Option.bind_eq_some_iff.mp H
                obtain ⟨t111, A120, H⟩ := H
                replace H : (if t111 = true then (spec_l00Word.l0 k2 a0 (wrap64 (x3_2 + 1))) else ((spec_l00Digit.f (bt a0 x3_2)).bind fun t112 => (if t112 = true then (spec_l00Word.l0 k2 a0 (wrap64 (x3_2 + 1))) else (some false)))) = some r := H
                have A12 := Aside0.mk A120
                clear A120
                by_cases c13 : t111 = true
                · subst c13
                  have H1 : (spec_l00Word.l0 k2 a0 (wrap64 (x3_2 + 1))) = some r := by rw [if_pos rfl] at H; exact H
                  clear H
                  have H := H1
                  clear H1
                  have H' := Aside0.mk H
                  clear H
                  have p11 : 0 ≤ (x3_2 : Int) := zo_
                  have q11 : x3_2 < (a0.size : Int) := zo_
                  have hx11 := bt_at a0 x3_2
                  replace p11 := eq_true p11
                  replace q11 := eq_true q11
                  go_wp2_with (first | ((with_reducible refine gate_callee (f := 62) rfl ?_); refine zgl (some 27) Tryd.func62 #[.int .u8 (bt a0 x3_2)] ?_; (with_reducible refine (spec_l00Letter.calls (bt a0 x3_2) true _ A12.out).mono ?_); rintro e w' ⟨rfl, ⟨nd, rfl⟩⟩; refine ⟨_, rfl, ?_⟩))
                  go_roundg k2
                  case measure => have := HJ1.out; have := HK2.out; omega
                  case rel => exact ⟨(wrap64 (x3_2 + 1)), (by first | rfl | (simp; done) | (simp [*]; done)), H', ⟨by have := HJ1.out; have := HK2.out; omega⟩, by repeat (first | exact Drawn0.refl _ | apply Drawn0.step)⟩
                · replace c13 := Bool.eq_false_iff.mpr c13
                  subst c13
                  have H1 : ((spec_l00Digit.f (bt a0 x3_2)).bind fun t112 => (if t112 = true then (spec_l00Word.l0 k2 a0 (wrap64 (x3_2 + 1))) else (some false))) = some r := by rw [if_neg (show ¬ (false = true) by decide)] at H; exact H
                  clear H
                  have H := H1
                  clear H1
                  replace H := Option.bind_eq_some_iff.mp H
                  obtain ⟨t112, A150, H⟩ := H
                  replace H : (if t112 = true then (spec_l00Word.l0 k2 a0 (wrap64 (x3_2 + 1))) else (some false)) = some r := H
                  have A15 := Aside0.mk A150
                  clear A150
                  by_cases c16 : t112 = true
                  · subst c16
                    have H1 : (spec_l00Word.l0 k2 a0 (wrap64 (x3_2 + 1))) = some r := by rw [if_pos rfl] at H; exact H
                    clear H
                    have H := H1
                    clear H1
                    have H' := Aside0.mk H
                    clear H
                    have p11 : 0 ≤ (x3_2 : Int) := zo_
                    have q11 : x3_2 < (a0.size : Int) := zo_
                    have hx11 := bt_at a0 x3_2
                    replace p11 := eq_true p11
                    replace q11 := eq_true q11
                    go_wp2_with (first | ((with_reducible refine gate_callee (f := 62) rfl ?_); refine zgl (some 27) Tryd.func62 #[.int .u8 (bt a0 x3_2)] ?_; (with_reducible refine (spec_l00Letter.calls (bt a0 x3_2) false _ A12.out).mono ?_); rintro e w' ⟨rfl, ⟨nd, rfl⟩⟩; refine ⟨_, rfl, ?_⟩; have p14 : 0 ≤ (x3_2 : Int) := zo_; have q14 : x3_2 < (a0.size : Int) := zo_; have hx14 := bt_at a0 x3_2; replace p14 := eq_true p14; replace q14 := eq_true q14) | (go_at_call 63; (with_reducible refine (spec_l00Digit.calls (bt a0 x3_2) true _ A15.out).mono ?_); rintro e w' ⟨rfl, ⟨nd, rfl⟩⟩))
                    go_roundg k2
                    case measure => have := HJ1.out; have := HK2.out; omega
                    case rel => exact ⟨(wrap64 (x3_2 + 1)), (by first | rfl | (simp; done) | (simp [*]; done)), H', ⟨by have := HJ1.out; have := HK2.out; omega⟩, by repeat (first | exact Drawn0.refl _ | apply Drawn0.step)⟩
                  · replace c16 := Bool.eq_false_iff.mpr c16
                    subst c16
                    have H1 : (some false) = some r := by rw [if_neg (show ¬ (false = true) by decide)] at H; exact H
                    clear H
                    have H := H1
                    clear H1
                    obtain rfl := Option.some.inj H
                    have p11 : 0 ≤ (x3_2 : Int) := zo_
                    have q11 : x3_2 < (a0.size : Int) := zo_
                    have hx11 := bt_at a0 x3_2
                    replace p11 := eq_true p11
                    replace q11 := eq_true q11
                    go_wp2_with (first | ((with_reducible refine gate_callee (f := 62) rfl ?_); refine zgl (some 27) Tryd.func62 #[.int .u8 (bt a0 x3_2)] ?_; (with_reducible refine (spec_l00Letter.calls (bt a0 x3_2) false _ A12.out).mono ?_); rintro e w' ⟨rfl, ⟨nd, rfl⟩⟩; refine ⟨_, rfl, ?_⟩; have p14 : 0 ≤ (x3_2 : Int) := zo_; have q14 : x3_2 < (a0.size : Int) := zo_; have hx14 := bt_at a0 x3_2; replace p14 := eq_true p14; replace q14 := eq_true q14) | (go_at_call 63; (with_reducible refine (spec_l00Digit.calls (bt a0 x3_2) false _ A15.out).mono ?_); rintro e w' ⟨rfl, ⟨nd, rfl⟩⟩))
                    go_ret
                    exact ⟨by first | rfl | (simp; done) | (simp [*]; done), by repeat (first | exact Drawn0.refl _ | apply Drawn0.step)⟩
              · rw [if_neg c10] at H
                exact absurd H (by simp)
            · rw [if_neg c9] at H
              have c9b0 : decide (x3_2 < (a0.size : Int)) = false := decide_eq_false c9
              clear c9
              obtain rfl := Option.some.inj H
              go_wp2
              go_ret
              exact ⟨by first | rfl | (simp; done) | (simp [*]; done), by repeat (first | exact Drawn0.refl _ | apply Drawn0.step)⟩
end Go.Proofs.YtioocldcdonlpaaDoor.A
end

section
namespace Go.Proofs.YtioocldcdonlpaaDoor.A
open Go.RowKit Go.Proofs.YtioocldcdonlpaaDoorW.PrintWords Go.Proofs.YtioocldcdonlpaaDoorW.PrintLast Go.Proofs.YtioocldcdonlpaaDoorW.PrintMore
attribute [local go_sem] max2_int min2_int max_two min_two max_three min_three max_four min_four
set_option maxHeartbeats 8000000 in
set_option maxRecDepth 100000 in
theorem spec_NameOK.calls (k : Nat) (a0 : ByteArray) (r : Bool) (w : World) (h : spec_NameOK.f k a0 = some r) :
    Calls Tryd.prog 39 #[.string a0] w fun e w' => e = .returned (.bool r) ∧ Drawn0 w w' := by
  have H : ((spec_l00Word.f k a0).bind fun t113 => (some t113)) = some r := h
  clear h
  replace H := Option.bind_eq_some_iff.mp H
  obtain ⟨t113, A20, H⟩ := H
  replace H : (some t113) = some r := H
  have A2 := Aside0.mk A20
  clear A20
  obtain rfl := Option.some.inj H
  go_enter Tryd.func39, Tryd.ntmps39
  go_wp2_with (first | ((with_reducible refine gate_callee (f := 50) rfl ?_); refine zgl (some 4) Tryd.func50 #[.string a0] ?_; (with_reducible refine (spec_l00Word.calls k a0 t113 _ A2.out).mono ?_); rintro e w' ⟨rfl, ⟨nd, rfl⟩⟩; refine ⟨_, rfl, ?_⟩))
  go_ret
  exact ⟨by first | rfl | (simp; done) | (simp [*]; done), by repeat (first | exact Drawn0.refl _ | apply Drawn0.step)⟩
end Go.Proofs.YtioocldcdonlpaaDoor.A
end

section
namespace Go.Proofs.YtioocldcdonlpaaDoor.A
open Go.RowKit Go.Proofs.YtioocldcdonlpaaDoorW.PrintWords Go.Proofs.YtioocldcdonlpaaDoorW.PrintLast Go.Proofs.YtioocldcdonlpaaDoorW.PrintMore
attribute [local go_sem] max2_int min2_int max_two min_two max_three min_three max_four min_four
set_option maxHeartbeats 8000000 in
set_option maxRecDepth 100000 in
theorem spec_l02Text.calls (k : Nat) (a0 : ByteArray) (a1 : Int) (r : Bool) (w : World) (h : spec_l02Text.f k a0 a1 = some r) :
    Calls Tryd.prog 26 #[.string a0, .int .i64 a1] w fun e w' => e = .returned (.bool r) ∧ Drawn0 w w' := by
  have H : ((spec_l01In.f (a0.size : Int) 1 a1).bind fun t114 => (if t114 = true then ((spec_NameOK.f k a0).bind fun t115 => (some t115)) else (some false))) = some r := h
  clear h
  replace H := Option.bind_eq_some_iff.mp H
  obtain ⟨t114, A30, H⟩ := H
  replace H : (if t114 = true then ((spec_NameOK.f k a0).bind fun t115 => (some t115)) else (some false)) = some r := H
  have A3 := Aside0.mk A30
  clear A30
  by_cases c4 : t114 = true
  · subst c4
    have H1 : ((spec_NameOK.f k a0).bind fun t115 => (some t115)) = some r := by rw [if_pos rfl] at H; exact H
    clear H
    have H := H1
    clear H1
    replace H := Option.bind_eq_some_iff.mp H
    obtain ⟨t115, A50, H⟩ := H
    replace H : (some t115) = some r := H
    have A5 := Aside0.mk A50
    clear A50
    obtain rfl := Option.some.inj H
    go_enter Tryd.func26, Tryd.ntmps26
    go_wp2_with (first | ((with_reducible refine gate_callee (f := 27) rfl ?_); refine zgl (some 8) Tryd.func27 #[.int .i64 (a0.size : Int), .int .i64 1, .int .i64 a1] ?_; (with_reducible refine (spec_l01In.calls (a0.size : Int) 1 a1 true _ A3.out).mono ?_); rintro e w' ⟨rfl, ⟨nd, rfl⟩⟩; refine ⟨_, rfl, ?_⟩) | (go_at_call 39; (with_reducible refine (spec_NameOK.calls k a0 t115 _ A5.out).mono ?_); rintro e w' ⟨rfl, ⟨nd, rfl⟩⟩))
    go_ret
    exact ⟨by first | rfl | (simp; done) | (simp [*]; done), by repeat (first | exact Drawn0.refl _ | apply Drawn0.step)⟩
  · replace c4 := Bool.eq_false_iff.mpr c4
    subst c4
    have H1 : (some false) = some r := by rw [if_neg (show ¬ (false = true) by decide)] at H; exact H
    clear H
    have H := H1
    clear H1
    obtain rfl := Option.some.inj H
    go_enter Tryd.func26, Tryd.ntmps26
    go_wp2_with (first | ((with_reducible refine gate_callee (f := 27) rfl ?_); refine zgl (some 8) Tryd.func27 #[.int .i64 (a0.size : Int), .int .i64 1, .int .i64 a1] ?_; (with_reducible refine (spec_l01In.calls (a0.size : Int) 1 a1 false _ A3.out).mono ?_); rintro e w' ⟨rfl, ⟨nd, rfl⟩⟩; refine ⟨_, rfl, ?_⟩))
    go_ret
    exact ⟨by first | rfl | (simp; done) | (simp [*]; done), by repeat (first | exact Drawn0.refl _ | apply Drawn0.step)⟩
end Go.Proofs.YtioocldcdonlpaaDoor.A
end

section
namespace Go.Proofs.YtioocldcdonlpaaDoor.A
open Go.RowKit Go.Proofs.YtioocldcdonlpaaDoorW.PrintWords Go.Proofs.YtioocldcdonlpaaDoorW.PrintLast Go.Proofs.YtioocldcdonlpaaDoorW.PrintMore
attribute [local go_sem] max2_int min2_int max_two min_two max_three min_three max_four min_four
set_option maxHeartbeats 8000000 in
set_option maxRecDepth 100000 in
theorem spec_GrantOK.calls (k : Nat) (a0_0 : ByteArray) (a0_1 : Int) (a0_2 : Int) (a0_3 : Int) (r : Bool) (w : World) (h : spec_GrantOK.f k a0_0 a0_1 a0_2 a0_3 = some r) :
    Calls Tryd.prog 15 #[.agg #[.string a0_0, .int .i64 a0_1, .int .i64 a0_2, .int .i64 a0_3]] w fun e w' => e = .returned (.bool r) ∧ Below w.heap.size w w' := by
  have hu23 := Tryd.underlying23
  have HB := Aside0.mk (Below.refl w.heap.size w)
  have H : ((spec_l02Text.f k a0_0 12).bind fun t117 => (if t117 = true then ((spec_l01In.f a0_1 0 255).bind fun t118 => (if t118 = true then ((spec_l01In.f a0_2 1 1000000).bind fun t119 => (if t119 = true then ((spec_l01In.f a0_3 0 2000000000).bind fun t120 => (some t120)) else (some false))) else (some false))) else (some false))) = some r := h
  clear h
  replace H := Option.bind_eq_some_iff.mp H
  obtain ⟨t117, A20, H⟩ := H
  replace H : (if t117 = true then ((spec_l01In.f a0_1 0 255).bind fun t118 => (if t118 = true then ((spec_l01In.f a0_2 1 1000000).bind fun t119 => (if t119 = true then ((spec_l01In.f a0_3 0 2000000000).bind fun t120 => (some t120)) else (some false))) else (some false))) else (some false)) = some r := H
  have A2 := Aside0.mk A20
  clear A20
  by_cases c3 : t117 = true
  · subst c3
    have H1 : ((spec_l01In.f a0_1 0 255).bind fun t118 => (if t118 = true then ((spec_l01In.f a0_2 1 1000000).bind fun t119 => (if t119 = true then ((spec_l01In.f a0_3 0 2000000000).bind fun t120 => (some t120)) else (some false))) else (some false))) = some r := by rw [if_pos rfl] at H; exact H
    clear H
    have H := H1
    clear H1
    replace H := Option.bind_eq_some_iff.mp H
    obtain ⟨t118, A40, H⟩ := H
    replace H : (if t118 = true then ((spec_l01In.f a0_2 1 1000000).bind fun t119 => (if t119 = true then ((spec_l01In.f a0_3 0 2000000000).bind fun t120 => (some t120)) else (some false))) else (some false)) = some r := H
    have A4 := Aside0.mk A40
    clear A40
    by_cases c5 : t118 = true
    · subst c5
      have H1 : ((spec_l01In.f a0_2 1 1000000).bind fun t119 => (if t119 = true then ((spec_l01In.f a0_3 0 2000000000).bind fun t120 => (some t120)) else (some false))) = some r := by rw [if_pos rfl] at H; exact H
      clear H
      have H := H1
      clear H1
      replace H := Option.bind_eq_some_iff.mp H
      obtain ⟨t119, A60, H⟩ := H
      replace H : (if t119 = true then ((spec_l01In.f a0_3 0 2000000000).bind fun t120 => (some t120)) else (some false)) = some r := H
      have A6 := Aside0.mk A60
      clear A60
      by_cases c7 : t119 = true
      · subst c7
        have H1 : ((spec_l01In.f a0_3 0 2000000000).bind fun t120 => (some t120)) = some r := by rw [if_pos rfl] at H; exact H
        clear H
        have H := H1
        clear H1
        replace H := Option.bind_eq_some_iff.mp H
        obtain ⟨t120, A80, H⟩ := H
        replace H : (some t120) = some r := H
        have A8 := Aside0.mk A80
        clear A80
        obtain rfl := Option.some.inj H
        go_enter Tryd.func15, Tryd.ntmps15
        go_wp2_with (first | ((with_reducible refine gate_dst (N := 1) rfl ?_); refine zbx (N := 1) (cs := #[.string a0_0, .int .i64 a0_1, .int .i64 a0_2, .int .i64 a0_3]) (t := 23) ?_; intro gb116 hg w9 hbox hb; have BK116 := Aside0.mk (hbox); have GW116 := zw_ HB hg; have GE116 := zw_ HB hg; replace HB := zs_ HB hb; clear hb hbox hg; obtain ⟨hcz10_0, hcz10_1, hcz10_2, hcz10_3, hfz10_0, hfz10_1, hfz10_2, hfz10_3⟩ := zc4 BK116) | ((with_reducible refine gate_callee (f := 26) rfl ?_); refine zgl (some 5) Tryd.func26 #[.string a0_0, .int .i64 12] ?_; (with_reducible refine (spec_l02Text.calls k a0_0 12 true _ A2.out).mono ?_); rintro e w' ⟨rfl, ⟨nd, rfl⟩⟩; refine ⟨_, rfl, ?_⟩) | (go_at_call 27; (with_reducible refine (spec_l01In.calls a0_1 0 255 true _ A4.out).mono ?_); rintro e w' ⟨rfl, ⟨nd, rfl⟩⟩) | (go_at_call 27; (with_reducible refine (spec_l01In.calls a0_2 1 1000000 true _ A6.out).mono ?_); rintro e w' ⟨rfl, ⟨nd, rfl⟩⟩) | (go_at_call 27; (with_reducible refine (spec_l01In.calls a0_3 0 2000000000 t120 _ A8.out).mono ?_); rintro e w' ⟨rfl, ⟨nd, rfl⟩⟩))
        go_ret
        exact ⟨zt_, zl_ HB⟩
      · replace c7 := Bool.eq_false_iff.mpr c7
        subst c7
        have H1 : (some false) = some r := by rw [if_neg (show ¬ (false = true) by decide)] at H; exact H
        clear H
        have H := H1
        clear H1
        obtain rfl := Option.some.inj H
        go_enter Tryd.func15, Tryd.ntmps15
        go_wp2_with (first | ((with_reducible refine gate_dst (N := 1) rfl ?_); refine zbx (N := 1) (cs := #[.string a0_0, .int .i64 a0_1, .int .i64 a0_2, .int .i64 a0_3]) (t := 23) ?_; intro gb116 hg w11 hbox hb; have BK116 := Aside0.mk (hbox); have GW116 := zw_ HB hg; have GE116 := zw_ HB hg; replace HB := zs_ HB hb; clear hb hbox hg; obtain ⟨hcz12_0, hcz12_1, hcz12_2, hcz12_3, hfz12_0, hfz12_1, hfz12_2, hfz12_3⟩ := zc4 BK116) | ((with_reducible refine gate_callee (f := 26) rfl ?_); refine zgl (some 5) Tryd.func26 #[.string a0_0, .int .i64 12] ?_; (with_reducible refine (spec_l02Text.calls k a0_0 12 true _ A2.out).mono ?_); rintro e w' ⟨rfl, ⟨nd, rfl⟩⟩; refine ⟨_, rfl, ?_⟩) | (go_at_call 27; (with_reducible refine (spec_l01In.calls a0_1 0 255 true _ A4.out).mono ?_); rintro e w' ⟨rfl, ⟨nd, rfl⟩⟩) | (go_at_call 27; (with_reducible refine (spec_l01In.calls a0_2 1 1000000 false _ A6.out).mono ?_); rintro e w' ⟨rfl, ⟨nd, rfl⟩⟩))
        go_ret
        exact ⟨zt_, zl_ HB⟩
    · replace c5 := Bool.eq_false_iff.mpr c5
      subst c5
      have H1 : (some false) = some r := by rw [if_neg (show ¬ (false = true) by decide)] at H; exact H
      clear H
      have H := H1
      clear H1
      obtain rfl := Option.some.inj H
      go_enter Tryd.func15, Tryd.ntmps15
      go_wp2_with (first | ((with_reducible refine gate_dst (N := 1) rfl ?_); refine zbx (N := 1) (cs := #[.string a0_0, .int .i64 a0_1, .int .i64 a0_2, .int .i64 a0_3]) (t := 23) ?_; intro gb116 hg w13 hbox hb; have BK116 := Aside0.mk (hbox); have GW116 := zw_ HB hg; have GE116 := zw_ HB hg; replace HB := zs_ HB hb; clear hb hbox hg; obtain ⟨hcz14_0, hcz14_1, hcz14_2, hcz14_3, hfz14_0, hfz14_1, hfz14_2, hfz14_3⟩ := zc4 BK116) | ((with_reducible refine gate_callee (f := 26) rfl ?_); refine zgl (some 5) Tryd.func26 #[.string a0_0, .int .i64 12] ?_; (with_reducible refine (spec_l02Text.calls k a0_0 12 true _ A2.out).mono ?_); rintro e w' ⟨rfl, ⟨nd, rfl⟩⟩; refine ⟨_, rfl, ?_⟩) | (go_at_call 27; (with_reducible refine (spec_l01In.calls a0_1 0 255 false _ A4.out).mono ?_); rintro e w' ⟨rfl, ⟨nd, rfl⟩⟩))
      go_ret
      exact ⟨zt_, zl_ HB⟩
  · replace c3 := Bool.eq_false_iff.mpr c3
    subst c3
    have H1 : (some false) = some r := by rw [if_neg (show ¬ (false = true) by decide)] at H; exact H
    clear H
    have H := H1
    clear H1
    obtain rfl := Option.some.inj H
    go_enter Tryd.func15, Tryd.ntmps15
    go_wp2_with (first | ((with_reducible refine gate_dst (N := 1) rfl ?_); refine zbx (N := 1) (cs := #[.string a0_0, .int .i64 a0_1, .int .i64 a0_2, .int .i64 a0_3]) (t := 23) ?_; intro gb116 hg w15 hbox hb; have BK116 := Aside0.mk (hbox); have GW116 := zw_ HB hg; have GE116 := zw_ HB hg; replace HB := zs_ HB hb; clear hb hbox hg; obtain ⟨hcz16_0, hcz16_1, hcz16_2, hcz16_3, hfz16_0, hfz16_1, hfz16_2, hfz16_3⟩ := zc4 BK116) | ((with_reducible refine gate_callee (f := 26) rfl ?_); refine zgl (some 5) Tryd.func26 #[.string a0_0, .int .i64 12] ?_; (with_reducible refine (spec_l02Text.calls k a0_0 12 false _ A2.out).mono ?_); rintro e w' ⟨rfl, ⟨nd, rfl⟩⟩; refine ⟨_, rfl, ?_⟩))
    go_ret
    exact ⟨zt_, zl_ HB⟩
end Go.Proofs.YtioocldcdonlpaaDoor.A
end

section
namespace Go.Proofs.YtioocldcdonlpaaDoor.A
open Go.RowKit Go.Proofs.YtioocldcdonlpaaDoorW.PrintWords Go.Proofs.YtioocldcdonlpaaDoorW.PrintLast Go.Proofs.YtioocldcdonlpaaDoorW.PrintMore
attribute [local go_sem] max2_int min2_int max_two min_two max_three min_three max_four min_four
def spec_l00Digits.T7 : Bool × List (List Nat × List Nat) := (true, [([], []), ([0], [0]), ([1], [1]), ([], []), ([3], [3]), ([4], [4]), ([5], [5]), ([6], [6]), ([7], [7]), ([2, 8], [2, 8]), ([9, 2, 0, 1, 2, 3, 4, 5, 6, 7, 8, 9], [9])])
def spec_l00Digits.B7 : List Nat := [0, 1, 3, 0, 8, 24, 56, 120, 248, 511, 1023]
theorem spec_l00Digits.tab7 : rtab .any (opsOf Tryd.f36 7) = spec_l00Digits.T7 := by kernel_rfl
theorem spec_l00Digits.bits7 : waitsOk spec_l00Digits.T7.2 spec_l00Digits.B7 = true := by kernel_rfl
set_option maxHeartbeats 8000000 in
set_option maxRecDepth 100000 in
theorem spec_l00Digits.calls (k : Nat) : ∀ (a0 : Int) (r : ByteArray) (w : World) (h : spec_l00Digits.f k a0 = some r),
    Calls Tryd.prog 36 #[.int .i64 a0] w fun e w' => e = .returned (.string r) ∧ Below w.heap.size w w' := by
  induction k using Nat.strongRecOn with
  | _ k ih =>
  intro a0 r w h
  cases k with
  | zero => exact absurd h (by simp [spec_l00Digits.f])
  | succ k =>
  simp only [spec_l00Digits.f] at h
  have HB := Aside0.mk (Below.refl w.heap.size w)
  have H : (if a0 = (-9223372036854775808) then (some (⟨#[45, 57, 50, 50, 51, 51, 55, 50, 48, 51, 54, 56, 53, 52, 55, 55, 53, 56, 48, 56]⟩ : ByteArray)) else (if a0 < 0 then ((spec_l00Digits.f k (wrap64 (-a0))).bind fun t236 => (if 1 + t236.size ≤ 9223372036854775807 then (some ((⟨#[45]⟩ : ByteArray) ++ t236)) else (none))) else (if a0 < 10 then (some (strOfNums (([(wrap64 (48 + a0)) % 256] : List Int)))) else ((spec_l00Digits.f k (wrap64 (Int.tdiv a0 10))).bind fun t240 => ((some (([(wrap64 (48 + (Int.tmod a0 10))) % 256] : List Int) : List Int)).bind fun y241 => (if t240.size + (strOfNums y241).size ≤ 9223372036854775807 then (some (t240 ++ (strOfNums y241))) else (none))))))) = some r := h
  clear h
  by_cases c2 : a0 = (-9223372036854775808)
  · rw [if_pos c2] at H
    have c2b0 : (a0 == (-9223372036854775808)) = true := beq_iff_eq.mpr c2
    have c2b1 : (a0 != (-9223372036854775808)) = false := bne_eq_false_iff_eq.mpr c2
    clear c2
    obtain rfl := Option.some.inj H
    go_enter Tryd.func36, Tryd.ntmps36
    go_wp2
    go_ret
    exact ⟨zt_, zl_ HB⟩
  · rw [if_neg c2] at H
    have c2b0 : (a0 == (-9223372036854775808)) = false := beq_eq_false_iff_ne.mpr c2
    have c2b1 : (a0 != (-9223372036854775808)) = true := bne_iff_ne.mpr c2
    by_cases c3 : a0 < 0
    · rw [if_pos c3] at H
      have c3b0 : decide (a0 < 0) = true := decide_eq_true c3
      clear c3
      replace H := Option.bind_eq_some_iff.mp H
      obtain ⟨t236, A40, H⟩ := H
      replace H : (if 1 + t236.size ≤ 9223372036854775807 then (some ((⟨#[45]⟩ : ByteArray) ++ t236)) else (none)) = some r := H
      have A4 := Aside0.mk A40
      clear A40
      by_cases c5 : 1 + t236.size ≤ 9223372036854775807
      · rw [if_pos c5] at H
        have c5b0 := eq_true c5
        have c5b1 : decide (1 + t236.size ≤ 9223372036854775807) = true := decide_eq_true c5
        try have c5b2 : (9223372036854775807 < 1 + t236.size) = False := eq_false (Nat.not_lt.2 c5)
        obtain rfl := Option.some.inj H
        go_enter Tryd.func36, Tryd.ntmps36
        go_wp2_with (first | ((with_reducible refine gate_callee (f := 36) rfl ?_); refine zgl (some 9) Tryd.func36 #[.int .i64 (wrap64 (-a0))] ?_; (with_reducible refine (ih k (by omega) (wrap64 (-a0)) t236 _ A4.out).mono ?_); rintro e w6 ⟨rfl, hb⟩; refine ⟨_, rfl, ?_⟩; replace HB := zs_ HB hb; (try clear hb); (try clear hb2); (try clear hk); (try clear hi)))
        go_ret
        exact ⟨zt_, zl_ HB⟩
      · rw [if_neg c5] at H
        exact absurd H (by simp)
    · rw [if_neg c3] at H
      have c3b0 : decide (a0 < 0) = false := decide_eq_false c3
      clear c3
      by_cases c7 : a0 < 10
      · rw [if_pos c7] at H
        have c7b0 : decide (a0 < 10) = true := decide_eq_true c7
        clear c7
        obtain ⟨y237, hy237⟩ : ∃ y_ : List Int, y_ = (([(wrap64 (48 + a0)) % 256] : List Int)) := ⟨_, rfl⟩
        replace H : (some (strOfNums y237)) = some r := by first | (rw [hy237]; with_reducible exact H) | (have H2_ := (Option.bind_some _ _).symm.trans H; rw [hy237]; with_reducible exact H2_) | (have H2_ := (Option.bind_some _ _).symm.trans H; with_reducible exact H2_) | with_reducible exact H | (rw [hy237]; exact H) | exact H
        have Ny237 := Aside0.mk hy237
        clear hy237
        obtain rfl := Option.some.inj H
        go_enter Tryd.func36, Tryd.ntmps36
        go_wp2_with (first | ((with_reducible refine gate_dst (N := 16) rfl ?_); refine Kd.R_lit (Kd.int .u8) _ 5 ?hg (N := 16) ?hd (xs := ([(wrap64 (48 + a0)) % 256] : List Int)) (inner := [.int .u8 ((wrap64 (48 + a0)) % 256)]) (ok := fun _ => True) (okp := fun _ => True) ?hr ?hp (fun _ hk => hk) trivial (Below.refl _ _) (Nat.le_refl _) (by simp) ?_; (case hd => rfl); (case hg => rfl); (case hr => first | (go_simp; done) | (go_simp; rfl)); (case hp => exact (Reps.one (show Kd.M (Kd.int .u8) _ _ _ ((wrap64 (48 + a0)) % 256) [.int .u8 ((wrap64 (48 + a0)) % 256)] from rfl) (Reps.none _ _))); intro v238 w8 ho9 hb hg_ hnew_; clear hg_ hnew_; (first | rw [← Ny237.out] at ho9 | (simp only [Int.reduceToNat] at ho9; rw [← Ny237.out] at ho9)); have HO239 := Aside0.mk (Kd.R_lower ho9 (below_size (zl_ HB))); replace HB := zs_ HB hb; clear hb ho9; have hcv10 := own_string (P := Tryd.prog) Tryd.underlying28 Tryd.underlying5 Tryd.underlying9 (Kd.own_of_R HO239.out)))
        go_ret
        exact ⟨zt_, zl_ HB⟩
      · rw [if_neg c7] at H
        have c7b0 : decide (a0 < 10) = false := decide_eq_false c7
        clear c7
        replace H := Option.bind_eq_some_iff.mp H
        obtain ⟨t240, A110, H⟩ := H
        replace H : ((some (([(wrap64 (48 + (Int.tmod a0 10))) % 256] : List Int) : List Int)).bind fun y241 => (if t240.size + (strOfNums y241).size ≤ 9223372036854775807 then (some (t240 ++ (strOfNums y241))) else (none))) = some r := H
        have A11 := Aside0.mk A110
        clear A110
        obtain ⟨y241, hy241⟩ : ∃ y_ : List Int, y_ = (([(wrap64 (48 + (Int.tmod a0 10))) % 256] : List Int)) := ⟨_, rfl⟩
        replace H : (if t240.size + (strOfNums y241).size ≤ 9223372036854775807 then (some (t240 ++ (strOfNums y241))) else (none)) = some r := by first | (rw [hy241]; with_reducible exact H) | (have H2_ := (Option.bind_some _ _).symm.trans H; rw [hy241]; with_reducible exact H2_) | (have H2_ := (Option.bind_some _ _).symm.trans H; with_reducible exact H2_) | with_reducible exact H | (rw [hy241]; exact H) | exact H
        have Ny241 := Aside0.mk hy241
        clear hy241
        by_cases c12 : t240.size + (strOfNums y241).size ≤ 9223372036854775807
        · rw [if_pos c12] at H
          have c12b0 := eq_true c12
          have c12b1 : decide (t240.size + (strOfNums y241).size ≤ 9223372036854775807) = true := decide_eq_true c12
          try have c12b2 : (9223372036854775807 < t240.size + (strOfNums y241).size) = False := eq_false (Nat.not_lt.2 c12)
          obtain rfl := Option.some.inj H
          go_enter Tryd.func36, Tryd.ntmps36
          try go_wp2
          replace HB := Aside0.mk (below_drew1 HB.out)
          refine start_ (n := 11) (S := fun w' => True) (ds := []) #[false, false, false, false, false, false, false, false, false, false, false] (by kernel_rfl) rfl rfl trivial (fun hHeld => ?_); refine with_tabW spec_l00Digits.tab7 spec_l00Digits.bits7 (fun HT_ HW_ => ?_)
          generalize w.drew = w13 at HB hHeld ⊢
          refine zpu 0 (N := some 18) HT_ ?_
          refine zpu 1 (N := some 19) HT_ ?_
          refine zpu 3 (N := some 21) HT_ ?_
          refine zpu 4 (N := some 22) HT_ ?_
          refine zpu 5 (N := some 23) HT_ ?_
          refine zpu 6 (N := some 24) HT_ ?_
          refine join_ (σ := Value) 2 #[true, true, true, true, true, true, true, true, true, false, false] (fun s_ => [(20, .string t240), (25, s_), (26, .string (strOfNums y241))]) (fun s_ w' => (Kd.R (Kd.int .u8) 5 w' w.heap.size (fun _ => True) s_ y241) ∧ (Below w.heap.size w w')) ?_ ?_
          rotate_left
          · intro hCont
            refine two_ (i := 2) (j := 7) (Ni := some 20) (Nj := some 25) #[true, true, true, true, true, true, true, false, false, false, false] #[true, true, false, true, true, true, true, true, false, false, false] rfl rfl rfl rfl (two_of HT_.out (by kernel_rfl)) (by decide) (by decide) (fun K hK => ?_) (fun K hK => ?_)
            · skip
              refine zgo Tryd.func36 #[.int .i64 (wrap64 (Int.tdiv a0 10))] ?_
              with_reducible refine (ih k (by omega) (wrap64 (Int.tdiv a0 10)) t240 _ A11.out).mono ?_
              rintro e w14 ⟨rfl, hb⟩
              refine ⟨_, rfl, ?_⟩
              replace HB := zs_ HB hb
              (try clear hb)
              (try clear hb2)
              (try clear hk)
              (try clear hi)
              refine hK.out _ _ trivial (fun hHeld => ?_)
              clear hK K
              refine norm_ (a' := ?_) ?_ ?_
              rotate_left
              · show Act.put _ (some 20) _ = _
                simp only [Act.put, List.setIfInBounds_toArray, List.set_cons_zero, List.set_cons_succ, i64_w, i32_w]
                rfl
              refine zon 7 (N := some 25) HT_ (fun K hK => ?_)
              refine Kd.R_lit_step (Kd.int .u8) _ 5 ?hg (N := 25) ?hd (xs := ([(wrap64 (48 + (Int.tmod a0 10))) % 256] : List Int)) (inner := [.int .u8 ((wrap64 (48 + (Int.tmod a0 10))) % 256)]) (ok := fun _ => True) (okp := fun _ => True) ?hr ?hp (fun _ hk => hk) trivial (Below.refl _ _) (Nat.le_refl _) (by simp) ?_; (case hd => rfl); (case hg => rfl); (case hr => first | (go_simp; done) | (go_simp; rfl)); (case hp => exact (Reps.one (show Kd.M (Kd.int .u8) _ _ _ ((wrap64 (48 + (Int.tmod a0 10))) % 256) [.int .u8 ((wrap64 (48 + (Int.tmod a0 10))) % 256)] from rfl) (Reps.none _ _)))
              intro v242 w15 ho16 hb hg_ hnew_
              clear hg_ hnew_
              (first | rw [← Ny241.out] at ho16 | (simp only [Int.reduceToNat] at ho16; rw [← Ny241.out] at ho16))
              have HO243 := Aside0.mk (Kd.R_lower ho16 (below_size (zl_ HB)))
              replace HB := zs_ HB hb
              clear hb ho16
              refine hK.out _ _ trivial (fun hHeld => ?_)
              clear hK K
              refine norm_ (a' := ?_) ?_ ?_
              rotate_left
              · show Act.put _ (some 25) _ = _
                simp only [Act.put, List.setIfInBounds_toArray, List.set_cons_zero, List.set_cons_succ, i64_w, i32_w]
                rfl
              refine zon 8 (N := some 26) HT_ (fun K hK => ?_)
              have hcv17 := own_string (P := Tryd.prog) Tryd.underlying28 Tryd.underlying5 Tryd.underlying9 (Kd.own_of_R HO243.out)
              refine value_ (w1 := ?_) (v := ?_) (by rfl) rfl ?_ ?_
              rotate_left 2
              · go_simp
                constructor
                · rfl
                · rfl
              clear hcv17
              refine hK.out _ _ trivial (fun hHeld => ?_)
              clear hK K
              refine norm_ (a' := ?_) ?_ ?_
              rotate_left
              · show Act.put _ (some 26) _ = _
                simp only [Act.put, List.setIfInBounds_toArray, List.set_cons_zero, List.set_cons_succ, i64_w, i32_w]
                rfl
              exact norm_ (by simp only [putAll, Act.put, List.setIfInBounds_toArray, List.set_cons_zero, List.set_cons_succ]) (hCont (v242) _ ⟨(zr HO243), (zl_ HB)⟩)
            · skip
              refine Kd.R_lit_step (Kd.int .u8) _ 5 ?hg (N := 25) ?hd (xs := ([(wrap64 (48 + (Int.tmod a0 10))) % 256] : List Int)) (inner := [.int .u8 ((wrap64 (48 + (Int.tmod a0 10))) % 256)]) (ok := fun _ => True) (okp := fun _ => True) ?hr ?hp (fun _ hk => hk) trivial (Below.refl _ _) (Nat.le_refl _) (by simp) ?_; (case hd => rfl); (case hg => rfl); (case hr => first | (go_simp; done) | (go_simp; rfl)); (case hp => exact (Reps.one (show Kd.M (Kd.int .u8) _ _ _ ((wrap64 (48 + (Int.tmod a0 10))) % 256) [.int .u8 ((wrap64 (48 + (Int.tmod a0 10))) % 256)] from rfl) (Reps.none _ _)))
              intro v242 w14 ho15 hb hg_ hnew_
              clear hg_ hnew_
              (first | rw [← Ny241.out] at ho15 | (simp only [Int.reduceToNat] at ho15; rw [← Ny241.out] at ho15))
              have HO243 := Aside0.mk (Kd.R_lower ho15 (below_size (zl_ HB)))
              replace HB := zs_ HB hb
              clear hb ho15
              refine hK.out _ _ trivial (fun hHeld => ?_)
              clear hK K
              refine norm_ (a' := ?_) ?_ ?_
              rotate_left
              · show Act.put _ (some 25) _ = _
                simp only [Act.put, List.setIfInBounds_toArray, List.set_cons_zero, List.set_cons_succ, i64_w, i32_w]
                rfl
              refine two_ (i := 2) (j := 8) (Ni := some 20) (Nj := some 26) #[true, true, true, true, true, true, true, true, false, false, false] #[true, true, false, true, true, true, true, true, true, false, false] rfl rfl rfl rfl (two_of HT_.out (by kernel_rfl)) (by decide) (by decide) (fun K hK => ?_) (fun K hK => ?_)
              · skip
                refine zgo Tryd.func36 #[.int .i64 (wrap64 (Int.tdiv a0 10))] ?_
                with_reducible refine (ih k (by omega) (wrap64 (Int.tdiv a0 10)) t240 _ A11.out).mono ?_
                rintro e w16 ⟨rfl, hb⟩
                refine ⟨_, rfl, ?_⟩
                replace HO243 := zrb HO243 hb
                replace HB := zs_ HB hb
                (try clear hb)
                (try clear hb2)
                (try clear hk)
                (try clear hi)
                refine hK.out _ _ trivial (fun hHeld => ?_)
                clear hK K
                refine norm_ (a' := ?_) ?_ ?_
                rotate_left
                · show Act.put _ (some 20) _ = _
                  simp only [Act.put, List.setIfInBounds_toArray, List.set_cons_zero, List.set_cons_succ, i64_w, i32_w]
                  rfl
                refine zon 8 (N := some 26) HT_ (fun K hK => ?_)
                have hcv17 := own_string (P := Tryd.prog) Tryd.underlying28 Tryd.underlying5 Tryd.underlying9 (Kd.own_of_R HO243.out)
                refine value_ (w1 := ?_) (v := ?_) (by rfl) rfl ?_ ?_
                rotate_left 2
                · go_simp
                  constructor
                  · rfl
                  · rfl
                clear hcv17
                refine hK.out _ _ trivial (fun hHeld => ?_)
                clear hK K
                refine norm_ (a' := ?_) ?_ ?_
                rotate_left
                · show Act.put _ (some 26) _ = _
                  simp only [Act.put, List.setIfInBounds_toArray, List.set_cons_zero, List.set_cons_succ, i64_w, i32_w]
                  rfl
                exact norm_ (by simp only [putAll, Act.put, List.setIfInBounds_toArray, List.set_cons_zero, List.set_cons_succ]) (hCont (v242) _ ⟨(zr HO243), (zl_ HB)⟩)
              · skip
                have hcv16 := own_string (P := Tryd.prog) Tryd.underlying28 Tryd.underlying5 Tryd.underlying9 (Kd.own_of_R HO243.out)
                refine value_ (w1 := ?_) (v := ?_) (by rfl) rfl ?_ ?_
                rotate_left 2
                · go_simp
                  constructor
                  · rfl
                  · rfl
                clear hcv16
                refine hK.out _ _ trivial (fun hHeld => ?_)
                clear hK K
                refine norm_ (a' := ?_) ?_ ?_
                rotate_left
                · show Act.put _ (some 26) _ = _
                  simp only [Act.put, List.setIfInBounds_toArray, List.set_cons_zero, List.set_cons_succ, i64_w, i32_w]
                  rfl
                refine zon 2 (N := some 20) HT_ (fun K hK => ?_)
                refine zgo Tryd.func36 #[.int .i64 (wrap64 (Int.tdiv a0 10))] ?_
                with_reducible refine (ih k (by omega) (wrap64 (Int.tdiv a0 10)) t240 _ A11.out).mono ?_
                rintro e w17 ⟨rfl, hb⟩
                refine ⟨_, rfl, ?_⟩
                replace HO243 := zrb HO243 hb
                replace HB := zs_ HB hb
                (try clear hb)
                (try clear hb2)
                (try clear hk)
                (try clear hi)
                refine hK.out _ _ trivial (fun hHeld => ?_)
                clear hK K
                refine norm_ (a' := ?_) ?_ ?_
                rotate_left
                · show Act.put _ (some 20) _ = _
                  simp only [Act.put, List.setIfInBounds_toArray, List.set_cons_zero, List.set_cons_succ, i64_w, i32_w]
                  rfl
                exact norm_ (by simp only [putAll, Act.put, List.setIfInBounds_toArray, List.set_cons_zero, List.set_cons_succ]) (hCont (v242) _ ⟨(zr HO243), (zl_ HB)⟩)
          rintro v242 w18 ⟨h0_, h1_⟩
          have n0_ : Aside0 (Kd.R (Kd.int .u8) 5 w18 w.heap.size (fun _ => True) v242 y241) := ⟨h0_⟩
          have n1_ : Aside0 (Below w.heap.size w w18) := ⟨h1_⟩
          clear HB
          clear h0_ h1_
          have HB := n1_
          clear n0_ n1_
          have hHeld := trivial
          refine norm_ (a' := ?_) ?_ ?_
          rotate_left
          · simp only [putAll, Act.put, List.setIfInBounds_toArray, List.set_cons_zero, List.set_cons_succ]
            rfl
          refine zpu 9 (N := some 27) HT_ ?_
          refine zpu 10 (N := some 2) HT_ ?_
          refine done_ (done_of HT_.out (by kernel_rfl)) ?_
          try go_wp2
          go_ret
          exact ⟨zt_, zl_ HB⟩
        · rw [if_neg c12] at H
          exact absurd H (by simp)
end Go.Proofs.YtioocldcdonlpaaDoor.A
end

section
namespace Go.Proofs.YtioocldcdonlpaaDoor.A
open Go.RowKit Go.Proofs.YtioocldcdonlpaaDoorW.PrintWords Go.Proofs.YtioocldcdonlpaaDoorW.PrintLast Go.Proofs.YtioocldcdonlpaaDoorW.PrintMore
attribute [local go_sem] max2_int min2_int max_two min_two max_three min_three max_four min_four
def spec_l12Text.T1 : Bool × List (List Nat × List Nat) := (true, [([], []), ([0], [0]), ([1], [1]), ([2], [2]), ([], []), ([4], [4]), ([5], [5]), ([3, 6], [3, 6]), ([7], [7]), ([], []), ([9], [9]), ([10, 6], [10]), ([8, 11], [8, 11]), ([12], [12]), ([], []), ([14], [14]), ([15, 11], [15]), ([13, 16], [13, 16]), ([17, 16, 0, 1, 2, 3, 4, 5, 6, 7, 8, 9, 10, 11, 12, 13, 14, 15, 16, 17], [17])])
def spec_l12Text.B1 : List Nat := [0, 1, 3, 7, 0, 16, 48, 127, 255, 0, 512, 1648, 4095, 8191, 0, 16384, 52848, 131071, 262143]
theorem spec_l12Text.tab1 : rtab .any (opsOf Tryd.f22 1) = spec_l12Text.T1 := by kernel_rfl
theorem spec_l12Text.bits1 : waitsOk spec_l12Text.T1.2 spec_l12Text.B1 = true := by kernel_rfl
set_option maxHeartbeats 8000000 in
set_option maxRecDepth 100000 in
theorem spec_l12Text.calls (k : Nat) (a0_0 : ByteArray) (a0_1 : Int) (a0_2 : Int) (a0_3 : Int) (r : ByteArray) (w : World) (h : spec_l12Text.f k a0_0 a0_1 a0_2 a0_3 = some r) :
    Calls Tryd.prog 22 #[.agg #[.string a0_0, .int .i64 a0_1, .int .i64 a0_2, .int .i64 a0_3]] w fun e w' => e = .returned (.string r) ∧ Below w.heap.size w w' := by
  have hu23 := Tryd.underlying23
  have HB := Aside0.mk (Below.refl w.heap.size w)
  have H : (if 6 + a0_0.size ≤ 9223372036854775807 then (if ((⟨#[103, 114, 97, 110, 116, 32]⟩ : ByteArray) ++ a0_0).size + 1 ≤ 9223372036854775807 then ((spec_l00Digits.f k a0_1).bind fun t245 => (if (((⟨#[103, 114, 97, 110, 116, 32]⟩ : ByteArray) ++ a0_0) ++ (⟨#[32]⟩ : ByteArray)).size + t245.size ≤ 9223372036854775807 then (if ((((⟨#[103, 114, 97, 110, 116, 32]⟩ : ByteArray) ++ a0_0) ++ (⟨#[32]⟩ : ByteArray)) ++ t245).size + 1 ≤ 9223372036854775807 then ((spec_l00Digits.f k a0_2).bind fun t246 => (if (((((⟨#[103, 114, 97, 110, 116, 32]⟩ : ByteArray) ++ a0_0) ++ (⟨#[32]⟩ : ByteArray)) ++ t245) ++ (⟨#[32]⟩ : ByteArray)).size + t246.size ≤ 9223372036854775807 then (if ((((((⟨#[103, 114, 97, 110, 116, 32]⟩ : ByteArray) ++ a0_0) ++ (⟨#[32]⟩ : ByteArray)) ++ t245) ++ (⟨#[32]⟩ : ByteArray)) ++ t246).size + 1 ≤ 9223372036854775807 then ((spec_l00Digits.f k a0_3).bind fun t247 => (if (((((((⟨#[103, 114, 97, 110, 116, 32]⟩ : ByteArray) ++ a0_0) ++ (⟨#[32]⟩ : ByteArray)) ++ t245) ++ (⟨#[32]⟩ : ByteArray)) ++ t246) ++ (⟨#[32]⟩ : ByteArray)).size + t247.size ≤ 9223372036854775807 then (some ((((((((⟨#[103, 114, 97, 110, 116, 32]⟩ : ByteArray) ++ a0_0) ++ (⟨#[32]⟩ : ByteArray)) ++ t245) ++ (⟨#[32]⟩ : ByteArray)) ++ t246) ++ (⟨#[32]⟩ : ByteArray)) ++ t247)) else (none))) else (none)) else (none))) else (none)) else (none))) else (none)) else (none)) = some r := h
  clear h
  by_cases c2 : 6 + a0_0.size ≤ 9223372036854775807
  · rw [if_pos c2] at H
    have c2b0 := eq_true c2
    have c2b1 : decide (6 + a0_0.size ≤ 9223372036854775807) = true := decide_eq_true c2
    try have c2b2 : (9223372036854775807 < 6 + a0_0.size) = False := eq_false (Nat.not_lt.2 c2)
    by_cases c3 : ((⟨#[103, 114, 97, 110, 116, 32]⟩ : ByteArray) ++ a0_0).size + 1 ≤ 9223372036854775807
    · rw [if_pos c3] at H
      have c3b0 := eq_true c3
      have c3b1 : decide (((⟨#[103, 114, 97, 110, 116, 32]⟩ : ByteArray) ++ a0_0).size + 1 ≤ 9223372036854775807) = true := decide_eq_true c3
      try have c3b2 : (9223372036854775807 < ((⟨#[103, 114, 97, 110, 116, 32]⟩ : ByteArray) ++ a0_0).size + 1) = False := eq_false (Nat.not_lt.2 c3)
      (try have c3b3 := c3b2; simp only [ByteArray.size_append, show (⟨#[103, 114, 97, 110, 116, 32]⟩ : ByteArray).size = 6 from rfl] at c3b3)
      replace H := Option.bind_eq_some_iff.mp H
      obtain ⟨t245, A40, H⟩ := H
      replace H : (if (((⟨#[103, 114, 97, 110, 116, 32]⟩ : ByteArray) ++ a0_0) ++ (⟨#[32]⟩ : ByteArray)).size + t245.size ≤ 9223372036854775807 then (if ((((⟨#[103, 114, 97, 110, 116, 32]⟩ : ByteArray) ++ a0_0) ++ (⟨#[32]⟩ : ByteArray)) ++ t245).size + 1 ≤ 9223372036854775807 then ((spec_l00Digits.f k a0_2).bind fun t246 => (if (((((⟨#[103, 114, 97, 110, 116, 32]⟩ : ByteArray) ++ a0_0) ++ (⟨#[32]⟩ : ByteArray)) ++ t245) ++ (⟨#[32]⟩ : ByteArray)).size + t246.size ≤ 9223372036854775807 then (if ((((((⟨#[103, 114, 97, 110, 116, 32]⟩ : ByteArray) ++ a0_0) ++ (⟨#[32]⟩ : ByteArray)) ++ t245) ++ (⟨#[32]⟩ : ByteArray)) ++ t246).size + 1 ≤ 9223372036854775807 then ((spec_l00Digits.f k a0_3).bind fun t247 => (if (((((((⟨#[103, 114, 97, 110, 116, 32]⟩ : ByteArray) ++ a0_0) ++ (⟨#[32]⟩ : ByteArray)) ++ t245) ++ (⟨#[32]⟩ : ByteArray)) ++ t246) ++ (⟨#[32]⟩ : ByteArray)).size + t247.size ≤ 9223372036854775807 then (some ((((((((⟨#[103, 114, 97, 110, 116, 32]⟩ : ByteArray) ++ a0_0) ++ (⟨#[32]⟩ : ByteArray)) ++ t245) ++ (⟨#[32]⟩ : ByteArray)) ++ t246) ++ (⟨#[32]⟩ : ByteArray)) ++ t247)) else (none))) else (none)) else (none))) else (none)) else (none)) = some r := H
      have A4 := Aside0.mk A40
      clear A40
      by_cases c5 : (((⟨#[103, 114, 97, 110, 116, 32]⟩ : ByteArray) ++ a0_0) ++ (⟨#[32]⟩ : ByteArray)).size + t245.size ≤ 9223372036854775807
      · rw [if_pos c5] at H
        have c5b0 := eq_true c5
        have c5b1 : decide ((((⟨#[103, 114, 97, 110, 116, 32]⟩ : ByteArray) ++ a0_0) ++ (⟨#[32]⟩ : ByteArray)).size + t245.size ≤ 9223372036854775807) = true := decide_eq_true c5
        try have c5b2 : (9223372036854775807 < (((⟨#[103, 114, 97, 110, 116, 32]⟩ : ByteArray) ++ a0_0) ++ (⟨#[32]⟩ : ByteArray)).size + t245.size) = False := eq_false (Nat.not_lt.2 c5)
        (try have c5b3 := c5b2; simp only [ByteArray.size_append, show (⟨#[103, 114, 97, 110, 116, 32]⟩ : ByteArray).size = 6 from rfl, show (⟨#[32]⟩ : ByteArray).size = 1 from rfl] at c5b3)
        by_cases c6 : ((((⟨#[103, 114, 97, 110, 116, 32]⟩ : ByteArray) ++ a0_0) ++ (⟨#[32]⟩ : ByteArray)) ++ t245).size + 1 ≤ 9223372036854775807
        · rw [if_pos c6] at H
          have c6b0 := eq_true c6
          have c6b1 : decide (((((⟨#[103, 114, 97, 110, 116, 32]⟩ : ByteArray) ++ a0_0) ++ (⟨#[32]⟩ : ByteArray)) ++ t245).size + 1 ≤ 9223372036854775807) = true := decide_eq_true c6
          try have c6b2 : (9223372036854775807 < ((((⟨#[103, 114, 97, 110, 116, 32]⟩ : ByteArray) ++ a0_0) ++ (⟨#[32]⟩ : ByteArray)) ++ t245).size + 1) = False := eq_false (Nat.not_lt.2 c6)
          (try have c6b3 := c6b2; simp only [ByteArray.size_append, show (⟨#[103, 114, 97, 110, 116, 32]⟩ : ByteArray).size = 6 from rfl, show (⟨#[32]⟩ : ByteArray).size = 1 from rfl] at c6b3)
          replace H := Option.bind_eq_some_iff.mp H
          obtain ⟨t246, A70, H⟩ := H
          replace H : (if (((((⟨#[103, 114, 97, 110, 116, 32]⟩ : ByteArray) ++ a0_0) ++ (⟨#[32]⟩ : ByteArray)) ++ t245) ++ (⟨#[32]⟩ : ByteArray)).size + t246.size ≤ 9223372036854775807 then (if ((((((⟨#[103, 114, 97, 110, 116, 32]⟩ : ByteArray) ++ a0_0) ++ (⟨#[32]⟩ : ByteArray)) ++ t245) ++ (⟨#[32]⟩ : ByteArray)) ++ t246).size + 1 ≤ 9223372036854775807 then ((spec_l00Digits.f k a0_3).bind fun t247 => (if (((((((⟨#[103, 114, 97, 110, 116, 32]⟩ : ByteArray) ++ a0_0) ++ (⟨#[32]⟩ : ByteArray)) ++ t245) ++ (⟨#[32]⟩ : ByteArray)) ++ t246) ++ (⟨#[32]⟩ : ByteArray)).size + t247.size ≤ 9223372036854775807 then (some ((((((((⟨#[103, 114, 97, 110, 116, 32]⟩ : ByteArray) ++ a0_0) ++ (⟨#[32]⟩ : ByteArray)) ++ t245) ++ (⟨#[32]⟩ : ByteArray)) ++ t246) ++ (⟨#[32]⟩ : ByteArray)) ++ t247)) else (none))) else (none)) else (none)) = some r := H
          have A7 := Aside0.mk A70
          clear A70
          by_cases c8 : (((((⟨#[103, 114, 97, 110, 116, 32]⟩ : ByteArray) ++ a0_0) ++ (⟨#[32]⟩ : ByteArray)) ++ t245) ++ (⟨#[32]⟩ : ByteArray)).size + t246.size ≤ 9223372036854775807
          · rw [if_pos c8] at H
            have c8b0 := eq_true c8
            have c8b1 : decide ((((((⟨#[103, 114, 97, 110, 116, 32]⟩ : ByteArray) ++ a0_0) ++ (⟨#[32]⟩ : ByteArray)) ++ t245) ++ (⟨#[32]⟩ : ByteArray)).size + t246.size ≤ 9223372036854775807) = true := decide_eq_true c8
            try have c8b2 : (9223372036854775807 < (((((⟨#[103, 114, 97, 110, 116, 32]⟩ : ByteArray) ++ a0_0) ++ (⟨#[32]⟩ : ByteArray)) ++ t245) ++ (⟨#[32]⟩ : ByteArray)).size + t246.size) = False := eq_false (Nat.not_lt.2 c8)
            (try have c8b3 := c8b2; simp only [ByteArray.size_append, show (⟨#[103, 114, 97, 110, 116, 32]⟩ : ByteArray).size = 6 from rfl, show (⟨#[32]⟩ : ByteArray).size = 1 from rfl] at c8b3)
            by_cases c9 : ((((((⟨#[103, 114, 97, 110, 116, 32]⟩ : ByteArray) ++ a0_0) ++ (⟨#[32]⟩ : ByteArray)) ++ t245) ++ (⟨#[32]⟩ : ByteArray)) ++ t246).size + 1 ≤ 9223372036854775807
            · rw [if_pos c9] at H
              have c9b0 := eq_true c9
              have c9b1 : decide (((((((⟨#[103, 114, 97, 110, 116, 32]⟩ : ByteArray) ++ a0_0) ++ (⟨#[32]⟩ : ByteArray)) ++ t245) ++ (⟨#[32]⟩ : ByteArray)) ++ t246).size + 1 ≤ 9223372036854775807) = true := decide_eq_true c9
              try have c9b2 : (9223372036854775807 < ((((((⟨#[103, 114, 97, 110, 116, 32]⟩ : ByteArray) ++ a0_0) ++ (⟨#[32]⟩ : ByteArray)) ++ t245) ++ (⟨#[32]⟩ : ByteArray)) ++ t246).size + 1) = False := eq_false (Nat.not_lt.2 c9)
              (try have c9b3 := c9b2; simp only [ByteArray.size_append, show (⟨#[103, 114, 97, 110, 116, 32]⟩ : ByteArray).size = 6 from rfl, show (⟨#[32]⟩ : ByteArray).size = 1 from rfl] at c9b3)
              replace H := Option.bind_eq_some_iff.mp H
              obtain ⟨t247, A100, H⟩ := H
              replace H : (if (((((((⟨#[103, 114, 97, 110, 116, 32]⟩ : ByteArray) ++ a0_0) ++ (⟨#[32]⟩ : ByteArray)) ++ t245) ++ (⟨#[32]⟩ : ByteArray)) ++ t246) ++ (⟨#[32]⟩ : ByteArray)).size + t247.size ≤ 9223372036854775807 then (some ((((((((⟨#[103, 114, 97, 110, 116, 32]⟩ : ByteArray) ++ a0_0) ++ (⟨#[32]⟩ : ByteArray)) ++ t245) ++ (⟨#[32]⟩ : ByteArray)) ++ t246) ++ (⟨#[32]⟩ : ByteArray)) ++ t247)) else (none)) = some r := H
              have A10 := Aside0.mk A100
              clear A100
              by_cases c11 : (((((((⟨#[103, 114, 97, 110, 116, 32]⟩ : ByteArray) ++ a0_0) ++ (⟨#[32]⟩ : ByteArray)) ++ t245) ++ (⟨#[32]⟩ : ByteArray)) ++ t246) ++ (⟨#[32]⟩ : ByteArray)).size + t247.size ≤ 9223372036854775807
              · rw [if_pos c11] at H
                have c11b0 := eq_true c11
                have c11b1 : decide ((((((((⟨#[103, 114, 97, 110, 116, 32]⟩ : ByteArray) ++ a0_0) ++ (⟨#[32]⟩ : ByteArray)) ++ t245) ++ (⟨#[32]⟩ : ByteArray)) ++ t246) ++ (⟨#[32]⟩ : ByteArray)).size + t247.size ≤ 9223372036854775807) = true := decide_eq_true c11
                try have c11b2 : (9223372036854775807 < (((((((⟨#[103, 114, 97, 110, 116, 32]⟩ : ByteArray) ++ a0_0) ++ (⟨#[32]⟩ : ByteArray)) ++ t245) ++ (⟨#[32]⟩ : ByteArray)) ++ t246) ++ (⟨#[32]⟩ : ByteArray)).size + t247.size) = False := eq_false (Nat.not_lt.2 c11)
                (try have c11b3 := c11b2; simp only [ByteArray.size_append, show (⟨#[103, 114, 97, 110, 116, 32]⟩ : ByteArray).size = 6 from rfl, show (⟨#[32]⟩ : ByteArray).size = 1 from rfl] at c11b3)
                obtain rfl := Option.some.inj H
                go_enter Tryd.func22, Tryd.ntmps22
                try go_wp2_with (first | ((with_reducible refine gate_dst (N := 1) rfl ?_); refine zbx (N := 1) (cs := #[.string a0_0, .int .i64 a0_1, .int .i64 a0_2, .int .i64 a0_3]) (t := 23) ?_; intro gb244 hg w12 hbox hb; have BK244 := Aside0.mk (hbox); have GW244 := zw_ HB hg; have GE244 := zw_ HB hg; replace HB := zs_ HB hb; clear hb hbox hg))
                replace BK244 := Aside0.mk (blk_drew BK244.out)
                replace HB := Aside0.mk (below_drew1 HB.out)
                refine start_ (n := 19) (S := fun w' => w'.cell? ⟨gb244, 0, none⟩ = some (.string a0_0) ∧ w'.cell? ⟨gb244, 1, none⟩ = some (.int .i64 a0_1) ∧ w'.cell? ⟨gb244, 2, none⟩ = some (.int .i64 a0_2) ∧ w'.cell? ⟨gb244, 3, none⟩ = some (.int .i64 a0_3)) (ds := []) #[false, false, false, false, false, false, false, false, false, false, false, false, false, false, false, false, false, false, false] (by kernel_rfl) rfl rfl ⟨(blk_cell BK244.out 0).trans rfl, (blk_cell BK244.out 1).trans rfl, (blk_cell BK244.out 2).trans rfl, (blk_cell BK244.out 3).trans rfl⟩ (fun hHeld => ?_); refine with_tabW spec_l12Text.tab1 spec_l12Text.bits1 (fun HT_ HW_ => ?_)
                generalize w12.drew = w13 at BK244 HB hHeld ⊢
                refine zpu 0 (N := some 3) HT_ ?_
                refine zpu 4 (N := some 7) HT_ ?_
                refine zpu 9 (N := some 12) HT_ ?_
                refine zpu 14 (N := some 17) HT_ ?_
                refine ztk 1 (N := some 4) HT_ HW_ hHeld ?_
                refine zpu 2 (N := some 5) HT_ ?_
                refine zpu 3 (N := some 6) HT_ ?_
                refine ztk 5 (N := some 8) HT_ HW_ hHeld ?_
                refine ztk 10 (N := some 13) HT_ HW_ hHeld ?_
                refine ztk 15 (N := some 18) HT_ HW_ hHeld ?_
                refine zon 6 (N := some 9) HT_ (fun K hK => ?_)
                refine zgo Tryd.func36 #[.int .i64 a0_1] ?_
                with_reducible refine (spec_l00Digits.calls k a0_1 t245 _ A4.out).mono ?_
                rintro e w14 ⟨rfl, hb⟩
                refine ⟨_, rfl, ?_⟩
                replace BK244 := zb BK244 hb
                replace HB := zs_ HB hb
                (try clear hb)
                (try clear hb2)
                (try clear hk)
                (try clear hi)
                refine hK.out _ _ ⟨(blk_cell BK244.out 0).trans rfl, (blk_cell BK244.out 1).trans rfl, (blk_cell BK244.out 2).trans rfl, (blk_cell BK244.out 3).trans rfl⟩ (fun hHeld => ?_)
                clear hK K
                refine norm_ (a' := ?_) ?_ ?_
                rotate_left
                · show Act.put _ (some 9) _ = _
                  simp only [Act.put, List.setIfInBounds_toArray, List.set_cons_zero, List.set_cons_succ, i64_w, i32_w]
                  rfl
                refine zpu 7 (N := some 10) HT_ ?_
                refine zpu 8 (N := some 11) HT_ ?_
                refine zon 11 (N := some 14) HT_ (fun K hK => ?_)
                refine zgo Tryd.func36 #[.int .i64 a0_2] ?_
                with_reducible refine (spec_l00Digits.calls k a0_2 t246 _ A7.out).mono ?_
                rintro e w15 ⟨rfl, hb⟩
                refine ⟨_, rfl, ?_⟩
                replace BK244 := zb BK244 hb
                replace HB := zs_ HB hb
                (try clear hb)
                (try clear hb2)
                (try clear hk)
                (try clear hi)
                refine hK.out _ _ ⟨(blk_cell BK244.out 0).trans rfl, (blk_cell BK244.out 1).trans rfl, (blk_cell BK244.out 2).trans rfl, (blk_cell BK244.out 3).trans rfl⟩ (fun hHeld => ?_)
                clear hK K
                refine norm_ (a' := ?_) ?_ ?_
                rotate_left
                · show Act.put _ (some 14) _ = _
                  simp only [Act.put, List.setIfInBounds_toArray, List.set_cons_zero, List.set_cons_succ, i64_w, i32_w]
                  rfl
                refine zpu 12 (N := some 15) HT_ ?_
                refine zpu 13 (N := some 16) HT_ ?_
                refine zon 16 (N := some 19) HT_ (fun K hK => ?_)
                refine zgo Tryd.func36 #[.int .i64 a0_3] ?_
                with_reducible refine (spec_l00Digits.calls k a0_3 t247 _ A10.out).mono ?_
                rintro e w16 ⟨rfl, hb⟩
                refine ⟨_, rfl, ?_⟩
                replace BK244 := zb BK244 hb
                replace HB := zs_ HB hb
                (try clear hb)
                (try clear hb2)
                (try clear hk)
                (try clear hi)
                refine hK.out _ _ ⟨(blk_cell BK244.out 0).trans rfl, (blk_cell BK244.out 1).trans rfl, (blk_cell BK244.out 2).trans rfl, (blk_cell BK244.out 3).trans rfl⟩ (fun hHeld => ?_)
                clear hK K
                refine norm_ (a' := ?_) ?_ ?_
                rotate_left
                · show Act.put _ (some 19) _ = _
                  simp only [Act.put, List.setIfInBounds_toArray, List.set_cons_zero, List.set_cons_succ, i64_w, i32_w]
                  rfl
                refine zpu 17 (N := some 20) HT_ ?_
                refine zpu 18 (N := some 2) HT_ ?_
                refine done_ (done_of HT_.out (by kernel_rfl)) ?_
                try go_wp2
                go_ret
                exact ⟨zt_, zl_ HB⟩
              · rw [if_neg c11] at H
                exact absurd H (by simp)
            · rw [if_neg c9] at H
              exact absurd H (by simp)
          · rw [if_neg c8] at H
            exact absurd H (by simp)
        · rw [if_neg c6] at H
          exact absurd H (by simp)
      · rw [if_neg c5] at H
        exact absurd H (by simp)
    · rw [if_neg c3] at H
      exact absurd H (by simp)
  · rw [if_neg c2] at H
    exact absurd H (by simp)
end Go.Proofs.YtioocldcdonlpaaDoor.A
end

section
namespace Go.Proofs.YtioocldcdonlpaaDoor.A
open Go.RowKit Go.Proofs.YtioocldcdonlpaaDoorW.PrintWords Go.Proofs.YtioocldcdonlpaaDoorW.PrintLast Go.Proofs.YtioocldcdonlpaaDoorW.PrintMore
attribute [local go_sem] max2_int min2_int max_two min_two max_three min_three max_four min_four
set_option maxHeartbeats 8000000 in
set_option maxRecDepth 100000 in
theorem spec_GrantText.calls (k : Nat) (a0_0 : ByteArray) (a0_1 : Int) (a0_2 : Int) (a0_3 : Int) (r1 : ByteArray) (r2 : Int) (w : World) (h : spec_GrantText.f k a0_0 a0_1 a0_2 a0_3 = some (r1, r2)) :
    Calls Tryd.prog 10 #[.agg #[.string a0_0, .int .i64 a0_1, .int .i64 a0_2, .int .i64 a0_3]] w fun e w' => e = .returned (.tuple #[.string r1, .int .i64 r2]) ∧ Below w.heap.size w w' := by
  have hu23 := Tryd.underlying23
  have HB := Aside0.mk (Below.refl w.heap.size w)
  have H : ((spec_GrantOK.f k a0_0 a0_1 a0_2 a0_3).bind fun t249 => (if t249 = true then ((spec_l12Text.f k a0_0 a0_1 a0_2 a0_3).bind fun t250 => (some (t250, 0))) else (some ((⟨#[]⟩ : ByteArray), 1)))) = some (r1, r2) := h
  clear h
  replace H := Option.bind_eq_some_iff.mp H
  obtain ⟨t249, A20, H⟩ := H
  replace H : (if t249 = true then ((spec_l12Text.f k a0_0 a0_1 a0_2 a0_3).bind fun t250 => (some (t250, 0))) else (some ((⟨#[]⟩ : ByteArray), 1))) = some (r1, r2) := H
  have A2 := Aside0.mk A20
  clear A20
  by_cases c3 : t249 = true
  · subst c3
    have H1 : ((spec_l12Text.f k a0_0 a0_1 a0_2 a0_3).bind fun t250 => (some (t250, 0))) = some (r1, r2) := by rw [if_pos rfl] at H; exact H
    clear H
    have H := H1
    clear H1
    replace H := Option.bind_eq_some_iff.mp H
    obtain ⟨t250, A40, H⟩ := H
    replace H : (some (t250, 0)) = some (r1, r2) := H
    have A4 := Aside0.mk A40
    clear A40
    simp only [Option.some.injEq, Prod.mk.injEq] at H
    obtain ⟨rfl, rfl⟩ := H
    go_enter Tryd.func10, Tryd.ntmps10
    go_wp2_with (first | ((with_reducible refine gate_dst (N := 1) rfl ?_); refine zbx (N := 1) (cs := #[.string a0_0, .int .i64 a0_1, .int .i64 a0_2, .int .i64 a0_3]) (t := 23) ?_; intro gb248 hg w5 hbox hb; have BK248 := Aside0.mk (hbox); have GW248 := zw_ HB hg; have GE248 := zw_ HB hg; replace HB := zs_ HB hb; clear hb hbox hg; obtain ⟨hcz6_0, hcz6_1, hcz6_2, hcz6_3, hfz6_0, hfz6_1, hfz6_2, hfz6_3⟩ := zc4 BK248) | ((with_reducible refine gate_callee (f := 15) rfl ?_); refine zgl (some 5) Tryd.func15 #[.agg #[.string a0_0, .int .i64 a0_1, .int .i64 a0_2, .int .i64 a0_3]] ?_; (with_reducible refine (spec_GrantOK.calls k a0_0 a0_1 a0_2 a0_3 true _ A2.out).mono ?_); rintro e w7 ⟨rfl, hb⟩; refine ⟨_, rfl, ?_⟩; replace BK248 := zb BK248 hb; replace HB := zs_ HB hb; (try clear hb); (try clear hb2); (try clear hk); (try clear hi); obtain ⟨hcz8_0, hcz8_1, hcz8_2, hcz8_3, hfz8_0, hfz8_1, hfz8_2, hfz8_3⟩ := zc4 BK248) | ((with_reducible refine gate_callee (f := 22) rfl ?_); refine zgl (some 8) Tryd.func22 #[.agg #[.string a0_0, .int .i64 a0_1, .int .i64 a0_2, .int .i64 a0_3]] ?_; (with_reducible refine (spec_l12Text.calls k a0_0 a0_1 a0_2 a0_3 t250 _ A4.out).mono ?_); rintro e w9 ⟨rfl, hb⟩; refine ⟨_, rfl, ?_⟩; replace BK248 := zb BK248 hb; replace HB := zs_ HB hb; (try clear hb); (try clear hb2); (try clear hk); (try clear hi)))
    go_ret2
    exact ⟨zt_, zl_ HB⟩
  · replace c3 := Bool.eq_false_iff.mpr c3
    subst c3
    have H1 : (some ((⟨#[]⟩ : ByteArray), 1)) = some (r1, r2) := by rw [if_neg (show ¬ (false = true) by decide)] at H; exact H
    clear H
    have H := H1
    clear H1
    simp only [Option.some.injEq, Prod.mk.injEq] at H
    obtain ⟨rfl, rfl⟩ := H
    go_enter Tryd.func10, Tryd.ntmps10
    go_wp2_with (first | ((with_reducible refine gate_dst (N := 1) rfl ?_); refine zbx (N := 1) (cs := #[.string a0_0, .int .i64 a0_1, .int .i64 a0_2, .int .i64 a0_3]) (t := 23) ?_; intro gb248 hg w10 hbox hb; have BK248 := Aside0.mk (hbox); have GW248 := zw_ HB hg; have GE248 := zw_ HB hg; replace HB := zs_ HB hb; clear hb hbox hg; obtain ⟨hcz11_0, hcz11_1, hcz11_2, hcz11_3, hfz11_0, hfz11_1, hfz11_2, hfz11_3⟩ := zc4 BK248) | ((with_reducible refine gate_callee (f := 15) rfl ?_); refine zgl (some 5) Tryd.func15 #[.agg #[.string a0_0, .int .i64 a0_1, .int .i64 a0_2, .int .i64 a0_3]] ?_; (with_reducible refine (spec_GrantOK.calls k a0_0 a0_1 a0_2 a0_3 false _ A2.out).mono ?_); rintro e w12 ⟨rfl, hb⟩; refine ⟨_, rfl, ?_⟩; replace HB := zs_ HB hb; (try clear hb); (try clear hb2); (try clear hk); (try clear hi)))
    go_ret2
    exact ⟨zt_, zl_ HB⟩
end Go.Proofs.YtioocldcdonlpaaDoor.A
end

section
namespace Go.Proofs.YtioocldcdonlpaaDoor.A
open Go.RowKit Go.Proofs.YtioocldcdonlpaaDoorW.PrintWords Go.Proofs.YtioocldcdonlpaaDoorW.PrintLast Go.Proofs.YtioocldcdonlpaaDoorW.PrintMore
attribute [local go_sem] max2_int min2_int max_two min_two max_three min_three max_four min_four
attribute [local go_sem high] eqA23
set_option maxHeartbeats 8000000 in
set_option maxRecDepth 100000 in
theorem laws_FnGrantTexts.calls (k : Nat) (A0 : Option Addr) (c0 : Nat) (l0 : List Int) (A1 : Option Addr) (c1 : Nat) (l1 : List Int) (r : Bool) (w : World) (hr0 : Kd.C (Kd.int .u8) w A0 l0.length l0) (hc0 : l0.length ≤ c0) (hr1 : Kd.C (Kd.int .u8) w A1 l1.length l1) (hc1 : l1.length ≤ c1) (hT : LaidT w) (h : laws_FnGrantTexts.f k l0 l1 = some r) :
    Calls Tryd.prog 4 #[.slice A0 l0.length c0, .slice A1 l1.length c1] w fun e w' => e = .returned (.bool r) ∧ Below w.heap.size w w' := by
  have hu23 := Tryd.underlying23
  have HR0 := Aside0.mk hr0
  have HC0 := Aside0.mk hc0
  clear hr0 hc0
  have HR1 := Aside0.mk hr1
  have HC1 := Aside0.mk hc1
  clear hr1 hc1
  have HTD := Aside0.mk hT
  clear hT
  have HB := Aside0.mk (Below.refl w.heap.size w)
  have H : (if (l0.length : Int) > 1048576 then (laws_FnGrantTexts.j0 k l0 l1 true) else (laws_FnGrantTexts.j0 k l0 l1 (decide ((l1.length : Int) > 1048576)))) = some r := h
  clear h
  have HC3 := Aside0.mk H
  clear H
  go_enter Tryd.func4, Tryd.ntmps4
  go_upto_region 1 with (fail)
  go_cut [24] (fun v24 wc => ∃ (kq : Nat) (x24_2 : Bool), v24 = .bool x24_2 ∧ Aside0 (laws_FnGrantTexts.j0 kq l0 l1 x24_2 = some r) ∧ Aside0 (kq ≤ k) ∧ Aside0 (Below w.heap.size w wc))
  case first =>
    have H := HC3.out
    clear HC3
    by_cases c4 : (l0.length : Int) > 1048576
    · rw [if_pos c4] at H
      have c4b0 : decide (1048576 < (l0.length : Int)) = true := decide_eq_true c4
      have c4b1 : decide (1048576 < l0.length) = true := decide_eq_true (by omega)
      clear c4
      (first | rw [c4b0] | (simp only [i64_w, i32_w]; rw [c4b0]) | skip)
      have H' := Aside0.mk H
      clear H
      go_wp2
      go_meet
      case rel => exact ⟨_, (true), (by first | rfl | (simp; done) | (simp [*]; done)), H', ⟨by first | omega | exact Nat.le_refl _⟩, ⟨zl_ HB⟩⟩
    · rw [if_neg c4] at H
      have c4b0 : decide (1048576 < (l0.length : Int)) = false := decide_eq_false c4
      have c4b1 : decide (1048576 < l0.length) = false := decide_eq_false (by omega)
      clear c4
      (first | rw [c4b0] | (simp only [i64_w, i32_w]; rw [c4b0]) | skip)
      have H' := Aside0.mk H
      clear H
      go_wp2
      go_meet
      case rel => exact ⟨_, (decide ((l1.length : Int) > 1048576)), (by first | rfl | (simp; done) | (simp [*]; done)), H', ⟨by first | omega | exact Nat.le_refl _⟩, ⟨zl_ HB⟩⟩
  case rest =>
    clear HC3
    try clear c1
    try clear p2
    try clear c4
    try clear c4b0
    try clear c4b1
    obtain ⟨kq, x24_2, rfl, HA, HJ2, HB⟩ := hcut
    cases kq with
    | zero => exact absurd HA.out (by simp [laws_FnGrantTexts.j0])
    | succ kj2 =>
      have H := HA.out
      clear HA
      simp only [laws_FnGrantTexts.j0] at H
      by_cases c5 : x24_2 = true
      · subst c5
        have H1 : (some true) = some r := by rw [if_pos rfl] at H; exact H
        clear H
        have H := H1
        clear H1
        obtain rfl := Option.some.inj H
        go_wp2
        go_ret
        exact ⟨zt_, zl_ HB⟩
      · replace c5 := Bool.eq_false_iff.mpr c5
        subst c5
        have H1 : ((spec_GrantOf.f l0).bind fun bt259 => ((spec_GrantOf.f l1).bind fun bt264 => ((impl_GrantText.f kj2 bt259.1 bt259.2.1 bt259.2.2.1 bt259.2.2.2).bind fun bt269 => ((spec_GrantText.f kj2 bt259.1 bt259.2.1 bt259.2.2.1 bt259.2.2.2).bind fun bt271 => ((impl_ReadGrant.f kj2 bt269.1).bind fun bt273 => (if bt269.2 = 0 then (if bt269.1.toList = bt271.1.toList then (if bt273.2.2.2.2 = 0 then (if (!(bt273.1.toList == bt259.1.toList) || (!(bt273.2.1 == bt259.2.1) || (!(bt273.2.2.1 == bt259.2.2.1) || (!(bt273.2.2.2.1 == bt259.2.2.2))))) = true then (laws_FnGrantTexts.j1 kj2 true bt259.1 bt259.2.1 bt259.2.2.1 bt259.2.2.2 bt264.1 bt264.2.1 bt264.2.2.1 bt264.2.2.2) else ((impl_GrantOK.f kj2 bt259.1 bt259.2.1 bt259.2.2.1 bt259.2.2.2).bind fun t279 => (laws_FnGrantTexts.j1 kj2 (!t279) bt259.1 bt259.2.1 bt259.2.2.1 bt259.2.2.2 bt264.1 bt264.2.1 bt264.2.2.1 bt264.2.2.2))) else (laws_FnGrantTexts.j1 kj2 true bt259.1 bt259.2.1 bt259.2.2.1 bt259.2.2.2 bt264.1 bt264.2.1 bt264.2.2.1 bt264.2.2.2)) else (laws_FnGrantTexts.j1 kj2 true bt259.1 bt259.2.1 bt259.2.2.1 bt259.2.2.2 bt264.1 bt264.2.1 bt264.2.2.1 bt264.2.2.2)) else (laws_FnGrantTexts.j1 kj2 true bt259.1 bt259.2.1 bt259.2.2.1 bt259.2.2.2 bt264.1 bt264.2.1 bt264.2.2.1 bt264.2.2.2))))))) = some r := by rw [if_neg (show ¬ (false = true) by decide)] at H; exact H
        clear H
        have H := H1
        clear H1
        replace H := Option.bind_eq_some_iff.mp H
        obtain ⟨⟨t259, t260, t261, t262⟩, A60, H⟩ := H
        replace H : ((spec_GrantOf.f l1).bind fun bt264 => ((impl_GrantText.f kj2 t259 t260 t261 t262).bind fun bt269 => ((spec_GrantText.f kj2 t259 t260 t261 t262).bind fun bt271 => ((impl_ReadGrant.f kj2 bt269.1).bind fun bt273 => (if bt269.2 = 0 then (if bt269.1.toList = bt271.1.toList then (if bt273.2.2.2.2 = 0 then (if (!(bt273.1.toList == t259.toList) || (!(bt273.2.1 == t260) || (!(bt273.2.2.1 == t261) || (!(bt273.2.2.2.1 == t262))))) = true then (laws_FnGrantTexts.j1 kj2 true t259 t260 t261 t262 bt264.1 bt264.2.1 bt264.2.2.1 bt264.2.2.2) else ((impl_GrantOK.f kj2 t259 t260 t261 t262).bind fun t279 => (laws_FnGrantTexts.j1 kj2 (!t279) t259 t260 t261 t262 bt264.1 bt264.2.1 bt264.2.2.1 bt264.2.2.2))) else (laws_FnGrantTexts.j1 kj2 true t259 t260 t261 t262 bt264.1 bt264.2.1 bt264.2.2.1 bt264.2.2.2)) else (laws_FnGrantTexts.j1 kj2 true t259 t260 t261 t262 bt264.1 bt264.2.1 bt264.2.2.1 bt264.2.2.2)) else (laws_FnGrantTexts.j1 kj2 true t259 t260 t261 t262 bt264.1 bt264.2.1 bt264.2.2.1 bt264.2.2.2)))))) = some r := H
        have A6 := Aside0.mk A60
        clear A60
        replace H := Option.bind_eq_some_iff.mp H
        obtain ⟨⟨t264, t265, t266, t267⟩, A70, H⟩ := H
        replace H : ((impl_GrantText.f kj2 t259 t260 t261 t262).bind fun bt269 => ((spec_GrantText.f kj2 t259 t260 t261 t262).bind fun bt271 => ((impl_ReadGrant.f kj2 bt269.1).bind fun bt273 => (if bt269.2 = 0 then (if bt269.1.toList = bt271.1.toList then (if bt273.2.2.2.2 = 0 then (if (!(bt273.1.toList == t259.toList) || (!(bt273.2.1 == t260) || (!(bt273.2.2.1 == t261) || (!(bt273.2.2.2.1 == t262))))) = true then (laws_FnGrantTexts.j1 kj2 true t259 t260 t261 t262 t264 t265 t266 t267) else ((impl_GrantOK.f kj2 t259 t260 t261 t262).bind fun t279 => (laws_FnGrantTexts.j1 kj2 (!t279) t259 t260 t261 t262 t264 t265 t266 t267))) else (laws_FnGrantTexts.j1 kj2 true t259 t260 t261 t262 t264 t265 t266 t267)) else (laws_FnGrantTexts.j1 kj2 true t259 t260 t261 t262 t264 t265 t266 t267)) else (laws_FnGrantTexts.j1 kj2 true t259 t260 t261 t262 t264 t265 t266 t267))))) = some r := H
        have A7 := Aside0.mk A70
        clear A70
        replace H := Option.bind_eq_some_iff.mp H
        obtain ⟨⟨t269, t270⟩, A80, H⟩ := H
        replace H : ((spec_GrantText.f kj2 t259 t260 t261 t262).bind fun bt271 => ((impl_ReadGrant.f kj2 t269).bind fun bt273 => (if t270 = 0 then (if t269.toList = bt271.1.toList then (if bt273.2.2.2.2 = 0 then (if (!(bt273.1.toList == t259.toList) || (!(bt273.2.1 == t260) || (!(bt273.2.2.1 == t261) || (!(bt273.2.2.2.1 == t262))))) = true then (laws_FnGrantTexts.j1 kj2 true t259 t260 t261 t262 t264 t265 t266 t267) else ((impl_GrantOK.f kj2 t259 t260 t261 t262).bind fun t279 => (laws_FnGrantTexts.j1 kj2 (!t279) t259 t260 t261 t262 t264 t265 t266 t267))) else (laws_FnGrantTexts.j1 kj2 true t259 t260 t261 t262 t264 t265 t266 t267)) else (laws_FnGrantTexts.j1 kj2 true t259 t260 t261 t262 t264 t265 t266 t267)) else (laws_FnGrantTexts.j1 kj2 true t259 t260 t261 t262 t264 t265 t266 t267)))) = some r := H
        have A8 := Aside0.mk A80
        clear A80
        replace H := Option.bind_eq_some_iff.mp H
        obtain ⟨⟨t271, t272⟩, A90, H⟩ := H
        replace H : ((impl_ReadGrant.f kj2 t269).bind fun bt273 => (if t270 = 0 then (if t269.toList = t271.toList then (if bt273.2.2.2.2 = 0 then (if (!(bt273.1.toList == t259.toList) || (!(bt273.2.1 == t260) || (!(bt273.2.2.1 == t261) || (!(bt273.2.2.2.1 == t262))))) = true then (laws_FnGrantTexts.j1 kj2 true t259 t260 t261 t262 t264 t265 t266 t267) else ((impl_GrantOK.f kj2 t259 t260 t261 t262).bind fun t279 => (laws_FnGrantTexts.j1 kj2 (!t279) t259 t260 t261 t262 t264 t265 t266 t267))) else (laws_FnGrantTexts.j1 kj2 true t259 t260 t261 t262 t264 t265 t266 t267)) else (laws_FnGrantTexts.j1 kj2 true t259 t260 t261 t262 t264 t265 t266 t267)) else (laws_FnGrantTexts.j1 kj2 true t259 t260 t261 t262 t264 t265 t266 t267))) = some r := H
        have A9 := Aside0.mk A90
        clear A90
        replace H := Option.bind_eq_some_iff.mp H
        obtain ⟨⟨t273, t274, t275, t276, t277⟩, A100, H⟩ := H
        replace H : (if t270 = 0 then (if t269.toList = t271.toList then (if t277 = 0 then (if (!(t273.toList == t259.toList) || (!(t274 == t260) || (!(t275 == t261) || (!(t276 == t262))))) = true then (laws_FnGrantTexts.j1 kj2 true t259 t260 t261 t262 t264 t265 t266 t267) else ((impl_GrantOK.f kj2 t259 t260 t261 t262).bind fun t279 => (laws_FnGrantTexts.j1 kj2 (!t279) t259 t260 t261 t262 t264 t265 t266 t267))) else (laws_FnGrantTexts.j1 kj2 true t259 t260 t261 t262 t264 t265 t266 t267)) else (laws_FnGrantTexts.j1 kj2 true t259 t260 t261 t262 t264 t265 t266 t267)) else (laws_FnGrantTexts.j1 kj2 true t259 t260 t261 t262 t264 t265 t266 t267)) = some r := H
        have A10 := Aside0.mk A100
        clear A100
        have HC11 := Aside0.mk H
        clear H
        go_upto_region 8 with (first | ((with_reducible refine gate_callee (f := 8) rfl ?_); refine zgl (some 26) Tryd.func8 #[.slice A0 l0.length c0] ?_; (with_reducible refine (spec_GrantOf.calls _ _ l0 t259 t260 t261 t262 _ ?side1 ?side2 A6.out).mono ?_); (case side1 => exact zc_ HR0 HB); (case side2 => exact HC0.out); rintro e w12 ⟨rfl, hb⟩; refine ⟨_, rfl, ?_⟩; replace HB := zs_ HB hb; (try clear hb); (try clear hb2); (try clear hk); (try clear hi)) | ((with_reducible refine gate_dst (N := 5) rfl ?_); (try (refine gate_guard (by rfl) ?_; dsimp only)); refine zbx (N := 5) (cs := #[.string (⟨#[]⟩ : ByteArray), .int .i64 0, .int .i64 0, .int .i64 0]) (t := 23) ?_; intro gb263 hg w13 hbox hb; have BK263 := Aside0.mk (hbox); have GW263 := zw_ HB hg; have GE263 := zw_ HB hg; replace HB := zs_ HB hb; clear hb hbox hg; obtain ⟨hcz14_0, hcz14_1, hcz14_2, hcz14_3, hfz14_0, hfz14_1, hfz14_2, hfz14_3⟩ := zc4 BK263) | ((with_reducible refine gate_callee (f := 8) rfl ?_); refine zgl (some 28) Tryd.func8 #[.slice A1 l1.length c1] ?_; (with_reducible refine (spec_GrantOf.calls _ _ l1 t264 t265 t266 t267 _ ?side1 ?side2 A7.out).mono ?_); (case side1 => exact Kd.C_below HR1.out (zl_ HB)); (case side2 => exact HC1.out); rintro e w15 ⟨rfl, hb⟩; refine ⟨_, rfl, ?_⟩; replace BK263 := Aside0.mk (blk_below (g := gb263) (o := .cells #[.string t259, .int .i64 t260, .int .i64 t261, .int .i64 t262] 23 (0, 0)) (zq BK263) hb); replace HB := zs_ HB hb; (try clear hb); (try clear hb2); (try clear hk); (try clear hi)) | ((with_reducible refine gate_dst (N := 6) rfl ?_); (try (refine gate_guard (by rfl) ?_; dsimp only)); refine zbx (N := 6) (cs := #[.string (⟨#[]⟩ : ByteArray), .int .i64 0, .int .i64 0, .int .i64 0]) (t := 23) ?_; intro gb268 hg w16 hbox hb; have BK268 := Aside0.mk (hbox); have GW268 := zw_ HB hg; have GE268 := zw_ HB hg; replace HB := zs_ HB hb; have NB263_268 := zl hg BK263; have NB268_263 := zg hg BK263; replace BK263 := zb BK263 hb; clear hb hbox hg; have hnb17 := NB268_263.out; have hnc17 := NB263_268.out; obtain ⟨hcz18_0, hcz18_1, hcz18_2, hcz18_3, hfz18_0, hfz18_1, hfz18_2, hfz18_3⟩ := zc4 BK268; obtain ⟨hcz19_0, hcz19_1, hcz19_2, hcz19_3, hfz19_0, hfz19_1, hfz19_2, hfz19_3⟩ := zc4 BK263) | ((with_reducible refine gate_callee (f := 9) rfl ?_); refine zgl (some 31) Tryd.func9 #[.agg #[.string t259, .int .i64 t260, .int .i64 t261, .int .i64 t262]] ?_; (with_reducible refine (impl_GrantText.calls kj2 t259 t260 t261 t262 t269 t270 _ ?side1 A8.out).mono ?_); (case side1 => exact HTD.out.on (zl_ HB)); rintro e w20 ⟨rfl, hb⟩; refine ⟨_, rfl, ?_⟩; replace BK263 := Aside0.mk (blk_below (g := gb263) (o := .cells #[.string t259, .int .i64 t260, .int .i64 t261, .int .i64 t262] 23 (0, 0)) (zq BK263) hb); replace BK268 := Aside0.mk (blk_below (g := gb268) (o := .cells #[.string t264, .int .i64 t265, .int .i64 t266, .int .i64 t267] 23 (0, 0)) (zq BK268) hb); replace HB := zs_ HB hb; (try clear hb); (try clear hb2); (try clear hk); (try clear hi); obtain ⟨hcz21_0, hcz21_1, hcz21_2, hcz21_3, hfz21_0, hfz21_1, hfz21_2, hfz21_3⟩ := zc4 BK263) | ((with_reducible refine gate_callee (f := 10) rfl ?_); refine zgl (some 36) Tryd.func10 #[.agg #[.string t259, .int .i64 t260, .int .i64 t261, .int .i64 t262]] ?_; (with_reducible refine (spec_GrantText.calls kj2 t259 t260 t261 t262 t271 t272 _ A9.out).mono ?_); rintro e w22 ⟨rfl, hb⟩; refine ⟨_, rfl, ?_⟩; replace BK263 := zb BK263 hb; replace BK268 := zb BK268 hb; replace HB := zs_ HB hb; (try clear hb); (try clear hb2); (try clear hk); (try clear hi)) | ((with_reducible refine gate_callee (f := 6) rfl ?_); refine zgl (some 41) Tryd.func6 #[.string t269] ?_; (with_reducible refine (impl_ReadGrant.calls kj2 t269 t273 t274 t275 t276 t277 _ ?side1 A10.out).mono ?_); (case side1 => exact HTD.out.on (zl_ HB)); rintro e w23 ⟨rfl, hb⟩; refine ⟨_, rfl, ?_⟩; replace BK263 := zb BK263 hb; replace BK268 := zb BK268 hb; replace HB := zs_ HB hb; (try clear hb); (try clear hb2); (try clear hk); (try clear hi)) | ((with_reducible refine gate_dst (N := 11) rfl ?_); (try (refine gate_guard (by rfl) ?_; dsimp only)); refine zbx (N := 11) (cs := #[.string (⟨#[]⟩ : ByteArray), .int .i64 0, .int .i64 0, .int .i64 0]) (t := 23) ?_; intro gb278 hg w24 hbox hb; have BK278 := Aside0.mk (hbox); have GW278 := zw_ HB hg; have GE278 := zw_ HB hg; replace HB := zs_ HB hb; have NB263_278 := zl hg BK263; have NB278_263 := zg hg BK263; replace BK263 := zb BK263 hb; have NB268_278 := zl hg BK268; have NB278_268 := zg hg BK268; replace BK268 := zb BK268 hb; clear hb hbox hg; have hnb25 := NB278_263.out; have hnc25 := NB263_278.out; have hnb26 := NB278_268.out; have hnc26 := NB268_278.out; obtain ⟨hcz27_0, hcz27_1, hcz27_2, hcz27_3, hfz27_0, hfz27_1, hfz27_2, hfz27_3⟩ := zc4 BK278))
        (try simp only [Act.put, List.setIfInBounds_toArray, List.set_cons_zero, List.set_cons_succ])
        go_cut [64] (fun v64 wc => ∃ (kq : Nat) (x64_10 : Bool), v64 = .bool x64_10 ∧ Aside0 (laws_FnGrantTexts.j1 kq x64_10 t259 t260 t261 t262 t264 t265 t266 t267 = some r) ∧ Aside0 (kq ≤ kj2) ∧ Aside0 (wc.heap[gb263]? = some (.cells #[.string t259, .int .i64 t260, .int .i64 t261, .int .i64 t262] 23 (0, 0))) ∧ Aside0 (wc.heap[gb268]? = some (.cells #[.string t264, .int .i64 t265, .int .i64 t266, .int .i64 t267] 23 (0, 0))) ∧ Aside0 (wc.heap[gb278]? = some (.cells #[.string t273, .int .i64 t274, .int .i64 t275, .int .i64 t276] 23 (0, 0))) ∧ Aside0 (Below w.heap.size w wc))
        case first =>
          have H := HC11.out
          clear HC11
          by_cases c28 : t270 = 0
          · rw [if_pos c28] at H
            have c28b0 : (t270 == 0) = true := beq_iff_eq.mpr c28
            have c28b1 : (t270 != 0) = false := bne_eq_false_iff_eq.mpr c28
            clear c28
            (first | rw [c28b0] | (simp only [i64_w, i32_w]; rw [c28b0]) | skip)
            by_cases c29 : t269.toList = t271.toList
            · rw [if_pos c29] at H
              have c29b0 : (t269.toList == t271.toList) = true := beq_iff_eq.mpr c29
              have c29b1 : (t269.toList != t271.toList) = false := bne_eq_false_iff_eq.mpr c29
              clear c29
              by_cases c30 : t277 = 0
              · rw [if_pos c30] at H
                have c30b0 : (t277 == 0) = true := beq_iff_eq.mpr c30
                have c30b1 : (t277 != 0) = false := bne_eq_false_iff_eq.mpr c30
                clear c30
                by_cases c31 : (!(t273.toList == t259.toList) || (!(t274 == t260) || (!(t275 == t261) || (!(t276 == t262))))) = true
                · rw [if_pos c31] at H
                  have c31k := Aside0.mk c31
                  have c31b0 : (!(t273.toList == t259.toList) || (!(t274 == t260) || (!(t275 == t261) || (!(t276 == t262))))) = true := c31k.out
                  (try simp only [*, Bool.not_true, Bool.not_false, Bool.false_or, Bool.true_or, Bool.or_false, Bool.or_true, Bool.true_and, Bool.and_true, Bool.false_and, Bool.and_false] at c31)
                  have c31bs := c31
                  clear c31k
                  clear c31
                  have H' := Aside0.mk H
                  clear H
                  have hnb32 := NB278_263.out
                  have hnc32 := NB263_278.out
                  have hnb33 := NB278_268.out
                  have hnc33 := NB268_278.out
                  obtain ⟨hcz34_0, hcz34_1, hcz34_2, hcz34_3, hfz34_0, hfz34_1, hfz34_2, hfz34_3⟩ := zc4 BK278
                  have hnb35 := NB263_268.out
                  have hnc35 := NB268_263.out
                  obtain ⟨hcz36_0, hcz36_1, hcz36_2, hcz36_3, hfz36_0, hfz36_1, hfz36_2, hfz36_3⟩ := zc4 BK263
                  go_wp2
                  go_meet
                  case rel => exact ⟨_, (true), (by first | rfl | (simp; done) | (simp [*]; done)), H', ⟨by have := HJ2.out; first | omega | exact Nat.le_refl _⟩, ⟨zq BK263⟩, ⟨zq BK268⟩, ⟨zq BK278⟩, ⟨zl_ HB⟩⟩
                · rw [if_neg c31] at H
                  have c31k := Aside0.mk c31
                  have c31b0 : (!(t273.toList == t259.toList) || (!(t274 == t260) || (!(t275 == t261) || (!(t276 == t262))))) = false := by simpa using c31k.out
                  (try simp only [*, Bool.not_true, Bool.not_false, Bool.false_or, Bool.true_or, Bool.or_false, Bool.or_true, Bool.true_and, Bool.and_true, Bool.false_and, Bool.and_false] at c31)
                  have c31bs := c31
                  clear c31k
                  clear c31
                  replace H := Option.bind_eq_some_iff.mp H
                  obtain ⟨t279, A370, H⟩ := H
                  replace H : (laws_FnGrantTexts.j1 kj2 (!t279) t259 t260 t261 t262 t264 t265 t266 t267) = some r := H
                  have A37 := Aside0.mk A370
                  clear A370
                  have H' := Aside0.mk H
                  clear H
                  have hnb38 := NB278_263.out
                  have hnc38 := NB263_278.out
                  have hnb39 := NB278_268.out
                  have hnc39 := NB268_278.out
                  obtain ⟨hcz40_0, hcz40_1, hcz40_2, hcz40_3, hfz40_0, hfz40_1, hfz40_2, hfz40_3⟩ := zc4 BK278
                  have hnb41 := NB263_268.out
                  have hnc41 := NB268_263.out
                  obtain ⟨hcz42_0, hcz42_1, hcz42_2, hcz42_3, hfz42_0, hfz42_1, hfz42_2, hfz42_3⟩ := zc4 BK263
                  go_wp2_with (first | (go_at_call 11; (with_reducible refine (impl_GrantOK.calls kj2 t259 t260 t261 t262 t279 _ A37.out).mono ?_); rintro e w43 ⟨rfl, hb⟩; replace BK263 := Aside0.mk (blk_below (g := gb263) (o := .cells #[.string t259, .int .i64 t260, .int .i64 t261, .int .i64 t262] 23 (0, 0)) (zq BK263) hb); replace BK268 := Aside0.mk (blk_below (g := gb268) (o := .cells #[.string t264, .int .i64 t265, .int .i64 t266, .int .i64 t267] 23 (0, 0)) (zq BK268) hb); replace BK278 := Aside0.mk (blk_below (g := gb278) (o := .cells #[.string t273, .int .i64 t274, .int .i64 t275, .int .i64 t276] 23 (0, 0)) (zq BK278) hb); replace HB := zs_ HB hb; (try clear hb); (try clear hb2); (try clear hk); (try clear hi)))
                  go_meet
                  case rel => exact ⟨_, (!t279), (by first | rfl | (simp; done) | (simp [*]; done)), H', ⟨by have := HJ2.out; first | omega | exact Nat.le_refl _⟩, ⟨by (with_reducible repeat (first | refine blk_drewN ?_ _ | refine blk_drew ?_ | refine blk_alloc ?_ _)); exact BK263.out⟩, ⟨by (with_reducible repeat (first | refine blk_drewN ?_ _ | refine blk_drew ?_ | refine blk_alloc ?_ _)); exact BK268.out⟩, ⟨by (with_reducible repeat (first | refine blk_drewN ?_ _ | refine blk_drew ?_ | refine blk_alloc ?_ _)); exact BK278.out⟩, ⟨zl_ HB⟩⟩
              · rw [if_neg c30] at H
                have c30b0 : (t277 == 0) = false := beq_eq_false_iff_ne.mpr c30
                have c30b1 : (t277 != 0) = true := bne_iff_ne.mpr c30
                have H' := Aside0.mk H
                clear H
                go_wp2
                go_meet
                case rel => exact ⟨_, (true), (by first | rfl | (simp; done) | (simp [*]; done)), H', ⟨by have := HJ2.out; first | omega | exact Nat.le_refl _⟩, ⟨zq BK263⟩, ⟨zq BK268⟩, ⟨zq BK278⟩, ⟨zl_ HB⟩⟩
            · rw [if_neg c29] at H
              have c29b0 : (t269.toList == t271.toList) = false := beq_eq_false_iff_ne.mpr c29
              have c29b1 : (t269.toList != t271.toList) = true := bne_iff_ne.mpr c29
              have H' := Aside0.mk H
              clear H
              go_wp2
              go_meet
              case rel => exact ⟨_, (true), (by first | rfl | (simp; done) | (simp [*]; done)), H', ⟨by have := HJ2.out; first | omega | exact Nat.le_refl _⟩, ⟨zq BK263⟩, ⟨zq BK268⟩, ⟨zq BK278⟩, ⟨zl_ HB⟩⟩
          · rw [if_neg c28] at H
            have c28b0 : (t270 == 0) = false := beq_eq_false_iff_ne.mpr c28
            have c28b1 : (t270 != 0) = true := bne_iff_ne.mpr c28
            (first | rw [c28b0] | (simp only [i64_w, i32_w]; rw [c28b0]) | skip)
            have H' := Aside0.mk H
            clear H
            go_wp2
            go_meet
            case rel => exact ⟨_, (true), (by first | rfl | (simp; done) | (simp [*]; done)), H', ⟨by have := HJ2.out; first | omega | exact Nat.le_refl _⟩, ⟨zq BK263⟩, ⟨zq BK268⟩, ⟨zq BK278⟩, ⟨zl_ HB⟩⟩
        case rest =>
          clear HC11
          try clear c1
          try clear c2
          try clear p2
          try clear c3
          try clear c4
          try clear c4b0
          try clear c4b1
          try clear c5
          try clear c6
          try clear c8
          try clear c9
          try clear c10
          try clear c17
          try clear c25
          try clear c26
          try clear c28
          try clear c28b0
          try clear c28b1
          try clear c29
          try clear c29b0
          try clear c29b1
          try clear c30
          try clear c30b0
          try clear c30b1
          try clear c31
          try clear c31b0
          try clear c32
          try clear c33
          try clear c35
          try clear c38
          try clear c39
          try clear c41
          try clear hcz14_0
          try clear hcz14_1
          try clear hcz14_2
          try clear hcz14_3
          try clear hcz18_0
          try clear hcz18_1
          try clear hcz18_2
          try clear hcz18_3
          try clear hcz19_0
          try clear hcz19_1
          try clear hcz19_2
          try clear hcz19_3
          try clear hcz21_0
          try clear hcz21_1
          try clear hcz21_2
          try clear hcz21_3
          try clear hcz27_0
          try clear hcz27_1
          try clear hcz27_2
          try clear hcz27_3
          try clear hcz34_0
          try clear hcz34_1
          try clear hcz34_2
          try clear hcz34_3
          try clear hcz36_0
          try clear hcz36_1
          try clear hcz36_2
          try clear hcz36_3
          try clear hcz40_0
          try clear hcz40_1
          try clear hcz40_2
          try clear hcz40_3
          try clear hcz42_0
          try clear hcz42_1
          try clear hcz42_2
          try clear hcz42_3
          try clear hfz14_0
          try clear hfz14_1
          try clear hfz14_2
          try clear hfz14_3
          try clear hfz18_0
          try clear hfz18_1
          try clear hfz18_2
          try clear hfz18_3
          try clear hfz19_0
          try clear hfz19_1
          try clear hfz19_2
          try clear hfz19_3
          try clear hfz21_0
          try clear hfz21_1
          try clear hfz21_2
          try clear hfz21_3
          try clear hfz27_0
          try clear hfz27_1
          try clear hfz27_2
          try clear hfz27_3
          try clear hfz34_0
          try clear hfz34_1
          try clear hfz34_2
          try clear hfz34_3
          try clear hfz36_0
          try clear hfz36_1
          try clear hfz36_2
          try clear hfz36_3
          try clear hfz40_0
          try clear hfz40_1
          try clear hfz40_2
          try clear hfz40_3
          try clear hfz42_0
          try clear hfz42_1
          try clear hfz42_2
          try clear hfz42_3
          try clear p2
          obtain ⟨kq, x64_10, rfl, HA, HJ10, BK263, BK268, BK278, HB⟩ := hcut
          cases kq with
          | zero => exact absurd HA.out (by simp [laws_FnGrantTexts.j1])
          | succ kj10 =>
            have H := HA.out
            clear HA
            simp only [laws_FnGrantTexts.j1] at H
            by_cases c44 : x64_10 = true
            · subst c44
              have H1 : (some false) = some r := by rw [if_pos rfl] at H; exact H
              clear H
              have H := H1
              clear H1
              obtain rfl := Option.some.inj H
              go_wp2
              go_ret
              exact ⟨zt_, zl_ HB⟩
            · replace c44 := Bool.eq_false_iff.mpr c44
              subst c44
              have H1 : ((impl_LaterGrant.f kj10 t259 t260 t261 t262 t264 t265 t266 t267).bind fun bt280 => ((impl_LaterGrant.f kj10 t264 t265 t266 t267 t259 t260 t261 t262).bind fun bt282 => (if bt280.2 = bt282.2 then (if bt280.2 = 0 then (if bt280.1 = (wrap64 (-bt282.1)) then (if ((bt280.1 == 1) == (decide (t266 > t261))) = true then (some ((bt280.1 == 0) == (t259.toList == t264.toList && (t260 == t265 && (t261 == t266 && (t262 == t267)))))) else (some false)) else (some false)) else (if bt280.2 = 9 then (if t261 = t266 then (some (!(t259.toList == t264.toList) || (!(t260 == t265) || (!(t261 == t266) || (!(t262 == t267)))))) else (some false)) else (some false))) else (some false)))) = some r := by rw [if_neg (show ¬ (false = true) by decide)] at H; exact H
              clear H
              have H := H1
              clear H1
              replace H := Option.bind_eq_some_iff.mp H
              obtain ⟨⟨t280, t281⟩, A450, H⟩ := H
              replace H : ((impl_LaterGrant.f kj10 t264 t265 t266 t267 t259 t260 t261 t262).bind fun bt282 => (if t281 = bt282.2 then (if t281 = 0 then (if t280 = (wrap64 (-bt282.1)) then (if ((t280 == 1) == (decide (t266 > t261))) = true then (some ((t280 == 0) == (t259.toList == t264.toList && (t260 == t265 && (t261 == t266 && (t262 == t267)))))) else (some false)) else (some false)) else (if t281 = 9 then (if t261 = t266 then (some (!(t259.toList == t264.toList) || (!(t260 == t265) || (!(t261 == t266) || (!(t262 == t267)))))) else (some false)) else (some false))) else (some false))) = some r := H
              have A45 := Aside0.mk A450
              clear A450
              replace H := Option.bind_eq_some_iff.mp H
              obtain ⟨⟨t282, t283⟩, A460, H⟩ := H
              replace H : (if t281 = t283 then (if t281 = 0 then (if t280 = (wrap64 (-t282)) then (if ((t280 == 1) == (decide (t266 > t261))) = true then (some ((t280 == 0) == (t259.toList == t264.toList && (t260 == t265 && (t261 == t266 && (t262 == t267)))))) else (some false)) else (some false)) else (if t281 = 9 then (if t261 = t266 then (some (!(t259.toList == t264.toList) || (!(t260 == t265) || (!(t261 == t266) || (!(t262 == t267)))))) else (some false)) else (some false))) else (some false)) = some r := H
              have A46 := Aside0.mk A460
              clear A460
              by_cases c47 : t281 = t283
              · rw [if_pos c47] at H
                have c47b0 : (t281 == t283) = true := beq_iff_eq.mpr c47
                have c47b1 : (t281 != t283) = false := bne_eq_false_iff_eq.mpr c47
                clear c47
                by_cases c48 : t281 = 0
                · rw [if_pos c48] at H
                  have c48b0 : (t281 == 0) = true := beq_iff_eq.mpr c48
                  have c48b1 : (t281 != 0) = false := bne_eq_false_iff_eq.mpr c48
                  clear c48
                  by_cases c49 : t280 = (wrap64 (-t282))
                  · rw [if_pos c49] at H
                    have c49b0 : (t280 == (wrap64 (-t282))) = true := beq_iff_eq.mpr c49
                    have c49b1 : (t280 != (wrap64 (-t282))) = false := bne_eq_false_iff_eq.mpr c49
                    clear c49
                    by_cases c50 : ((t280 == 1) == (decide (t266 > t261))) = true
                    · rw [if_pos c50] at H
                      have c50b0 : ((t280 == 1) == (decide (t266 > t261))) = true := c50
                      (try (have c50b1 : decide ((t280 == 1) = (decide (t266 > t261))) = true := by simpa using c50))
                      (try (have c50b2 : ((t280 == 1) == (decide (t266 > t261))) = true := by simpa using c50))
                      clear c50
                      obtain rfl := Option.some.inj H
                      have hnb51 := NB263_268.out
                      have hnc51 := NB268_263.out
                      have hnb52 := NB263_278.out
                      have hnc52 := NB278_263.out
                      obtain ⟨hcz53_0, hcz53_1, hcz53_2, hcz53_3, hfz53_0, hfz53_1, hfz53_2, hfz53_3⟩ := zc4 BK263
                      have hnb54 := NB268_278.out
                      have hnc54 := NB278_268.out
                      obtain ⟨hcz55_0, hcz55_1, hcz55_2, hcz55_3, hfz55_0, hfz55_1, hfz55_2, hfz55_3⟩ := zc4 BK268
                      go_wp2_with (first | ((with_reducible refine gate_callee (f := 12) rfl ?_); refine zgl (some 68) Tryd.func12 #[.agg #[.string t259, .int .i64 t260, .int .i64 t261, .int .i64 t262], .agg #[.string t264, .int .i64 t265, .int .i64 t266, .int .i64 t267]] ?_; (with_reducible refine (impl_LaterGrant.calls kj10 t259 t260 t261 t262 t264 t265 t266 t267 t280 t281 _ A45.out).mono ?_); rintro e w56 ⟨rfl, hb⟩; refine ⟨_, rfl, ?_⟩; replace BK263 := zb BK263 hb; replace BK268 := zb BK268 hb; replace HB := zs_ HB hb; (try clear hb); (try clear hb2); (try clear hk); (try clear hi); obtain ⟨hcz57_0, hcz57_1, hcz57_2, hcz57_3, hfz57_0, hfz57_1, hfz57_2, hfz57_3⟩ := zc4 BK268; obtain ⟨hcz58_0, hcz58_1, hcz58_2, hcz58_3, hfz58_0, hfz58_1, hfz58_2, hfz58_3⟩ := zc4 BK263) | ((with_reducible refine gate_callee (f := 12) rfl ?_); refine zgl (some 74) Tryd.func12 #[.agg #[.string t264, .int .i64 t265, .int .i64 t266, .int .i64 t267], .agg #[.string t259, .int .i64 t260, .int .i64 t261, .int .i64 t262]] ?_; (with_reducible refine (impl_LaterGrant.calls kj10 t264 t265 t266 t267 t259 t260 t261 t262 t282 t283 _ A46.out).mono ?_); rintro e w59 ⟨rfl, hb⟩; refine ⟨_, rfl, ?_⟩; replace BK263 := zb BK263 hb; replace BK268 := zb BK268 hb; replace HB := zs_ HB hb; (try clear hb); (try clear hb2); (try clear hk); (try clear hi); obtain ⟨hcz60_0, hcz60_1, hcz60_2, hcz60_3, hfz60_0, hfz60_1, hfz60_2, hfz60_3⟩ := zc4 BK268; obtain ⟨hcz61_0, hcz61_1, hcz61_2, hcz61_3, hfz61_0, hfz61_1, hfz61_2, hfz61_3⟩ := zc4 BK263))
                      go_ret
                      exact ⟨zt_, zl_ HB⟩
                    · rw [if_neg c50] at H
                      have c50b0 : ((t280 == 1) == (decide (t266 > t261))) = false := by simpa using c50
                      (try (have c50b1 : decide ((t280 == 1) = (decide (t266 > t261))) = false := by simpa using c50))
                      (try (have c50b2 : ((t280 == 1) == (decide (t266 > t261))) = false := by simpa using c50))
                      (try (have c50b3 : ¬ ((t280 == 1) = (decide (t266 > t261))) := by simpa using c50))
                      clear c50
                      obtain rfl := Option.some.inj H
                      have hnb62 := NB263_268.out
                      have hnc62 := NB268_263.out
                      have hnb63 := NB263_278.out
                      have hnc63 := NB278_263.out
                      obtain ⟨hcz64_0, hcz64_1, hcz64_2, hcz64_3, hfz64_0, hfz64_1, hfz64_2, hfz64_3⟩ := zc4 BK263
                      have hnb65 := NB268_278.out
                      have hnc65 := NB278_268.out
                      obtain ⟨hcz66_0, hcz66_1, hcz66_2, hcz66_3, hfz66_0, hfz66_1, hfz66_2, hfz66_3⟩ := zc4 BK268
                      go_wp2_with (first | ((with_reducible refine gate_callee (f := 12) rfl ?_); refine zgl (some 68) Tryd.func12 #[.agg #[.string t259, .int .i64 t260, .int .i64 t261, .int .i64 t262], .agg #[.string t264, .int .i64 t265, .int .i64 t266, .int .i64 t267]] ?_; (with_reducible refine (impl_LaterGrant.calls kj10 t259 t260 t261 t262 t264 t265 t266 t267 t280 t281 _ A45.out).mono ?_); rintro e w67 ⟨rfl, hb⟩; refine ⟨_, rfl, ?_⟩; replace BK263 := zb BK263 hb; replace BK268 := zb BK268 hb; replace HB := zs_ HB hb; (try clear hb); (try clear hb2); (try clear hk); (try clear hi); obtain ⟨hcz68_0, hcz68_1, hcz68_2, hcz68_3, hfz68_0, hfz68_1, hfz68_2, hfz68_3⟩ := zc4 BK268; obtain ⟨hcz69_0, hcz69_1, hcz69_2, hcz69_3, hfz69_0, hfz69_1, hfz69_2, hfz69_3⟩ := zc4 BK263) | ((with_reducible refine gate_callee (f := 12) rfl ?_); refine zgl (some 74) Tryd.func12 #[.agg #[.string t264, .int .i64 t265, .int .i64 t266, .int .i64 t267], .agg #[.string t259, .int .i64 t260, .int .i64 t261, .int .i64 t262]] ?_; (with_reducible refine (impl_LaterGrant.calls kj10 t264 t265 t266 t267 t259 t260 t261 t262 t282 t283 _ A46.out).mono ?_); rintro e w70 ⟨rfl, hb⟩; refine ⟨_, rfl, ?_⟩; replace BK263 := zb BK263 hb; replace BK268 := zb BK268 hb; replace HB := zs_ HB hb; (try clear hb); (try clear hb2); (try clear hk); (try clear hi); obtain ⟨hcz71_0, hcz71_1, hcz71_2, hcz71_3, hfz71_0, hfz71_1, hfz71_2, hfz71_3⟩ := zc4 BK268; obtain ⟨hcz72_0, hcz72_1, hcz72_2, hcz72_3, hfz72_0, hfz72_1, hfz72_2, hfz72_3⟩ := zc4 BK263))
                      go_ret
                      exact ⟨zt_, zl_ HB⟩
                  · rw [if_neg c49] at H
                    have c49b0 : (t280 == (wrap64 (-t282))) = false := beq_eq_false_iff_ne.mpr c49
                    have c49b1 : (t280 != (wrap64 (-t282))) = true := bne_iff_ne.mpr c49
                    obtain rfl := Option.some.inj H
                    have hnb73 := NB263_268.out
                    have hnc73 := NB268_263.out
                    have hnb74 := NB263_278.out
                    have hnc74 := NB278_263.out
                    obtain ⟨hcz75_0, hcz75_1, hcz75_2, hcz75_3, hfz75_0, hfz75_1, hfz75_2, hfz75_3⟩ := zc4 BK263
                    have hnb76 := NB268_278.out
                    have hnc76 := NB278_268.out
                    obtain ⟨hcz77_0, hcz77_1, hcz77_2, hcz77_3, hfz77_0, hfz77_1, hfz77_2, hfz77_3⟩ := zc4 BK268
                    go_wp2_with (first | ((with_reducible refine gate_callee (f := 12) rfl ?_); refine zgl (some 68) Tryd.func12 #[.agg #[.string t259, .int .i64 t260, .int .i64 t261, .int .i64 t262], .agg #[.string t264, .int .i64 t265, .int .i64 t266, .int .i64 t267]] ?_; (with_reducible refine (impl_LaterGrant.calls kj10 t259 t260 t261 t262 t264 t265 t266 t267 t280 t281 _ A45.out).mono ?_); rintro e w78 ⟨rfl, hb⟩; refine ⟨_, rfl, ?_⟩; replace BK263 := zb BK263 hb; replace BK268 := zb BK268 hb; replace HB := zs_ HB hb; (try clear hb); (try clear hb2); (try clear hk); (try clear hi); obtain ⟨hcz79_0, hcz79_1, hcz79_2, hcz79_3, hfz79_0, hfz79_1, hfz79_2, hfz79_3⟩ := zc4 BK268; obtain ⟨hcz80_0, hcz80_1, hcz80_2, hcz80_3, hfz80_0, hfz80_1, hfz80_2, hfz80_3⟩ := zc4 BK263) | ((with_reducible refine gate_callee (f := 12) rfl ?_); refine zgl (some 74) Tryd.func12 #[.agg #[.string t264, .int .i64 t265, .int .i64 t266, .int .i64 t267], .agg #[.string t259, .int .i64 t260, .int .i64 t261, .int .i64 t262]] ?_; (with_reducible refine (impl_LaterGrant.calls kj10 t264 t265 t266 t267 t259 t260 t261 t262 t282 t283 _ A46.out).mono ?_); rintro e w81 ⟨rfl, hb⟩; refine ⟨_, rfl, ?_⟩; replace HB := zs_ HB hb; (try clear hb); (try clear hb2); (try clear hk); (try clear hi)))
                    go_ret
                    exact ⟨zt_, zl_ HB⟩
                · rw [if_neg c48] at H
                  have c48b0 : (t281 == 0) = false := beq_eq_false_iff_ne.mpr c48
                  have c48b1 : (t281 != 0) = true := bne_iff_ne.mpr c48
                  by_cases c82 : t281 = 9
                  · rw [if_pos c82] at H
                    have c82b0 : (t281 == 9) = true := beq_iff_eq.mpr c82
                    have c82b1 : (t281 != 9) = false := bne_eq_false_iff_eq.mpr c82
                    clear c82
                    by_cases c83 : t261 = t266
                    · rw [if_pos c83] at H
                      have c83b0 : (t261 == t266) = true := beq_iff_eq.mpr c83
                      have c83b1 : (t261 != t266) = false := bne_eq_false_iff_eq.mpr c83
                      clear c83
                      obtain rfl := Option.some.inj H
                      have hnb84 := NB263_268.out
                      have hnc84 := NB268_263.out
                      have hnb85 := NB263_278.out
                      have hnc85 := NB278_263.out
                      obtain ⟨hcz86_0, hcz86_1, hcz86_2, hcz86_3, hfz86_0, hfz86_1, hfz86_2, hfz86_3⟩ := zc4 BK263
                      have hnb87 := NB268_278.out
                      have hnc87 := NB278_268.out
                      obtain ⟨hcz88_0, hcz88_1, hcz88_2, hcz88_3, hfz88_0, hfz88_1, hfz88_2, hfz88_3⟩ := zc4 BK268
                      go_wp2_with (first | ((with_reducible refine gate_callee (f := 12) rfl ?_); refine zgl (some 68) Tryd.func12 #[.agg #[.string t259, .int .i64 t260, .int .i64 t261, .int .i64 t262], .agg #[.string t264, .int .i64 t265, .int .i64 t266, .int .i64 t267]] ?_; (with_reducible refine (impl_LaterGrant.calls kj10 t259 t260 t261 t262 t264 t265 t266 t267 t280 t281 _ A45.out).mono ?_); rintro e w89 ⟨rfl, hb⟩; refine ⟨_, rfl, ?_⟩; replace BK263 := zb BK263 hb; replace BK268 := zb BK268 hb; replace HB := zs_ HB hb; (try clear hb); (try clear hb2); (try clear hk); (try clear hi); obtain ⟨hcz90_0, hcz90_1, hcz90_2, hcz90_3, hfz90_0, hfz90_1, hfz90_2, hfz90_3⟩ := zc4 BK268; obtain ⟨hcz91_0, hcz91_1, hcz91_2, hcz91_3, hfz91_0, hfz91_1, hfz91_2, hfz91_3⟩ := zc4 BK263) | ((with_reducible refine gate_callee (f := 12) rfl ?_); refine zgl (some 74) Tryd.func12 #[.agg #[.string t264, .int .i64 t265, .int .i64 t266, .int .i64 t267], .agg #[.string t259, .int .i64 t260, .int .i64 t261, .int .i64 t262]] ?_; (with_reducible refine (impl_LaterGrant.calls kj10 t264 t265 t266 t267 t259 t260 t261 t262 t282 t283 _ A46.out).mono ?_); rintro e w92 ⟨rfl, hb⟩; refine ⟨_, rfl, ?_⟩; replace BK263 := zb BK263 hb; replace BK268 := zb BK268 hb; replace HB := zs_ HB hb; (try clear hb); (try clear hb2); (try clear hk); (try clear hi); obtain ⟨hcz93_0, hcz93_1, hcz93_2, hcz93_3, hfz93_0, hfz93_1, hfz93_2, hfz93_3⟩ := zc4 BK263; obtain ⟨hcz94_0, hcz94_1, hcz94_2, hcz94_3, hfz94_0, hfz94_1, hfz94_2, hfz94_3⟩ := zc4 BK268))
                      go_ret
                      exact ⟨zt_, zl_ HB⟩
                    · rw [if_neg c83] at H
                      have c83b0 : (t261 == t266) = false := beq_eq_false_iff_ne.mpr c83
                      have c83b1 : (t261 != t266) = true := bne_iff_ne.mpr c83
                      obtain rfl := Option.some.inj H
                      have hnb95 := NB263_268.out
                      have hnc95 := NB268_263.out
                      have hnb96 := NB263_278.out
                      have hnc96 := NB278_263.out
                      obtain ⟨hcz97_0, hcz97_1, hcz97_2, hcz97_3, hfz97_0, hfz97_1, hfz97_2, hfz97_3⟩ := zc4 BK263
                      have hnb98 := NB268_278.out
                      have hnc98 := NB278_268.out
                      obtain ⟨hcz99_0, hcz99_1, hcz99_2, hcz99_3, hfz99_0, hfz99_1, hfz99_2, hfz99_3⟩ := zc4 BK268
                      go_wp2_with (first | ((with_reducible refine gate_callee (f := 12) rfl ?_); refine zgl (some 68) Tryd.func12 #[.agg #[.string t259, .int .i64 t260, .int .i64 t261, .int .i64 t262], .agg #[.string t264, .int .i64 t265, .int .i64 t266, .int .i64 t267]] ?_; (with_reducible refine (impl_LaterGrant.calls kj10 t259 t260 t261 t262 t264 t265 t266 t267 t280 t281 _ A45.out).mono ?_); rintro e w100 ⟨rfl, hb⟩; refine ⟨_, rfl, ?_⟩; replace BK263 := zb BK263 hb; replace BK268 := zb BK268 hb; replace HB := zs_ HB hb; (try clear hb); (try clear hb2); (try clear hk); (try clear hi); obtain ⟨hcz101_0, hcz101_1, hcz101_2, hcz101_3, hfz101_0, hfz101_1, hfz101_2, hfz101_3⟩ := zc4 BK268; obtain ⟨hcz102_0, hcz102_1, hcz102_2, hcz102_3, hfz102_0, hfz102_1, hfz102_2, hfz102_3⟩ := zc4 BK263) | ((with_reducible refine gate_callee (f := 12) rfl ?_); refine zgl (some 74) Tryd.func12 #[.agg #[.string t264, .int .i64 t265, .int .i64 t266, .int .i64 t267], .agg #[.string t259, .int .i64 t260, .int .i64 t261, .int .i64 t262]] ?_; (with_reducible refine (impl_LaterGrant.calls kj10 t264 t265 t266 t267 t259 t260 t261 t262 t282 t283 _ A46.out).mono ?_); rintro e w103 ⟨rfl, hb⟩; refine ⟨_, rfl, ?_⟩; replace BK263 := zb BK263 hb; replace BK268 := zb BK268 hb; replace HB := zs_ HB hb; (try clear hb); (try clear hb2); (try clear hk); (try clear hi); obtain ⟨hcz104_0, hcz104_1, hcz104_2, hcz104_3, hfz104_0, hfz104_1, hfz104_2, hfz104_3⟩ := zc4 BK263; obtain ⟨hcz105_0, hcz105_1, hcz105_2, hcz105_3, hfz105_0, hfz105_1, hfz105_2, hfz105_3⟩ := zc4 BK268))
                      go_ret
                      exact ⟨zt_, zl_ HB⟩
                  · rw [if_neg c82] at H
                    have c82b0 : (t281 == 9) = false := beq_eq_false_iff_ne.mpr c82
                    have c82b1 : (t281 != 9) = true := bne_iff_ne.mpr c82
                    obtain rfl := Option.some.inj H
                    have hnb106 := NB263_268.out
                    have hnc106 := NB268_263.out
                    have hnb107 := NB263_278.out
                    have hnc107 := NB278_263.out
                    obtain ⟨hcz108_0, hcz108_1, hcz108_2, hcz108_3, hfz108_0, hfz108_1, hfz108_2, hfz108_3⟩ := zc4 BK263
                    have hnb109 := NB268_278.out
                    have hnc109 := NB278_268.out
                    obtain ⟨hcz110_0, hcz110_1, hcz110_2, hcz110_3, hfz110_0, hfz110_1, hfz110_2, hfz110_3⟩ := zc4 BK268
                    go_wp2_with (first | ((with_reducible refine gate_callee (f := 12) rfl ?_); refine zgl (some 68) Tryd.func12 #[.agg #[.string t259, .int .i64 t260, .int .i64 t261, .int .i64 t262], .agg #[.string t264, .int .i64 t265, .int .i64 t266, .int .i64 t267]] ?_; (with_reducible refine (impl_LaterGrant.calls kj10 t259 t260 t261 t262 t264 t265 t266 t267 t280 t281 _ A45.out).mono ?_); rintro e w111 ⟨rfl, hb⟩; refine ⟨_, rfl, ?_⟩; replace BK263 := zb BK263 hb; replace BK268 := zb BK268 hb; replace HB := zs_ HB hb; (try clear hb); (try clear hb2); (try clear hk); (try clear hi); obtain ⟨hcz112_0, hcz112_1, hcz112_2, hcz112_3, hfz112_0, hfz112_1, hfz112_2, hfz112_3⟩ := zc4 BK268; obtain ⟨hcz113_0, hcz113_1, hcz113_2, hcz113_3, hfz113_0, hfz113_1, hfz113_2, hfz113_3⟩ := zc4 BK263) | ((with_reducible refine gate_callee (f := 12) rfl ?_); refine zgl (some 74) Tryd.func12 #[.agg #[.string t264, .int .i64 t265, .int .i64 t266, .int .i64 t267], .agg #[.string t259, .int .i64 t260, .int .i64 t261, .int .i64 t262]] ?_; (with_reducible refine (impl_LaterGrant.calls kj10 t264 t265 t266 t267 t259 t260 t261 t262 t282 t283 _ A46.out).mono ?_); rintro e w114 ⟨rfl, hb⟩; refine ⟨_, rfl, ?_⟩; replace HB := zs_ HB hb; (try clear hb); (try clear hb2); (try clear hk); (try clear hi)))
                    go_ret
                    exact ⟨zt_, zl_ HB⟩
              · rw [if_neg c47] at H
                have c47b0 : (t281 == t283) = false := beq_eq_false_iff_ne.mpr c47
                have c47b1 : (t281 != t283) = true := bne_iff_ne.mpr c47
                obtain rfl := Option.some.inj H
                have hnb115 := NB263_268.out
                have hnc115 := NB268_263.out
                have hnb116 := NB263_278.out
                have hnc116 := NB278_263.out
                obtain ⟨hcz117_0, hcz117_1, hcz117_2, hcz117_3, hfz117_0, hfz117_1, hfz117_2, hfz117_3⟩ := zc4 BK263
                have hnb118 := NB268_278.out
                have hnc118 := NB278_268.out
                obtain ⟨hcz119_0, hcz119_1, hcz119_2, hcz119_3, hfz119_0, hfz119_1, hfz119_2, hfz119_3⟩ := zc4 BK268
                go_wp2_with (first | ((with_reducible refine gate_callee (f := 12) rfl ?_); refine zgl (some 68) Tryd.func12 #[.agg #[.string t259, .int .i64 t260, .int .i64 t261, .int .i64 t262], .agg #[.string t264, .int .i64 t265, .int .i64 t266, .int .i64 t267]] ?_; (with_reducible refine (impl_LaterGrant.calls kj10 t259 t260 t261 t262 t264 t265 t266 t267 t280 t281 _ A45.out).mono ?_); rintro e w120 ⟨rfl, hb⟩; refine ⟨_, rfl, ?_⟩; replace BK263 := zb BK263 hb; replace BK268 := zb BK268 hb; replace HB := zs_ HB hb; (try clear hb); (try clear hb2); (try clear hk); (try clear hi); obtain ⟨hcz121_0, hcz121_1, hcz121_2, hcz121_3, hfz121_0, hfz121_1, hfz121_2, hfz121_3⟩ := zc4 BK268; obtain ⟨hcz122_0, hcz122_1, hcz122_2, hcz122_3, hfz122_0, hfz122_1, hfz122_2, hfz122_3⟩ := zc4 BK263) | ((with_reducible refine gate_callee (f := 12) rfl ?_); refine zgl (some 74) Tryd.func12 #[.agg #[.string t264, .int .i64 t265, .int .i64 t266, .int .i64 t267], .agg #[.string t259, .int .i64 t260, .int .i64 t261, .int .i64 t262]] ?_; (with_reducible refine (impl_LaterGrant.calls kj10 t264 t265 t266 t267 t259 t260 t261 t262 t282 t283 _ A46.out).mono ?_); rintro e w123 ⟨rfl, hb⟩; refine ⟨_, rfl, ?_⟩; replace HB := zs_ HB hb; (try clear hb); (try clear hb2); (try clear hk); (try clear hi)))
                go_ret
                exact ⟨zt_, zl_ HB⟩
end Go.Proofs.YtioocldcdonlpaaDoor.A
end

section
namespace Go.Proofs.YtioocldcdonlpaaDoor.A
open Go
variable {H : Type} {enc : TypeId × Value → H}
theorem handed_and_shaped {a : Assume} {C : Checked} {os : Os} {f : FuncId} {fu : Func} {s : ChangeSpec} {conds : List PathCond} {apart fresh handsOn again : Bool} {X : World → Array Value → Prop}
    (hX : ∀ (w w' : World) (args : Array Value), w.heap = w'.heap → X w args → X w' args)
    (own : ownKnob C.prog.godebug = none) (started : os.Started) (noInit : C.prog.inits.idxOf? f = none) (hfn : C.prog.funcs[f]? = some fu)
    (witness : ∃ (w : World) (tape : Tape) (i : Input), w.os = os ∧ (w.forCall tape i).Shaped C.prog ∧ i.vars = [] ∧ Input.okWide C.prog (w.forCall tape i) .any w.heap.size f i ∧
      ((s.pre enc C.prog fu conds apart (w.forCall tape i).memory i.args ∧ X (w.forCall tape i).memory i.args) ∧ sizedMet enc C.prog fu (OpenSpec.ofChange s) apart (w.forCall tape i).memory i.args) ∧ a.holds C.prog (lone (Frame.enter C.prog f i.args .normal) [] (w.forCall tape i)))
    (contract : ∀ (W : World) (base : Nat) (args : Array Value) (ds gs : List (DataW H)) (before : List MemPlace),
      (∀ (j : Nat) t v, fu.params[j]? = some t → args[j]? = some v → Value.okWide C.prog W .any base t v) →
      DataW.Whole enc C.prog fu.params.toList s.vars apart W args.toList ds gs before →
      conds.all (PathCond.test C.prog ⟨fu.params.toList, ds, s.plain.varTypes C.prog, gs⟩) = true →
      (DataW.weightsEach C.prog (fu.params.toList ++ s.plain.varTypes C.prog) (ds ++ gs)).all (· ≤ reachBytes) = true → X W args → W.ShapedOpen C.prog →
      a.holds C.prog (lone (Frame.enter C.prog f args .normal) [] W) →
      Calls C.prog f args W fun e W' => ∃ v, e = .returned v ∧ s.post enc C.prog fu apart fresh handsOn again W args v W') :
    ReturnsInHanded a C os f .any (fun w args => (s.pre enc C.prog fu conds apart w args ∧ X w args) ∧ sizedMet enc C.prog fu (OpenSpec.ofChange s) apart w args) (s.post enc C.prog fu apart fresh handsOn again) := by
  refine returnsInHanded_of_calls own started noInit witness ?_
  intro w tape i _ hsh _ hok hpre hholds
  obtain ⟨_, _, _, fn', hfn', _, _, _, _, hval⟩ := hok
  obtain rfl : fn' = fu := Option.some.inj (hfn'.symm.trans hfn)
  obtain ⟨⟨⟨ds, gs, before, hw, hc⟩, hx⟩, hz⟩ := hpre
  refine (contract (w.forCall tape i) w.heap.size i.args ds gs before hval (DataW.Whole.of_heap (w' := w.forCall tape i) (by rfl) hw) hc (hz.weights hw) (hX _ _ _ (by rfl) hx) hsh hholds).mono fun e W' ⟨v, he, hp⟩ => ?_
  subst he
  exact ChangeSpec.post_blind hp
end Go.Proofs.YtioocldcdonlpaaDoor.A
end
