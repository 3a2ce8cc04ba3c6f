/- A part of the proof that FnExactReadGrant returns true at every input: plain functions, contracts and lemmas. No conditions. -/
import Derived.Test.YtioocldcdonlpaaDoorQReadGrantb
set_option linter.unusedVariables false
set_option linter.unusedSimpArgs false
set_option linter.unusedSectionVars false
section
namespace Go.Proofs.YtioocldcdonlpaaDoor.A
open Go.RowKit Go.Proofs.YtioocldcdonlpaaDoorW.PrintWords Go.Proofs.YtioocldcdonlpaaDoorW.PrintLast Go.Proofs.YtioocldcdonlpaaDoorW.PrintMore
attribute [local go_sem] max2_int min2_int max_two min_two max_three min_three max_four min_four
set_option maxHeartbeats 8000000 in
set_option maxRecDepth 100000 in
theorem spec_ReadGrant.calls (k : Nat) (a0 : ByteArray) (r1 : ByteArray) (r2 : Int) (r3 : Int) (r4 : Int) (r5 : Int) (w : World) (h : spec_ReadGrant.f k a0 = some (r1, r2, r3, r4, r5)) :
    Calls Tryd.prog 5 #[.string a0] w fun e w' => e = .returned (.tuple #[.agg #[.string r1, .int .i64 r2, .int .i64 r3, .int .i64 r4], .int .i64 r5]) ∧ Below w.heap.size w w' := by
  have hu23 := Tryd.underlying23
  have HB := Aside0.mk (Below.refl w.heap.size w)
  have H : (if (a0.size : Int) > 65536 then (some ((⟨#[]⟩ : ByteArray), 0, 0, 0, 2)) else ((spec_l00Cut.f k a0 32).bind fun t122 => (if (t122.length : Int) = 5 then (if 0 < (t122.length : Int) then (spec_ReadGrant.j0 k t122 ((rdOf ByteArray.empty t122 0).toList != ([103, 114, 97, 110, 116] : List UInt8))) else (none)) else (spec_ReadGrant.j0 k t122 true)))) = some (r1, r2, r3, r4, r5) := h
  clear h
  by_cases c2 : (a0.size : Int) > 65536
  · rw [if_pos c2] at H
    have c2b0 : decide (65536 < (a0.size : Int)) = true := decide_eq_true c2
    have c2b1 : decide (65536 < a0.size) = true := decide_eq_true (by omega)
    clear c2
    simp only [Option.some.injEq, Prod.mk.injEq] at H
    obtain ⟨rfl, rfl, rfl, rfl, rfl⟩ := H
    go_enter Tryd.func5, Tryd.ntmps5
    go_wp2_with (first | ((with_reducible refine gate_dst (N := 2) rfl ?_); refine zbx (N := 2) (cs := #[.string (⟨#[]⟩ : ByteArray), .int .i64 0, .int .i64 0, .int .i64 0]) (t := 23) ?_; intro gb121 hg w3 hbox hb; have BK121 := Aside0.mk (hbox); have GW121 := zw_ HB hg; have GE121 := zw_ HB hg; replace HB := zs_ HB hb; clear hb hbox hg; obtain ⟨hcz4_0, hcz4_1, hcz4_2, hcz4_3, hfz4_0, hfz4_1, hfz4_2, hfz4_3⟩ := zc4 BK121))
    refine bodyPost_ret (results_ct rfl _ _ gb121 23 #[.string (⟨#[]⟩ : ByteArray), .int .i64 0, .int .i64 0, .int .i64 0] (0, 0) _ rfl (zq BK121) Tryd.underlying23 rfl (by kernel_rfl)) rfl ?_
    exact ⟨zt_, zl_ HB⟩
  · rw [if_neg c2] at H
    have c2b0 : decide (65536 < (a0.size : Int)) = false := decide_eq_false c2
    have c2b1 : decide (65536 < a0.size) = false := decide_eq_false (by omega)
    clear c2
    replace H := Option.bind_eq_some_iff.mp H
    obtain ⟨t122, A50, H⟩ := H
    replace H : (if (t122.length : Int) = 5 then (if 0 < (t122.length : Int) then (spec_ReadGrant.j0 k t122 ((rdOf ByteArray.empty t122 0).toList != ([103, 114, 97, 110, 116] : List UInt8))) else (none)) else (spec_ReadGrant.j0 k t122 true)) = some (r1, r2, r3, r4, r5) := H
    have A5 := Aside0.mk A50
    clear A50
    have HC6 := Aside0.mk H
    clear H
    go_enter Tryd.func5, Tryd.ntmps5
    go_upto_region 4 with (first | ((with_reducible refine gate_dst (N := 2) rfl ?_); refine zbx (N := 2) (cs := #[.string (⟨#[]⟩ : ByteArray), .int .i64 0, .int .i64 0, .int .i64 0]) (t := 23) ?_; intro gb121 hg w7 hbox hb; have BK121 := Aside0.mk (hbox); have GW121 := zw_ HB hg; have GE121 := zw_ HB hg; replace HB := zs_ HB hb; clear hb hbox hg) | ((with_reducible refine gate_callee (f := 13) rfl ?_); refine zgl (some 17) Tryd.func13 #[.string a0, .int .u8 32] ?_; (with_reducible refine (spec_l00Cut.calls k a0 32 t122 _ A5.out).mono ?_); rintro e w8 ⟨v123, rfl, ho0, hb⟩; refine ⟨_, rfl, ?_⟩; have HO124 := Aside0.mk (Kd.R_lower ho0 (below_size (zl_ HB))); replace BK121 := zb BK121 hb; replace HB := zs_ HB hb; (try clear hb); (try clear hb2); (try clear hk); (try clear hi); (try clear ho0)))
    (try simp only [Act.put, List.setIfInBounds_toArray, List.set_cons_zero, List.set_cons_succ])
    go_cut [26] (fun v26 wc => ∃ (kq : Nat) (x26_5 : Bool), v26 = .bool x26_5 ∧ Aside0 (spec_ReadGrant.j0 kq t122 x26_5 = some (r1, r2, r3, r4, r5)) ∧ Aside0 (kq ≤ k) ∧ Aside0 (Kd.R Kd.string 9 wc w.heap.size (fun _ => True) v123 t122) ∧ Aside0 (wc.heap[gb121]? = some (.cells #[.string (⟨#[]⟩ : ByteArray), .int .i64 0, .int .i64 0, .int .i64 0] 23 (0, 0))) ∧ Aside0 (Below w.heap.size w wc))
    case first =>
      have H := HC6.out
      clear HC6
      by_cases c9 : (t122.length : Int) = 5
      · rw [if_pos c9] at H
        have c9b0 : ((t122.length : Int) == 5) = true := beq_iff_eq.mpr c9
        have c9b1 : ((t122.length : Int) != 5) = false := bne_eq_false_iff_eq.mpr c9
        clear c9
        (first | rw [c9b0] | (simp only [i64_w, i32_w]; rw [c9b0]) | skip)
        by_cases c10 : 0 < (t122.length : Int)
        · rw [if_pos c10] at H
          have c10b0 : decide (0 < (t122.length : Int)) = true := decide_eq_true c10
          have c10b1 : decide (0 < t122.length) = true := decide_eq_true (by omega)
          clear c10
          have H' := Aside0.mk H
          clear H
          obtain ⟨Ao11, co11, eo11⟩ := Kd.R_slice HO124.out
          subst eo11
          have p125 : 0 ≤ (0 : Int) := (by omega)
          have q125 : 0 < (t122.length : Int) := zo_
          obtain ⟨ad125, e125, hx125_0⟩ := Kd.at_string (Kd.R_reads' HO124.out).2.2 0 p125 q125
          cases e125
          have qi125 : (0 < t122.length) = True := eq_true (by omega)
          (try rw [show ((0 : Int)).toNat = 0 from rfl] at hx125_0)
          (try rw [Addr.add_zero'] at hx125_0)
          replace p125 := eq_true p125
          replace q125 := eq_true q125
          go_wp2
          go_meet
          case rel => exact ⟨_, (((rdOf ByteArray.empty t122 0).toList != ([103, 114, 97, 110, 116] : List UInt8))), (by first | rfl | (simp; done) | (simp [*]; done)), H', ⟨by first | omega | exact Nat.le_refl _⟩, ⟨zr HO124⟩, ⟨by (with_reducible repeat (first | refine blk_drewN ?_ _ | refine blk_drew ?_ | refine blk_alloc ?_ _)); exact BK121.out⟩, ⟨zl_ HB⟩⟩
        · rw [if_neg c10] at H
          exact absurd H (by simp)
      · rw [if_neg c9] at H
        have c9b0 : ((t122.length : Int) == 5) = false := beq_eq_false_iff_ne.mpr c9
        have c9b1 : ((t122.length : Int) != 5) = true := bne_iff_ne.mpr c9
        (first | rw [c9b0] | (simp only [i64_w, i32_w]; rw [c9b0]) | skip)
        have H' := Aside0.mk H
        clear H
        obtain ⟨Ao12, co12, eo12⟩ := Kd.R_slice HO124.out
        subst eo12
        go_wp2
        go_meet
        case rel => exact ⟨_, (true), (by first | rfl | (simp; done) | (simp [*]; done)), H', ⟨by first | omega | exact Nat.le_refl _⟩, ⟨zr HO124⟩, ⟨by (with_reducible repeat (first | refine blk_drewN ?_ _ | refine blk_drew ?_ | refine blk_alloc ?_ _)); exact BK121.out⟩, ⟨zl_ HB⟩⟩
    case rest =>
      clear HC6
      try clear c1
      try clear p1
      try clear q1
      try clear hx1
      try clear qi1
      try clear c2
      try clear c2b0
      try clear c2b1
      try clear p2
      try clear c5
      try clear c9
      try clear c9b0
      try clear c9b1
      try clear c10
      try clear c10b0
      try clear c10b1
      try clear p12
      try clear q12
      try clear hx12
      try clear qi12
      try clear hcz4_0
      try clear hcz4_1
      try clear hcz4_2
      try clear hcz4_3
      try clear hfz4_0
      try clear hfz4_1
      try clear hfz4_2
      try clear hfz4_3
      try clear hx125_0
      try clear p125
      try clear q125
      obtain ⟨kq, x26_5, rfl, HA, HJ5, HO_4, BK121, HB⟩ := hcut
      cases kq with
      | zero => exact absurd HA.out (by simp [spec_ReadGrant.j0])
      | succ kj5 =>
        have H := HA.out
        clear HA
        simp only [spec_ReadGrant.j0] at H
        by_cases c13 : x26_5 = true
        · subst c13
          have H1 : (some ((⟨#[]⟩ : ByteArray), 0, 0, 0, 3)) = some (r1, r2, r3, r4, r5) := by rw [if_pos rfl] at H; exact H
          clear H
          have H := H1
          clear H1
          simp only [Option.some.injEq, Prod.mk.injEq] at H
          obtain ⟨rfl, rfl, rfl, rfl, rfl⟩ := H
          obtain ⟨hcz14_0, hcz14_1, hcz14_2, hcz14_3, hfz14_0, hfz14_1, hfz14_2, hfz14_3⟩ := zc4 BK121
          go_wp2
          refine bodyPost_ret (results_ct rfl _ _ gb121 23 #[.string (⟨#[]⟩ : ByteArray), .int .i64 0, .int .i64 0, .int .i64 0] (0, 0) _ rfl (zq BK121) Tryd.underlying23 rfl (by kernel_rfl)) rfl ?_
          exact ⟨zt_, zl_ HB⟩
        · replace c13 := Bool.eq_false_iff.mpr c13
          subst c13
          have H1 : (if 1 < (t122.length : Int) then (if 2 < (t122.length : Int) then ((spec_l00Number.f kj5 (rdOf ByteArray.empty t122 2)).bind fun bt129 => (if 3 < (t122.length : Int) then ((spec_l00Number.f kj5 (rdOf ByteArray.empty t122 3)).bind fun bt132 => (if 4 < (t122.length : Int) then ((spec_l00Number.f kj5 (rdOf ByteArray.empty t122 4)).bind fun bt135 => (if bt129.2 = true then (if bt132.2 = true then (if bt135.2 = true then ((spec_GrantOK.f kj5 (rdOf ByteArray.empty t122 1) bt129.1 bt132.1 bt135.1).bind fun t137 => (if t137 = true then (some (rdOf ByteArray.empty t122 1, bt129.1, bt132.1, bt135.1, 0)) else (some ((⟨#[]⟩ : ByteArray), 0, 0, 0, 3)))) else (some ((⟨#[]⟩ : ByteArray), 0, 0, 0, 3))) else (some ((⟨#[]⟩ : ByteArray), 0, 0, 0, 3))) else (some ((⟨#[]⟩ : ByteArray), 0, 0, 0, 3)))) else (none))) else (none))) else (none)) else (none)) = some (r1, r2, r3, r4, r5) := by rw [if_neg (show ¬ (false = true) by decide)] at H; exact H
          clear H
          have H := H1
          clear H1
          by_cases c15 : 1 < (t122.length : Int)
          · rw [if_pos c15] at H
            have c15b0 : decide (1 < (t122.length : Int)) = true := decide_eq_true c15
            have c15b1 : decide (1 < t122.length) = true := decide_eq_true (by omega)
            clear c15
            by_cases c16 : 2 < (t122.length : Int)
            · rw [if_pos c16] at H
              have c16b0 : decide (2 < (t122.length : Int)) = true := decide_eq_true c16
              have c16b1 : decide (2 < t122.length) = true := decide_eq_true (by omega)
              clear c16
              replace H := Option.bind_eq_some_iff.mp H
              obtain ⟨⟨t129, t130⟩, A170, H⟩ := H
              replace H : (if 3 < (t122.length : Int) then ((spec_l00Number.f kj5 (rdOf ByteArray.empty t122 3)).bind fun bt132 => (if 4 < (t122.length : Int) then ((spec_l00Number.f kj5 (rdOf ByteArray.empty t122 4)).bind fun bt135 => (if t130 = true then (if bt132.2 = true then (if bt135.2 = true then ((spec_GrantOK.f kj5 (rdOf ByteArray.empty t122 1) t129 bt132.1 bt135.1).bind fun t137 => (if t137 = true then (some (rdOf ByteArray.empty t122 1, t129, bt132.1, bt135.1, 0)) else (some ((⟨#[]⟩ : ByteArray), 0, 0, 0, 3)))) else (some ((⟨#[]⟩ : ByteArray), 0, 0, 0, 3))) else (some ((⟨#[]⟩ : ByteArray), 0, 0, 0, 3))) else (some ((⟨#[]⟩ : ByteArray), 0, 0, 0, 3)))) else (none))) else (none)) = some (r1, r2, r3, r4, r5) := H
              have A17 := Aside0.mk A170
              clear A170
              by_cases c18 : 3 < (t122.length : Int)
              · rw [if_pos c18] at H
                have c18b0 : decide (3 < (t122.length : Int)) = true := decide_eq_true c18
                have c18b1 : decide (3 < t122.length) = true := decide_eq_true (by omega)
                clear c18
                replace H := Option.bind_eq_some_iff.mp H
                obtain ⟨⟨t132, t133⟩, A190, H⟩ := H
                replace H : (if 4 < (t122.length : Int) then ((spec_l00Number.f kj5 (rdOf ByteArray.empty t122 4)).bind fun bt135 => (if t130 = true then (if t133 = true then (if bt135.2 = true then ((spec_GrantOK.f kj5 (rdOf ByteArray.empty t122 1) t129 t132 bt135.1).bind fun t137 => (if t137 = true then (some (rdOf ByteArray.empty t122 1, t129, t132, bt135.1, 0)) else (some ((⟨#[]⟩ : ByteArray), 0, 0, 0, 3)))) else (some ((⟨#[]⟩ : ByteArray), 0, 0, 0, 3))) else (some ((⟨#[]⟩ : ByteArray), 0, 0, 0, 3))) else (some ((⟨#[]⟩ : ByteArray), 0, 0, 0, 3)))) else (none)) = some (r1, r2, r3, r4, r5) := H
                have A19 := Aside0.mk A190
                clear A190
                by_cases c20 : 4 < (t122.length : Int)
                · rw [if_pos c20] at H
                  have c20b0 : decide (4 < (t122.length : Int)) = true := decide_eq_true c20
                  have c20b1 : decide (4 < t122.length) = true := decide_eq_true (by omega)
                  clear c20
                  replace H := Option.bind_eq_some_iff.mp H
                  obtain ⟨⟨t135, t136⟩, A210, H⟩ := H
                  replace H : (if t130 = true then (if t133 = true then (if t136 = true then ((spec_GrantOK.f kj5 (rdOf ByteArray.empty t122 1) t129 t132 t135).bind fun t137 => (if t137 = true then (some (rdOf ByteArray.empty t122 1, t129, t132, t135, 0)) else (some ((⟨#[]⟩ : ByteArray), 0, 0, 0, 3)))) else (some ((⟨#[]⟩ : ByteArray), 0, 0, 0, 3))) else (some ((⟨#[]⟩ : ByteArray), 0, 0, 0, 3))) else (some ((⟨#[]⟩ : ByteArray), 0, 0, 0, 3))) = some (r1, r2, r3, r4, r5) := H
                  have A21 := Aside0.mk A210
                  clear A210
                  by_cases c22 : t130 = true
                  · subst c22
                    have H1 : (if t133 = true then (if t136 = true then ((spec_GrantOK.f kj5 (rdOf ByteArray.empty t122 1) t129 t132 t135).bind fun t137 => (if t137 = true then (some (rdOf ByteArray.empty t122 1, t129, t132, t135, 0)) else (some ((⟨#[]⟩ : ByteArray), 0, 0, 0, 3)))) else (some ((⟨#[]⟩ : ByteArray), 0, 0, 0, 3))) else (some ((⟨#[]⟩ : ByteArray), 0, 0, 0, 3))) = some (r1, r2, r3, r4, r5) := by rw [if_pos rfl] at H; exact H
                    clear H
                    have H := H1
                    clear H1
                    by_cases c23 : t133 = true
                    · subst c23
                      have H1 : (if t136 = true then ((spec_GrantOK.f kj5 (rdOf ByteArray.empty t122 1) t129 t132 t135).bind fun t137 => (if t137 = true then (some (rdOf ByteArray.empty t122 1, t129, t132, t135, 0)) else (some ((⟨#[]⟩ : ByteArray), 0, 0, 0, 3)))) else (some ((⟨#[]⟩ : ByteArray), 0, 0, 0, 3))) = some (r1, r2, r3, r4, r5) := by rw [if_pos rfl] at H; exact H
                      clear H
                      have H := H1
                      clear H1
                      by_cases c24 : t136 = true
                      · subst c24
                        have H1 : ((spec_GrantOK.f kj5 (rdOf ByteArray.empty t122 1) t129 t132 t135).bind fun t137 => (if t137 = true then (some (rdOf ByteArray.empty t122 1, t129, t132, t135, 0)) else (some ((⟨#[]⟩ : ByteArray), 0, 0, 0, 3)))) = some (r1, r2, r3, r4, r5) := by rw [if_pos rfl] at H; exact H
                        clear H
                        have H := H1
                        clear H1
                        replace H := Option.bind_eq_some_iff.mp H
                        obtain ⟨t137, A250, H⟩ := H
                        replace H : (if t137 = true then (some (rdOf ByteArray.empty t122 1, t129, t132, t135, 0)) else (some ((⟨#[]⟩ : ByteArray), 0, 0, 0, 3))) = some (r1, r2, r3, r4, r5) := H
                        have A25 := Aside0.mk A250
                        clear A250
                        by_cases c26 : t137 = true
                        · subst c26
                          have H1 : (some (rdOf ByteArray.empty t122 1, t129, t132, t135, 0)) = some (r1, r2, r3, r4, r5) := by rw [if_pos rfl] at H; exact H
                          clear H
                          have H := H1
                          clear H1
                          simp only [Option.some.injEq, Prod.mk.injEq] at H
                          obtain ⟨rfl, rfl, rfl, rfl, rfl⟩ := H
                          obtain ⟨Ao27, co27, eo27⟩ := Kd.R_slice HO_4.out
                          subst eo27
                          have p126 : 0 ≤ (1 : Int) := (by omega)
                          have q126 : 1 < (t122.length : Int) := zo_
                          obtain ⟨ad126, e126, hx126_0⟩ := Kd.at_string (Kd.R_reads' HO_4.out).2.2 1 p126 q126
                          cases e126
                          (try simp only [show (1 : Int).toNat = 1 from rfl, Nat.reduceMul, Nat.reduceEqDiff, Go.Addr.add, ↓reduceIte] at hx126_0)
                          have qi126 : (1 < t122.length) = True := eq_true (by omega)
                          (try rw [show ((1 : Int)).toNat = 1 from rfl] at hx126_0)
                          replace p126 := eq_true p126
                          replace q126 := eq_true q126
                          go_upto_region 13 with (first | ((with_reducible refine gate_dst (N := 5) rfl ?_); refine zbx (N := 5) (cs := #[.string (⟨#[]⟩ : ByteArray), .int .i64 0, .int .i64 0, .int .i64 0]) (t := 23) ?_; intro gb127 hg w28 hbox hb; replace HO_4 := zrb HO_4 hb; have BK127 := Aside0.mk (hbox); have GW127 := zw_ HB hg; have GE127 := zw_ HB hg; replace HB := zs_ HB hb; have NB121_127 := zl hg BK121; have NB127_121 := zg hg BK121; replace BK121 := zb BK121 hb; clear hb hbox hg; have hnb29 := NB127_121.out; have hnc29 := NB121_127.out; obtain ⟨hcz30_0, hcz30_1, hcz30_2, hcz30_3, hfz30_0, hfz30_1, hfz30_2, hfz30_3⟩ := zc4 BK127; have p128 : 0 ≤ (2 : Int) := (by omega); have q128 : 2 < (t122.length : Int) := zo_; obtain ⟨ad128, e128, hx128_0⟩ := Kd.at_string (Kd.R_reads' HO_4.out).2.2 2 p128 q128; obtain rfl : ad126 = ad128 := (by injection e128); (try simp only [show (2 : Int).toNat = 2 from rfl, Nat.reduceMul, Nat.reduceEqDiff, Go.Addr.add, ↓reduceIte] at hx128_0); have qi128 : (2 < t122.length) = True := eq_true (by omega); (try rw [show ((2 : Int)).toNat = 2 from rfl] at hx128_0); have hn128_0 : ad126.block ≠ gb127 := Kd.own_blk (Kd.R_ne HO_4.out BK127.out (by decide)); have hn128_1 : ad126.block ≠ gb127 := Kd.own_blk (Kd.R_ne HO_4.out BK127.out (by decide)); have hn128_2 : ad126.block ≠ gb127 := Kd.own_blk (Kd.R_ne HO_4.out BK127.out (by decide)); have hn128_3 : ad126.block ≠ gb127 := Kd.own_blk (Kd.R_ne HO_4.out BK127.out (by decide)); replace hx128_0 := (cell_far (p := ⟨gb127, 0, none⟩) (by first | (rw [add_block]; exact hn128_0) | (show (Addr.add _ _).block ≠ _; rw [add_block]; exact hn128_0) | exact hn128_0) (.string (rdOf ByteArray.empty t122 1))).trans hx128_0; replace hx128_0 := (cell_far (p := ⟨gb127, 1, none⟩) (by first | (rw [add_block]; exact hn128_1) | (show (Addr.add _ _).block ≠ _; rw [add_block]; exact hn128_1) | exact hn128_1) (.int .i64 0)).trans hx128_0; replace hx128_0 := (cell_far (p := ⟨gb127, 2, none⟩) (by first | (rw [add_block]; exact hn128_2) | (show (Addr.add _ _).block ≠ _; rw [add_block]; exact hn128_2) | exact hn128_2) (.int .i64 0)).trans hx128_0; replace hx128_0 := (cell_far (p := ⟨gb127, 3, none⟩) (by first | (rw [add_block]; exact hn128_3) | (show (Addr.add _ _).block ≠ _; rw [add_block]; exact hn128_3) | exact hn128_3) (.int .i64 0)).trans hx128_0; clear hn128_0; clear hn128_1; clear hn128_2; clear hn128_3; replace p128 := eq_true p128; replace q128 := eq_true q128) | ((with_reducible refine gate_callee (f := 14) rfl ?_); refine zgl (some 36) Tryd.func14 #[.string (rdOf ByteArray.empty t122 2)] ?_; (with_reducible refine (spec_l00Number.calls kj5 (rdOf ByteArray.empty t122 2) t129 true _ A17.out).mono ?_); rintro e w' ⟨rfl, ⟨nd, rfl⟩⟩; refine ⟨_, rfl, ?_⟩; have p131 : 0 ≤ (3 : Int) := (by omega); have q131 : 3 < (t122.length : Int) := zo_; obtain ⟨ad131, e131, hx131_0⟩ := Kd.at_string (Kd.R_reads' HO_4.out).2.2 3 p131 q131; obtain rfl : ad126 = ad131 := (by injection e131); (try simp only [show (3 : Int).toNat = 3 from rfl, Nat.reduceMul, Nat.reduceEqDiff, Go.Addr.add, ↓reduceIte] at hx131_0); have qi131 : (3 < t122.length) = True := eq_true (by omega); (try rw [show ((3 : Int)).toNat = 3 from rfl] at hx131_0); have hn131_0 : ad126.block ≠ gb127 := Kd.own_blk (Kd.R_ne HO_4.out BK127.out (by decide)); have hn131_1 : ad126.block ≠ gb127 := Kd.own_blk (Kd.R_ne HO_4.out BK127.out (by decide)); have hn131_2 : ad126.block ≠ gb127 := Kd.own_blk (Kd.R_ne HO_4.out BK127.out (by decide)); have hn131_3 : ad126.block ≠ gb127 := Kd.own_blk (Kd.R_ne HO_4.out BK127.out (by decide)); replace hx131_0 := (cell_far (p := ⟨gb127, 0, none⟩) (by first | (rw [add_block]; exact hn131_0) | (show (Addr.add _ _).block ≠ _; rw [add_block]; exact hn131_0) | exact hn131_0) (.string (rdOf ByteArray.empty t122 1))).trans hx131_0; replace hx131_0 := (cell_far (p := ⟨gb127, 1, none⟩) (by first | (rw [add_block]; exact hn131_1) | (show (Addr.add _ _).block ≠ _; rw [add_block]; exact hn131_1) | exact hn131_1) (.int .i64 0)).trans hx131_0; replace hx131_0 := (cell_far (p := ⟨gb127, 2, none⟩) (by first | (rw [add_block]; exact hn131_2) | (show (Addr.add _ _).block ≠ _; rw [add_block]; exact hn131_2) | exact hn131_2) (.int .i64 0)).trans hx131_0; replace hx131_0 := (cell_far (p := ⟨gb127, 3, none⟩) (by first | (rw [add_block]; exact hn131_3) | (show (Addr.add _ _).block ≠ _; rw [add_block]; exact hn131_3) | exact hn131_3) (.int .i64 0)).trans hx131_0; clear hn131_0; clear hn131_1; clear hn131_2; clear hn131_3; replace p131 := eq_true p131; replace q131 := eq_true q131) | ((with_reducible refine gate_callee (f := 14) rfl ?_); refine zgl (some 43) Tryd.func14 #[.string (rdOf ByteArray.empty t122 3)] ?_; (with_reducible refine (spec_l00Number.calls kj5 (rdOf ByteArray.empty t122 3) t132 true _ A19.out).mono ?_); rintro e w' ⟨rfl, ⟨nd, rfl⟩⟩; refine ⟨_, rfl, ?_⟩; have p134 : 0 ≤ (4 : Int) := (by omega); have q134 : 4 < (t122.length : Int) := zo_; obtain ⟨ad134, e134, hx134_0⟩ := Kd.at_string (Kd.R_reads' HO_4.out).2.2 4 p134 q134; obtain rfl : ad126 = ad134 := (by injection e134); (try simp only [show (4 : Int).toNat = 4 from rfl, Nat.reduceMul, Nat.reduceEqDiff, Go.Addr.add, ↓reduceIte] at hx134_0); have qi134 : (4 < t122.length) = True := eq_true (by omega); (try rw [show ((4 : Int)).toNat = 4 from rfl] at hx134_0); have hn134_0 : ad126.block ≠ gb127 := Kd.own_blk (Kd.R_ne HO_4.out BK127.out (by decide)); have hn134_1 : ad126.block ≠ gb127 := Kd.own_blk (Kd.R_ne HO_4.out BK127.out (by decide)); have hn134_2 : ad126.block ≠ gb127 := Kd.own_blk (Kd.R_ne HO_4.out BK127.out (by decide)); have hn134_3 : ad126.block ≠ gb127 := Kd.own_blk (Kd.R_ne HO_4.out BK127.out (by decide)); replace hx134_0 := (cell_far (p := ⟨gb127, 0, none⟩) (by first | (rw [add_block]; exact hn134_0) | (show (Addr.add _ _).block ≠ _; rw [add_block]; exact hn134_0) | exact hn134_0) (.string (rdOf ByteArray.empty t122 1))).trans hx134_0; replace hx134_0 := (cell_far (p := ⟨gb127, 1, none⟩) (by first | (rw [add_block]; exact hn134_1) | (show (Addr.add _ _).block ≠ _; rw [add_block]; exact hn134_1) | exact hn134_1) (.int .i64 0)).trans hx134_0; replace hx134_0 := (cell_far (p := ⟨gb127, 2, none⟩) (by first | (rw [add_block]; exact hn134_2) | (show (Addr.add _ _).block ≠ _; rw [add_block]; exact hn134_2) | exact hn134_2) (.int .i64 0)).trans hx134_0; replace hx134_0 := (cell_far (p := ⟨gb127, 3, none⟩) (by first | (rw [add_block]; exact hn134_3) | (show (Addr.add _ _).block ≠ _; rw [add_block]; exact hn134_3) | exact hn134_3) (.int .i64 0)).trans hx134_0; clear hn134_0; clear hn134_1; clear hn134_2; clear hn134_3; replace p134 := eq_true p134; replace q134 := eq_true q134) | ((with_reducible refine gate_callee (f := 14) rfl ?_); refine zgl (some 50) Tryd.func14 #[.string (rdOf ByteArray.empty t122 4)] ?_; (with_reducible refine (spec_l00Number.calls kj5 (rdOf ByteArray.empty t122 4) t135 true _ A21.out).mono ?_); rintro e w' ⟨rfl, ⟨nd, rfl⟩⟩; refine ⟨_, rfl, ?_⟩))
                          refine zgen (R := fun w' => w'.heap[gb127]? = some (.cells #[.string (rdOf ByteArray.empty t122 1), .int .i64 t129, .int .i64 t132, .int .i64 t135] 23 (0, 0)) ∧ w'.heap[gb121]? = some (.cells #[.string (⟨#[]⟩ : ByteArray), .int .i64 0, .int .i64 0, .int .i64 0] 23 (0, 0)) ∧ Below w.heap.size w w') ⟨zq BK127, zq BK121, zl_ HB⟩ (fun wn_ hR_ => ?_)
                          obtain ⟨hR1_, hR2_, hR3_⟩ := hR_
                          replace BK127 := Aside0.mk hR1_
                          replace BK121 := Aside0.mk hR2_
                          replace HB := Aside0.mk hR3_
                          clear hR1_ hR2_ hR3_
                          obtain ⟨hgz0_, hgz1_, hgz2_, hgz3_, hgf0_, hgf1_, hgf2_, hgf3_⟩ := zc4 BK127
                          obtain ⟨hhz0_, hhz1_, hhz2_, hhz3_, hhf0_, hhf1_, hhf2_, hhf3_⟩ := zc4 BK121
                          go_wp2_with (first | (go_at_call 15; (with_reducible refine (spec_GrantOK.calls kj5 (rdOf ByteArray.empty t122 1) t129 t132 t135 true _ A25.out).mono ?_); rintro e w31 ⟨rfl, hb⟩; replace BK121 := Aside0.mk (blk_below (g := gb121) (o := .cells #[.string (⟨#[]⟩ : ByteArray), .int .i64 0, .int .i64 0, .int .i64 0] 23 (0, 0)) (zq BK121) hb); replace BK127 := Aside0.mk (blk_below (g := gb127) (o := .cells #[.string (rdOf ByteArray.empty t122 1), .int .i64 t129, .int .i64 t132, .int .i64 t135] 23 (0, 0)) (zq BK127) hb); replace HB := zs_ HB hb; (try clear hb); (try clear hb2); (try clear hk); (try clear hi); obtain ⟨hcz32_0, hcz32_1, hcz32_2, hcz32_3, hfz32_0, hfz32_1, hfz32_2, hfz32_3⟩ := zc4 BK127; obtain ⟨hcz33_0, hcz33_1, hcz33_2, hcz33_3, hfz33_0, hfz33_1, hfz33_2, hfz33_3⟩ := zc4 BK121))
                          refine bodyPost_ret (results_ct rfl _ _ gb121 23 #[.string (rdOf ByteArray.empty t122 1), .int .i64 t129, .int .i64 t132, .int .i64 t135] (0, 0) _ rfl (zq BK121) Tryd.underlying23 rfl (by kernel_rfl)) rfl ?_
                          exact ⟨zt_, zl_ HB⟩
                        · replace c26 := Bool.eq_false_iff.mpr c26
                          subst c26
                          have H1 : (some ((⟨#[]⟩ : ByteArray), 0, 0, 0, 3)) = some (r1, r2, r3, r4, r5) := by rw [if_neg (show ¬ (false = true) by decide)] at H; exact H
                          clear H
                          have H := H1
                          clear H1
                          simp only [Option.some.injEq, Prod.mk.injEq] at H
                          obtain ⟨rfl, rfl, rfl, rfl, rfl⟩ := H
                          obtain ⟨Ao34, co34, eo34⟩ := Kd.R_slice HO_4.out
                          subst eo34
                          have p126 : 0 ≤ (1 : Int) := (by omega)
                          have q126 : 1 < (t122.length : Int) := zo_
                          obtain ⟨ad126, e126, hx126_0⟩ := Kd.at_string (Kd.R_reads' HO_4.out).2.2 1 p126 q126
                          cases e126
                          (try simp only [show (1 : Int).toNat = 1 from rfl, Nat.reduceMul, Nat.reduceEqDiff, Go.Addr.add, ↓reduceIte] at hx126_0)
                          have qi126 : (1 < t122.length) = True := eq_true (by omega)
                          (try rw [show ((1 : Int)).toNat = 1 from rfl] at hx126_0)
                          replace p126 := eq_true p126
                          replace q126 := eq_true q126
                          go_upto_region 13 with (first | ((with_reducible refine gate_dst (N := 5) rfl ?_); refine zbx (N := 5) (cs := #[.string (⟨#[]⟩ : ByteArray), .int .i64 0, .int .i64 0, .int .i64 0]) (t := 23) ?_; intro gb127 hg w35 hbox hb; replace HO_4 := zrb HO_4 hb; have BK127 := Aside0.mk (hbox); have GW127 := zw_ HB hg; have GE127 := zw_ HB hg; replace HB := zs_ HB hb; have NB121_127 := zl hg BK121; have NB127_121 := zg hg BK121; replace BK121 := zb BK121 hb; clear hb hbox hg; have hnb36 := NB127_121.out; have hnc36 := NB121_127.out; obtain ⟨hcz37_0, hcz37_1, hcz37_2, hcz37_3, hfz37_0, hfz37_1, hfz37_2, hfz37_3⟩ := zc4 BK127; have p128 : 0 ≤ (2 : Int) := (by omega); have q128 : 2 < (t122.length : Int) := zo_; obtain ⟨ad128, e128, hx128_0⟩ := Kd.at_string (Kd.R_reads' HO_4.out).2.2 2 p128 q128; obtain rfl : ad126 = ad128 := (by injection e128); (try simp only [show (2 : Int).toNat = 2 from rfl, Nat.reduceMul, Nat.reduceEqDiff, Go.Addr.add, ↓reduceIte] at hx128_0); have qi128 : (2 < t122.length) = True := eq_true (by omega); (try rw [show ((2 : Int)).toNat = 2 from rfl] at hx128_0); have hn128_0 : ad126.block ≠ gb127 := Kd.own_blk (Kd.R_ne HO_4.out BK127.out (by decide)); have hn128_1 : ad126.block ≠ gb127 := Kd.own_blk (Kd.R_ne HO_4.out BK127.out (by decide)); have hn128_2 : ad126.block ≠ gb127 := Kd.own_blk (Kd.R_ne HO_4.out BK127.out (by decide)); have hn128_3 : ad126.block ≠ gb127 := Kd.own_blk (Kd.R_ne HO_4.out BK127.out (by decide)); replace hx128_0 := (cell_far (p := ⟨gb127, 0, none⟩) (by first | (rw [add_block]; exact hn128_0) | (show (Addr.add _ _).block ≠ _; rw [add_block]; exact hn128_0) | exact hn128_0) (.string (rdOf ByteArray.empty t122 1))).trans hx128_0; replace hx128_0 := (cell_far (p := ⟨gb127, 1, none⟩) (by first | (rw [add_block]; exact hn128_1) | (show (Addr.add _ _).block ≠ _; rw [add_block]; exact hn128_1) | exact hn128_1) (.int .i64 0)).trans hx128_0; replace hx128_0 := (cell_far (p := ⟨gb127, 2, none⟩) (by first | (rw [add_block]; exact hn128_2) | (show (Addr.add _ _).block ≠ _; rw [add_block]; exact hn128_2) | exact hn128_2) (.int .i64 0)).trans hx128_0; replace hx128_0 := (cell_far (p := ⟨gb127, 3, none⟩) (by first | (rw [add_block]; exact hn128_3) | (show (Addr.add _ _).block ≠ _; rw [add_block]; exact hn128_3) | exact hn128_3) (.int .i64 0)).trans hx128_0; clear hn128_0; clear hn128_1; clear hn128_2; clear hn128_3; replace p128 := eq_true p128; replace q128 := eq_true q128) | ((with_reducible refine gate_callee (f := 14) rfl ?_); refine zgl (some 36) Tryd.func14 #[.string (rdOf ByteArray.empty t122 2)] ?_; (with_reducible refine (spec_l00Number.calls kj5 (rdOf ByteArray.empty t122 2) t129 true _ A17.out).mono ?_); rintro e w' ⟨rfl, ⟨nd, rfl⟩⟩; refine ⟨_, rfl, ?_⟩; have p131 : 0 ≤ (3 : Int) := (by omega); have q131 : 3 < (t122.length : Int) := zo_; obtain ⟨ad131, e131, hx131_0⟩ := Kd.at_string (Kd.R_reads' HO_4.out).2.2 3 p131 q131; obtain rfl : ad126 = ad131 := (by injection e131); (try simp only [show (3 : Int).toNat = 3 from rfl, Nat.reduceMul, Nat.reduceEqDiff, Go.Addr.add, ↓reduceIte] at hx131_0); have qi131 : (3 < t122.length) = True := eq_true (by omega); (try rw [show ((3 : Int)).toNat = 3 from rfl] at hx131_0); have hn131_0 : ad126.block ≠ gb127 := Kd.own_blk (Kd.R_ne HO_4.out BK127.out (by decide)); have hn131_1 : ad126.block ≠ gb127 := Kd.own_blk (Kd.R_ne HO_4.out BK127.out (by decide)); have hn131_2 : ad126.block ≠ gb127 := Kd.own_blk (Kd.R_ne HO_4.out BK127.out (by decide)); have hn131_3 : ad126.block ≠ gb127 := Kd.own_blk (Kd.R_ne HO_4.out BK127.out (by decide)); replace hx131_0 := (cell_far (p := ⟨gb127, 0, none⟩) (by first | (rw [add_block]; exact hn131_0) | (show (Addr.add _ _).block ≠ _; rw [add_block]; exact hn131_0) | exact hn131_0) (.string (rdOf ByteArray.empty t122 1))).trans hx131_0; replace hx131_0 := (cell_far (p := ⟨gb127, 1, none⟩) (by first | (rw [add_block]; exact hn131_1) | (show (Addr.add _ _).block ≠ _; rw [add_block]; exact hn131_1) | exact hn131_1) (.int .i64 0)).trans hx131_0; replace hx131_0 := (cell_far (p := ⟨gb127, 2, none⟩) (by first | (rw [add_block]; exact hn131_2) | (show (Addr.add _ _).block ≠ _; rw [add_block]; exact hn131_2) | exact hn131_2) (.int .i64 0)).trans hx131_0; replace hx131_0 := (cell_far (p := ⟨gb127, 3, none⟩) (by first | (rw [add_block]; exact hn131_3) | (show (Addr.add _ _).block ≠ _; rw [add_block]; exact hn131_3) | exact hn131_3) (.int .i64 0)).trans hx131_0; clear hn131_0; clear hn131_1; clear hn131_2; clear hn131_3; replace p131 := eq_true p131; replace q131 := eq_true q131) | ((with_reducible refine gate_callee (f := 14) rfl ?_); refine zgl (some 43) Tryd.func14 #[.string (rdOf ByteArray.empty t122 3)] ?_; (with_reducible refine (spec_l00Number.calls kj5 (rdOf ByteArray.empty t122 3) t132 true _ A19.out).mono ?_); rintro e w' ⟨rfl, ⟨nd, rfl⟩⟩; refine ⟨_, rfl, ?_⟩; have p134 : 0 ≤ (4 : Int) := (by omega); have q134 : 4 < (t122.length : Int) := zo_; obtain ⟨ad134, e134, hx134_0⟩ := Kd.at_string (Kd.R_reads' HO_4.out).2.2 4 p134 q134; obtain rfl : ad126 = ad134 := (by injection e134); (try simp only [show (4 : Int).toNat = 4 from rfl, Nat.reduceMul, Nat.reduceEqDiff, Go.Addr.add, ↓reduceIte] at hx134_0); have qi134 : (4 < t122.length) = True := eq_true (by omega); (try rw [show ((4 : Int)).toNat = 4 from rfl] at hx134_0); have hn134_0 : ad126.block ≠ gb127 := Kd.own_blk (Kd.R_ne HO_4.out BK127.out (by decide)); have hn134_1 : ad126.block ≠ gb127 := Kd.own_blk (Kd.R_ne HO_4.out BK127.out (by decide)); have hn134_2 : ad126.block ≠ gb127 := Kd.own_blk (Kd.R_ne HO_4.out BK127.out (by decide)); have hn134_3 : ad126.block ≠ gb127 := Kd.own_blk (Kd.R_ne HO_4.out BK127.out (by decide)); replace hx134_0 := (cell_far (p := ⟨gb127, 0, none⟩) (by first | (rw [add_block]; exact hn134_0) | (show (Addr.add _ _).block ≠ _; rw [add_block]; exact hn134_0) | exact hn134_0) (.string (rdOf ByteArray.empty t122 1))).trans hx134_0; replace hx134_0 := (cell_far (p := ⟨gb127, 1, none⟩) (by first | (rw [add_block]; exact hn134_1) | (show (Addr.add _ _).block ≠ _; rw [add_block]; exact hn134_1) | exact hn134_1) (.int .i64 0)).trans hx134_0; replace hx134_0 := (cell_far (p := ⟨gb127, 2, none⟩) (by first | (rw [add_block]; exact hn134_2) | (show (Addr.add _ _).block ≠ _; rw [add_block]; exact hn134_2) | exact hn134_2) (.int .i64 0)).trans hx134_0; replace hx134_0 := (cell_far (p := ⟨gb127, 3, none⟩) (by first | (rw [add_block]; exact hn134_3) | (show (Addr.add _ _).block ≠ _; rw [add_block]; exact hn134_3) | exact hn134_3) (.int .i64 0)).trans hx134_0; clear hn134_0; clear hn134_1; clear hn134_2; clear hn134_3; replace p134 := eq_true p134; replace q134 := eq_true q134) | ((with_reducible refine gate_callee (f := 14) rfl ?_); refine zgl (some 50) Tryd.func14 #[.string (rdOf ByteArray.empty t122 4)] ?_; (with_reducible refine (spec_l00Number.calls kj5 (rdOf ByteArray.empty t122 4) t135 true _ A21.out).mono ?_); rintro e w' ⟨rfl, ⟨nd, rfl⟩⟩; refine ⟨_, rfl, ?_⟩))
                          refine zgen (R := fun w' => w'.heap[gb127]? = some (.cells #[.string (rdOf ByteArray.empty t122 1), .int .i64 t129, .int .i64 t132, .int .i64 t135] 23 (0, 0)) ∧ w'.heap[gb121]? = some (.cells #[.string (⟨#[]⟩ : ByteArray), .int .i64 0, .int .i64 0, .int .i64 0] 23 (0, 0)) ∧ Below w.heap.size w w') ⟨zq BK127, zq BK121, zl_ HB⟩ (fun wn_ hR_ => ?_)
                          obtain ⟨hR1_, hR2_, hR3_⟩ := hR_
                          replace BK127 := Aside0.mk hR1_
                          replace BK121 := Aside0.mk hR2_
                          replace HB := Aside0.mk hR3_
                          clear hR1_ hR2_ hR3_
                          obtain ⟨hgz0_, hgz1_, hgz2_, hgz3_, hgf0_, hgf1_, hgf2_, hgf3_⟩ := zc4 BK127
                          obtain ⟨hhz0_, hhz1_, hhz2_, hhz3_, hhf0_, hhf1_, hhf2_, hhf3_⟩ := zc4 BK121
                          go_wp2_with (first | (go_at_call 15; (with_reducible refine (spec_GrantOK.calls kj5 (rdOf ByteArray.empty t122 1) t129 t132 t135 false _ A25.out).mono ?_); rintro e w38 ⟨rfl, hb⟩; replace BK121 := Aside0.mk (blk_below (g := gb121) (o := .cells #[.string (⟨#[]⟩ : ByteArray), .int .i64 0, .int .i64 0, .int .i64 0] 23 (0, 0)) (zq BK121) hb); replace HB := zs_ HB hb; (try clear hb); (try clear hb2); (try clear hk); (try clear hi); obtain ⟨hcz39_0, hcz39_1, hcz39_2, hcz39_3, hfz39_0, hfz39_1, hfz39_2, hfz39_3⟩ := zc4 BK121))
                          refine bodyPost_ret (results_ct rfl _ _ gb121 23 #[.string (⟨#[]⟩ : ByteArray), .int .i64 0, .int .i64 0, .int .i64 0] (0, 0) _ rfl (zq BK121) Tryd.underlying23 rfl (by kernel_rfl)) rfl ?_
                          exact ⟨zt_, zl_ HB⟩
                      · replace c24 := Bool.eq_false_iff.mpr c24
                        subst c24
                        have H1 : (some ((⟨#[]⟩ : ByteArray), 0, 0, 0, 3)) = some (r1, r2, r3, r4, r5) := by rw [if_neg (show ¬ (false = true) by decide)] at H; exact H
                        clear H
                        have H := H1
                        clear H1
                        simp only [Option.some.injEq, Prod.mk.injEq] at H
                        obtain ⟨rfl, rfl, rfl, rfl, rfl⟩ := H
                        obtain ⟨Ao40, co40, eo40⟩ := Kd.R_slice HO_4.out
                        subst eo40
                        have p126 : 0 ≤ (1 : Int) := (by omega)
                        have q126 : 1 < (t122.length : Int) := zo_
                        obtain ⟨ad126, e126, hx126_0⟩ := Kd.at_string (Kd.R_reads' HO_4.out).2.2 1 p126 q126
                        cases e126
                        (try simp only [show (1 : Int).toNat = 1 from rfl, Nat.reduceMul, Nat.reduceEqDiff, Go.Addr.add, ↓reduceIte] at hx126_0)
                        have qi126 : (1 < t122.length) = True := eq_true (by omega)
                        (try rw [show ((1 : Int)).toNat = 1 from rfl] at hx126_0)
                        replace p126 := eq_true p126
                        replace q126 := eq_true q126
                        go_upto_region 13 with (first | ((with_reducible refine gate_dst (N := 5) rfl ?_); refine zbx (N := 5) (cs := #[.string (⟨#[]⟩ : ByteArray), .int .i64 0, .int .i64 0, .int .i64 0]) (t := 23) ?_; intro gb127 hg w41 hbox hb; replace HO_4 := zrb HO_4 hb; have BK127 := Aside0.mk (hbox); have GW127 := zw_ HB hg; have GE127 := zw_ HB hg; replace HB := zs_ HB hb; have NB121_127 := zl hg BK121; have NB127_121 := zg hg BK121; replace BK121 := zb BK121 hb; clear hb hbox hg; have hnb42 := NB127_121.out; have hnc42 := NB121_127.out; obtain ⟨hcz43_0, hcz43_1, hcz43_2, hcz43_3, hfz43_0, hfz43_1, hfz43_2, hfz43_3⟩ := zc4 BK127; have p128 : 0 ≤ (2 : Int) := (by omega); have q128 : 2 < (t122.length : Int) := zo_; obtain ⟨ad128, e128, hx128_0⟩ := Kd.at_string (Kd.R_reads' HO_4.out).2.2 2 p128 q128; obtain rfl : ad126 = ad128 := (by injection e128); (try simp only [show (2 : Int).toNat = 2 from rfl, Nat.reduceMul, Nat.reduceEqDiff, Go.Addr.add, ↓reduceIte] at hx128_0); have qi128 : (2 < t122.length) = True := eq_true (by omega); (try rw [show ((2 : Int)).toNat = 2 from rfl] at hx128_0); have hn128_0 : ad126.block ≠ gb127 := Kd.own_blk (Kd.R_ne HO_4.out BK127.out (by decide)); have hn128_1 : ad126.block ≠ gb127 := Kd.own_blk (Kd.R_ne HO_4.out BK127.out (by decide)); have hn128_2 : ad126.block ≠ gb127 := Kd.own_blk (Kd.R_ne HO_4.out BK127.out (by decide)); have hn128_3 : ad126.block ≠ gb127 := Kd.own_blk (Kd.R_ne HO_4.out BK127.out (by decide)); replace hx128_0 := (cell_far (p := ⟨gb127, 0, none⟩) (by first | (rw [add_block]; exact hn128_0) | (show (Addr.add _ _).block ≠ _; rw [add_block]; exact hn128_0) | exact hn128_0) (.string (rdOf ByteArray.empty t122 1))).trans hx128_0; replace hx128_0 := (cell_far (p := ⟨gb127, 1, none⟩) (by first | (rw [add_block]; exact hn128_1) | (show (Addr.add _ _).block ≠ _; rw [add_block]; exact hn128_1) | exact hn128_1) (.int .i64 0)).trans hx128_0; replace hx128_0 := (cell_far (p := ⟨gb127, 2, none⟩) (by first | (rw [add_block]; exact hn128_2) | (show (Addr.add _ _).block ≠ _; rw [add_block]; exact hn128_2) | exact hn128_2) (.int .i64 0)).trans hx128_0; replace hx128_0 := (cell_far (p := ⟨gb127, 3, none⟩) (by first | (rw [add_block]; exact hn128_3) | (show (Addr.add _ _).block ≠ _; rw [add_block]; exact hn128_3) | exact hn128_3) (.int .i64 0)).trans hx128_0; clear hn128_0; clear hn128_1; clear hn128_2; clear hn128_3; replace p128 := eq_true p128; replace q128 := eq_true q128) | ((with_reducible refine gate_callee (f := 14) rfl ?_); refine zgl (some 36) Tryd.func14 #[.string (rdOf ByteArray.empty t122 2)] ?_; (with_reducible refine (spec_l00Number.calls kj5 (rdOf ByteArray.empty t122 2) t129 true _ A17.out).mono ?_); rintro e w' ⟨rfl, ⟨nd, rfl⟩⟩; refine ⟨_, rfl, ?_⟩; have p131 : 0 ≤ (3 : Int) := (by omega); have q131 : 3 < (t122.length : Int) := zo_; obtain ⟨ad131, e131, hx131_0⟩ := Kd.at_string (Kd.R_reads' HO_4.out).2.2 3 p131 q131; obtain rfl : ad126 = ad131 := (by injection e131); (try simp only [show (3 : Int).toNat = 3 from rfl, Nat.reduceMul, Nat.reduceEqDiff, Go.Addr.add, ↓reduceIte] at hx131_0); have qi131 : (3 < t122.length) = True := eq_true (by omega); (try rw [show ((3 : Int)).toNat = 3 from rfl] at hx131_0); have hn131_0 : ad126.block ≠ gb127 := Kd.own_blk (Kd.R_ne HO_4.out BK127.out (by decide)); have hn131_1 : ad126.block ≠ gb127 := Kd.own_blk (Kd.R_ne HO_4.out BK127.out (by decide)); have hn131_2 : ad126.block ≠ gb127 := Kd.own_blk (Kd.R_ne HO_4.out BK127.out (by decide)); have hn131_3 : ad126.block ≠ gb127 := Kd.own_blk (Kd.R_ne HO_4.out BK127.out (by decide)); replace hx131_0 := (cell_far (p := ⟨gb127, 0, none⟩) (by first | (rw [add_block]; exact hn131_0) | (show (Addr.add _ _).block ≠ _; rw [add_block]; exact hn131_0) | exact hn131_0) (.string (rdOf ByteArray.empty t122 1))).trans hx131_0; replace hx131_0 := (cell_far (p := ⟨gb127, 1, none⟩) (by first | (rw [add_block]; exact hn131_1) | (show (Addr.add _ _).block ≠ _; rw [add_block]; exact hn131_1) | exact hn131_1) (.int .i64 0)).trans hx131_0; replace hx131_0 := (cell_far (p := ⟨gb127, 2, none⟩) (by first | (rw [add_block]; exact hn131_2) | (show (Addr.add _ _).block ≠ _; rw [add_block]; exact hn131_2) | exact hn131_2) (.int .i64 0)).trans hx131_0; replace hx131_0 := (cell_far (p := ⟨gb127, 3, none⟩) (by first | (rw [add_block]; exact hn131_3) | (show (Addr.add _ _).block ≠ _; rw [add_block]; exact hn131_3) | exact hn131_3) (.int .i64 0)).trans hx131_0; clear hn131_0; clear hn131_1; clear hn131_2; clear hn131_3; replace p131 := eq_true p131; replace q131 := eq_true q131) | ((with_reducible refine gate_callee (f := 14) rfl ?_); refine zgl (some 43) Tryd.func14 #[.string (rdOf ByteArray.empty t122 3)] ?_; (with_reducible refine (spec_l00Number.calls kj5 (rdOf ByteArray.empty t122 3) t132 true _ A19.out).mono ?_); rintro e w' ⟨rfl, ⟨nd, rfl⟩⟩; refine ⟨_, rfl, ?_⟩; have p134 : 0 ≤ (4 : Int) := (by omega); have q134 : 4 < (t122.length : Int) := zo_; obtain ⟨ad134, e134, hx134_0⟩ := Kd.at_string (Kd.R_reads' HO_4.out).2.2 4 p134 q134; obtain rfl : ad126 = ad134 := (by injection e134); (try simp only [show (4 : Int).toNat = 4 from rfl, Nat.reduceMul, Nat.reduceEqDiff, Go.Addr.add, ↓reduceIte] at hx134_0); have qi134 : (4 < t122.length) = True := eq_true (by omega); (try rw [show ((4 : Int)).toNat = 4 from rfl] at hx134_0); have hn134_0 : ad126.block ≠ gb127 := Kd.own_blk (Kd.R_ne HO_4.out BK127.out (by decide)); have hn134_1 : ad126.block ≠ gb127 := Kd.own_blk (Kd.R_ne HO_4.out BK127.out (by decide)); have hn134_2 : ad126.block ≠ gb127 := Kd.own_blk (Kd.R_ne HO_4.out BK127.out (by decide)); have hn134_3 : ad126.block ≠ gb127 := Kd.own_blk (Kd.R_ne HO_4.out BK127.out (by decide)); replace hx134_0 := (cell_far (p := ⟨gb127, 0, none⟩) (by first | (rw [add_block]; exact hn134_0) | (show (Addr.add _ _).block ≠ _; rw [add_block]; exact hn134_0) | exact hn134_0) (.string (rdOf ByteArray.empty t122 1))).trans hx134_0; replace hx134_0 := (cell_far (p := ⟨gb127, 1, none⟩) (by first | (rw [add_block]; exact hn134_1) | (show (Addr.add _ _).block ≠ _; rw [add_block]; exact hn134_1) | exact hn134_1) (.int .i64 0)).trans hx134_0; replace hx134_0 := (cell_far (p := ⟨gb127, 2, none⟩) (by first | (rw [add_block]; exact hn134_2) | (show (Addr.add _ _).block ≠ _; rw [add_block]; exact hn134_2) | exact hn134_2) (.int .i64 0)).trans hx134_0; replace hx134_0 := (cell_far (p := ⟨gb127, 3, none⟩) (by first | (rw [add_block]; exact hn134_3) | (show (Addr.add _ _).block ≠ _; rw [add_block]; exact hn134_3) | exact hn134_3) (.int .i64 0)).trans hx134_0; clear hn134_0; clear hn134_1; clear hn134_2; clear hn134_3; replace p134 := eq_true p134; replace q134 := eq_true q134) | ((with_reducible refine gate_callee (f := 14) rfl ?_); refine zgl (some 50) Tryd.func14 #[.string (rdOf ByteArray.empty t122 4)] ?_; (with_reducible refine (spec_l00Number.calls kj5 (rdOf ByteArray.empty t122 4) t135 false _ A21.out).mono ?_); rintro e w' ⟨rfl, ⟨nd, rfl⟩⟩; refine ⟨_, rfl, ?_⟩; obtain ⟨hcz44_0, hcz44_1, hcz44_2, hcz44_3, hfz44_0, hfz44_1, hfz44_2, hfz44_3⟩ := zc4 BK121))
                        refine zgen (R := fun w' => w'.heap[gb127]? = some (.cells #[.string (rdOf ByteArray.empty t122 1), .int .i64 t129, .int .i64 t132, .int .i64 t135] 23 (0, 0)) ∧ w'.heap[gb121]? = some (.cells #[.string (⟨#[]⟩ : ByteArray), .int .i64 0, .int .i64 0, .int .i64 0] 23 (0, 0)) ∧ Below w.heap.size w w') ⟨zq BK127, zq BK121, zl_ HB⟩ (fun wn_ hR_ => ?_)
                        obtain ⟨hR1_, hR2_, hR3_⟩ := hR_
                        replace BK127 := Aside0.mk hR1_
                        replace BK121 := Aside0.mk hR2_
                        replace HB := Aside0.mk hR3_
                        clear hR1_ hR2_ hR3_
                        obtain ⟨hgz0_, hgz1_, hgz2_, hgz3_, hgf0_, hgf1_, hgf2_, hgf3_⟩ := zc4 BK127
                        obtain ⟨hhz0_, hhz1_, hhz2_, hhz3_, hhf0_, hhf1_, hhf2_, hhf3_⟩ := zc4 BK121
                        go_wp2
                        refine bodyPost_ret (results_ct rfl _ _ gb121 23 #[.string (⟨#[]⟩ : ByteArray), .int .i64 0, .int .i64 0, .int .i64 0] (0, 0) _ rfl (zq BK121) Tryd.underlying23 rfl (by kernel_rfl)) rfl ?_
                        exact ⟨zt_, zl_ HB⟩
                    · replace c23 := Bool.eq_false_iff.mpr c23
                      subst c23
                      have H1 : (some ((⟨#[]⟩ : ByteArray), 0, 0, 0, 3)) = some (r1, r2, r3, r4, r5) := by rw [if_neg (show ¬ (false = true) by decide)] at H; exact H
                      clear H
                      have H := H1
                      clear H1
                      simp only [Option.some.injEq, Prod.mk.injEq] at H
                      obtain ⟨rfl, rfl, rfl, rfl, rfl⟩ := H
                      obtain ⟨Ao45, co45, eo45⟩ := Kd.R_slice HO_4.out
                      subst eo45
                      have p126 : 0 ≤ (1 : Int) := (by omega)
                      have q126 : 1 < (t122.length : Int) := zo_
                      obtain ⟨ad126, e126, hx126_0⟩ := Kd.at_string (Kd.R_reads' HO_4.out).2.2 1 p126 q126
                      cases e126
                      (try simp only [show (1 : Int).toNat = 1 from rfl, Nat.reduceMul, Nat.reduceEqDiff, Go.Addr.add, ↓reduceIte] at hx126_0)
                      have qi126 : (1 < t122.length) = True := eq_true (by omega)
                      (try rw [show ((1 : Int)).toNat = 1 from rfl] at hx126_0)
                      replace p126 := eq_true p126
                      replace q126 := eq_true q126
                      go_upto_region 13 with (first | ((with_reducible refine gate_dst (N := 5) rfl ?_); refine zbx (N := 5) (cs := #[.string (⟨#[]⟩ : ByteArray), .int .i64 0, .int .i64 0, .int .i64 0]) (t := 23) ?_; intro gb127 hg w46 hbox hb; replace HO_4 := zrb HO_4 hb; have BK127 := Aside0.mk (hbox); have GW127 := zw_ HB hg; have GE127 := zw_ HB hg; replace HB := zs_ HB hb; have NB121_127 := zl hg BK121; have NB127_121 := zg hg BK121; replace BK121 := zb BK121 hb; clear hb hbox hg; have hnb47 := NB127_121.out; have hnc47 := NB121_127.out; obtain ⟨hcz48_0, hcz48_1, hcz48_2, hcz48_3, hfz48_0, hfz48_1, hfz48_2, hfz48_3⟩ := zc4 BK127; have p128 : 0 ≤ (2 : Int) := (by omega); have q128 : 2 < (t122.length : Int) := zo_; obtain ⟨ad128, e128, hx128_0⟩ := Kd.at_string (Kd.R_reads' HO_4.out).2.2 2 p128 q128; obtain rfl : ad126 = ad128 := (by injection e128); (try simp only [show (2 : Int).toNat = 2 from rfl, Nat.reduceMul, Nat.reduceEqDiff, Go.Addr.add, ↓reduceIte] at hx128_0); have qi128 : (2 < t122.length) = True := eq_true (by omega); (try rw [show ((2 : Int)).toNat = 2 from rfl] at hx128_0); have hn128_0 : ad126.block ≠ gb127 := Kd.own_blk (Kd.R_ne HO_4.out BK127.out (by decide)); have hn128_1 : ad126.block ≠ gb127 := Kd.own_blk (Kd.R_ne HO_4.out BK127.out (by decide)); have hn128_2 : ad126.block ≠ gb127 := Kd.own_blk (Kd.R_ne HO_4.out BK127.out (by decide)); have hn128_3 : ad126.block ≠ gb127 := Kd.own_blk (Kd.R_ne HO_4.out BK127.out (by decide)); replace hx128_0 := (cell_far (p := ⟨gb127, 0, none⟩) (by first | (rw [add_block]; exact hn128_0) | (show (Addr.add _ _).block ≠ _; rw [add_block]; exact hn128_0) | exact hn128_0) (.string (rdOf ByteArray.empty t122 1))).trans hx128_0; replace hx128_0 := (cell_far (p := ⟨gb127, 1, none⟩) (by first | (rw [add_block]; exact hn128_1) | (show (Addr.add _ _).block ≠ _; rw [add_block]; exact hn128_1) | exact hn128_1) (.int .i64 0)).trans hx128_0; replace hx128_0 := (cell_far (p := ⟨gb127, 2, none⟩) (by first | (rw [add_block]; exact hn128_2) | (show (Addr.add _ _).block ≠ _; rw [add_block]; exact hn128_2) | exact hn128_2) (.int .i64 0)).trans hx128_0; replace hx128_0 := (cell_far (p := ⟨gb127, 3, none⟩) (by first | (rw [add_block]; exact hn128_3) | (show (Addr.add _ _).block ≠ _; rw [add_block]; exact hn128_3) | exact hn128_3) (.int .i64 0)).trans hx128_0; clear hn128_0; clear hn128_1; clear hn128_2; clear hn128_3; replace p128 := eq_true p128; replace q128 := eq_true q128) | ((with_reducible refine gate_callee (f := 14) rfl ?_); refine zgl (some 36) Tryd.func14 #[.string (rdOf ByteArray.empty t122 2)] ?_; (with_reducible refine (spec_l00Number.calls kj5 (rdOf ByteArray.empty t122 2) t129 true _ A17.out).mono ?_); rintro e w' ⟨rfl, ⟨nd, rfl⟩⟩; refine ⟨_, rfl, ?_⟩; have p131 : 0 ≤ (3 : Int) := (by omega); have q131 : 3 < (t122.length : Int) := zo_; obtain ⟨ad131, e131, hx131_0⟩ := Kd.at_string (Kd.R_reads' HO_4.out).2.2 3 p131 q131; obtain rfl : ad126 = ad131 := (by injection e131); (try simp only [show (3 : Int).toNat = 3 from rfl, Nat.reduceMul, Nat.reduceEqDiff, Go.Addr.add, ↓reduceIte] at hx131_0); have qi131 : (3 < t122.length) = True := eq_true (by omega); (try rw [show ((3 : Int)).toNat = 3 from rfl] at hx131_0); have hn131_0 : ad126.block ≠ gb127 := Kd.own_blk (Kd.R_ne HO_4.out BK127.out (by decide)); have hn131_1 : ad126.block ≠ gb127 := Kd.own_blk (Kd.R_ne HO_4.out BK127.out (by decide)); have hn131_2 : ad126.block ≠ gb127 := Kd.own_blk (Kd.R_ne HO_4.out BK127.out (by decide)); have hn131_3 : ad126.block ≠ gb127 := Kd.own_blk (Kd.R_ne HO_4.out BK127.out (by decide)); replace hx131_0 := (cell_far (p := ⟨gb127, 0, none⟩) (by first | (rw [add_block]; exact hn131_0) | (show (Addr.add _ _).block ≠ _; rw [add_block]; exact hn131_0) | exact hn131_0) (.string (rdOf ByteArray.empty t122 1))).trans hx131_0; replace hx131_0 := (cell_far (p := ⟨gb127, 1, none⟩) (by first | (rw [add_block]; exact hn131_1) | (show (Addr.add _ _).block ≠ _; rw [add_block]; exact hn131_1) | exact hn131_1) (.int .i64 0)).trans hx131_0; replace hx131_0 := (cell_far (p := ⟨gb127, 2, none⟩) (by first | (rw [add_block]; exact hn131_2) | (show (Addr.add _ _).block ≠ _; rw [add_block]; exact hn131_2) | exact hn131_2) (.int .i64 0)).trans hx131_0; replace hx131_0 := (cell_far (p := ⟨gb127, 3, none⟩) (by first | (rw [add_block]; exact hn131_3) | (show (Addr.add _ _).block ≠ _; rw [add_block]; exact hn131_3) | exact hn131_3) (.int .i64 0)).trans hx131_0; clear hn131_0; clear hn131_1; clear hn131_2; clear hn131_3; replace p131 := eq_true p131; replace q131 := eq_true q131) | ((with_reducible refine gate_callee (f := 14) rfl ?_); refine zgl (some 43) Tryd.func14 #[.string (rdOf ByteArray.empty t122 3)] ?_; (with_reducible refine (spec_l00Number.calls kj5 (rdOf ByteArray.empty t122 3) t132 false _ A19.out).mono ?_); rintro e w' ⟨rfl, ⟨nd, rfl⟩⟩; refine ⟨_, rfl, ?_⟩; have p134 : 0 ≤ (4 : Int) := (by omega); have q134 : 4 < (t122.length : Int) := zo_; obtain ⟨ad134, e134, hx134_0⟩ := Kd.at_string (Kd.R_reads' HO_4.out).2.2 4 p134 q134; obtain rfl : ad126 = ad134 := (by injection e134); (try simp only [show (4 : Int).toNat = 4 from rfl, Nat.reduceMul, Nat.reduceEqDiff, Go.Addr.add, ↓reduceIte] at hx134_0); have qi134 : (4 < t122.length) = True := eq_true (by omega); (try rw [show ((4 : Int)).toNat = 4 from rfl] at hx134_0); have hn134_0 : ad126.block ≠ gb127 := Kd.own_blk (Kd.R_ne HO_4.out BK127.out (by decide)); have hn134_1 : ad126.block ≠ gb127 := Kd.own_blk (Kd.R_ne HO_4.out BK127.out (by decide)); have hn134_2 : ad126.block ≠ gb127 := Kd.own_blk (Kd.R_ne HO_4.out BK127.out (by decide)); have hn134_3 : ad126.block ≠ gb127 := Kd.own_blk (Kd.R_ne HO_4.out BK127.out (by decide)); replace hx134_0 := (cell_far (p := ⟨gb127, 0, none⟩) (by first | (rw [add_block]; exact hn134_0) | (show (Addr.add _ _).block ≠ _; rw [add_block]; exact hn134_0) | exact hn134_0) (.string (rdOf ByteArray.empty t122 1))).trans hx134_0; replace hx134_0 := (cell_far (p := ⟨gb127, 1, none⟩) (by first | (rw [add_block]; exact hn134_1) | (show (Addr.add _ _).block ≠ _; rw [add_block]; exact hn134_1) | exact hn134_1) (.int .i64 0)).trans hx134_0; replace hx134_0 := (cell_far (p := ⟨gb127, 2, none⟩) (by first | (rw [add_block]; exact hn134_2) | (show (Addr.add _ _).block ≠ _; rw [add_block]; exact hn134_2) | exact hn134_2) (.int .i64 0)).trans hx134_0; replace hx134_0 := (cell_far (p := ⟨gb127, 3, none⟩) (by first | (rw [add_block]; exact hn134_3) | (show (Addr.add _ _).block ≠ _; rw [add_block]; exact hn134_3) | exact hn134_3) (.int .i64 0)).trans hx134_0; clear hn134_0; clear hn134_1; clear hn134_2; clear hn134_3; replace p134 := eq_true p134; replace q134 := eq_true q134) | ((with_reducible refine gate_callee (f := 14) rfl ?_); refine zgl (some 50) Tryd.func14 #[.string (rdOf ByteArray.empty t122 4)] ?_; (with_reducible refine (spec_l00Number.calls kj5 (rdOf ByteArray.empty t122 4) t135 t136 _ A21.out).mono ?_); rintro e w' ⟨rfl, ⟨nd, rfl⟩⟩; refine ⟨_, rfl, ?_⟩; obtain ⟨hcz49_0, hcz49_1, hcz49_2, hcz49_3, hfz49_0, hfz49_1, hfz49_2, hfz49_3⟩ := zc4 BK121))
                      refine zgen (R := fun w' => w'.heap[gb127]? = some (.cells #[.string (rdOf ByteArray.empty t122 1), .int .i64 t129, .int .i64 t132, .int .i64 t135] 23 (0, 0)) ∧ w'.heap[gb121]? = some (.cells #[.string (⟨#[]⟩ : ByteArray), .int .i64 0, .int .i64 0, .int .i64 0] 23 (0, 0)) ∧ Below w.heap.size w w') ⟨zq BK127, zq BK121, zl_ HB⟩ (fun wn_ hR_ => ?_)
                      obtain ⟨hR1_, hR2_, hR3_⟩ := hR_
                      replace BK127 := Aside0.mk hR1_
                      replace BK121 := Aside0.mk hR2_
                      replace HB := Aside0.mk hR3_
                      clear hR1_ hR2_ hR3_
                      obtain ⟨hgz0_, hgz1_, hgz2_, hgz3_, hgf0_, hgf1_, hgf2_, hgf3_⟩ := zc4 BK127
                      obtain ⟨hhz0_, hhz1_, hhz2_, hhz3_, hhf0_, hhf1_, hhf2_, hhf3_⟩ := zc4 BK121
                      go_wp2
                      refine bodyPost_ret (results_ct rfl _ _ gb121 23 #[.string (⟨#[]⟩ : ByteArray), .int .i64 0, .int .i64 0, .int .i64 0] (0, 0) _ rfl (zq BK121) Tryd.underlying23 rfl (by kernel_rfl)) rfl ?_
                      exact ⟨zt_, zl_ HB⟩
                  · replace c22 := Bool.eq_false_iff.mpr c22
                    subst c22
                    have H1 : (some ((⟨#[]⟩ : ByteArray), 0, 0, 0, 3)) = some (r1, r2, r3, r4, r5) := by rw [if_neg (show ¬ (false = true) by decide)] at H; exact H
                    clear H
                    have H := H1
                    clear H1
                    simp only [Option.some.injEq, Prod.mk.injEq] at H
                    obtain ⟨rfl, rfl, rfl, rfl, rfl⟩ := H
                    obtain ⟨Ao50, co50, eo50⟩ := Kd.R_slice HO_4.out
                    subst eo50
                    have p126 : 0 ≤ (1 : Int) := (by omega)
                    have q126 : 1 < (t122.length : Int) := zo_
                    obtain ⟨ad126, e126, hx126_0⟩ := Kd.at_string (Kd.R_reads' HO_4.out).2.2 1 p126 q126
                    cases e126
                    (try simp only [show (1 : Int).toNat = 1 from rfl, Nat.reduceMul, Nat.reduceEqDiff, Go.Addr.add, ↓reduceIte] at hx126_0)
                    have qi126 : (1 < t122.length) = True := eq_true (by omega)
                    (try rw [show ((1 : Int)).toNat = 1 from rfl] at hx126_0)
                    replace p126 := eq_true p126
                    replace q126 := eq_true q126
                    go_upto_region 13 with (first | ((with_reducible refine gate_dst (N := 5) rfl ?_); refine zbx (N := 5) (cs := #[.string (⟨#[]⟩ : ByteArray), .int .i64 0, .int .i64 0, .int .i64 0]) (t := 23) ?_; intro gb127 hg w51 hbox hb; replace HO_4 := zrb HO_4 hb; have BK127 := Aside0.mk (hbox); have GW127 := zw_ HB hg; have GE127 := zw_ HB hg; replace HB := zs_ HB hb; have NB121_127 := zl hg BK121; have NB127_121 := zg hg BK121; replace BK121 := zb BK121 hb; clear hb hbox hg; have hnb52 := NB127_121.out; have hnc52 := NB121_127.out; obtain ⟨hcz53_0, hcz53_1, hcz53_2, hcz53_3, hfz53_0, hfz53_1, hfz53_2, hfz53_3⟩ := zc4 BK127; have p128 : 0 ≤ (2 : Int) := (by omega); have q128 : 2 < (t122.length : Int) := zo_; obtain ⟨ad128, e128, hx128_0⟩ := Kd.at_string (Kd.R_reads' HO_4.out).2.2 2 p128 q128; obtain rfl : ad126 = ad128 := (by injection e128); (try simp only [show (2 : Int).toNat = 2 from rfl, Nat.reduceMul, Nat.reduceEqDiff, Go.Addr.add, ↓reduceIte] at hx128_0); have qi128 : (2 < t122.length) = True := eq_true (by omega); (try rw [show ((2 : Int)).toNat = 2 from rfl] at hx128_0); have hn128_0 : ad126.block ≠ gb127 := Kd.own_blk (Kd.R_ne HO_4.out BK127.out (by decide)); have hn128_1 : ad126.block ≠ gb127 := Kd.own_blk (Kd.R_ne HO_4.out BK127.out (by decide)); have hn128_2 : ad126.block ≠ gb127 := Kd.own_blk (Kd.R_ne HO_4.out BK127.out (by decide)); have hn128_3 : ad126.block ≠ gb127 := Kd.own_blk (Kd.R_ne HO_4.out BK127.out (by decide)); replace hx128_0 := (cell_far (p := ⟨gb127, 0, none⟩) (by first | (rw [add_block]; exact hn128_0) | (show (Addr.add _ _).block ≠ _; rw [add_block]; exact hn128_0) | exact hn128_0) (.string (rdOf ByteArray.empty t122 1))).trans hx128_0; replace hx128_0 := (cell_far (p := ⟨gb127, 1, none⟩) (by first | (rw [add_block]; exact hn128_1) | (show (Addr.add _ _).block ≠ _; rw [add_block]; exact hn128_1) | exact hn128_1) (.int .i64 0)).trans hx128_0; replace hx128_0 := (cell_far (p := ⟨gb127, 2, none⟩) (by first | (rw [add_block]; exact hn128_2) | (show (Addr.add _ _).block ≠ _; rw [add_block]; exact hn128_2) | exact hn128_2) (.int .i64 0)).trans hx128_0; replace hx128_0 := (cell_far (p := ⟨gb127, 3, none⟩) (by first | (rw [add_block]; exact hn128_3) | (show (Addr.add _ _).block ≠ _; rw [add_block]; exact hn128_3) | exact hn128_3) (.int .i64 0)).trans hx128_0; clear hn128_0; clear hn128_1; clear hn128_2; clear hn128_3; replace p128 := eq_true p128; replace q128 := eq_true q128) | ((with_reducible refine gate_callee (f := 14) rfl ?_); refine zgl (some 36) Tryd.func14 #[.string (rdOf ByteArray.empty t122 2)] ?_; (with_reducible refine (spec_l00Number.calls kj5 (rdOf ByteArray.empty t122 2) t129 false _ A17.out).mono ?_); rintro e w' ⟨rfl, ⟨nd, rfl⟩⟩; refine ⟨_, rfl, ?_⟩; have p131 : 0 ≤ (3 : Int) := (by omega); have q131 : 3 < (t122.length : Int) := zo_; obtain ⟨ad131, e131, hx131_0⟩ := Kd.at_string (Kd.R_reads' HO_4.out).2.2 3 p131 q131; obtain rfl : ad126 = ad131 := (by injection e131); (try simp only [show (3 : Int).toNat = 3 from rfl, Nat.reduceMul, Nat.reduceEqDiff, Go.Addr.add, ↓reduceIte] at hx131_0); have qi131 : (3 < t122.length) = True := eq_true (by omega); (try rw [show ((3 : Int)).toNat = 3 from rfl] at hx131_0); have hn131_0 : ad126.block ≠ gb127 := Kd.own_blk (Kd.R_ne HO_4.out BK127.out (by decide)); have hn131_1 : ad126.block ≠ gb127 := Kd.own_blk (Kd.R_ne HO_4.out BK127.out (by decide)); have hn131_2 : ad126.block ≠ gb127 := Kd.own_blk (Kd.R_ne HO_4.out BK127.out (by decide)); have hn131_3 : ad126.block ≠ gb127 := Kd.own_blk (Kd.R_ne HO_4.out BK127.out (by decide)); replace hx131_0 := (cell_far (p := ⟨gb127, 0, none⟩) (by first | (rw [add_block]; exact hn131_0) | (show (Addr.add _ _).block ≠ _; rw [add_block]; exact hn131_0) | exact hn131_0) (.string (rdOf ByteArray.empty t122 1))).trans hx131_0; replace hx131_0 := (cell_far (p := ⟨gb127, 1, none⟩) (by first | (rw [add_block]; exact hn131_1) | (show (Addr.add _ _).block ≠ _; rw [add_block]; exact hn131_1) | exact hn131_1) (.int .i64 0)).trans hx131_0; replace hx131_0 := (cell_far (p := ⟨gb127, 2, none⟩) (by first | (rw [add_block]; exact hn131_2) | (show (Addr.add _ _).block ≠ _; rw [add_block]; exact hn131_2) | exact hn131_2) (.int .i64 0)).trans hx131_0; replace hx131_0 := (cell_far (p := ⟨gb127, 3, none⟩) (by first | (rw [add_block]; exact hn131_3) | (show (Addr.add _ _).block ≠ _; rw [add_block]; exact hn131_3) | exact hn131_3) (.int .i64 0)).trans hx131_0; clear hn131_0; clear hn131_1; clear hn131_2; clear hn131_3; replace p131 := eq_true p131; replace q131 := eq_true q131) | ((with_reducible refine gate_callee (f := 14) rfl ?_); refine zgl (some 43) Tryd.func14 #[.string (rdOf ByteArray.empty t122 3)] ?_; (with_reducible refine (spec_l00Number.calls kj5 (rdOf ByteArray.empty t122 3) t132 t133 _ A19.out).mono ?_); rintro e w' ⟨rfl, ⟨nd, rfl⟩⟩; refine ⟨_, rfl, ?_⟩; have p134 : 0 ≤ (4 : Int) := (by omega); have q134 : 4 < (t122.length : Int) := zo_; obtain ⟨ad134, e134, hx134_0⟩ := Kd.at_string (Kd.R_reads' HO_4.out).2.2 4 p134 q134; obtain rfl : ad126 = ad134 := (by injection e134); (try simp only [show (4 : Int).toNat = 4 from rfl, Nat.reduceMul, Nat.reduceEqDiff, Go.Addr.add, ↓reduceIte] at hx134_0); have qi134 : (4 < t122.length) = True := eq_true (by omega); (try rw [show ((4 : Int)).toNat = 4 from rfl] at hx134_0); have hn134_0 : ad126.block ≠ gb127 := Kd.own_blk (Kd.R_ne HO_4.out BK127.out (by decide)); have hn134_1 : ad126.block ≠ gb127 := Kd.own_blk (Kd.R_ne HO_4.out BK127.out (by decide)); have hn134_2 : ad126.block ≠ gb127 := Kd.own_blk (Kd.R_ne HO_4.out BK127.out (by decide)); have hn134_3 : ad126.block ≠ gb127 := Kd.own_blk (Kd.R_ne HO_4.out BK127.out (by decide)); replace hx134_0 := (cell_far (p := ⟨gb127, 0, none⟩) (by first | (rw [add_block]; exact hn134_0) | (show (Addr.add _ _).block ≠ _; rw [add_block]; exact hn134_0) | exact hn134_0) (.string (rdOf ByteArray.empty t122 1))).trans hx134_0; replace hx134_0 := (cell_far (p := ⟨gb127, 1, none⟩) (by first | (rw [add_block]; exact hn134_1) | (show (Addr.add _ _).block ≠ _; rw [add_block]; exact hn134_1) | exact hn134_1) (.int .i64 0)).trans hx134_0; replace hx134_0 := (cell_far (p := ⟨gb127, 2, none⟩) (by first | (rw [add_block]; exact hn134_2) | (show (Addr.add _ _).block ≠ _; rw [add_block]; exact hn134_2) | exact hn134_2) (.int .i64 0)).trans hx134_0; replace hx134_0 := (cell_far (p := ⟨gb127, 3, none⟩) (by first | (rw [add_block]; exact hn134_3) | (show (Addr.add _ _).block ≠ _; rw [add_block]; exact hn134_3) | exact hn134_3) (.int .i64 0)).trans hx134_0; clear hn134_0; clear hn134_1; clear hn134_2; clear hn134_3; replace p134 := eq_true p134; replace q134 := eq_true q134) | ((with_reducible refine gate_callee (f := 14) rfl ?_); refine zgl (some 50) Tryd.func14 #[.string (rdOf ByteArray.empty t122 4)] ?_; (with_reducible refine (spec_l00Number.calls kj5 (rdOf ByteArray.empty t122 4) t135 t136 _ A21.out).mono ?_); rintro e w' ⟨rfl, ⟨nd, rfl⟩⟩; refine ⟨_, rfl, ?_⟩; obtain ⟨hcz54_0, hcz54_1, hcz54_2, hcz54_3, hfz54_0, hfz54_1, hfz54_2, hfz54_3⟩ := zc4 BK121))
                    refine zgen (R := fun w' => w'.heap[gb127]? = some (.cells #[.string (rdOf ByteArray.empty t122 1), .int .i64 t129, .int .i64 t132, .int .i64 t135] 23 (0, 0)) ∧ w'.heap[gb121]? = some (.cells #[.string (⟨#[]⟩ : ByteArray), .int .i64 0, .int .i64 0, .int .i64 0] 23 (0, 0)) ∧ Below w.heap.size w w') ⟨zq BK127, zq BK121, zl_ HB⟩ (fun wn_ hR_ => ?_)
                    obtain ⟨hR1_, hR2_, hR3_⟩ := hR_
                    replace BK127 := Aside0.mk hR1_
                    replace BK121 := Aside0.mk hR2_
                    replace HB := Aside0.mk hR3_
                    clear hR1_ hR2_ hR3_
                    obtain ⟨hgz0_, hgz1_, hgz2_, hgz3_, hgf0_, hgf1_, hgf2_, hgf3_⟩ := zc4 BK127
                    obtain ⟨hhz0_, hhz1_, hhz2_, hhz3_, hhf0_, hhf1_, hhf2_, hhf3_⟩ := zc4 BK121
                    go_wp2
                    refine bodyPost_ret (results_ct rfl _ _ gb121 23 #[.string (⟨#[]⟩ : ByteArray), .int .i64 0, .int .i64 0, .int .i64 0] (0, 0) _ rfl (zq BK121) Tryd.underlying23 rfl (by kernel_rfl)) rfl ?_
                    exact ⟨zt_, zl_ HB⟩
                · rw [if_neg c20] at H
                  exact absurd H (by simp)
              · rw [if_neg c18] at H
                exact absurd H (by simp)
            · rw [if_neg c16] at H
              exact absurd H (by simp)
          · rw [if_neg c15] at H
            exact absurd H (by simp)
end Go.Proofs.YtioocldcdonlpaaDoor.A
end

section
namespace Go.Proofs.YtioocldcdonlpaaDoor.A
open Go.RowKit Go.Proofs.YtioocldcdonlpaaDoorW.PrintWords Go.Proofs.YtioocldcdonlpaaDoorW.PrintLast Go.Proofs.YtioocldcdonlpaaDoorW.PrintMore
attribute [local go_sem] max2_int min2_int max_two min_two max_three min_three max_four min_four
set_option maxHeartbeats 8000000 in
set_option maxRecDepth 100000 in
theorem laws_FnExactReadGrant.calls (k : Nat) (a0 : ByteArray) (r : Bool) (w : World) (hT : LaidT w) (h : laws_FnExactReadGrant.f k a0 = some r) :
    Calls Tryd.prog 3 #[.string a0] w fun e w' => e = .returned (.bool r) ∧ Below w.heap.size w w' := by
  have hu23 := Tryd.underlying23
  have HTD := Aside0.mk hT
  clear hT
  have HB := Aside0.mk (Below.refl w.heap.size w)
  have H : (if (a0.size : Int) > 1048576 then (some true) else ((spec_ReadGrant.f k a0).bind fun bt174 => ((impl_ReadGrant.f k a0).bind fun bt180 => ((laws_eqGrant.f bt180.1 bt180.2.1 bt180.2.2.1 bt180.2.2.2.1 bt174.1 bt174.2.1 bt174.2.2.1 bt174.2.2.2.1).bind fun t186 => (if t186 = true then (if bt180.2.2.2.2 = bt174.2.2.2.2 then (some true) else (some false)) else (some false)))))) = some r := h
  clear h
  by_cases c2 : (a0.size : Int) > 1048576
  · rw [if_pos c2] at H
    have c2b0 : decide (1048576 < (a0.size : Int)) = true := decide_eq_true c2
    have c2b1 : decide (1048576 < a0.size) = true := decide_eq_true (by omega)
    clear c2
    obtain rfl := Option.some.inj H
    go_enter Tryd.func3, Tryd.ntmps3
    go_wp2
    go_ret
    exact ⟨zt_, zl_ HB⟩
  · rw [if_neg c2] at H
    have c2b0 : decide (1048576 < (a0.size : Int)) = false := decide_eq_false c2
    have c2b1 : decide (1048576 < a0.size) = false := decide_eq_false (by omega)
    clear c2
    replace H := Option.bind_eq_some_iff.mp H
    obtain ⟨⟨t174, t175, t176, t177, t178⟩, A30, H⟩ := H
    replace H : ((impl_ReadGrant.f k a0).bind fun bt180 => ((laws_eqGrant.f bt180.1 bt180.2.1 bt180.2.2.1 bt180.2.2.2.1 t174 t175 t176 t177).bind fun t186 => (if t186 = true then (if bt180.2.2.2.2 = t178 then (some true) else (some false)) else (some false)))) = some r := H
    have A3 := Aside0.mk A30
    clear A30
    replace H := Option.bind_eq_some_iff.mp H
    obtain ⟨⟨t180, t181, t182, t183, t184⟩, A40, H⟩ := H
    replace H : ((laws_eqGrant.f t180 t181 t182 t183 t174 t175 t176 t177).bind fun t186 => (if t186 = true then (if t184 = t178 then (some true) else (some false)) else (some false))) = some r := H
    have A4 := Aside0.mk A40
    clear A40
    replace H := Option.bind_eq_some_iff.mp H
    obtain ⟨t186, A50, H⟩ := H
    replace H : (if t186 = true then (if t184 = t178 then (some true) else (some false)) else (some false)) = some r := H
    have A5 := Aside0.mk A50
    clear A50
    by_cases c6 : t186 = true
    · subst c6
      have H1 : (if t184 = t178 then (some true) else (some false)) = some r := by rw [if_pos rfl] at H; exact H
      clear H
      have H := H1
      clear H1
      by_cases c7 : t184 = t178
      · rw [if_pos c7] at H
        have c7b0 : (t184 == t178) = true := beq_iff_eq.mpr c7
        have c7b1 : (t184 != t178) = false := bne_eq_false_iff_eq.mpr c7
        clear c7
        obtain rfl := Option.some.inj H
        go_enter Tryd.func3, Tryd.ntmps3
        go_wp2_with (first | ((with_reducible refine gate_callee (f := 5) rfl ?_); refine zgl (some 12) Tryd.func5 #[.string a0] ?_; (with_reducible refine (spec_ReadGrant.calls k a0 t174 t175 t176 t177 t178 _ A3.out).mono ?_); rintro e w8 ⟨rfl, hb⟩; refine ⟨_, rfl, ?_⟩; replace HB := zs_ HB hb; (try clear hb); (try clear hb2); (try clear hk); (try clear hi)) | ((with_reducible refine gate_dst (N := 3) rfl ?_); refine zbx (N := 3) (cs := #[.string (⟨#[]⟩ : ByteArray), .int .i64 0, .int .i64 0, .int .i64 0]) (t := 23) ?_; intro gb179 hg w9 hbox hb; have BK179 := Aside0.mk (hbox); have GW179 := zw_ HB hg; have GE179 := zw_ HB hg; replace HB := zs_ HB hb; clear hb hbox hg; obtain ⟨hcz10_0, hcz10_1, hcz10_2, hcz10_3, hfz10_0, hfz10_1, hfz10_2, hfz10_3⟩ := zc4 BK179) | ((with_reducible refine gate_callee (f := 6) rfl ?_); refine zgl (some 17) Tryd.func6 #[.string a0] ?_; (with_reducible refine (impl_ReadGrant.calls k a0 t180 t181 t182 t183 t184 _ ?side1 A4.out).mono ?_); (case side1 => exact HTD.out.on (zl_ HB)); rintro e w11 ⟨rfl, hb⟩; refine ⟨_, rfl, ?_⟩; replace BK179 := Aside0.mk (blk_below (g := gb179) (o := .cells #[.string t174, .int .i64 t175, .int .i64 t176, .int .i64 t177] 23 (0, 0)) (zq BK179) hb); replace HB := zs_ HB hb; (try clear hb); (try clear hb2); (try clear hk); (try clear hi)) | ((with_reducible refine gate_dst (N := 5) rfl ?_); refine zbx (N := 5) (cs := #[.string (⟨#[]⟩ : ByteArray), .int .i64 0, .int .i64 0, .int .i64 0]) (t := 23) ?_; intro gb185 hg w12 hbox hb; have BK185 := Aside0.mk (hbox); have GW185 := zw_ HB hg; have GE185 := zw_ HB hg; replace HB := zs_ HB hb; have NB179_185 := zl hg BK179; have NB185_179 := zg hg BK179; replace BK179 := zb BK179 hb; clear hb hbox hg; have hnb13 := NB185_179.out; have hnc13 := NB179_185.out; obtain ⟨hcz14_0, hcz14_1, hcz14_2, hcz14_3, hfz14_0, hfz14_1, hfz14_2, hfz14_3⟩ := zc4 BK185; obtain ⟨hcz15_0, hcz15_1, hcz15_2, hcz15_3, hfz15_0, hfz15_1, hfz15_2, hfz15_3⟩ := zc4 BK179) | ((with_reducible refine gate_callee (f := 7) rfl ?_); refine zgl (some 22) Tryd.func7 #[.agg #[.string t180, .int .i64 t181, .int .i64 t182, .int .i64 t183], .agg #[.string t174, .int .i64 t175, .int .i64 t176, .int .i64 t177]] ?_; (with_reducible refine (laws_eqGrant.calls t180 t181 t182 t183 t174 t175 t176 t177 true _ A5.out).mono ?_); rintro e w16 ⟨rfl, hb⟩; refine ⟨_, rfl, ?_⟩; replace BK179 := Aside0.mk (blk_below (g := gb179) (o := .cells #[.string t174, .int .i64 t175, .int .i64 t176, .int .i64 t177] 23 (0, 0)) (zq BK179) hb); replace BK185 := Aside0.mk (blk_below (g := gb185) (o := .cells #[.string t180, .int .i64 t181, .int .i64 t182, .int .i64 t183] 23 (0, 0)) (zq BK185) hb); replace HB := zs_ HB hb; (try clear hb); (try clear hb2); (try clear hk); (try clear hi)))
        go_ret
        exact ⟨zt_, zl_ HB⟩
      · rw [if_neg c7] at H
        have c7b0 : (t184 == t178) = false := beq_eq_false_iff_ne.mpr c7
        have c7b1 : (t184 != t178) = true := bne_iff_ne.mpr c7
        obtain rfl := Option.some.inj H
        go_enter Tryd.func3, Tryd.ntmps3
        go_wp2_with (first | ((with_reducible refine gate_callee (f := 5) rfl ?_); refine zgl (some 12) Tryd.func5 #[.string a0] ?_; (with_reducible refine (spec_ReadGrant.calls k a0 t174 t175 t176 t177 t178 _ A3.out).mono ?_); rintro e w17 ⟨rfl, hb⟩; refine ⟨_, rfl, ?_⟩; replace HB := zs_ HB hb; (try clear hb); (try clear hb2); (try clear hk); (try clear hi)) | ((with_reducible refine gate_dst (N := 3) rfl ?_); refine zbx (N := 3) (cs := #[.string (⟨#[]⟩ : ByteArray), .int .i64 0, .int .i64 0, .int .i64 0]) (t := 23) ?_; intro gb179 hg w18 hbox hb; have BK179 := Aside0.mk (hbox); have GW179 := zw_ HB hg; have GE179 := zw_ HB hg; replace HB := zs_ HB hb; clear hb hbox hg; obtain ⟨hcz19_0, hcz19_1, hcz19_2, hcz19_3, hfz19_0, hfz19_1, hfz19_2, hfz19_3⟩ := zc4 BK179) | ((with_reducible refine gate_callee (f := 6) rfl ?_); refine zgl (some 17) Tryd.func6 #[.string a0] ?_; (with_reducible refine (impl_ReadGrant.calls k a0 t180 t181 t182 t183 t184 _ ?side1 A4.out).mono ?_); (case side1 => exact HTD.out.on (zl_ HB)); rintro e w20 ⟨rfl, hb⟩; refine ⟨_, rfl, ?_⟩; replace BK179 := Aside0.mk (blk_below (g := gb179) (o := .cells #[.string t174, .int .i64 t175, .int .i64 t176, .int .i64 t177] 23 (0, 0)) (zq BK179) hb); replace HB := zs_ HB hb; (try clear hb); (try clear hb2); (try clear hk); (try clear hi)) | ((with_reducible refine gate_dst (N := 5) rfl ?_); refine zbx (N := 5) (cs := #[.string (⟨#[]⟩ : ByteArray), .int .i64 0, .int .i64 0, .int .i64 0]) (t := 23) ?_; intro gb185 hg w21 hbox hb; have BK185 := Aside0.mk (hbox); have GW185 := zw_ HB hg; have GE185 := zw_ HB hg; replace HB := zs_ HB hb; have NB179_185 := zl hg BK179; have NB185_179 := zg hg BK179; replace BK179 := zb BK179 hb; clear hb hbox hg; have hnb22 := NB185_179.out; have hnc22 := NB179_185.out; obtain ⟨hcz23_0, hcz23_1, hcz23_2, hcz23_3, hfz23_0, hfz23_1, hfz23_2, hfz23_3⟩ := zc4 BK185; obtain ⟨hcz24_0, hcz24_1, hcz24_2, hcz24_3, hfz24_0, hfz24_1, hfz24_2, hfz24_3⟩ := zc4 BK179) | ((with_reducible refine gate_callee (f := 7) rfl ?_); refine zgl (some 22) Tryd.func7 #[.agg #[.string t180, .int .i64 t181, .int .i64 t182, .int .i64 t183], .agg #[.string t174, .int .i64 t175, .int .i64 t176, .int .i64 t177]] ?_; (with_reducible refine (laws_eqGrant.calls t180 t181 t182 t183 t174 t175 t176 t177 true _ A5.out).mono ?_); rintro e w25 ⟨rfl, hb⟩; refine ⟨_, rfl, ?_⟩; replace HB := zs_ HB hb; (try clear hb); (try clear hb2); (try clear hk); (try clear hi)))
        go_ret
        exact ⟨zt_, zl_ HB⟩
    · replace c6 := Bool.eq_false_iff.mpr c6
      subst c6
      have H1 : (some false) = some r := by rw [if_neg (show ¬ (false = true) by decide)] at H; exact H
      clear H
      have H := H1
      clear H1
      obtain rfl := Option.some.inj H
      go_enter Tryd.func3, Tryd.ntmps3
      go_wp2_with (first | ((with_reducible refine gate_callee (f := 5) rfl ?_); refine zgl (some 12) Tryd.func5 #[.string a0] ?_; (with_reducible refine (spec_ReadGrant.calls k a0 t174 t175 t176 t177 t178 _ A3.out).mono ?_); rintro e w26 ⟨rfl, hb⟩; refine ⟨_, rfl, ?_⟩; replace HB := zs_ HB hb; (try clear hb); (try clear hb2); (try clear hk); (try clear hi)) | ((with_reducible refine gate_dst (N := 3) rfl ?_); refine zbx (N := 3) (cs := #[.string (⟨#[]⟩ : ByteArray), .int .i64 0, .int .i64 0, .int .i64 0]) (t := 23) ?_; intro gb179 hg w27 hbox hb; have BK179 := Aside0.mk (hbox); have GW179 := zw_ HB hg; have GE179 := zw_ HB hg; replace HB := zs_ HB hb; clear hb hbox hg; obtain ⟨hcz28_0, hcz28_1, hcz28_2, hcz28_3, hfz28_0, hfz28_1, hfz28_2, hfz28_3⟩ := zc4 BK179) | ((with_reducible refine gate_callee (f := 6) rfl ?_); refine zgl (some 17) Tryd.func6 #[.string a0] ?_; (with_reducible refine (impl_ReadGrant.calls k a0 t180 t181 t182 t183 t184 _ ?side1 A4.out).mono ?_); (case side1 => exact HTD.out.on (zl_ HB)); rintro e w29 ⟨rfl, hb⟩; refine ⟨_, rfl, ?_⟩; replace BK179 := Aside0.mk (blk_below (g := gb179) (o := .cells #[.string t174, .int .i64 t175, .int .i64 t176, .int .i64 t177] 23 (0, 0)) (zq BK179) hb); replace HB := zs_ HB hb; (try clear hb); (try clear hb2); (try clear hk); (try clear hi)) | ((with_reducible refine gate_dst (N := 5) rfl ?_); refine zbx (N := 5) (cs := #[.string (⟨#[]⟩ : ByteArray), .int .i64 0, .int .i64 0, .int .i64 0]) (t := 23) ?_; intro gb185 hg w30 hbox hb; have BK185 := Aside0.mk (hbox); have GW185 := zw_ HB hg; have GE185 := zw_ HB hg; replace HB := zs_ HB hb; have NB179_185 := zl hg BK179; have NB185_179 := zg hg BK179; replace BK179 := zb BK179 hb; clear hb hbox hg; have hnb31 := NB185_179.out; have hnc31 := NB179_185.out; obtain ⟨hcz32_0, hcz32_1, hcz32_2, hcz32_3, hfz32_0, hfz32_1, hfz32_2, hfz32_3⟩ := zc4 BK185; obtain ⟨hcz33_0, hcz33_1, hcz33_2, hcz33_3, hfz33_0, hfz33_1, hfz33_2, hfz33_3⟩ := zc4 BK179) | ((with_reducible refine gate_callee (f := 7) rfl ?_); refine zgl (some 22) Tryd.func7 #[.agg #[.string t180, .int .i64 t181, .int .i64 t182, .int .i64 t183], .agg #[.string t174, .int .i64 t175, .int .i64 t176, .int .i64 t177]] ?_; (with_reducible refine (laws_eqGrant.calls t180 t181 t182 t183 t174 t175 t176 t177 false _ A5.out).mono ?_); rintro e w34 ⟨rfl, hb⟩; refine ⟨_, rfl, ?_⟩; replace HB := zs_ HB hb; (try clear hb); (try clear hb2); (try clear hk); (try clear hi)))
      go_ret
      exact ⟨zt_, zl_ HB⟩
end Go.Proofs.YtioocldcdonlpaaDoor.A
end

section
namespace Go.Proofs.YtioocldcdonlpaaDoor.A
open Go
variable {H : Type} {enc : TypeId × Value → H}
theorem handed_and_shaped {a : Assume} {C : Checked} {os : Os} {f : FuncId} {fu : Func} {s : ChangeSpec} {conds : List PathCond} {apart fresh handsOn again : Bool} {X : World → Array Value → Prop}
    (hX : ∀ (w w' : World) (args : Array Value), w.heap = w'.heap → X w args → X w' args)
    (own : ownKnob C.prog.godebug = none) (started : os.Started) (noInit : C.prog.inits.idxOf? f = none) (hfn : C.prog.funcs[f]? = some fu)
    (witness : ∃ (w : World) (tape : Tape) (i : Input), w.os = os ∧ (w.forCall tape i).Shaped C.prog ∧ i.vars = [] ∧ Input.okWide C.prog (w.forCall tape i) .any w.heap.size f i ∧
      ((s.pre enc C.prog fu conds apart (w.forCall tape i).memory i.args ∧ X (w.forCall tape i).memory i.args) ∧ sizedMet enc C.prog fu (OpenSpec.ofChange s) apart (w.forCall tape i).memory i.args) ∧ a.holds C.prog (lone (Frame.enter C.prog f i.args .normal) [] (w.forCall tape i)))
    (contract : ∀ (W : World) (base : Nat) (args : Array Value) (ds gs : List (DataW H)) (before : List MemPlace),
      (∀ (j : Nat) t v, fu.params[j]? = some t → args[j]? = some v → Value.okWide C.prog W .any base t v) →
      DataW.Whole enc C.prog fu.params.toList s.vars apart W args.toList ds gs before →
      conds.all (PathCond.test C.prog ⟨fu.params.toList, ds, s.plain.varTypes C.prog, gs⟩) = true →
      (DataW.weightsEach C.prog (fu.params.toList ++ s.plain.varTypes C.prog) (ds ++ gs)).all (· ≤ reachBytes) = true → X W args → W.ShapedOpen C.prog →
      a.holds C.prog (lone (Frame.enter C.prog f args .normal) [] W) →
      Calls C.prog f args W fun e W' => ∃ v, e = .returned v ∧ s.post enc C.prog fu apart fresh handsOn again W args v W') :
    ReturnsInHanded a C os f .any (fun w args => (s.pre enc C.prog fu conds apart w args ∧ X w args) ∧ sizedMet enc C.prog fu (OpenSpec.ofChange s) apart w args) (s.post enc C.prog fu apart fresh handsOn again) := by
  refine returnsInHanded_of_calls own started noInit witness ?_
  intro w tape i _ hsh _ hok hpre hholds
  obtain ⟨_, _, _, fn', hfn', _, _, _, _, hval⟩ := hok
  obtain rfl : fn' = fu := Option.some.inj (hfn'.symm.trans hfn)
  obtain ⟨⟨⟨ds, gs, before, hw, hc⟩, hx⟩, hz⟩ := hpre
  refine (contract (w.forCall tape i) w.heap.size i.args ds gs before hval (DataW.Whole.of_heap (w' := w.forCall tape i) (by rfl) hw) hc (hz.weights hw) (hX _ _ _ (by rfl) hx) hsh hholds).mono fun e W' ⟨v, he, hp⟩ => ?_
  subst he
  exact ChangeSpec.post_blind hp
end Go.Proofs.YtioocldcdonlpaaDoor.A
end
