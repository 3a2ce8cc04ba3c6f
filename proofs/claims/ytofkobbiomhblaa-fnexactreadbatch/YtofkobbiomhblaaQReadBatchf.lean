/- A part of the proof that FnExactReadBatch returns true at every input: plain functions, contracts and lemmas. No conditions. -/
import Derived.Test.YtofkobbiomhblaaQReadBatche
set_option linter.unusedVariables false
set_option linter.unusedSimpArgs false
set_option linter.unusedSectionVars false
section
namespace Go.Proofs.Ytofkobbiomhblaa.A
open Go.RowKit Go.Proofs.YtofkobbiomhblaaW.PrintWords Go.Proofs.YtofkobbiomhblaaW.PrintLast Go.Proofs.YtofkobbiomhblaaW.PrintMore
attribute [local go_sem] max2_int min2_int max_two min_two max_three min_three max_four min_four
attribute [local go_sem high] eqA36
def spec_l02BatchOK.T8 : Bool × List (List Nat × List Nat) := (true, [([], []), ([0], [0]), ([], []), ([1, 2], [1, 2]), ([3], [3]), ([4], [4]), ([5], [5]), ([6, 5], [6]), ([7], [7]), ([8, 7], [7, 8]), ([9, 7, 7], [7, 9]), ([10], [10]), ([11, 10], [10, 11]), ([10], [10]), ([13, 10], [10, 13]), ([12, 14, 10], [10, 12, 14]), ([15, 10], [10, 15]), ([16, 10], [10, 16]), ([10], [10]), ([18, 10], [10, 18]), ([10], [10]), ([19, 20, 10], [10, 19, 20]), ([21, 10], [10, 21]), ([22, 10], [10, 22]), ([17, 23, 10], [10, 17, 23]), ([10, 24, 7], [7, 10, 24]), ([7, 25], [7, 25])])
def spec_l02BatchOK.B8 : List Nat := [0, 1, 0, 7, 15, 31, 63, 127, 255, 511, 1023, 2047, 4095, 2047, 10239, 32767, 65535, 131071, 2047, 264191, 2047, 1837055, 3934207, 8128511, 16777215, 33554431, 67108863]
theorem spec_l02BatchOK.tab8 : rtab .any (opsOf Try.f138 8) = spec_l02BatchOK.T8 := by kernel_rfl
theorem spec_l02BatchOK.bits8 : waitsOk spec_l02BatchOK.T8.2 spec_l02BatchOK.B8 = true := by kernel_rfl
set_option maxHeartbeats 8000000 in
set_option maxRecDepth 100000 in
theorem spec_l02BatchOK.calls (k : Nat) (a0_0 : Bool) (a0_1 : Int) (a0_2 : Int) (a0_3 : Int) (a0_4 : Int) (a0_5 : ByteArray) (A0_6 : Option Addr) (c0_6 : Nat) (l0_6 : List (S161)) (r : Bool) (w : World) (hr0_6 : Kd.C k161 w A0_6 l0_6.length l0_6) (hc0_6 : l0_6.length ≤ c0_6) (h : spec_l02BatchOK.f k a0_0 a0_1 a0_2 a0_3 a0_4 a0_5 l0_6 = some r) :
    Calls Try.prog 138 #[.agg #[.bool a0_0, .int .i64 a0_1, .int .i64 a0_2, .int .i64 a0_3, .int .i64 a0_4, .string a0_5, .slice A0_6 l0_6.length c0_6]] w fun e w' => e = .returned (.bool r) ∧ Below w.heap.size w w' := by
  have hu67 := Try.underlying67
  have hu36 := Try.underlying36
  have hu161 := Try.underlying161
  have HR0_6 := Aside0.mk hr0_6
  have HC0_6 := Aside0.mk hc0_6
  clear hr0_6 hc0_6
  have HB := Aside0.mk (Below.refl w.heap.size w)
  have H : (if a0_0 = true then (if (a0_1 == 0 && (a0_2 == 0 && (a0_3 == 0 && (a0_4 == 0 && (a0_5.toList == ([] : List UInt8)))))) = true then (some ((l0_6.length : Int) == 0)) else (some false)) else ((spec_RequestOK.f k a0_1 a0_2 a0_3 a0_4 a0_5).bind fun t1049 => (if t1049 = true then (spec_l02BatchOK.j0 k (decide ((l0_6.length : Int) > 7)) a0_0 a0_1 a0_2 a0_3 a0_4 a0_5 l0_6) else (spec_l02BatchOK.j0 k true a0_0 a0_1 a0_2 a0_3 a0_4 a0_5 l0_6)))) = some r := h
  clear h
  by_cases c2 : a0_0 = true
  · subst c2
    have H1 : (if (a0_1 == 0 && (a0_2 == 0 && (a0_3 == 0 && (a0_4 == 0 && (a0_5.toList == ([] : List UInt8)))))) = true then (some ((l0_6.length : Int) == 0)) else (some false)) = some r := by rw [if_pos rfl] at H; exact H
    clear H
    have H := H1
    clear H1
    by_cases c3 : (a0_1 == 0 && (a0_2 == 0 && (a0_3 == 0 && (a0_4 == 0 && (a0_5.toList == ([] : List UInt8)))))) = true
    · rw [if_pos c3] at H
      have c3k := Aside0.mk c3
      have c3b0 : (a0_1 == 0 && (a0_2 == 0 && (a0_3 == 0 && (a0_4 == 0 && (a0_5.toList == ([] : List UInt8)))))) = true := c3k.out
      (try (have c3b1 : decide (a0_1 = 0 && (a0_2 == 0 && (a0_3 == 0 && (a0_4 == 0 && (a0_5.toList == ([] : List UInt8)))))) = true := by simpa using c3k.out))
      (try (have c3b2 : (a0_1 == 0 && (a0_2 == 0 && (a0_3 == 0 && (a0_4 == 0 && (a0_5.toList == ([] : List UInt8)))))) = true := by simpa using c3k.out))
      (try have c3e0 := c3b0; simp only [mp_beq_nil, mp_bne_nil] at c3e0)
      (try have c3e1 := c3b1; simp only [mp_beq_nil, mp_bne_nil] at c3e1)
      (try have c3e2 := c3b2; simp only [mp_beq_nil, mp_bne_nil] at c3e2)
      (try simp only [*, Bool.not_true, Bool.not_false, Bool.false_or, Bool.true_or, Bool.or_false, Bool.or_true, Bool.true_and, Bool.and_true, Bool.false_and, Bool.and_false] at c3)
      have c3bs := c3
      clear c3k
      clear c3
      obtain rfl := Option.some.inj H
      go_enter Try.func138, Try.ntmps138
      go_wp2_with (first | ((with_reducible refine gate_dst (N := 1) rfl ?_); (try (refine gate_guard (by rfl) ?_; dsimp only)); refine box_event ?hg (N := 1) ?hd (cs := #[.bool true, .int .i64 a0_1, .int .i64 a0_2, .int .i64 a0_3, .int .i64 a0_4, .string a0_5, .slice A0_6 l0_6.length c0_6]) (t := 67) ?hr ?_; (case hd => rfl); (case hg => rfl); (case hr => first | (go_simp; done) | (go_simp; rfl)); intro gb1048 hg w4 hbox hb; have n0_ := Aside0.mk (below_step (by repeat (first | (with_reducible first | exact HB.out | apply below_alloc | apply pw_below_drewN | apply below_drew1) | exact HB.out)) hb); have n1_ := Aside0.mk (hbox); have n2_ := Aside0.mk ((by rw [hg]; exact (below_size (by repeat (first | (with_reducible first | exact HB.out | apply below_alloc | apply pw_below_drewN | apply below_drew1) | exact HB.out))) : w.heap.size ≤ gb1048)); have n3_ := Aside0.mk ((by rw [hg]; exact (below_size (by repeat (first | (with_reducible first | exact HB.out | apply below_alloc | apply pw_below_drewN | apply below_drew1) | exact HB.out))) : w.heap.size ≤ gb1048)); clear HB; have HB := n0_; have BK1048 := n1_; have GW1048 := n2_; have GE1048 := n3_; clear n0_ n1_ n2_ n3_; clear hb hbox hg; have hcz5_0 : w4.cell? ⟨gb1048, 0, none⟩ = some (.bool true) := (blk_cell BK1048.out 0).trans rfl; have hcz5_1 : w4.cell? ⟨gb1048, 1, none⟩ = some (.int .i64 a0_1) := (blk_cell BK1048.out 1).trans rfl; have hcz5_2 : w4.cell? ⟨gb1048, 2, none⟩ = some (.int .i64 a0_2) := (blk_cell BK1048.out 2).trans rfl; have hcz5_3 : w4.cell? ⟨gb1048, 3, none⟩ = some (.int .i64 a0_3) := (blk_cell BK1048.out 3).trans rfl; have hcz5_4 : w4.cell? ⟨gb1048, 4, none⟩ = some (.int .i64 a0_4) := (blk_cell BK1048.out 4).trans rfl; have hcz5_5 : w4.cell? ⟨gb1048, 5, none⟩ = some (.string a0_5) := (blk_cell BK1048.out 5).trans rfl; have hcz5_6 : w4.cell? ⟨gb1048, 6, none⟩ = some (.slice A0_6 l0_6.length c0_6) := (blk_cell BK1048.out 6).trans rfl; have hfz5_0 := blk_frozen BK1048.out 0; have hfz5_1 := blk_frozen BK1048.out 1; have hfz5_2 := blk_frozen BK1048.out 2; have hfz5_3 := blk_frozen BK1048.out 3; have hfz5_4 := blk_frozen BK1048.out 4; have hfz5_5 := blk_frozen BK1048.out 5; have hfz5_6 := blk_frozen BK1048.out 6))
      go_ret
      exact ⟨by first | rfl | (simp [errW_none, errW_some] <;> rfl) | (simp [*, errW_none, errW_some] <;> rfl) | (simp [mp_beq_nil, mp_bne_nil]; done) | (simp [*, mp_beq_nil, mp_bne_nil]; done), by repeat (first | (with_reducible first | exact HB.out | apply below_alloc | apply pw_below_drewN | apply below_drew1 | refine below_set ?_ GE1048.out) | exact HB.out)⟩
    · rw [if_neg c3] at H
      have c3k := Aside0.mk c3
      have c3b0 : (a0_1 == 0 && (a0_2 == 0 && (a0_3 == 0 && (a0_4 == 0 && (a0_5.toList == ([] : List UInt8)))))) = false := by simpa using c3k.out
      (try (have c3b1 : decide (a0_1 = 0 && (a0_2 == 0 && (a0_3 == 0 && (a0_4 == 0 && (a0_5.toList == ([] : List UInt8)))))) = false := by simpa using c3k.out))
      (try (have c3b2 : (a0_1 == 0 && (a0_2 == 0 && (a0_3 == 0 && (a0_4 == 0 && (a0_5.toList == ([] : List UInt8)))))) = false := by simpa using c3k.out))
      (try (have c3b3 : ¬ (a0_1 = 0 && (a0_2 == 0 && (a0_3 == 0 && (a0_4 == 0 && (a0_5.toList == ([] : List UInt8)))))) := by simpa using c3k.out))
      (try have c3e0 := c3b0; simp only [mp_beq_nil, mp_bne_nil] at c3e0)
      (try have c3e1 := c3b1; simp only [mp_beq_nil, mp_bne_nil] at c3e1)
      (try have c3e2 := c3b2; simp only [mp_beq_nil, mp_bne_nil] at c3e2)
      (try have c3e3 := c3b3; simp only [mp_beq_nil, mp_bne_nil] at c3e3)
      (try simp only [*, Bool.not_true, Bool.not_false, Bool.false_or, Bool.true_or, Bool.or_false, Bool.or_true, Bool.true_and, Bool.and_true, Bool.false_and, Bool.and_false] at c3)
      have c3bs := c3
      clear c3k
      clear c3
      obtain rfl := Option.some.inj H
      go_enter Try.func138, Try.ntmps138
      go_wp2_with (first | ((with_reducible refine gate_dst (N := 1) rfl ?_); (try (refine gate_guard (by rfl) ?_; dsimp only)); refine box_event ?hg (N := 1) ?hd (cs := #[.bool true, .int .i64 a0_1, .int .i64 a0_2, .int .i64 a0_3, .int .i64 a0_4, .string a0_5, .slice A0_6 l0_6.length c0_6]) (t := 67) ?hr ?_; (case hd => rfl); (case hg => rfl); (case hr => first | (go_simp; done) | (go_simp; rfl)); intro gb1048 hg w6 hbox hb; have n0_ := Aside0.mk (below_step (by repeat (first | (with_reducible first | exact HB.out | apply below_alloc | apply pw_below_drewN | apply below_drew1) | exact HB.out)) hb); have n1_ := Aside0.mk (hbox); have n2_ := Aside0.mk ((by rw [hg]; exact (below_size (by repeat (first | (with_reducible first | exact HB.out | apply below_alloc | apply pw_below_drewN | apply below_drew1) | exact HB.out))) : w.heap.size ≤ gb1048)); have n3_ := Aside0.mk ((by rw [hg]; exact (below_size (by repeat (first | (with_reducible first | exact HB.out | apply below_alloc | apply pw_below_drewN | apply below_drew1) | exact HB.out))) : w.heap.size ≤ gb1048)); clear HB; have HB := n0_; have BK1048 := n1_; have GW1048 := n2_; have GE1048 := n3_; clear n0_ n1_ n2_ n3_; clear hb hbox hg; have hcz7_0 : w6.cell? ⟨gb1048, 0, none⟩ = some (.bool true) := (blk_cell BK1048.out 0).trans rfl; have hcz7_1 : w6.cell? ⟨gb1048, 1, none⟩ = some (.int .i64 a0_1) := (blk_cell BK1048.out 1).trans rfl; have hcz7_2 : w6.cell? ⟨gb1048, 2, none⟩ = some (.int .i64 a0_2) := (blk_cell BK1048.out 2).trans rfl; have hcz7_3 : w6.cell? ⟨gb1048, 3, none⟩ = some (.int .i64 a0_3) := (blk_cell BK1048.out 3).trans rfl; have hcz7_4 : w6.cell? ⟨gb1048, 4, none⟩ = some (.int .i64 a0_4) := (blk_cell BK1048.out 4).trans rfl; have hcz7_5 : w6.cell? ⟨gb1048, 5, none⟩ = some (.string a0_5) := (blk_cell BK1048.out 5).trans rfl; have hcz7_6 : w6.cell? ⟨gb1048, 6, none⟩ = some (.slice A0_6 l0_6.length c0_6) := (blk_cell BK1048.out 6).trans rfl; have hfz7_0 := blk_frozen BK1048.out 0; have hfz7_1 := blk_frozen BK1048.out 1; have hfz7_2 := blk_frozen BK1048.out 2; have hfz7_3 := blk_frozen BK1048.out 3; have hfz7_4 := blk_frozen BK1048.out 4; have hfz7_5 := blk_frozen BK1048.out 5; have hfz7_6 := blk_frozen BK1048.out 6))
      go_ret
      exact ⟨by first | rfl | (simp [errW_none, errW_some] <;> rfl) | (simp [*, errW_none, errW_some] <;> rfl) | (simp [mp_beq_nil, mp_bne_nil]; done) | (simp [*, mp_beq_nil, mp_bne_nil]; done), by repeat (first | (with_reducible first | exact HB.out | apply below_alloc | apply pw_below_drewN | apply below_drew1 | refine below_set ?_ GE1048.out) | exact HB.out)⟩
  · replace c2 := Bool.eq_false_iff.mpr c2
    subst c2
    have H1 : ((spec_RequestOK.f k a0_1 a0_2 a0_3 a0_4 a0_5).bind fun t1049 => (if t1049 = true then (spec_l02BatchOK.j0 k (decide ((l0_6.length : Int) > 7)) false a0_1 a0_2 a0_3 a0_4 a0_5 l0_6) else (spec_l02BatchOK.j0 k true false a0_1 a0_2 a0_3 a0_4 a0_5 l0_6))) = some r := by rw [if_neg (show ¬ (false = true) by decide)] at H; exact H
    clear H
    have H := H1
    clear H1
    have HC8 := Aside0.mk H
    clear H
    go_enter Try.func138, Try.ntmps138
    go_upto_region 3 with (first | ((with_reducible refine gate_dst (N := 1) rfl ?_); (try (refine gate_guard (by rfl) ?_; dsimp only)); refine box_event ?hg (N := 1) ?hd (cs := #[.bool false, .int .i64 a0_1, .int .i64 a0_2, .int .i64 a0_3, .int .i64 a0_4, .string a0_5, .slice A0_6 l0_6.length c0_6]) (t := 67) ?hr ?_; (case hd => rfl); (case hg => rfl); (case hr => first | (go_simp; done) | (go_simp; rfl)); intro gb1048 hg w9 hbox hb; have n0_ := Aside0.mk (below_step (by repeat (first | (with_reducible first | exact HB.out | apply below_alloc | apply pw_below_drewN | apply below_drew1) | exact HB.out)) hb); have n1_ := Aside0.mk (hbox); have n2_ := Aside0.mk ((by rw [hg]; exact (below_size (by repeat (first | (with_reducible first | exact HB.out | apply below_alloc | apply pw_below_drewN | apply below_drew1) | exact HB.out))) : w.heap.size ≤ gb1048)); have n3_ := Aside0.mk ((by rw [hg]; exact (below_size (by repeat (first | (with_reducible first | exact HB.out | apply below_alloc | apply pw_below_drewN | apply below_drew1) | exact HB.out))) : w.heap.size ≤ gb1048)); clear HB; have HB := n0_; have BK1048 := n1_; have GW1048 := n2_; have GE1048 := n3_; clear n0_ n1_ n2_ n3_; clear hb hbox hg; have hcz10_0 : w9.cell? ⟨gb1048, 0, none⟩ = some (.bool false) := (blk_cell BK1048.out 0).trans rfl; have hcz10_1 : w9.cell? ⟨gb1048, 1, none⟩ = some (.int .i64 a0_1) := (blk_cell BK1048.out 1).trans rfl; have hcz10_2 : w9.cell? ⟨gb1048, 2, none⟩ = some (.int .i64 a0_2) := (blk_cell BK1048.out 2).trans rfl; have hcz10_3 : w9.cell? ⟨gb1048, 3, none⟩ = some (.int .i64 a0_3) := (blk_cell BK1048.out 3).trans rfl; have hcz10_4 : w9.cell? ⟨gb1048, 4, none⟩ = some (.int .i64 a0_4) := (blk_cell BK1048.out 4).trans rfl; have hcz10_5 : w9.cell? ⟨gb1048, 5, none⟩ = some (.string a0_5) := (blk_cell BK1048.out 5).trans rfl; have hcz10_6 : w9.cell? ⟨gb1048, 6, none⟩ = some (.slice A0_6 l0_6.length c0_6) := (blk_cell BK1048.out 6).trans rfl; have hfz10_0 := blk_frozen BK1048.out 0; have hfz10_1 := blk_frozen BK1048.out 1; have hfz10_2 := blk_frozen BK1048.out 2; have hfz10_3 := blk_frozen BK1048.out 3; have hfz10_4 := blk_frozen BK1048.out 4; have hfz10_5 := blk_frozen BK1048.out 5; have hfz10_6 := blk_frozen BK1048.out 6))
    (try simp only [Act.put, List.setIfInBounds_toArray, List.set_cons_zero, List.set_cons_succ])
    go_cut [25] (fun v25 wc => ∃ (kq : Nat) (x25_7 : Bool), v25 = .bool x25_7 ∧ Aside0 (spec_l02BatchOK.j0 kq x25_7 false a0_1 a0_2 a0_3 a0_4 a0_5 l0_6 = some r) ∧ Aside0 (kq ≤ k) ∧ Aside0 (wc.heap[gb1048]? = some (.cells #[.bool false, .int .i64 a0_1, .int .i64 a0_2, .int .i64 a0_3, .int .i64 a0_4, .string a0_5, (.slice A0_6 l0_6.length c0_6)] 67 (0, 0))) ∧ Aside0 (Below w.heap.size w wc))
    case first =>
      have H := HC8.out
      clear HC8
      replace H := Option.bind_eq_some_iff.mp H
      obtain ⟨t1049, A110, H⟩ := H
      replace H : (if t1049 = true then (spec_l02BatchOK.j0 k (decide ((l0_6.length : Int) > 7)) false a0_1 a0_2 a0_3 a0_4 a0_5 l0_6) else (spec_l02BatchOK.j0 k true false a0_1 a0_2 a0_3 a0_4 a0_5 l0_6)) = some r := H
      have A11 := Aside0.mk A110
      clear A110
      by_cases c12 : t1049 = true
      · subst c12
        have H1 : (spec_l02BatchOK.j0 k (decide ((l0_6.length : Int) > 7)) false a0_1 a0_2 a0_3 a0_4 a0_5 l0_6) = some r := by rw [if_pos rfl] at H; exact H
        clear H
        have H := H1
        clear H1
        have H' := Aside0.mk H
        clear H
        have hcz13_0 : w9.cell? ⟨gb1048, 0, none⟩ = some (.bool false) := (blk_cell BK1048.out 0).trans rfl
        have hcz13_1 : w9.cell? ⟨gb1048, 1, none⟩ = some (.int .i64 a0_1) := (blk_cell BK1048.out 1).trans rfl
        have hcz13_2 : w9.cell? ⟨gb1048, 2, none⟩ = some (.int .i64 a0_2) := (blk_cell BK1048.out 2).trans rfl
        have hcz13_3 : w9.cell? ⟨gb1048, 3, none⟩ = some (.int .i64 a0_3) := (blk_cell BK1048.out 3).trans rfl
        have hcz13_4 : w9.cell? ⟨gb1048, 4, none⟩ = some (.int .i64 a0_4) := (blk_cell BK1048.out 4).trans rfl
        have hcz13_5 : w9.cell? ⟨gb1048, 5, none⟩ = some (.string a0_5) := (blk_cell BK1048.out 5).trans rfl
        have hcz13_6 : w9.cell? ⟨gb1048, 6, none⟩ = some (.slice A0_6 l0_6.length c0_6) := (blk_cell BK1048.out 6).trans rfl
        have hfz13_0 := blk_frozen BK1048.out 0
        have hfz13_1 := blk_frozen BK1048.out 1
        have hfz13_2 := blk_frozen BK1048.out 2
        have hfz13_3 := blk_frozen BK1048.out 3
        have hfz13_4 := blk_frozen BK1048.out 4
        have hfz13_5 := blk_frozen BK1048.out 5
        have hfz13_6 := blk_frozen BK1048.out 6
        go_wp2_with (first | ((with_reducible refine gate_callee (f := 154) rfl ?_); refine goesL_ (some 18) rfl rfl Try.func154 (by kernel_rfl) rfl #[.agg #[.int .i64 a0_1, .int .i64 a0_2, .int .i64 a0_3, .int .i64 a0_4, .string a0_5]] rfl (by (try simp only [List.map_toArray, List.map_cons, List.map_nil]); first | done | rfl | (simp only [List.length_drop, List.length_take]; rfl)) ?_; (with_reducible refine (spec_RequestOK.calls k a0_1 a0_2 a0_3 a0_4 a0_5 true _ A11.out).mono ?_); rintro e w14 ⟨rfl, hb⟩; refine ⟨_, rfl, ?_⟩; have n0_ := Aside0.mk (blk_below (g := gb1048) (o := .cells #[.bool false, .int .i64 a0_1, .int .i64 a0_2, .int .i64 a0_3, .int .i64 a0_4, .string a0_5, .slice A0_6 l0_6.length c0_6] 67 (0, 0)) (by (with_reducible repeat (first | refine blk_drewN ?_ _ | refine blk_drew ?_ | refine blk_alloc ?_ _)); exact BK1048.out) hb); have n1_ := Aside0.mk (below_step (by repeat (first | (with_reducible first | exact HB.out | apply below_alloc | apply pw_below_drewN | apply below_drew1 | refine below_set ?_ GE1048.out) | exact HB.out)) hb); clear BK1048; clear HB; have BK1048 := n0_; have HB := n1_; clear n0_ n1_; (try clear hb); (try clear hb2); (try clear hk); (try clear hi); have hcz15_0 : w14.cell? ⟨gb1048, 0, none⟩ = some (.bool false) := (blk_cell BK1048.out 0).trans rfl; have hcz15_1 : w14.cell? ⟨gb1048, 1, none⟩ = some (.int .i64 a0_1) := (blk_cell BK1048.out 1).trans rfl; have hcz15_2 : w14.cell? ⟨gb1048, 2, none⟩ = some (.int .i64 a0_2) := (blk_cell BK1048.out 2).trans rfl; have hcz15_3 : w14.cell? ⟨gb1048, 3, none⟩ = some (.int .i64 a0_3) := (blk_cell BK1048.out 3).trans rfl; have hcz15_4 : w14.cell? ⟨gb1048, 4, none⟩ = some (.int .i64 a0_4) := (blk_cell BK1048.out 4).trans rfl; have hcz15_5 : w14.cell? ⟨gb1048, 5, none⟩ = some (.string a0_5) := (blk_cell BK1048.out 5).trans rfl; have hcz15_6 : w14.cell? ⟨gb1048, 6, none⟩ = some (.slice A0_6 l0_6.length c0_6) := (blk_cell BK1048.out 6).trans rfl; have hfz15_0 := blk_frozen BK1048.out 0; have hfz15_1 := blk_frozen BK1048.out 1; have hfz15_2 := blk_frozen BK1048.out 2; have hfz15_3 := blk_frozen BK1048.out 3; have hfz15_4 := blk_frozen BK1048.out 4; have hfz15_5 := blk_frozen BK1048.out 5; have hfz15_6 := blk_frozen BK1048.out 6))
        go_meet
        case rel => exact ⟨_, (decide ((l0_6.length : Int) > 7)), (by first | rfl | (simp; done) | (simp [*]; done)), H', ⟨by first | omega | exact Nat.le_refl _⟩, ⟨by (with_reducible repeat (first | refine blk_drewN ?_ _ | refine blk_drew ?_ | refine blk_alloc ?_ _)); exact BK1048.out⟩, ⟨by repeat (first | (with_reducible first | exact HB.out | apply below_alloc | apply pw_below_drewN | apply below_drew1 | refine below_set ?_ GE1048.out) | exact HB.out)⟩⟩
      · replace c12 := Bool.eq_false_iff.mpr c12
        subst c12
        have H1 : (spec_l02BatchOK.j0 k true false a0_1 a0_2 a0_3 a0_4 a0_5 l0_6) = some r := by rw [if_neg (show ¬ (false = true) by decide)] at H; exact H
        clear H
        have H := H1
        clear H1
        have H' := Aside0.mk H
        clear H
        have hcz16_0 : w9.cell? ⟨gb1048, 0, none⟩ = some (.bool false) := (blk_cell BK1048.out 0).trans rfl
        have hcz16_1 : w9.cell? ⟨gb1048, 1, none⟩ = some (.int .i64 a0_1) := (blk_cell BK1048.out 1).trans rfl
        have hcz16_2 : w9.cell? ⟨gb1048, 2, none⟩ = some (.int .i64 a0_2) := (blk_cell BK1048.out 2).trans rfl
        have hcz16_3 : w9.cell? ⟨gb1048, 3, none⟩ = some (.int .i64 a0_3) := (blk_cell BK1048.out 3).trans rfl
        have hcz16_4 : w9.cell? ⟨gb1048, 4, none⟩ = some (.int .i64 a0_4) := (blk_cell BK1048.out 4).trans rfl
        have hcz16_5 : w9.cell? ⟨gb1048, 5, none⟩ = some (.string a0_5) := (blk_cell BK1048.out 5).trans rfl
        have hcz16_6 : w9.cell? ⟨gb1048, 6, none⟩ = some (.slice A0_6 l0_6.length c0_6) := (blk_cell BK1048.out 6).trans rfl
        have hfz16_0 := blk_frozen BK1048.out 0
        have hfz16_1 := blk_frozen BK1048.out 1
        have hfz16_2 := blk_frozen BK1048.out 2
        have hfz16_3 := blk_frozen BK1048.out 3
        have hfz16_4 := blk_frozen BK1048.out 4
        have hfz16_5 := blk_frozen BK1048.out 5
        have hfz16_6 := blk_frozen BK1048.out 6
        go_wp2_with (first | ((with_reducible refine gate_callee (f := 154) rfl ?_); refine goesL_ (some 18) rfl rfl Try.func154 (by kernel_rfl) rfl #[.agg #[.int .i64 a0_1, .int .i64 a0_2, .int .i64 a0_3, .int .i64 a0_4, .string a0_5]] rfl (by (try simp only [List.map_toArray, List.map_cons, List.map_nil]); first | done | rfl | (simp only [List.length_drop, List.length_take]; rfl)) ?_; (with_reducible refine (spec_RequestOK.calls k a0_1 a0_2 a0_3 a0_4 a0_5 false _ A11.out).mono ?_); rintro e w17 ⟨rfl, hb⟩; refine ⟨_, rfl, ?_⟩; have n0_ := Aside0.mk (blk_below (g := gb1048) (o := .cells #[.bool false, .int .i64 a0_1, .int .i64 a0_2, .int .i64 a0_3, .int .i64 a0_4, .string a0_5, .slice A0_6 l0_6.length c0_6] 67 (0, 0)) (by (with_reducible repeat (first | refine blk_drewN ?_ _ | refine blk_drew ?_ | refine blk_alloc ?_ _)); exact BK1048.out) hb); have n1_ := Aside0.mk (below_step (by repeat (first | (with_reducible first | exact HB.out | apply below_alloc | apply pw_below_drewN | apply below_drew1 | refine below_set ?_ GE1048.out) | exact HB.out)) hb); clear BK1048; clear HB; have BK1048 := n0_; have HB := n1_; clear n0_ n1_; (try clear hb); (try clear hb2); (try clear hk); (try clear hi)))
        go_meet
        case rel => exact ⟨_, (true), (by first | rfl | (simp; done) | (simp [*]; done)), H', ⟨by first | omega | exact Nat.le_refl _⟩, ⟨by (with_reducible repeat (first | refine blk_drewN ?_ _ | refine blk_drew ?_ | refine blk_alloc ?_ _)); exact BK1048.out⟩, ⟨by repeat (first | (with_reducible first | exact HB.out | apply below_alloc | apply pw_below_drewN | apply below_drew1 | refine below_set ?_ GE1048.out) | exact HB.out)⟩⟩
    case rest =>
      clear HC8
      try clear c1
      try clear c2
      try clear p2
      try clear c3
      try clear c3b0
      try clear c3b1
      try clear c3b2
      try clear c12
      try clear c13
      try clear c15
      try clear hcz10_0
      try clear hcz10_1
      try clear hcz10_2
      try clear hcz10_3
      try clear hcz10_4
      try clear hcz10_5
      try clear hcz10_6
      try clear hcz13_0
      try clear hcz13_1
      try clear hcz13_2
      try clear hcz13_3
      try clear hcz13_4
      try clear hcz13_5
      try clear hcz13_6
      try clear hcz15_0
      try clear hcz15_1
      try clear hcz15_2
      try clear hcz15_3
      try clear hcz15_4
      try clear hcz15_5
      try clear hcz15_6
      try clear hcz16_0
      try clear hcz16_1
      try clear hcz16_2
      try clear hcz16_3
      try clear hcz16_4
      try clear hcz16_5
      try clear hcz16_6
      try clear hcz5_0
      try clear hcz5_1
      try clear hcz5_2
      try clear hcz5_3
      try clear hcz5_4
      try clear hcz5_5
      try clear hcz5_6
      try clear hcz7_0
      try clear hcz7_1
      try clear hcz7_2
      try clear hcz7_3
      try clear hcz7_4
      try clear hcz7_5
      try clear hcz7_6
      try clear hfz10_0
      try clear hfz10_1
      try clear hfz10_2
      try clear hfz10_3
      try clear hfz10_4
      try clear hfz10_5
      try clear hfz10_6
      try clear hfz13_0
      try clear hfz13_1
      try clear hfz13_2
      try clear hfz13_3
      try clear hfz13_4
      try clear hfz13_5
      try clear hfz13_6
      try clear hfz15_0
      try clear hfz15_1
      try clear hfz15_2
      try clear hfz15_3
      try clear hfz15_4
      try clear hfz15_5
      try clear hfz15_6
      try clear hfz16_0
      try clear hfz16_1
      try clear hfz16_2
      try clear hfz16_3
      try clear hfz16_4
      try clear hfz16_5
      try clear hfz16_6
      try clear hfz5_0
      try clear hfz5_1
      try clear hfz5_2
      try clear hfz5_3
      try clear hfz5_4
      try clear hfz5_5
      try clear hfz5_6
      try clear hfz7_0
      try clear hfz7_1
      try clear hfz7_2
      try clear hfz7_3
      try clear hfz7_4
      try clear hfz7_5
      try clear hfz7_6
      obtain ⟨kq, x25_7, rfl, HA, HJ7, BK1048, HB⟩ := hcut
      cases kq with
      | zero => exact absurd HA.out (by simp [spec_l02BatchOK.j0])
      | succ kj7 =>
        have H := HA.out
        clear HA
        simp only [spec_l02BatchOK.j0] at H
        by_cases c18 : x25_7 = true
        · subst c18
          have H1 : (some false) = some r := by rw [if_pos rfl] at H; exact H
          clear H
          have H := H1
          clear H1
          obtain rfl := Option.some.inj H
          go_wp2
          go_ret
          exact ⟨by first | rfl | (simp [errW_none, errW_some] <;> rfl) | (simp [*, errW_none, errW_some] <;> rfl) | (simp [mp_beq_nil, mp_bne_nil]; done) | (simp [*, mp_beq_nil, mp_bne_nil]; done), by repeat (first | (with_reducible first | exact HB.out | apply below_alloc | apply pw_below_drewN | apply below_drew1 | refine below_set ?_ GE1048.out) | exact HB.out)⟩
        · replace c18 := Bool.eq_false_iff.mpr c18
          subst c18
          have H1 : (spec_l02BatchOK.l0 kj7 0 false a0_1 a0_2 a0_3 a0_4 a0_5 l0_6) = some r := by rw [if_neg (show ¬ (false = true) by decide)] at H; exact H
          clear H
          have H := H1
          clear H1
          have H' := Aside0.mk H
          clear H
          go_wp2
          go_loopg [3] kj7 (fun kq v3 w' => ∃ (x3_2 : Int), v3 = .int .i64 x3_2 ∧ Aside0 (spec_l02BatchOK.l0 kq x3_2 false a0_1 a0_2 a0_3 a0_4 a0_5 l0_6 = some r) ∧ Aside0 (kq ≤ kj7) ∧ Aside0 (w'.heap[gb1048]? = some (.cells #[.bool false, .int .i64 a0_1, .int .i64 a0_2, .int .i64 a0_3, .int .i64 a0_4, .string a0_5, (.slice A0_6 l0_6.length c0_6)] 67 (0, 0))) ∧ Aside0 (Below w.heap.size w w'))
          case atStart => exact ⟨(0), (by first | rfl | (simp; done) | (simp [*]; done)), H', ⟨Nat.le_refl _⟩, ⟨by (with_reducible repeat (first | refine blk_drewN ?_ _ | refine blk_drew ?_ | refine blk_alloc ?_ _)); exact BK1048.out⟩, ⟨by repeat (first | (with_reducible first | exact HB.out | apply below_alloc | apply pw_below_drewN | apply below_drew1 | refine below_set ?_ GE1048.out) | exact HB.out)⟩⟩
          case round =>
            clear H'
            try clear c1
            try clear c2
            try clear p2
            try clear c3
            try clear c3b0
            try clear c3b1
            try clear c3b2
            try clear c12
            try clear c13
            try clear c15
            try clear c18
            try clear hcz10_0
            try clear hcz10_1
            try clear hcz10_2
            try clear hcz10_3
            try clear hcz10_4
            try clear hcz10_5
            try clear hcz10_6
            try clear hcz13_0
            try clear hcz13_1
            try clear hcz13_2
            try clear hcz13_3
            try clear hcz13_4
            try clear hcz13_5
            try clear hcz13_6
            try clear hcz15_0
            try clear hcz15_1
            try clear hcz15_2
            try clear hcz15_3
            try clear hcz15_4
            try clear hcz15_5
            try clear hcz15_6
            try clear hcz16_0
            try clear hcz16_1
            try clear hcz16_2
            try clear hcz16_3
            try clear hcz16_4
            try clear hcz16_5
            try clear hcz16_6
            try clear hcz5_0
            try clear hcz5_1
            try clear hcz5_2
            try clear hcz5_3
            try clear hcz5_4
            try clear hcz5_5
            try clear hcz5_6
            try clear hcz7_0
            try clear hcz7_1
            try clear hcz7_2
            try clear hcz7_3
            try clear hcz7_4
            try clear hcz7_5
            try clear hcz7_6
            try clear hfz10_0
            try clear hfz10_1
            try clear hfz10_2
            try clear hfz10_3
            try clear hfz10_4
            try clear hfz10_5
            try clear hfz10_6
            try clear hfz13_0
            try clear hfz13_1
            try clear hfz13_2
            try clear hfz13_3
            try clear hfz13_4
            try clear hfz13_5
            try clear hfz13_6
            try clear hfz15_0
            try clear hfz15_1
            try clear hfz15_2
            try clear hfz15_3
            try clear hfz15_4
            try clear hfz15_5
            try clear hfz15_6
            try clear hfz16_0
            try clear hfz16_1
            try clear hfz16_2
            try clear hfz16_3
            try clear hfz16_4
            try clear hfz16_5
            try clear hfz16_6
            try clear hfz5_0
            try clear hfz5_1
            try clear hfz5_2
            try clear hfz5_3
            try clear hfz5_4
            try clear hfz5_5
            try clear hfz5_6
            try clear hfz7_0
            try clear hfz7_1
            try clear hfz7_2
            try clear hfz7_3
            try clear hfz7_4
            try clear hfz7_5
            try clear hfz7_6
            try clear p2
            obtain ⟨x3_2, rfl, HA, HK2, BK1048, HB⟩ := hrel
            cases gk with
            | zero => exact absurd HA.out (by simp [spec_l02BatchOK.l0])
            | succ k2 =>
              have H := HA.out
              clear HA
              simp only [spec_l02BatchOK.l0] at H
              by_cases c19 : x3_2 < (l0_6.length : Int)
              · rw [if_pos c19] at H
                have c19b0 : decide (x3_2 < (l0_6.length : Int)) = true := decide_eq_true c19
                clear c19
                by_cases c20 : 0 ≤ x3_2
                · rw [if_pos c20] at H
                  have c20b0 : decide (0 ≤ x3_2) = true := decide_eq_true c20
                  clear c20
                  replace H := Option.bind_eq_some_iff.mp H
                  obtain ⟨t1051, A210, H⟩ := H
                  replace H : (if t1051 = true then (if x3_2 > 0 then (if 0 ≤ (wrap64 (x3_2 - 1)) then (if (wrap64 (x3_2 - 1)) < (l0_6.length : Int) then (if ((rd_T161 l0_6 (wrap64 (x3_2 - 1))).f0) ≥ ((rd_T161 l0_6 x3_2).f0) then (some false) else (spec_l02BatchOK.l0 k2 (wrap64 (x3_2 + 1)) false a0_1 a0_2 a0_3 a0_4 a0_5 l0_6)) else (none)) else (none)) else (spec_l02BatchOK.l0 k2 (wrap64 (x3_2 + 1)) false a0_1 a0_2 a0_3 a0_4 a0_5 l0_6)) else (some false)) = some r := H
                  have A21 := Aside0.mk A210
                  clear A210
                  by_cases c22 : t1051 = true
                  · subst c22
                    have H1 : (if x3_2 > 0 then (if 0 ≤ (wrap64 (x3_2 - 1)) then (if (wrap64 (x3_2 - 1)) < (l0_6.length : Int) then (if ((rd_T161 l0_6 (wrap64 (x3_2 - 1))).f0) ≥ ((rd_T161 l0_6 x3_2).f0) then (some false) else (spec_l02BatchOK.l0 k2 (wrap64 (x3_2 + 1)) false a0_1 a0_2 a0_3 a0_4 a0_5 l0_6)) else (none)) else (none)) else (spec_l02BatchOK.l0 k2 (wrap64 (x3_2 + 1)) false a0_1 a0_2 a0_3 a0_4 a0_5 l0_6)) = some r := by rw [if_pos rfl] at H; exact H
                    clear H
                    have H := H1
                    clear H1
                    by_cases c23 : x3_2 > 0
                    · rw [if_pos c23] at H
                      have c23b0 : decide (0 < x3_2) = true := decide_eq_true c23
                      clear c23
                      obtain ⟨ji24, hji24⟩ : ∃ j_ : Int, (wrap64 (x3_2 - 1)) = j_ := ⟨_, rfl⟩
                      replace H : (if 0 ≤ (ji24) then (if (ji24) < (l0_6.length : Int) then (if ((rd_T161 l0_6 (ji24)).f0) ≥ ((rd_T161 l0_6 x3_2).f0) then (some false) else (spec_l02BatchOK.l0 k2 (wrap64 (x3_2 + 1)) false a0_1 a0_2 a0_3 a0_4 a0_5 l0_6)) else (none)) else (none)) = some r := by first | (rw [hji24] at H; exact H) | (simp only [hji24] at H ⊢; exact H)
                      (try rw [hji24] at A21)
                      have hji24w : (IntKind.i64.wrap (x3_2 - 1)) = ji24 := (i64_w _).trans hji24
                      by_cases c25 : 0 ≤ (ji24)
                      · rw [if_pos c25] at H
                        have c25b0 : decide (0 ≤ (ji24)) = true := decide_eq_true c25
                        clear c25
                        by_cases c26 : (ji24) < (l0_6.length : Int)
                        · rw [if_pos c26] at H
                          have c26b0 : decide ((ji24) < (l0_6.length : Int)) = true := decide_eq_true c26
                          clear c26
                          by_cases c27 : ((rd_T161 l0_6 (ji24)).f0) ≥ ((rd_T161 l0_6 x3_2).f0)
                          · rw [if_pos c27] at H
                            have c27b0 : decide (((rd_T161 l0_6 x3_2).f0) ≤ ((rd_T161 l0_6 (ji24)).f0)) = true := decide_eq_true c27
                            clear c27
                            obtain rfl := Option.some.inj H
                            have hcz28_0 : wr.cell? ⟨gb1048, 0, none⟩ = some (.bool false) := (blk_cell BK1048.out 0).trans rfl
                            have hcz28_1 : wr.cell? ⟨gb1048, 1, none⟩ = some (.int .i64 a0_1) := (blk_cell BK1048.out 1).trans rfl
                            have hcz28_2 : wr.cell? ⟨gb1048, 2, none⟩ = some (.int .i64 a0_2) := (blk_cell BK1048.out 2).trans rfl
                            have hcz28_3 : wr.cell? ⟨gb1048, 3, none⟩ = some (.int .i64 a0_3) := (blk_cell BK1048.out 3).trans rfl
                            have hcz28_4 : wr.cell? ⟨gb1048, 4, none⟩ = some (.int .i64 a0_4) := (blk_cell BK1048.out 4).trans rfl
                            have hcz28_5 : wr.cell? ⟨gb1048, 5, none⟩ = some (.string a0_5) := (blk_cell BK1048.out 5).trans rfl
                            have hcz28_6 : wr.cell? ⟨gb1048, 6, none⟩ = some (.slice A0_6 l0_6.length c0_6) := (blk_cell BK1048.out 6).trans rfl
                            have hfz28_0 := blk_frozen BK1048.out 0
                            have hfz28_1 := blk_frozen BK1048.out 1
                            have hfz28_2 := blk_frozen BK1048.out 2
                            have hfz28_3 := blk_frozen BK1048.out 3
                            have hfz28_4 := blk_frozen BK1048.out 4
                            have hfz28_5 := blk_frozen BK1048.out 5
                            have hfz28_6 := blk_frozen BK1048.out 6
                            try go_wp2
                            have n0_ := Aside0.mk (blk_drew BK1048.out)
                            have n1_ := Aside0.mk (below_drew1 HB.out)
                            clear BK1048
                            clear HB
                            have BK1048 := n0_
                            have HB := n1_
                            clear n0_ n1_
                            have p1050 : 0 ≤ (x3_2 : Int) := of_decide_eq_true (by first | (with_reducible assumption) | assumption)
                            have q1050 : x3_2 < (l0_6.length : Int) := of_decide_eq_true (by first | (with_reducible assumption) | assumption)
                            obtain ⟨ad1050, e1050, hx1050_0, hx1050_1, hx1050_2⟩ := at_T161 HR0_6.out x3_2 p1050 q1050
                            have hw1050_2 := hx1050_2
                            have hw1050_1 := hx1050_1
                            have hw1050_0 := hx1050_0
                            cases e1050
                            replace hx1050_0 := (HB.out.cell (World.block_lt_of_cell? w _ hx1050_0)).trans hx1050_0
                            replace hx1050_1 := (HB.out.cell (World.block_lt_of_cell? w _ hx1050_1)).trans hx1050_1
                            replace hx1050_2 := (HB.out.cell (World.block_lt_of_cell? w _ hx1050_2)).trans hx1050_2
                            replace p1050 := eq_true p1050
                            replace q1050 := eq_true q1050
                            have p1052 : 0 ≤ ((ji24) : Int) := of_decide_eq_true (by first | (with_reducible assumption) | assumption)
                            have q1052 : (ji24) < (l0_6.length : Int) := of_decide_eq_true (by first | (with_reducible assumption) | assumption)
                            obtain ⟨ad1052, e1052, hx1052_0, hx1052_1, hx1052_2⟩ := at_T161 HR0_6.out (ji24) p1052 q1052
                            have hw1052_2 := hx1052_2
                            have hw1052_1 := hx1052_1
                            have hw1052_0 := hx1052_0
                            obtain rfl : ad1050 = ad1052 := (by injection e1052)
                            replace hx1052_0 := (HB.out.cell (World.block_lt_of_cell? w _ hx1052_0)).trans hx1052_0
                            replace hx1052_1 := (HB.out.cell (World.block_lt_of_cell? w _ hx1052_1)).trans hx1052_1
                            replace hx1052_2 := (HB.out.cell (World.block_lt_of_cell? w _ hx1052_2)).trans hx1052_2
                            replace p1052 := eq_true p1052
                            replace q1052 := eq_true q1052
                            have p1053 : 0 ≤ (x3_2 : Int) := of_decide_eq_true (by first | (with_reducible assumption) | assumption)
                            have q1053 : x3_2 < (l0_6.length : Int) := of_decide_eq_true (by first | (with_reducible assumption) | assumption)
                            obtain ⟨ad1053, e1053, hx1053_0, hx1053_1, hx1053_2⟩ := at_T161 HR0_6.out x3_2 p1053 q1053
                            have hw1053_2 := hx1053_2
                            have hw1053_1 := hx1053_1
                            have hw1053_0 := hx1053_0
                            obtain rfl : ad1050 = ad1053 := (by injection e1053)
                            replace hx1053_0 := (HB.out.cell (World.block_lt_of_cell? w _ hx1053_0)).trans hx1053_0
                            replace hx1053_1 := (HB.out.cell (World.block_lt_of_cell? w _ hx1053_1)).trans hx1053_1
                            replace hx1053_2 := (HB.out.cell (World.block_lt_of_cell? w _ hx1053_2)).trans hx1053_2
                            replace p1053 := eq_true p1053
                            replace q1053 := eq_true q1053
                            refine start_ (n := 27) (S := fun w' => w'.cell? ⟨gb1048, 0, none⟩ = some (.bool false) ∧ w'.cell? ⟨gb1048, 1, none⟩ = some (.int .i64 a0_1) ∧ w'.cell? ⟨gb1048, 2, none⟩ = some (.int .i64 a0_2) ∧ w'.cell? ⟨gb1048, 3, none⟩ = some (.int .i64 a0_3) ∧ w'.cell? ⟨gb1048, 4, none⟩ = some (.int .i64 a0_4) ∧ w'.cell? ⟨gb1048, 5, none⟩ = some (.string a0_5) ∧ w'.cell? ⟨gb1048, 6, none⟩ = some (.slice (some ad1050) l0_6.length c0_6) ∧ w'.cell? (ad1050.add ((x3_2).toNat * 3)) = some (.int .i64 ((rd_T161 l0_6 x3_2).f0)) ∧ w'.cell? ⟨(ad1050.add ((x3_2).toNat * 3)).block, (ad1050.add ((x3_2).toNat * 3)).off + 1, none⟩ = some (.int .i64 ((rd_T161 l0_6 x3_2).f1)) ∧ w'.cell? ⟨(ad1050.add ((x3_2).toNat * 3)).block, (ad1050.add ((x3_2).toNat * 3)).off + 2, none⟩ = some (.string ((rd_T161 l0_6 x3_2).f2)) ∧ w'.cell? (ad1050.add (((ji24)).toNat * 3)) = some (.int .i64 ((rd_T161 l0_6 (ji24)).f0)) ∧ w'.cell? ⟨(ad1050.add (((ji24)).toNat * 3)).block, (ad1050.add (((ji24)).toNat * 3)).off + 1, none⟩ = some (.int .i64 ((rd_T161 l0_6 (ji24)).f1)) ∧ w'.cell? ⟨(ad1050.add (((ji24)).toNat * 3)).block, (ad1050.add (((ji24)).toNat * 3)).off + 2, none⟩ = some (.string ((rd_T161 l0_6 (ji24)).f2)) ∧ w'.cell? (ad1050.add ((x3_2).toNat * 3)) = some (.int .i64 ((rd_T161 l0_6 x3_2).f0)) ∧ w'.cell? ⟨(ad1050.add ((x3_2).toNat * 3)).block, (ad1050.add ((x3_2).toNat * 3)).off + 1, none⟩ = some (.int .i64 ((rd_T161 l0_6 x3_2).f1)) ∧ w'.cell? ⟨(ad1050.add ((x3_2).toNat * 3)).block, (ad1050.add ((x3_2).toNat * 3)).off + 2, none⟩ = some (.string ((rd_T161 l0_6 x3_2).f2))) (ds := []) #[false, false, false, false, false, false, false, false, false, false, false, false, false, false, false, false, false, false, false, false, false, false, false, false, false, false, false] (by kernel_rfl) rfl rfl ⟨(blk_cell BK1048.out 0).trans rfl, (blk_cell BK1048.out 1).trans rfl, (blk_cell BK1048.out 2).trans rfl, (blk_cell BK1048.out 3).trans rfl, (blk_cell BK1048.out 4).trans rfl, (blk_cell BK1048.out 5).trans rfl, (blk_cell BK1048.out 6).trans rfl, ((HB.out.cell (World.block_lt_of_cell? w _ hw1050_0)).trans hw1050_0), ((HB.out.cell (World.block_lt_of_cell? w _ hw1050_1)).trans hw1050_1), ((HB.out.cell (World.block_lt_of_cell? w _ hw1050_2)).trans hw1050_2), ((HB.out.cell (World.block_lt_of_cell? w _ hw1052_0)).trans hw1052_0), ((HB.out.cell (World.block_lt_of_cell? w _ hw1052_1)).trans hw1052_1), ((HB.out.cell (World.block_lt_of_cell? w _ hw1052_2)).trans hw1052_2), ((HB.out.cell (World.block_lt_of_cell? w _ hw1053_0)).trans hw1053_0), ((HB.out.cell (World.block_lt_of_cell? w _ hw1053_1)).trans hw1053_1), ((HB.out.cell (World.block_lt_of_cell? w _ hw1053_2)).trans hw1053_2)⟩ (fun hHeld => ?_); refine with_tabW spec_l02BatchOK.tab8 spec_l02BatchOK.bits8 (fun HT_ HW_ => ?_)
                            generalize wr.drew = w29 at BK1048 HB hx1050_0 hx1050_1 hx1050_2 hx1052_0 hx1052_1 hx1052_2 hx1053_0 hx1053_1 hx1053_2 hHeld ⊢
                            refine pure_ (i := 0) (N := some 33) (v := ?_) (a' := ?_) #[true, false, false, false, false, false, false, false, false, false, false, false, false, false, false, false, false, false, false, false, false, false, false, false, false, false, false] rfl rfl (any_of HT_.out (by kernel_rfl)) (fun _ _ _ h => h) (Or.inl ⟨by rfl, ?_⟩) ?_ ?_
                            rotate_left
                            · intro w'
                              go_simp
                              with_reducible rfl
                            rotate_left
                            · simp only [Act.put, List.setIfInBounds_toArray, List.set_cons_zero, List.set_cons_succ, i64_w, i32_w]
                              rfl
                            refine pure_ (i := 2) (N := some 35) (v := ?_) (a' := ?_) #[true, false, true, false, false, false, false, false, false, false, false, false, false, false, false, false, false, false, false, false, false, false, false, false, false, false, false] rfl rfl (any_of HT_.out (by kernel_rfl)) (fun _ _ _ h => h) (Or.inl ⟨by rfl, ?_⟩) ?_ ?_
                            rotate_left
                            · intro w'
                              go_simp
                              with_reducible rfl
                            rotate_left
                            · simp only [Act.put, List.setIfInBounds_toArray, List.set_cons_zero, List.set_cons_succ, i64_w, i32_w]
                              rfl
                            refine take_ (i := 1) (N := some 34) (v := ?_) (a' := ?_) #[true, true, true, false, false, false, false, false, false, false, false, false, false, false, false, false, false, false, false, false, false, false, false, false, false, false, false] rfl rfl (take_ofW HT_.out HW_.out (by kernel_rfl)) (fun _ _ _ h => h) (Or.inl ⟨by rfl, ?_⟩) hHeld ?_ ?_
                            rotate_left
                            · rintro w' ⟨s0, s1, s2, s3, s4, s5, s6, s7, s8, s9, s10, s11, s12, s13, s14, s15⟩
                              go_simp
                              with_reducible rfl
                            rotate_left
                            · simp only [Act.put, List.setIfInBounds_toArray, List.set_cons_zero, List.set_cons_succ, i64_w, i32_w]
                              rfl
                            refine pure_ (i := 3) (N := some 36) (v := ?_) (a' := ?_) #[true, true, true, true, false, false, false, false, false, false, false, false, false, false, false, false, false, false, false, false, false, false, false, false, false, false, false] rfl rfl (any_of HT_.out (by kernel_rfl)) (fun _ _ _ h => h) (Or.inl ⟨by rfl, ?_⟩) ?_ ?_
                            rotate_left
                            · intro w'
                              go_simp
                              with_reducible rfl
                            rotate_left
                            · simp only [Act.put, List.setIfInBounds_toArray, List.set_cons_zero, List.set_cons_succ, i64_w, i32_w]
                              rfl
                            refine take_ (i := 4) (N := some 37) (v := ?_) (a' := ?_) #[true, true, true, true, true, false, false, false, false, false, false, false, false, false, false, false, false, false, false, false, false, false, false, false, false, false, false] rfl rfl (take_ofW HT_.out HW_.out (by kernel_rfl)) (fun _ _ _ h => h) (Or.inl ⟨by rfl, ?_⟩) hHeld ?_ ?_
                            rotate_left
                            · rintro w' ⟨s0, s1, s2, s3, s4, s5, s6, s7, s8, s9, s10, s11, s12, s13, s14, s15⟩
                              go_simp
                              with_reducible rfl
                            rotate_left
                            · simp only [Act.put, List.setIfInBounds_toArray, List.set_cons_zero, List.set_cons_succ, i64_w, i32_w]
                              rfl
                            refine one_ (i := 5) (N := some 38) #[true, true, true, true, true, true, false, false, false, false, false, false, false, false, false, false, false, false, false, false, false, false, false, false, false, false, false] rfl rfl (one_of HT_.out (by kernel_rfl)) (by decide) (fun K hK => ?_)
                            refine goes_ Try.func155 (by kernel_rfl) rfl #[.agg #[.int .i64 ((rd_T161 l0_6 x3_2).f0), .int .i64 ((rd_T161 l0_6 x3_2).f1), .string ((rd_T161 l0_6 x3_2).f2)]] (by rfl) rfl rfl (by (try simp only [List.map_toArray, List.map_cons, List.map_nil]); first | done | rfl | (simp only [List.length_drop, List.length_take]; rfl)) ?_
                            with_reducible refine (spec_l02Reading.calls ((rd_T161 l0_6 x3_2).f0) ((rd_T161 l0_6 x3_2).f1) ((rd_T161 l0_6 x3_2).f2) true _ A21.out).mono ?_
                            rintro e w30 ⟨rfl, hb⟩
                            refine ⟨_, rfl, ?_⟩
                            have n0_ := Aside0.mk (blk_below (g := gb1048) (o := .cells #[.bool false, .int .i64 a0_1, .int .i64 a0_2, .int .i64 a0_3, .int .i64 a0_4, .string a0_5, .slice (some ad1050) l0_6.length c0_6] 67 (0, 0)) (by (with_reducible repeat (first | refine blk_drewN ?_ _ | refine blk_drew ?_ | refine blk_alloc ?_ _)); exact BK1048.out) hb)
                            have n1_ := Aside0.mk (below_step (by repeat (first | (with_reducible first | exact HB.out | apply below_alloc | apply pw_below_drewN | apply below_drew1 | refine below_set ?_ GE1048.out) | exact HB.out)) hb)
                            clear BK1048
                            clear HB
                            have BK1048 := n0_
                            have HB := n1_
                            clear n0_ n1_
                            (try clear hb)
                            (try clear hb2)
                            (try clear hk)
                            (try clear hi)
                            refine hK.out _ _ ⟨(blk_cell BK1048.out 0).trans rfl, (blk_cell BK1048.out 1).trans rfl, (blk_cell BK1048.out 2).trans rfl, (blk_cell BK1048.out 3).trans rfl, (blk_cell BK1048.out 4).trans rfl, (blk_cell BK1048.out 5).trans rfl, (blk_cell BK1048.out 6).trans rfl, ((HB.out.cell (World.block_lt_of_cell? w _ hw1050_0)).trans hw1050_0), ((HB.out.cell (World.block_lt_of_cell? w _ hw1050_1)).trans hw1050_1), ((HB.out.cell (World.block_lt_of_cell? w _ hw1050_2)).trans hw1050_2), ((HB.out.cell (World.block_lt_of_cell? w _ hw1052_0)).trans hw1052_0), ((HB.out.cell (World.block_lt_of_cell? w _ hw1052_1)).trans hw1052_1), ((HB.out.cell (World.block_lt_of_cell? w _ hw1052_2)).trans hw1052_2), ((HB.out.cell (World.block_lt_of_cell? w _ hw1053_0)).trans hw1053_0), ((HB.out.cell (World.block_lt_of_cell? w _ hw1053_1)).trans hw1053_1), ((HB.out.cell (World.block_lt_of_cell? w _ hw1053_2)).trans hw1053_2)⟩ (fun hHeld => ?_)
                            clear hK K
                            refine norm_ (a' := ?_) ?_ ?_
                            rotate_left
                            · show Act.put _ (some 38) _ = _
                              simp only [Act.put, List.setIfInBounds_toArray, List.set_cons_zero, List.set_cons_succ, i64_w, i32_w]
                              rfl
                            refine pure_ (i := 6) (N := some 39) (v := ?_) (a' := ?_) #[true, true, true, true, true, true, true, false, false, false, false, false, false, false, false, false, false, false, false, false, false, false, false, false, false, false, false] rfl rfl (any_of HT_.out (by kernel_rfl)) (fun _ _ _ h => h) (Or.inl ⟨by rfl, ?_⟩) ?_ ?_
                            rotate_left
                            · intro w'
                              go_simp
                              with_reducible rfl
                            rotate_left
                            · simp only [Act.put, List.setIfInBounds_toArray, List.set_cons_zero, List.set_cons_succ, i64_w, i32_w]
                              rfl
                            refine pure_ (i := 7) (N := some 40) (v := ?_) (a' := ?_) #[true, true, true, true, true, true, true, true, false, false, false, false, false, false, false, false, false, false, false, false, false, false, false, false, false, false, false] rfl rfl (any_of HT_.out (by kernel_rfl)) (fun _ _ _ h => h) (Or.inl ⟨by rfl, ?_⟩) ?_ ?_
                            rotate_left
                            · intro w'
                              go_simp
                              with_reducible rfl
                            rotate_left
                            · simp only [Act.put, List.setIfInBounds_toArray, List.set_cons_zero, List.set_cons_succ, i64_w, i32_w]
                              rfl
                            refine pure_ (i := 8) (N := some 41) (v := ?_) (a' := ?_) #[true, true, true, true, true, true, true, true, true, false, false, false, false, false, false, false, false, false, false, false, false, false, false, false, false, false, false] rfl rfl (any_of HT_.out (by kernel_rfl)) (fun _ _ _ h => h) (Or.inl ⟨by rfl, ?_⟩) ?_ ?_
                            rotate_left
                            · intro w'
                              go_simp
                              with_reducible rfl
                            rotate_left
                            · simp only [Act.put, List.setIfInBounds_toArray, List.set_cons_zero, List.set_cons_succ, i64_w, i32_w]
                              rfl
                            refine pure_ (i := 9) (N := some 42) (v := ?_) (a' := ?_) #[true, true, true, true, true, true, true, true, true, true, false, false, false, false, false, false, false, false, false, false, false, false, false, false, false, false, false] rfl rfl (any_of HT_.out (by kernel_rfl)) (fun _ _ _ h => h) (Or.inl ⟨by rfl, ?_⟩) ?_ ?_
                            rotate_left
                            · intro w'
                              go_simp
                              with_reducible rfl
                            rotate_left
                            · simp only [Act.put, List.setIfInBounds_toArray, List.set_cons_zero, List.set_cons_succ, i64_w, i32_w]
                              rfl
                            refine pure_ (i := 10) (N := some 43) (v := ?_) (a' := ?_) #[true, true, true, true, true, true, true, true, true, true, true, false, false, false, false, false, false, false, false, false, false, false, false, false, false, false, false] rfl rfl (any_of HT_.out (by kernel_rfl)) (fun _ _ _ h => h) (Or.inl ⟨by rfl, ?_⟩) ?_ ?_
                            rotate_left
                            · intro w'
                              go_simp
                              with_reducible rfl
                            rotate_left
                            · simp only [Act.put, List.setIfInBounds_toArray, List.set_cons_zero, List.set_cons_succ, i64_w, i32_w]
                              rfl
                            refine pure_ (i := 11) (N := some 44) (v := ?_) (a' := ?_) #[true, true, true, true, true, true, true, true, true, true, true, true, false, false, false, false, false, false, false, false, false, false, false, false, false, false, false] rfl rfl (any_of HT_.out (by kernel_rfl)) (fun _ _ _ h => h) (Or.inl ⟨by rfl, ?_⟩) ?_ ?_
                            rotate_left
                            · intro w'
                              go_simp
                              with_reducible rfl
                            rotate_left
                            · simp only [Act.put, List.setIfInBounds_toArray, List.set_cons_zero, List.set_cons_succ, i64_w, i32_w]
                              rfl
                            refine pure_ (i := 13) (N := some 46) (v := ?_) (a' := ?_) #[true, true, true, true, true, true, true, true, true, true, true, true, false, true, false, false, false, false, false, false, false, false, false, false, false, false, false] rfl rfl (any_of HT_.out (by kernel_rfl)) (fun _ _ _ h => h) (Or.inl ⟨by rfl, ?_⟩) ?_ ?_
                            rotate_left
                            · intro w'
                              go_simp
                              with_reducible rfl
                            rotate_left
                            · simp only [Act.put, List.setIfInBounds_toArray, List.set_cons_zero, List.set_cons_succ, i64_w, i32_w]
                              rfl
                            refine pure_ (i := 14) (N := some 47) (v := ?_) (a' := ?_) #[true, true, true, true, true, true, true, true, true, true, true, true, false, true, true, false, false, false, false, false, false, false, false, false, false, false, false] rfl rfl (any_of HT_.out (by kernel_rfl)) (fun _ _ _ h => h) (Or.inl ⟨by rfl, ?_⟩) ?_ ?_
                            rotate_left
                            · intro w'
                              go_simp
                              with_reducible rfl
                            rotate_left
                            · simp only [Act.put, List.setIfInBounds_toArray, List.set_cons_zero, List.set_cons_succ, i64_w, i32_w]
                              rfl
                            refine pure_ (i := 18) (N := some 51) (v := ?_) (a' := ?_) #[true, true, true, true, true, true, true, true, true, true, true, true, false, true, true, false, false, false, true, false, false, false, false, false, false, false, false] rfl rfl (any_of HT_.out (by kernel_rfl)) (fun _ _ _ h => h) (Or.inl ⟨by rfl, ?_⟩) ?_ ?_
                            rotate_left
                            · intro w'
                              go_simp
                              with_reducible rfl
                            rotate_left
                            · simp only [Act.put, List.setIfInBounds_toArray, List.set_cons_zero, List.set_cons_succ, i64_w, i32_w]
                              rfl
                            refine pure_ (i := 20) (N := some 53) (v := ?_) (a' := ?_) #[true, true, true, true, true, true, true, true, true, true, true, true, false, true, true, false, false, false, true, false, true, false, false, false, false, false, false] rfl rfl (any_of HT_.out (by kernel_rfl)) (fun _ _ _ h => h) (Or.inl ⟨by rfl, ?_⟩) ?_ ?_
                            rotate_left
                            · intro w'
                              go_simp
                              with_reducible rfl
                            rotate_left
                            · simp only [Act.put, List.setIfInBounds_toArray, List.set_cons_zero, List.set_cons_succ, i64_w, i32_w]
                              rfl
                            refine take_ (i := 12) (N := some 45) (v := ?_) (a' := ?_) #[true, true, true, true, true, true, true, true, true, true, true, true, true, true, true, false, false, false, true, false, true, false, false, false, false, false, false] rfl rfl (take_ofW HT_.out HW_.out (by kernel_rfl)) (fun _ _ _ h => h) (Or.inl ⟨by rfl, ?_⟩) hHeld ?_ ?_
                            rotate_left
                            · rintro w' ⟨s0, s1, s2, s3, s4, s5, s6, s7, s8, s9, s10, s11, s12, s13, s14, s15⟩
                              go_simp
                              with_reducible rfl
                            rotate_left
                            · simp only [Act.put, List.setIfInBounds_toArray, List.set_cons_zero, List.set_cons_succ, i64_w, i32_w]
                              rfl
                            refine pure_ (i := 15) (N := some 48) (v := ?_) (a' := ?_) #[true, true, true, true, true, true, true, true, true, true, true, true, true, true, true, true, false, false, true, false, true, false, false, false, false, false, false] rfl rfl (any_of HT_.out (by kernel_rfl)) (fun _ _ _ h => h) (Or.inl ⟨by rfl, ?_⟩) ?_ ?_
                            rotate_left
                            · intro w'
                              go_simp
                              with_reducible rfl
                            rotate_left
                            · simp only [Act.put, List.setIfInBounds_toArray, List.set_cons_zero, List.set_cons_succ, i64_w, i32_w]
                              rfl
                            refine pure_ (i := 16) (N := some 49) (v := ?_) (a' := ?_) #[true, true, true, true, true, true, true, true, true, true, true, true, true, true, true, true, true, false, true, false, true, false, false, false, false, false, false] rfl rfl (any_of HT_.out (by kernel_rfl)) (fun _ _ _ h => h) (Or.inl ⟨by rfl, ?_⟩) ?_ ?_
                            rotate_left
                            · intro w'
                              go_simp
                              with_reducible rfl
                            rotate_left
                            · simp only [Act.put, List.setIfInBounds_toArray, List.set_cons_zero, List.set_cons_succ, i64_w, i32_w]
                              rfl
                            refine take_ (i := 17) (N := some 50) (v := ?_) (a' := ?_) #[true, true, true, true, true, true, true, true, true, true, true, true, true, true, true, true, true, true, true, false, true, false, false, false, false, false, false] rfl rfl (take_ofW HT_.out HW_.out (by kernel_rfl)) (fun _ _ _ h => h) (Or.inl ⟨by rfl, ?_⟩) hHeld ?_ ?_
                            rotate_left
                            · rintro w' ⟨s0, s1, s2, s3, s4, s5, s6, s7, s8, s9, s10, s11, s12, s13, s14, s15⟩
                              go_simp
                              with_reducible rfl
                            rotate_left
                            · simp only [Act.put, List.setIfInBounds_toArray, List.set_cons_zero, List.set_cons_succ, i64_w, i32_w]
                              rfl
                            refine take_ (i := 19) (N := some 52) (v := ?_) (a' := ?_) #[true, true, true, true, true, true, true, true, true, true, true, true, true, true, true, true, true, true, true, true, true, false, false, false, false, false, false] rfl rfl (take_ofW HT_.out HW_.out (by kernel_rfl)) (fun _ _ _ h => h) (Or.inl ⟨by rfl, ?_⟩) hHeld ?_ ?_
                            rotate_left
                            · rintro w' ⟨s0, s1, s2, s3, s4, s5, s6, s7, s8, s9, s10, s11, s12, s13, s14, s15⟩
                              go_simp
                              with_reducible rfl
                            rotate_left
                            · simp only [Act.put, List.setIfInBounds_toArray, List.set_cons_zero, List.set_cons_succ, i64_w, i32_w]
                              rfl
                            refine pure_ (i := 21) (N := some 54) (v := ?_) (a' := ?_) #[true, true, true, true, true, true, true, true, true, true, true, true, true, true, true, true, true, true, true, true, true, true, false, false, false, false, false] rfl rfl (any_of HT_.out (by kernel_rfl)) (fun _ _ _ h => h) (Or.inl ⟨by rfl, ?_⟩) ?_ ?_
                            rotate_left
                            · intro w'
                              go_simp
                              with_reducible rfl
                            rotate_left
                            · simp only [Act.put, List.setIfInBounds_toArray, List.set_cons_zero, List.set_cons_succ, i64_w, i32_w]
                              rfl
                            refine pure_ (i := 22) (N := some 55) (v := ?_) (a' := ?_) #[true, true, true, true, true, true, true, true, true, true, true, true, true, true, true, true, true, true, true, true, true, true, true, false, false, false, false] rfl rfl (any_of HT_.out (by kernel_rfl)) (fun _ _ _ h => h) (Or.inl ⟨by rfl, ?_⟩) ?_ ?_
                            rotate_left
                            · intro w'
                              go_simp
                              with_reducible rfl
                            rotate_left
                            · simp only [Act.put, List.setIfInBounds_toArray, List.set_cons_zero, List.set_cons_succ, i64_w, i32_w]
                              rfl
                            refine take_ (i := 23) (N := some 56) (v := ?_) (a' := ?_) #[true, true, true, true, true, true, true, true, true, true, true, true, true, true, true, true, true, true, true, true, true, true, true, true, false, false, false] rfl rfl (take_ofW HT_.out HW_.out (by kernel_rfl)) (fun _ _ _ h => h) (Or.inl ⟨by rfl, ?_⟩) hHeld ?_ ?_
                            rotate_left
                            · rintro w' ⟨s0, s1, s2, s3, s4, s5, s6, s7, s8, s9, s10, s11, s12, s13, s14, s15⟩
                              go_simp
                              with_reducible rfl
                            rotate_left
                            · simp only [Act.put, List.setIfInBounds_toArray, List.set_cons_zero, List.set_cons_succ, i64_w, i32_w]
                              rfl
                            refine pure_ (i := 24) (N := some 57) (v := ?_) (a' := ?_) #[true, true, true, true, true, true, true, true, true, true, true, true, true, true, true, true, true, true, true, true, true, true, true, true, true, false, false] rfl rfl (any_of HT_.out (by kernel_rfl)) (fun _ _ _ h => h) (Or.inl ⟨by rfl, ?_⟩) ?_ ?_
                            rotate_left
                            · intro w'
                              go_simp
                              with_reducible rfl
                            rotate_left
                            · simp only [Act.put, List.setIfInBounds_toArray, List.set_cons_zero, List.set_cons_succ, i64_w, i32_w]
                              rfl
                            refine pure_ (i := 25) (N := some 58) (v := ?_) (a' := ?_) #[true, true, true, true, true, true, true, true, true, true, true, true, true, true, true, true, true, true, true, true, true, true, true, true, true, true, false] rfl rfl (any_of HT_.out (by kernel_rfl)) (fun _ _ _ h => h) (Or.inl ⟨by rfl, ?_⟩) ?_ ?_
                            rotate_left
                            · intro w'
                              go_simp
                              with_reducible rfl
                            rotate_left
                            · simp only [Act.put, List.setIfInBounds_toArray, List.set_cons_zero, List.set_cons_succ, i64_w, i32_w]
                              rfl
                            refine pure_ (i := 26) (N := some 59) (v := ?_) (a' := ?_) #[true, true, true, true, true, true, true, true, true, true, true, true, true, true, true, true, true, true, true, true, true, true, true, true, true, true, true] rfl rfl (any_of HT_.out (by kernel_rfl)) (fun _ _ _ h => h) (Or.inl ⟨by rfl, ?_⟩) ?_ ?_
                            rotate_left
                            · intro w'
                              go_simp
                              with_reducible rfl
                            rotate_left
                            · simp only [Act.put, List.setIfInBounds_toArray, List.set_cons_zero, List.set_cons_succ, i64_w, i32_w]
                              rfl
                            refine done_ (done_of HT_.out (by kernel_rfl)) ?_
                            try go_wp2
                            go_ret
                            exact ⟨by first | rfl | (simp [errW_none, errW_some] <;> rfl) | (simp only [← hji24]; first | rfl | (simp [errW_none, errW_some] <;> rfl)) | (simp [*, errW_none, errW_some] <;> rfl) | (simp [mp_beq_nil, mp_bne_nil]; done) | (simp [*, mp_beq_nil, mp_bne_nil]; done), by repeat (first | (with_reducible first | exact HB.out | apply below_alloc | apply pw_below_drewN | apply below_drew1 | refine below_set ?_ GE1048.out) | exact HB.out)⟩
                          · rw [if_neg c27] at H
                            have c27b0 : decide (((rd_T161 l0_6 x3_2).f0) ≤ ((rd_T161 l0_6 (ji24)).f0)) = false := decide_eq_false c27
                            clear c27
                            have H' := Aside0.mk H
                            clear H
                            have hcz31_0 : wr.cell? ⟨gb1048, 0, none⟩ = some (.bool false) := (blk_cell BK1048.out 0).trans rfl
                            have hcz31_1 : wr.cell? ⟨gb1048, 1, none⟩ = some (.int .i64 a0_1) := (blk_cell BK1048.out 1).trans rfl
                            have hcz31_2 : wr.cell? ⟨gb1048, 2, none⟩ = some (.int .i64 a0_2) := (blk_cell BK1048.out 2).trans rfl
                            have hcz31_3 : wr.cell? ⟨gb1048, 3, none⟩ = some (.int .i64 a0_3) := (blk_cell BK1048.out 3).trans rfl
                            have hcz31_4 : wr.cell? ⟨gb1048, 4, none⟩ = some (.int .i64 a0_4) := (blk_cell BK1048.out 4).trans rfl
                            have hcz31_5 : wr.cell? ⟨gb1048, 5, none⟩ = some (.string a0_5) := (blk_cell BK1048.out 5).trans rfl
                            have hcz31_6 : wr.cell? ⟨gb1048, 6, none⟩ = some (.slice A0_6 l0_6.length c0_6) := (blk_cell BK1048.out 6).trans rfl
                            have hfz31_0 := blk_frozen BK1048.out 0
                            have hfz31_1 := blk_frozen BK1048.out 1
                            have hfz31_2 := blk_frozen BK1048.out 2
                            have hfz31_3 := blk_frozen BK1048.out 3
                            have hfz31_4 := blk_frozen BK1048.out 4
                            have hfz31_5 := blk_frozen BK1048.out 5
                            have hfz31_6 := blk_frozen BK1048.out 6
                            try go_wp2
                            have n0_ := Aside0.mk (blk_drew BK1048.out)
                            have n1_ := Aside0.mk (below_drew1 HB.out)
                            clear BK1048
                            clear HB
                            have BK1048 := n0_
                            have HB := n1_
                            clear n0_ n1_
                            have p1050 : 0 ≤ (x3_2 : Int) := of_decide_eq_true (by first | (with_reducible assumption) | assumption)
                            have q1050 : x3_2 < (l0_6.length : Int) := of_decide_eq_true (by first | (with_reducible assumption) | assumption)
                            obtain ⟨ad1050, e1050, hx1050_0, hx1050_1, hx1050_2⟩ := at_T161 HR0_6.out x3_2 p1050 q1050
                            have hw1050_2 := hx1050_2
                            have hw1050_1 := hx1050_1
                            have hw1050_0 := hx1050_0
                            cases e1050
                            replace hx1050_0 := (HB.out.cell (World.block_lt_of_cell? w _ hx1050_0)).trans hx1050_0
                            replace hx1050_1 := (HB.out.cell (World.block_lt_of_cell? w _ hx1050_1)).trans hx1050_1
                            replace hx1050_2 := (HB.out.cell (World.block_lt_of_cell? w _ hx1050_2)).trans hx1050_2
                            replace p1050 := eq_true p1050
                            replace q1050 := eq_true q1050
                            have p1052 : 0 ≤ ((ji24) : Int) := of_decide_eq_true (by first | (with_reducible assumption) | assumption)
                            have q1052 : (ji24) < (l0_6.length : Int) := of_decide_eq_true (by first | (with_reducible assumption) | assumption)
                            obtain ⟨ad1052, e1052, hx1052_0, hx1052_1, hx1052_2⟩ := at_T161 HR0_6.out (ji24) p1052 q1052
                            have hw1052_2 := hx1052_2
                            have hw1052_1 := hx1052_1
                            have hw1052_0 := hx1052_0
                            obtain rfl : ad1050 = ad1052 := (by injection e1052)
                            replace hx1052_0 := (HB.out.cell (World.block_lt_of_cell? w _ hx1052_0)).trans hx1052_0
                            replace hx1052_1 := (HB.out.cell (World.block_lt_of_cell? w _ hx1052_1)).trans hx1052_1
                            replace hx1052_2 := (HB.out.cell (World.block_lt_of_cell? w _ hx1052_2)).trans hx1052_2
                            replace p1052 := eq_true p1052
                            replace q1052 := eq_true q1052
                            have p1053 : 0 ≤ (x3_2 : Int) := of_decide_eq_true (by first | (with_reducible assumption) | assumption)
                            have q1053 : x3_2 < (l0_6.length : Int) := of_decide_eq_true (by first | (with_reducible assumption) | assumption)
                            obtain ⟨ad1053, e1053, hx1053_0, hx1053_1, hx1053_2⟩ := at_T161 HR0_6.out x3_2 p1053 q1053
                            have hw1053_2 := hx1053_2
                            have hw1053_1 := hx1053_1
                            have hw1053_0 := hx1053_0
                            obtain rfl : ad1050 = ad1053 := (by injection e1053)
                            replace hx1053_0 := (HB.out.cell (World.block_lt_of_cell? w _ hx1053_0)).trans hx1053_0
                            replace hx1053_1 := (HB.out.cell (World.block_lt_of_cell? w _ hx1053_1)).trans hx1053_1
                            replace hx1053_2 := (HB.out.cell (World.block_lt_of_cell? w _ hx1053_2)).trans hx1053_2
                            replace p1053 := eq_true p1053
                            replace q1053 := eq_true q1053
                            refine start_ (n := 27) (S := fun w' => w'.cell? ⟨gb1048, 0, none⟩ = some (.bool false) ∧ w'.cell? ⟨gb1048, 1, none⟩ = some (.int .i64 a0_1) ∧ w'.cell? ⟨gb1048, 2, none⟩ = some (.int .i64 a0_2) ∧ w'.cell? ⟨gb1048, 3, none⟩ = some (.int .i64 a0_3) ∧ w'.cell? ⟨gb1048, 4, none⟩ = some (.int .i64 a0_4) ∧ w'.cell? ⟨gb1048, 5, none⟩ = some (.string a0_5) ∧ w'.cell? ⟨gb1048, 6, none⟩ = some (.slice (some ad1050) l0_6.length c0_6) ∧ w'.cell? (ad1050.add ((x3_2).toNat * 3)) = some (.int .i64 ((rd_T161 l0_6 x3_2).f0)) ∧ w'.cell? ⟨(ad1050.add ((x3_2).toNat * 3)).block, (ad1050.add ((x3_2).toNat * 3)).off + 1, none⟩ = some (.int .i64 ((rd_T161 l0_6 x3_2).f1)) ∧ w'.cell? ⟨(ad1050.add ((x3_2).toNat * 3)).block, (ad1050.add ((x3_2).toNat * 3)).off + 2, none⟩ = some (.string ((rd_T161 l0_6 x3_2).f2)) ∧ w'.cell? (ad1050.add (((ji24)).toNat * 3)) = some (.int .i64 ((rd_T161 l0_6 (ji24)).f0)) ∧ w'.cell? ⟨(ad1050.add (((ji24)).toNat * 3)).block, (ad1050.add (((ji24)).toNat * 3)).off + 1, none⟩ = some (.int .i64 ((rd_T161 l0_6 (ji24)).f1)) ∧ w'.cell? ⟨(ad1050.add (((ji24)).toNat * 3)).block, (ad1050.add (((ji24)).toNat * 3)).off + 2, none⟩ = some (.string ((rd_T161 l0_6 (ji24)).f2)) ∧ w'.cell? (ad1050.add ((x3_2).toNat * 3)) = some (.int .i64 ((rd_T161 l0_6 x3_2).f0)) ∧ w'.cell? ⟨(ad1050.add ((x3_2).toNat * 3)).block, (ad1050.add ((x3_2).toNat * 3)).off + 1, none⟩ = some (.int .i64 ((rd_T161 l0_6 x3_2).f1)) ∧ w'.cell? ⟨(ad1050.add ((x3_2).toNat * 3)).block, (ad1050.add ((x3_2).toNat * 3)).off + 2, none⟩ = some (.string ((rd_T161 l0_6 x3_2).f2))) (ds := []) #[false, false, false, false, false, false, false, false, false, false, false, false, false, false, false, false, false, false, false, false, false, false, false, false, false, false, false] (by kernel_rfl) rfl rfl ⟨(blk_cell BK1048.out 0).trans rfl, (blk_cell BK1048.out 1).trans rfl, (blk_cell BK1048.out 2).trans rfl, (blk_cell BK1048.out 3).trans rfl, (blk_cell BK1048.out 4).trans rfl, (blk_cell BK1048.out 5).trans rfl, (blk_cell BK1048.out 6).trans rfl, ((HB.out.cell (World.block_lt_of_cell? w _ hw1050_0)).trans hw1050_0), ((HB.out.cell (World.block_lt_of_cell? w _ hw1050_1)).trans hw1050_1), ((HB.out.cell (World.block_lt_of_cell? w _ hw1050_2)).trans hw1050_2), ((HB.out.cell (World.block_lt_of_cell? w _ hw1052_0)).trans hw1052_0), ((HB.out.cell (World.block_lt_of_cell? w _ hw1052_1)).trans hw1052_1), ((HB.out.cell (World.block_lt_of_cell? w _ hw1052_2)).trans hw1052_2), ((HB.out.cell (World.block_lt_of_cell? w _ hw1053_0)).trans hw1053_0), ((HB.out.cell (World.block_lt_of_cell? w _ hw1053_1)).trans hw1053_1), ((HB.out.cell (World.block_lt_of_cell? w _ hw1053_2)).trans hw1053_2)⟩ (fun hHeld => ?_); refine with_tabW spec_l02BatchOK.tab8 spec_l02BatchOK.bits8 (fun HT_ HW_ => ?_)
                            generalize wr.drew = w32 at BK1048 HB hx1050_0 hx1050_1 hx1050_2 hx1052_0 hx1052_1 hx1052_2 hx1053_0 hx1053_1 hx1053_2 hHeld ⊢
                            refine pure_ (i := 0) (N := some 33) (v := ?_) (a' := ?_) #[true, false, false, false, false, false, false, false, false, false, false, false, false, false, false, false, false, false, false, false, false, false, false, false, false, false, false] rfl rfl (any_of HT_.out (by kernel_rfl)) (fun _ _ _ h => h) (Or.inl ⟨by rfl, ?_⟩) ?_ ?_
                            rotate_left
                            · intro w'
                              go_simp
                              with_reducible rfl
                            rotate_left
                            · simp only [Act.put, List.setIfInBounds_toArray, List.set_cons_zero, List.set_cons_succ, i64_w, i32_w]
                              rfl
                            refine pure_ (i := 2) (N := some 35) (v := ?_) (a' := ?_) #[true, false, true, false, false, false, false, false, false, false, false, false, false, false, false, false, false, false, false, false, false, false, false, false, false, false, false] rfl rfl (any_of HT_.out (by kernel_rfl)) (fun _ _ _ h => h) (Or.inl ⟨by rfl, ?_⟩) ?_ ?_
                            rotate_left
                            · intro w'
                              go_simp
                              with_reducible rfl
                            rotate_left
                            · simp only [Act.put, List.setIfInBounds_toArray, List.set_cons_zero, List.set_cons_succ, i64_w, i32_w]
                              rfl
                            refine take_ (i := 1) (N := some 34) (v := ?_) (a' := ?_) #[true, true, true, false, false, false, false, false, false, false, false, false, false, false, false, false, false, false, false, false, false, false, false, false, false, false, false] rfl rfl (take_ofW HT_.out HW_.out (by kernel_rfl)) (fun _ _ _ h => h) (Or.inl ⟨by rfl, ?_⟩) hHeld ?_ ?_
                            rotate_left
                            · rintro w' ⟨s0, s1, s2, s3, s4, s5, s6, s7, s8, s9, s10, s11, s12, s13, s14, s15⟩
                              go_simp
                              with_reducible rfl
                            rotate_left
                            · simp only [Act.put, List.setIfInBounds_toArray, List.set_cons_zero, List.set_cons_succ, i64_w, i32_w]
                              rfl
                            refine pure_ (i := 3) (N := some 36) (v := ?_) (a' := ?_) #[true, true, true, true, false, false, false, false, false, false, false, false, false, false, false, false, false, false, false, false, false, false, false, false, false, false, false] rfl rfl (any_of HT_.out (by kernel_rfl)) (fun _ _ _ h => h) (Or.inl ⟨by rfl, ?_⟩) ?_ ?_
                            rotate_left
                            · intro w'
                              go_simp
                              with_reducible rfl
                            rotate_left
                            · simp only [Act.put, List.setIfInBounds_toArray, List.set_cons_zero, List.set_cons_succ, i64_w, i32_w]
                              rfl
                            refine take_ (i := 4) (N := some 37) (v := ?_) (a' := ?_) #[true, true, true, true, true, false, false, false, false, false, false, false, false, false, false, false, false, false, false, false, false, false, false, false, false, false, false] rfl rfl (take_ofW HT_.out HW_.out (by kernel_rfl)) (fun _ _ _ h => h) (Or.inl ⟨by rfl, ?_⟩) hHeld ?_ ?_
                            rotate_left
                            · rintro w' ⟨s0, s1, s2, s3, s4, s5, s6, s7, s8, s9, s10, s11, s12, s13, s14, s15⟩
                              go_simp
                              with_reducible rfl
                            rotate_left
                            · simp only [Act.put, List.setIfInBounds_toArray, List.set_cons_zero, List.set_cons_succ, i64_w, i32_w]
                              rfl
                            refine one_ (i := 5) (N := some 38) #[true, true, true, true, true, true, false, false, false, false, false, false, false, false, false, false, false, false, false, false, false, false, false, false, false, false, false] rfl rfl (one_of HT_.out (by kernel_rfl)) (by decide) (fun K hK => ?_)
                            refine goes_ Try.func155 (by kernel_rfl) rfl #[.agg #[.int .i64 ((rd_T161 l0_6 x3_2).f0), .int .i64 ((rd_T161 l0_6 x3_2).f1), .string ((rd_T161 l0_6 x3_2).f2)]] (by rfl) rfl rfl (by (try simp only [List.map_toArray, List.map_cons, List.map_nil]); first | done | rfl | (simp only [List.length_drop, List.length_take]; rfl)) ?_
                            with_reducible refine (spec_l02Reading.calls ((rd_T161 l0_6 x3_2).f0) ((rd_T161 l0_6 x3_2).f1) ((rd_T161 l0_6 x3_2).f2) true _ A21.out).mono ?_
                            rintro e w33 ⟨rfl, hb⟩
                            refine ⟨_, rfl, ?_⟩
                            have n0_ := Aside0.mk (blk_below (g := gb1048) (o := .cells #[.bool false, .int .i64 a0_1, .int .i64 a0_2, .int .i64 a0_3, .int .i64 a0_4, .string a0_5, .slice (some ad1050) l0_6.length c0_6] 67 (0, 0)) (by (with_reducible repeat (first | refine blk_drewN ?_ _ | refine blk_drew ?_ | refine blk_alloc ?_ _)); exact BK1048.out) hb)
                            have n1_ := Aside0.mk (below_step (by repeat (first | (with_reducible first | exact HB.out | apply below_alloc | apply pw_below_drewN | apply below_drew1 | refine below_set ?_ GE1048.out) | exact HB.out)) hb)
                            clear BK1048
                            clear HB
                            have BK1048 := n0_
                            have HB := n1_
                            clear n0_ n1_
                            (try clear hb)
                            (try clear hb2)
                            (try clear hk)
                            (try clear hi)
                            refine hK.out _ _ ⟨(blk_cell BK1048.out 0).trans rfl, (blk_cell BK1048.out 1).trans rfl, (blk_cell BK1048.out 2).trans rfl, (blk_cell BK1048.out 3).trans rfl, (blk_cell BK1048.out 4).trans rfl, (blk_cell BK1048.out 5).trans rfl, (blk_cell BK1048.out 6).trans rfl, ((HB.out.cell (World.block_lt_of_cell? w _ hw1050_0)).trans hw1050_0), ((HB.out.cell (World.block_lt_of_cell? w _ hw1050_1)).trans hw1050_1), ((HB.out.cell (World.block_lt_of_cell? w _ hw1050_2)).trans hw1050_2), ((HB.out.cell (World.block_lt_of_cell? w _ hw1052_0)).trans hw1052_0), ((HB.out.cell (World.block_lt_of_cell? w _ hw1052_1)).trans hw1052_1), ((HB.out.cell (World.block_lt_of_cell? w _ hw1052_2)).trans hw1052_2), ((HB.out.cell (World.block_lt_of_cell? w _ hw1053_0)).trans hw1053_0), ((HB.out.cell (World.block_lt_of_cell? w _ hw1053_1)).trans hw1053_1), ((HB.out.cell (World.block_lt_of_cell? w _ hw1053_2)).trans hw1053_2)⟩ (fun hHeld => ?_)
                            clear hK K
                            refine norm_ (a' := ?_) ?_ ?_
                            rotate_left
                            · show Act.put _ (some 38) _ = _
                              simp only [Act.put, List.setIfInBounds_toArray, List.set_cons_zero, List.set_cons_succ, i64_w, i32_w]
                              rfl
                            refine pure_ (i := 6) (N := some 39) (v := ?_) (a' := ?_) #[true, true, true, true, true, true, true, false, false, false, false, false, false, false, false, false, false, false, false, false, false, false, false, false, false, false, false] rfl rfl (any_of HT_.out (by kernel_rfl)) (fun _ _ _ h => h) (Or.inl ⟨by rfl, ?_⟩) ?_ ?_
                            rotate_left
                            · intro w'
                              go_simp
                              with_reducible rfl
                            rotate_left
                            · simp only [Act.put, List.setIfInBounds_toArray, List.set_cons_zero, List.set_cons_succ, i64_w, i32_w]
                              rfl
                            refine pure_ (i := 7) (N := some 40) (v := ?_) (a' := ?_) #[true, true, true, true, true, true, true, true, false, false, false, false, false, false, false, false, false, false, false, false, false, false, false, false, false, false, false] rfl rfl (any_of HT_.out (by kernel_rfl)) (fun _ _ _ h => h) (Or.inl ⟨by rfl, ?_⟩) ?_ ?_
                            rotate_left
                            · intro w'
                              go_simp
                              with_reducible rfl
                            rotate_left
                            · simp only [Act.put, List.setIfInBounds_toArray, List.set_cons_zero, List.set_cons_succ, i64_w, i32_w]
                              rfl
                            refine pure_ (i := 8) (N := some 41) (v := ?_) (a' := ?_) #[true, true, true, true, true, true, true, true, true, false, false, false, false, false, false, false, false, false, false, false, false, false, false, false, false, false, false] rfl rfl (any_of HT_.out (by kernel_rfl)) (fun _ _ _ h => h) (Or.inl ⟨by rfl, ?_⟩) ?_ ?_
                            rotate_left
                            · intro w'
                              go_simp
                              with_reducible rfl
                            rotate_left
                            · simp only [Act.put, List.setIfInBounds_toArray, List.set_cons_zero, List.set_cons_succ, i64_w, i32_w]
                              rfl
                            refine pure_ (i := 9) (N := some 42) (v := ?_) (a' := ?_) #[true, true, true, true, true, true, true, true, true, true, false, false, false, false, false, false, false, false, false, false, false, false, false, false, false, false, false] rfl rfl (any_of HT_.out (by kernel_rfl)) (fun _ _ _ h => h) (Or.inl ⟨by rfl, ?_⟩) ?_ ?_
                            rotate_left
                            · intro w'
                              go_simp
                              with_reducible rfl
                            rotate_left
                            · simp only [Act.put, List.setIfInBounds_toArray, List.set_cons_zero, List.set_cons_succ, i64_w, i32_w]
                              rfl
                            refine pure_ (i := 10) (N := some 43) (v := ?_) (a' := ?_) #[true, true, true, true, true, true, true, true, true, true, true, false, false, false, false, false, false, false, false, false, false, false, false, false, false, false, false] rfl rfl (any_of HT_.out (by kernel_rfl)) (fun _ _ _ h => h) (Or.inl ⟨by rfl, ?_⟩) ?_ ?_
                            rotate_left
                            · intro w'
                              go_simp
                              with_reducible rfl
                            rotate_left
                            · simp only [Act.put, List.setIfInBounds_toArray, List.set_cons_zero, List.set_cons_succ, i64_w, i32_w]
                              rfl
                            refine pure_ (i := 11) (N := some 44) (v := ?_) (a' := ?_) #[true, true, true, true, true, true, true, true, true, true, true, true, false, false, false, false, false, false, false, false, false, false, false, false, false, false, false] rfl rfl (any_of HT_.out (by kernel_rfl)) (fun _ _ _ h => h) (Or.inl ⟨by rfl, ?_⟩) ?_ ?_
                            rotate_left
                            · intro w'
                              go_simp
                              with_reducible rfl
                            rotate_left
                            · simp only [Act.put, List.setIfInBounds_toArray, List.set_cons_zero, List.set_cons_succ, i64_w, i32_w]
                              rfl
                            refine pure_ (i := 13) (N := some 46) (v := ?_) (a' := ?_) #[true, true, true, true, true, true, true, true, true, true, true, true, false, true, false, false, false, false, false, false, false, false, false, false, false, false, false] rfl rfl (any_of HT_.out (by kernel_rfl)) (fun _ _ _ h => h) (Or.inl ⟨by rfl, ?_⟩) ?_ ?_
                            rotate_left
                            · intro w'
                              go_simp
                              with_reducible rfl
                            rotate_left
                            · simp only [Act.put, List.setIfInBounds_toArray, List.set_cons_zero, List.set_cons_succ, i64_w, i32_w]
                              rfl
                            refine pure_ (i := 14) (N := some 47) (v := ?_) (a' := ?_) #[true, true, true, true, true, true, true, true, true, true, true, true, false, true, true, false, false, false, false, false, false, false, false, false, false, false, false] rfl rfl (any_of HT_.out (by kernel_rfl)) (fun _ _ _ h => h) (Or.inl ⟨by rfl, ?_⟩) ?_ ?_
                            rotate_left
                            · intro w'
                              go_simp
                              with_reducible rfl
                            rotate_left
                            · simp only [Act.put, List.setIfInBounds_toArray, List.set_cons_zero, List.set_cons_succ, i64_w, i32_w]
                              rfl
                            refine pure_ (i := 18) (N := some 51) (v := ?_) (a' := ?_) #[true, true, true, true, true, true, true, true, true, true, true, true, false, true, true, false, false, false, true, false, false, false, false, false, false, false, false] rfl rfl (any_of HT_.out (by kernel_rfl)) (fun _ _ _ h => h) (Or.inl ⟨by rfl, ?_⟩) ?_ ?_
                            rotate_left
                            · intro w'
                              go_simp
                              with_reducible rfl
                            rotate_left
                            · simp only [Act.put, List.setIfInBounds_toArray, List.set_cons_zero, List.set_cons_succ, i64_w, i32_w]
                              rfl
                            refine pure_ (i := 20) (N := some 53) (v := ?_) (a' := ?_) #[true, true, true, true, true, true, true, true, true, true, true, true, false, true, true, false, false, false, true, false, true, false, false, false, false, false, false] rfl rfl (any_of HT_.out (by kernel_rfl)) (fun _ _ _ h => h) (Or.inl ⟨by rfl, ?_⟩) ?_ ?_
                            rotate_left
                            · intro w'
                              go_simp
                              with_reducible rfl
                            rotate_left
                            · simp only [Act.put, List.setIfInBounds_toArray, List.set_cons_zero, List.set_cons_succ, i64_w, i32_w]
                              rfl
                            refine take_ (i := 12) (N := some 45) (v := ?_) (a' := ?_) #[true, true, true, true, true, true, true, true, true, true, true, true, true, true, true, false, false, false, true, false, true, false, false, false, false, false, false] rfl rfl (take_ofW HT_.out HW_.out (by kernel_rfl)) (fun _ _ _ h => h) (Or.inl ⟨by rfl, ?_⟩) hHeld ?_ ?_
                            rotate_left
                            · rintro w' ⟨s0, s1, s2, s3, s4, s5, s6, s7, s8, s9, s10, s11, s12, s13, s14, s15⟩
                              go_simp
                              with_reducible rfl
                            rotate_left
                            · simp only [Act.put, List.setIfInBounds_toArray, List.set_cons_zero, List.set_cons_succ, i64_w, i32_w]
                              rfl
                            refine pure_ (i := 15) (N := some 48) (v := ?_) (a' := ?_) #[true, true, true, true, true, true, true, true, true, true, true, true, true, true, true, true, false, false, true, false, true, false, false, false, false, false, false] rfl rfl (any_of HT_.out (by kernel_rfl)) (fun _ _ _ h => h) (Or.inl ⟨by rfl, ?_⟩) ?_ ?_
                            rotate_left
                            · intro w'
                              go_simp
                              with_reducible rfl
                            rotate_left
                            · simp only [Act.put, List.setIfInBounds_toArray, List.set_cons_zero, List.set_cons_succ, i64_w, i32_w]
                              rfl
                            refine pure_ (i := 16) (N := some 49) (v := ?_) (a' := ?_) #[true, true, true, true, true, true, true, true, true, true, true, true, true, true, true, true, true, false, true, false, true, false, false, false, false, false, false] rfl rfl (any_of HT_.out (by kernel_rfl)) (fun _ _ _ h => h) (Or.inl ⟨by rfl, ?_⟩) ?_ ?_
                            rotate_left
                            · intro w'
                              go_simp
                              with_reducible rfl
                            rotate_left
                            · simp only [Act.put, List.setIfInBounds_toArray, List.set_cons_zero, List.set_cons_succ, i64_w, i32_w]
                              rfl
                            refine take_ (i := 17) (N := some 50) (v := ?_) (a' := ?_) #[true, true, true, true, true, true, true, true, true, true, true, true, true, true, true, true, true, true, true, false, true, false, false, false, false, false, false] rfl rfl (take_ofW HT_.out HW_.out (by kernel_rfl)) (fun _ _ _ h => h) (Or.inl ⟨by rfl, ?_⟩) hHeld ?_ ?_
                            rotate_left
                            · rintro w' ⟨s0, s1, s2, s3, s4, s5, s6, s7, s8, s9, s10, s11, s12, s13, s14, s15⟩
                              go_simp
                              with_reducible rfl
                            rotate_left
                            · simp only [Act.put, List.setIfInBounds_toArray, List.set_cons_zero, List.set_cons_succ, i64_w, i32_w]
                              rfl
                            refine take_ (i := 19) (N := some 52) (v := ?_) (a' := ?_) #[true, true, true, true, true, true, true, true, true, true, true, true, true, true, true, true, true, true, true, true, true, false, false, false, false, false, false] rfl rfl (take_ofW HT_.out HW_.out (by kernel_rfl)) (fun _ _ _ h => h) (Or.inl ⟨by rfl, ?_⟩) hHeld ?_ ?_
                            rotate_left
                            · rintro w' ⟨s0, s1, s2, s3, s4, s5, s6, s7, s8, s9, s10, s11, s12, s13, s14, s15⟩
                              go_simp
                              with_reducible rfl
                            rotate_left
                            · simp only [Act.put, List.setIfInBounds_toArray, List.set_cons_zero, List.set_cons_succ, i64_w, i32_w]
                              rfl
                            refine pure_ (i := 21) (N := some 54) (v := ?_) (a' := ?_) #[true, true, true, true, true, true, true, true, true, true, true, true, true, true, true, true, true, true, true, true, true, true, false, false, false, false, false] rfl rfl (any_of HT_.out (by kernel_rfl)) (fun _ _ _ h => h) (Or.inl ⟨by rfl, ?_⟩) ?_ ?_
                            rotate_left
                            · intro w'
                              go_simp
                              with_reducible rfl
                            rotate_left
                            · simp only [Act.put, List.setIfInBounds_toArray, List.set_cons_zero, List.set_cons_succ, i64_w, i32_w]
                              rfl
                            refine pure_ (i := 22) (N := some 55) (v := ?_) (a' := ?_) #[true, true, true, true, true, true, true, true, true, true, true, true, true, true, true, true, true, true, true, true, true, true, true, false, false, false, false] rfl rfl (any_of HT_.out (by kernel_rfl)) (fun _ _ _ h => h) (Or.inl ⟨by rfl, ?_⟩) ?_ ?_
                            rotate_left
                            · intro w'
                              go_simp
                              with_reducible rfl
                            rotate_left
                            · simp only [Act.put, List.setIfInBounds_toArray, List.set_cons_zero, List.set_cons_succ, i64_w, i32_w]
                              rfl
                            refine take_ (i := 23) (N := some 56) (v := ?_) (a' := ?_) #[true, true, true, true, true, true, true, true, true, true, true, true, true, true, true, true, true, true, true, true, true, true, true, true, false, false, false] rfl rfl (take_ofW HT_.out HW_.out (by kernel_rfl)) (fun _ _ _ h => h) (Or.inl ⟨by rfl, ?_⟩) hHeld ?_ ?_
                            rotate_left
                            · rintro w' ⟨s0, s1, s2, s3, s4, s5, s6, s7, s8, s9, s10, s11, s12, s13, s14, s15⟩
                              go_simp
                              with_reducible rfl
                            rotate_left
                            · simp only [Act.put, List.setIfInBounds_toArray, List.set_cons_zero, List.set_cons_succ, i64_w, i32_w]
                              rfl
                            refine pure_ (i := 24) (N := some 57) (v := ?_) (a' := ?_) #[true, true, true, true, true, true, true, true, true, true, true, true, true, true, true, true, true, true, true, true, true, true, true, true, true, false, false] rfl rfl (any_of HT_.out (by kernel_rfl)) (fun _ _ _ h => h) (Or.inl ⟨by rfl, ?_⟩) ?_ ?_
                            rotate_left
                            · intro w'
                              go_simp
                              with_reducible rfl
                            rotate_left
                            · simp only [Act.put, List.setIfInBounds_toArray, List.set_cons_zero, List.set_cons_succ, i64_w, i32_w]
                              rfl
                            refine pure_ (i := 25) (N := some 58) (v := ?_) (a' := ?_) #[true, true, true, true, true, true, true, true, true, true, true, true, true, true, true, true, true, true, true, true, true, true, true, true, true, true, false] rfl rfl (any_of HT_.out (by kernel_rfl)) (fun _ _ _ h => h) (Or.inl ⟨by rfl, ?_⟩) ?_ ?_
                            rotate_left
                            · intro w'
                              go_simp
                              with_reducible rfl
                            rotate_left
                            · simp only [Act.put, List.setIfInBounds_toArray, List.set_cons_zero, List.set_cons_succ, i64_w, i32_w]
                              rfl
                            refine pure_ (i := 26) (N := some 59) (v := ?_) (a' := ?_) #[true, true, true, true, true, true, true, true, true, true, true, true, true, true, true, true, true, true, true, true, true, true, true, true, true, true, true] rfl rfl (any_of HT_.out (by kernel_rfl)) (fun _ _ _ h => h) (Or.inl ⟨by rfl, ?_⟩) ?_ ?_
                            rotate_left
                            · intro w'
                              go_simp
                              with_reducible rfl
                            rotate_left
                            · simp only [Act.put, List.setIfInBounds_toArray, List.set_cons_zero, List.set_cons_succ, i64_w, i32_w]
                              rfl
                            refine done_ (done_of HT_.out (by kernel_rfl)) ?_
                            try go_wp2
                            go_roundg k2
                            case measure => have := HJ7.out; have := HK2.out; omega
                            case rel => exact ⟨(wrap64 (x3_2 + 1)), (by first | rfl | (simp; done) | (simp [*]; done)), H', ⟨by have := HJ7.out; have := HK2.out; omega⟩, ⟨by (with_reducible repeat (first | refine blk_drewN ?_ _ | refine blk_drew ?_ | refine blk_alloc ?_ _)); exact BK1048.out⟩, ⟨by repeat (first | (with_reducible first | exact HB.out | apply below_alloc | apply pw_below_drewN | apply below_drew1 | refine below_set ?_ GE1048.out) | exact HB.out)⟩⟩
                        · rw [if_neg c26] at H
                          exact absurd H (by simp)
                      · rw [if_neg c25] at H
                        exact absurd H (by simp)
                    · rw [if_neg c23] at H
                      have c23b0 : decide (0 < x3_2) = false := decide_eq_false c23
                      clear c23
                      have H' := Aside0.mk H
                      clear H
                      have hcz34_0 : wr.cell? ⟨gb1048, 0, none⟩ = some (.bool false) := (blk_cell BK1048.out 0).trans rfl
                      have hcz34_1 : wr.cell? ⟨gb1048, 1, none⟩ = some (.int .i64 a0_1) := (blk_cell BK1048.out 1).trans rfl
                      have hcz34_2 : wr.cell? ⟨gb1048, 2, none⟩ = some (.int .i64 a0_2) := (blk_cell BK1048.out 2).trans rfl
                      have hcz34_3 : wr.cell? ⟨gb1048, 3, none⟩ = some (.int .i64 a0_3) := (blk_cell BK1048.out 3).trans rfl
                      have hcz34_4 : wr.cell? ⟨gb1048, 4, none⟩ = some (.int .i64 a0_4) := (blk_cell BK1048.out 4).trans rfl
                      have hcz34_5 : wr.cell? ⟨gb1048, 5, none⟩ = some (.string a0_5) := (blk_cell BK1048.out 5).trans rfl
                      have hcz34_6 : wr.cell? ⟨gb1048, 6, none⟩ = some (.slice A0_6 l0_6.length c0_6) := (blk_cell BK1048.out 6).trans rfl
                      have hfz34_0 := blk_frozen BK1048.out 0
                      have hfz34_1 := blk_frozen BK1048.out 1
                      have hfz34_2 := blk_frozen BK1048.out 2
                      have hfz34_3 := blk_frozen BK1048.out 3
                      have hfz34_4 := blk_frozen BK1048.out 4
                      have hfz34_5 := blk_frozen BK1048.out 5
                      have hfz34_6 := blk_frozen BK1048.out 6
                      try go_wp2
                      have n0_ := Aside0.mk (blk_drew BK1048.out)
                      have n1_ := Aside0.mk (below_drew1 HB.out)
                      clear BK1048
                      clear HB
                      have BK1048 := n0_
                      have HB := n1_
                      clear n0_ n1_
                      have p1050 : 0 ≤ (x3_2 : Int) := of_decide_eq_true (by first | (with_reducible assumption) | assumption)
                      have q1050 : x3_2 < (l0_6.length : Int) := of_decide_eq_true (by first | (with_reducible assumption) | assumption)
                      obtain ⟨ad1050, e1050, hx1050_0, hx1050_1, hx1050_2⟩ := at_T161 HR0_6.out x3_2 p1050 q1050
                      have hw1050_2 := hx1050_2
                      have hw1050_1 := hx1050_1
                      have hw1050_0 := hx1050_0
                      cases e1050
                      replace hx1050_0 := (HB.out.cell (World.block_lt_of_cell? w _ hx1050_0)).trans hx1050_0
                      replace hx1050_1 := (HB.out.cell (World.block_lt_of_cell? w _ hx1050_1)).trans hx1050_1
                      replace hx1050_2 := (HB.out.cell (World.block_lt_of_cell? w _ hx1050_2)).trans hx1050_2
                      replace p1050 := eq_true p1050
                      replace q1050 := eq_true q1050
                      refine start_ (n := 27) (S := fun w' => w'.cell? ⟨gb1048, 0, none⟩ = some (.bool false) ∧ w'.cell? ⟨gb1048, 1, none⟩ = some (.int .i64 a0_1) ∧ w'.cell? ⟨gb1048, 2, none⟩ = some (.int .i64 a0_2) ∧ w'.cell? ⟨gb1048, 3, none⟩ = some (.int .i64 a0_3) ∧ w'.cell? ⟨gb1048, 4, none⟩ = some (.int .i64 a0_4) ∧ w'.cell? ⟨gb1048, 5, none⟩ = some (.string a0_5) ∧ w'.cell? ⟨gb1048, 6, none⟩ = some (.slice (some ad1050) l0_6.length c0_6) ∧ w'.cell? (ad1050.add ((x3_2).toNat * 3)) = some (.int .i64 ((rd_T161 l0_6 x3_2).f0)) ∧ w'.cell? ⟨(ad1050.add ((x3_2).toNat * 3)).block, (ad1050.add ((x3_2).toNat * 3)).off + 1, none⟩ = some (.int .i64 ((rd_T161 l0_6 x3_2).f1)) ∧ w'.cell? ⟨(ad1050.add ((x3_2).toNat * 3)).block, (ad1050.add ((x3_2).toNat * 3)).off + 2, none⟩ = some (.string ((rd_T161 l0_6 x3_2).f2))) (ds := []) #[false, false, false, false, false, false, false, false, false, false, false, false, false, false, false, false, false, false, false, false, false, false, false, false, false, false, false] (by kernel_rfl) rfl rfl ⟨(blk_cell BK1048.out 0).trans rfl, (blk_cell BK1048.out 1).trans rfl, (blk_cell BK1048.out 2).trans rfl, (blk_cell BK1048.out 3).trans rfl, (blk_cell BK1048.out 4).trans rfl, (blk_cell BK1048.out 5).trans rfl, (blk_cell BK1048.out 6).trans rfl, ((HB.out.cell (World.block_lt_of_cell? w _ hw1050_0)).trans hw1050_0), ((HB.out.cell (World.block_lt_of_cell? w _ hw1050_1)).trans hw1050_1), ((HB.out.cell (World.block_lt_of_cell? w _ hw1050_2)).trans hw1050_2)⟩ (fun hHeld => ?_); refine with_tabW spec_l02BatchOK.tab8 spec_l02BatchOK.bits8 (fun HT_ HW_ => ?_)
                      generalize wr.drew = w35 at BK1048 HB hx1050_0 hx1050_1 hx1050_2 hHeld ⊢
                      refine pure_ (i := 0) (N := some 33) (v := ?_) (a' := ?_) #[true, false, false, false, false, false, false, false, false, false, false, false, false, false, false, false, false, false, false, false, false, false, false, false, false, false, false] rfl rfl (any_of HT_.out (by kernel_rfl)) (fun _ _ _ h => h) (Or.inl ⟨by rfl, ?_⟩) ?_ ?_
                      rotate_left
                      · intro w'
                        go_simp
                        with_reducible rfl
                      rotate_left
                      · simp only [Act.put, List.setIfInBounds_toArray, List.set_cons_zero, List.set_cons_succ, i64_w, i32_w]
                        rfl
                      refine pure_ (i := 2) (N := some 35) (v := ?_) (a' := ?_) #[true, false, true, false, false, false, false, false, false, false, false, false, false, false, false, false, false, false, false, false, false, false, false, false, false, false, false] rfl rfl (any_of HT_.out (by kernel_rfl)) (fun _ _ _ h => h) (Or.inl ⟨by rfl, ?_⟩) ?_ ?_
                      rotate_left
                      · intro w'
                        go_simp
                        with_reducible rfl
                      rotate_left
                      · simp only [Act.put, List.setIfInBounds_toArray, List.set_cons_zero, List.set_cons_succ, i64_w, i32_w]
                        rfl
                      refine take_ (i := 1) (N := some 34) (v := ?_) (a' := ?_) #[true, true, true, false, false, false, false, false, false, false, false, false, false, false, false, false, false, false, false, false, false, false, false, false, false, false, false] rfl rfl (take_ofW HT_.out HW_.out (by kernel_rfl)) (fun _ _ _ h => h) (Or.inl ⟨by rfl, ?_⟩) hHeld ?_ ?_
                      rotate_left
                      · rintro w' ⟨s0, s1, s2, s3, s4, s5, s6, s7, s8, s9⟩
                        go_simp
                        with_reducible rfl
                      rotate_left
                      · simp only [Act.put, List.setIfInBounds_toArray, List.set_cons_zero, List.set_cons_succ, i64_w, i32_w]
                        rfl
                      refine pure_ (i := 3) (N := some 36) (v := ?_) (a' := ?_) #[true, true, true, true, false, false, false, false, false, false, false, false, false, false, false, false, false, false, false, false, false, false, false, false, false, false, false] rfl rfl (any_of HT_.out (by kernel_rfl)) (fun _ _ _ h => h) (Or.inl ⟨by rfl, ?_⟩) ?_ ?_
                      rotate_left
                      · intro w'
                        go_simp
                        with_reducible rfl
                      rotate_left
                      · simp only [Act.put, List.setIfInBounds_toArray, List.set_cons_zero, List.set_cons_succ, i64_w, i32_w]
                        rfl
                      refine take_ (i := 4) (N := some 37) (v := ?_) (a' := ?_) #[true, true, true, true, true, false, false, false, false, false, false, false, false, false, false, false, false, false, false, false, false, false, false, false, false, false, false] rfl rfl (take_ofW HT_.out HW_.out (by kernel_rfl)) (fun _ _ _ h => h) (Or.inl ⟨by rfl, ?_⟩) hHeld ?_ ?_
                      rotate_left
                      · rintro w' ⟨s0, s1, s2, s3, s4, s5, s6, s7, s8, s9⟩
                        go_simp
                        with_reducible rfl
                      rotate_left
                      · simp only [Act.put, List.setIfInBounds_toArray, List.set_cons_zero, List.set_cons_succ, i64_w, i32_w]
                        rfl
                      refine one_ (i := 5) (N := some 38) #[true, true, true, true, true, true, false, false, false, false, false, false, false, false, false, false, false, false, false, false, false, false, false, false, false, false, false] rfl rfl (one_of HT_.out (by kernel_rfl)) (by decide) (fun K hK => ?_)
                      refine goes_ Try.func155 (by kernel_rfl) rfl #[.agg #[.int .i64 ((rd_T161 l0_6 x3_2).f0), .int .i64 ((rd_T161 l0_6 x3_2).f1), .string ((rd_T161 l0_6 x3_2).f2)]] (by rfl) rfl rfl (by (try simp only [List.map_toArray, List.map_cons, List.map_nil]); first | done | rfl | (simp only [List.length_drop, List.length_take]; rfl)) ?_
                      with_reducible refine (spec_l02Reading.calls ((rd_T161 l0_6 x3_2).f0) ((rd_T161 l0_6 x3_2).f1) ((rd_T161 l0_6 x3_2).f2) true _ A21.out).mono ?_
                      rintro e w36 ⟨rfl, hb⟩
                      refine ⟨_, rfl, ?_⟩
                      have n0_ := Aside0.mk (blk_below (g := gb1048) (o := .cells #[.bool false, .int .i64 a0_1, .int .i64 a0_2, .int .i64 a0_3, .int .i64 a0_4, .string a0_5, .slice (some ad1050) l0_6.length c0_6] 67 (0, 0)) (by (with_reducible repeat (first | refine blk_drewN ?_ _ | refine blk_drew ?_ | refine blk_alloc ?_ _)); exact BK1048.out) hb)
                      have n1_ := Aside0.mk (below_step (by repeat (first | (with_reducible first | exact HB.out | apply below_alloc | apply pw_below_drewN | apply below_drew1 | refine below_set ?_ GE1048.out) | exact HB.out)) hb)
                      clear BK1048
                      clear HB
                      have BK1048 := n0_
                      have HB := n1_
                      clear n0_ n1_
                      (try clear hb)
                      (try clear hb2)
                      (try clear hk)
                      (try clear hi)
                      refine hK.out _ _ ⟨(blk_cell BK1048.out 0).trans rfl, (blk_cell BK1048.out 1).trans rfl, (blk_cell BK1048.out 2).trans rfl, (blk_cell BK1048.out 3).trans rfl, (blk_cell BK1048.out 4).trans rfl, (blk_cell BK1048.out 5).trans rfl, (blk_cell BK1048.out 6).trans rfl, ((HB.out.cell (World.block_lt_of_cell? w _ hw1050_0)).trans hw1050_0), ((HB.out.cell (World.block_lt_of_cell? w _ hw1050_1)).trans hw1050_1), ((HB.out.cell (World.block_lt_of_cell? w _ hw1050_2)).trans hw1050_2)⟩ (fun hHeld => ?_)
                      clear hK K
                      refine norm_ (a' := ?_) ?_ ?_
                      rotate_left
                      · show Act.put _ (some 38) _ = _
                        simp only [Act.put, List.setIfInBounds_toArray, List.set_cons_zero, List.set_cons_succ, i64_w, i32_w]
                        rfl
                      refine pure_ (i := 6) (N := some 39) (v := ?_) (a' := ?_) #[true, true, true, true, true, true, true, false, false, false, false, false, false, false, false, false, false, false, false, false, false, false, false, false, false, false, false] rfl rfl (any_of HT_.out (by kernel_rfl)) (fun _ _ _ h => h) (Or.inl ⟨by rfl, ?_⟩) ?_ ?_
                      rotate_left
                      · intro w'
                        go_simp
                        with_reducible rfl
                      rotate_left
                      · simp only [Act.put, List.setIfInBounds_toArray, List.set_cons_zero, List.set_cons_succ, i64_w, i32_w]
                        rfl
                      refine pure_ (i := 7) (N := some 40) (v := ?_) (a' := ?_) #[true, true, true, true, true, true, true, true, false, false, false, false, false, false, false, false, false, false, false, false, false, false, false, false, false, false, false] rfl rfl (any_of HT_.out (by kernel_rfl)) (fun _ _ _ h => h) (Or.inl ⟨by rfl, ?_⟩) ?_ ?_
                      rotate_left
                      · intro w'
                        go_simp
                        with_reducible rfl
                      rotate_left
                      · simp only [Act.put, List.setIfInBounds_toArray, List.set_cons_zero, List.set_cons_succ, i64_w, i32_w]
                        rfl
                      refine pure_ (i := 8) (N := some 41) (v := ?_) (a' := ?_) #[true, true, true, true, true, true, true, true, true, false, false, false, false, false, false, false, false, false, false, false, false, false, false, false, false, false, false] rfl rfl (any_of HT_.out (by kernel_rfl)) (fun _ _ _ h => h) (Or.inl ⟨by rfl, ?_⟩) ?_ ?_
                      rotate_left
                      · intro w'
                        go_simp
                        with_reducible rfl
                      rotate_left
                      · simp only [Act.put, List.setIfInBounds_toArray, List.set_cons_zero, List.set_cons_succ, i64_w, i32_w]
                        rfl
                      refine pure_ (i := 9) (N := some 42) (v := ?_) (a' := ?_) #[true, true, true, true, true, true, true, true, true, true, false, false, false, false, false, false, false, false, false, false, false, false, false, false, false, false, false] rfl rfl (any_of HT_.out (by kernel_rfl)) (fun _ _ _ h => h) (Or.inl ⟨by rfl, ?_⟩) ?_ ?_
                      rotate_left
                      · intro w'
                        go_simp
                        with_reducible rfl
                      rotate_left
                      · simp only [Act.put, List.setIfInBounds_toArray, List.set_cons_zero, List.set_cons_succ, i64_w, i32_w]
                        rfl
                      refine pure_ (i := 10) (N := some 43) (v := ?_) (a' := ?_) #[true, true, true, true, true, true, true, true, true, true, true, false, false, false, false, false, false, false, false, false, false, false, false, false, false, false, false] rfl rfl (any_of HT_.out (by kernel_rfl)) (fun _ _ _ h => h) (Or.inl ⟨by rfl, ?_⟩) ?_ ?_
                      rotate_left
                      · intro w'
                        go_simp
                        with_reducible rfl
                      rotate_left
                      · simp only [Act.put, List.setIfInBounds_toArray, List.set_cons_zero, List.set_cons_succ, i64_w, i32_w]
                        rfl
                      refine pure_ (i := 11) (N := some 44) (v := undef) (a' := ?_) #[true, true, true, true, true, true, true, true, true, true, true, true, false, false, false, false, false, false, false, false, false, false, false, false, false, false, false] rfl rfl (any_of HT_.out (by kernel_rfl)) (fun _ _ _ h => h) (Or.inr ⟨by rfl, rfl⟩) ?_ ?_
                      rotate_left
                      · simp only [Act.put, List.setIfInBounds_toArray, List.set_cons_zero, List.set_cons_succ, i64_w, i32_w]
                        rfl
                      refine pure_ (i := 12) (N := some 45) (v := undef) (a' := ?_) #[true, true, true, true, true, true, true, true, true, true, true, true, true, false, false, false, false, false, false, false, false, false, false, false, false, false, false] rfl rfl (any_of HT_.out (by kernel_rfl)) (fun _ _ _ h => h) (Or.inr ⟨by rfl, rfl⟩) ?_ ?_
                      rotate_left
                      · simp only [Act.put, List.setIfInBounds_toArray, List.set_cons_zero, List.set_cons_succ, i64_w, i32_w]
                        rfl
                      refine pure_ (i := 13) (N := some 46) (v := undef) (a' := ?_) #[true, true, true, true, true, true, true, true, true, true, true, true, true, true, false, false, false, false, false, false, false, false, false, false, false, false, false] rfl rfl (any_of HT_.out (by kernel_rfl)) (fun _ _ _ h => h) (Or.inr ⟨by rfl, rfl⟩) ?_ ?_
                      rotate_left
                      · simp only [Act.put, List.setIfInBounds_toArray, List.set_cons_zero, List.set_cons_succ, i64_w, i32_w]
                        rfl
                      refine pure_ (i := 14) (N := some 47) (v := undef) (a' := ?_) #[true, true, true, true, true, true, true, true, true, true, true, true, true, true, true, false, false, false, false, false, false, false, false, false, false, false, false] rfl rfl (any_of HT_.out (by kernel_rfl)) (fun _ _ _ h => h) (Or.inr ⟨by rfl, rfl⟩) ?_ ?_
                      rotate_left
                      · simp only [Act.put, List.setIfInBounds_toArray, List.set_cons_zero, List.set_cons_succ, i64_w, i32_w]
                        rfl
                      refine pure_ (i := 15) (N := some 48) (v := undef) (a' := ?_) #[true, true, true, true, true, true, true, true, true, true, true, true, true, true, true, true, false, false, false, false, false, false, false, false, false, false, false] rfl rfl (any_of HT_.out (by kernel_rfl)) (fun _ _ _ h => h) (Or.inr ⟨by rfl, rfl⟩) ?_ ?_
                      rotate_left
                      · simp only [Act.put, List.setIfInBounds_toArray, List.set_cons_zero, List.set_cons_succ, i64_w, i32_w]
                        rfl
                      refine pure_ (i := 16) (N := some 49) (v := undef) (a' := ?_) #[true, true, true, true, true, true, true, true, true, true, true, true, true, true, true, true, true, false, false, false, false, false, false, false, false, false, false] rfl rfl (any_of HT_.out (by kernel_rfl)) (fun _ _ _ h => h) (Or.inr ⟨by rfl, rfl⟩) ?_ ?_
                      rotate_left
                      · simp only [Act.put, List.setIfInBounds_toArray, List.set_cons_zero, List.set_cons_succ, i64_w, i32_w]
                        rfl
                      refine pure_ (i := 17) (N := some 50) (v := undef) (a' := ?_) #[true, true, true, true, true, true, true, true, true, true, true, true, true, true, true, true, true, true, false, false, false, false, false, false, false, false, false] rfl rfl (any_of HT_.out (by kernel_rfl)) (fun _ _ _ h => h) (Or.inr ⟨by rfl, rfl⟩) ?_ ?_
                      rotate_left
                      · simp only [Act.put, List.setIfInBounds_toArray, List.set_cons_zero, List.set_cons_succ, i64_w, i32_w]
                        rfl
                      refine pure_ (i := 18) (N := some 51) (v := undef) (a' := ?_) #[true, true, true, true, true, true, true, true, true, true, true, true, true, true, true, true, true, true, true, false, false, false, false, false, false, false, false] rfl rfl (any_of HT_.out (by kernel_rfl)) (fun _ _ _ h => h) (Or.inr ⟨by rfl, rfl⟩) ?_ ?_
                      rotate_left
                      · simp only [Act.put, List.setIfInBounds_toArray, List.set_cons_zero, List.set_cons_succ, i64_w, i32_w]
                        rfl
                      refine pure_ (i := 19) (N := some 52) (v := undef) (a' := ?_) #[true, true, true, true, true, true, true, true, true, true, true, true, true, true, true, true, true, true, true, true, false, false, false, false, false, false, false] rfl rfl (any_of HT_.out (by kernel_rfl)) (fun _ _ _ h => h) (Or.inr ⟨by rfl, rfl⟩) ?_ ?_
                      rotate_left
                      · simp only [Act.put, List.setIfInBounds_toArray, List.set_cons_zero, List.set_cons_succ, i64_w, i32_w]
                        rfl
                      refine pure_ (i := 20) (N := some 53) (v := undef) (a' := ?_) #[true, true, true, true, true, true, true, true, true, true, true, true, true, true, true, true, true, true, true, true, true, false, false, false, false, false, false] rfl rfl (any_of HT_.out (by kernel_rfl)) (fun _ _ _ h => h) (Or.inr ⟨by rfl, rfl⟩) ?_ ?_
                      rotate_left
                      · simp only [Act.put, List.setIfInBounds_toArray, List.set_cons_zero, List.set_cons_succ, i64_w, i32_w]
                        rfl
                      refine pure_ (i := 21) (N := some 54) (v := undef) (a' := ?_) #[true, true, true, true, true, true, true, true, true, true, true, true, true, true, true, true, true, true, true, true, true, true, false, false, false, false, false] rfl rfl (any_of HT_.out (by kernel_rfl)) (fun _ _ _ h => h) (Or.inr ⟨by rfl, rfl⟩) ?_ ?_
                      rotate_left
                      · simp only [Act.put, List.setIfInBounds_toArray, List.set_cons_zero, List.set_cons_succ, i64_w, i32_w]
                        rfl
                      refine pure_ (i := 22) (N := some 55) (v := undef) (a' := ?_) #[true, true, true, true, true, true, true, true, true, true, true, true, true, true, true, true, true, true, true, true, true, true, true, false, false, false, false] rfl rfl (any_of HT_.out (by kernel_rfl)) (fun _ _ _ h => h) (Or.inr ⟨by rfl, rfl⟩) ?_ ?_
                      rotate_left
                      · simp only [Act.put, List.setIfInBounds_toArray, List.set_cons_zero, List.set_cons_succ, i64_w, i32_w]
                        rfl
                      refine pure_ (i := 23) (N := some 56) (v := undef) (a' := ?_) #[true, true, true, true, true, true, true, true, true, true, true, true, true, true, true, true, true, true, true, true, true, true, true, true, false, false, false] rfl rfl (any_of HT_.out (by kernel_rfl)) (fun _ _ _ h => h) (Or.inr ⟨by rfl, rfl⟩) ?_ ?_
                      rotate_left
                      · simp only [Act.put, List.setIfInBounds_toArray, List.set_cons_zero, List.set_cons_succ, i64_w, i32_w]
                        rfl
                      refine pure_ (i := 24) (N := some 57) (v := undef) (a' := ?_) #[true, true, true, true, true, true, true, true, true, true, true, true, true, true, true, true, true, true, true, true, true, true, true, true, true, false, false] rfl rfl (any_of HT_.out (by kernel_rfl)) (fun _ _ _ h => h) (Or.inr ⟨by rfl, rfl⟩) ?_ ?_
                      rotate_left
                      · simp only [Act.put, List.setIfInBounds_toArray, List.set_cons_zero, List.set_cons_succ, i64_w, i32_w]
                        rfl
                      refine pure_ (i := 25) (N := some 58) (v := ?_) (a' := ?_) #[true, true, true, true, true, true, true, true, true, true, true, true, true, true, true, true, true, true, true, true, true, true, true, true, true, true, false] rfl rfl (any_of HT_.out (by kernel_rfl)) (fun _ _ _ h => h) (Or.inl ⟨by rfl, ?_⟩) ?_ ?_
                      rotate_left
                      · intro w'
                        go_simp
                        with_reducible rfl
                      rotate_left
                      · simp only [Act.put, List.setIfInBounds_toArray, List.set_cons_zero, List.set_cons_succ, i64_w, i32_w]
                        rfl
                      refine pure_ (i := 26) (N := some 59) (v := ?_) (a' := ?_) #[true, true, true, true, true, true, true, true, true, true, true, true, true, true, true, true, true, true, true, true, true, true, true, true, true, true, true] rfl rfl (any_of HT_.out (by kernel_rfl)) (fun _ _ _ h => h) (Or.inl ⟨by rfl, ?_⟩) ?_ ?_
                      rotate_left
                      · intro w'
                        go_simp
                        with_reducible rfl
                      rotate_left
                      · simp only [Act.put, List.setIfInBounds_toArray, List.set_cons_zero, List.set_cons_succ, i64_w, i32_w]
                        rfl
                      refine done_ (done_of HT_.out (by kernel_rfl)) ?_
                      try go_wp2
                      go_roundg k2
                      case measure => have := HJ7.out; have := HK2.out; omega
                      case rel => exact ⟨(wrap64 (x3_2 + 1)), (by first | rfl | (simp; done) | (simp [*]; done)), H', ⟨by have := HJ7.out; have := HK2.out; omega⟩, ⟨by (with_reducible repeat (first | refine blk_drewN ?_ _ | refine blk_drew ?_ | refine blk_alloc ?_ _)); exact BK1048.out⟩, ⟨by repeat (first | (with_reducible first | exact HB.out | apply below_alloc | apply pw_below_drewN | apply below_drew1 | refine below_set ?_ GE1048.out) | exact HB.out)⟩⟩
                  · replace c22 := Bool.eq_false_iff.mpr c22
                    subst c22
                    have H1 : (some false) = some r := by rw [if_neg (show ¬ (false = true) by decide)] at H; exact H
                    clear H
                    have H := H1
                    clear H1
                    obtain rfl := Option.some.inj H
                    have hcz37_0 : wr.cell? ⟨gb1048, 0, none⟩ = some (.bool false) := (blk_cell BK1048.out 0).trans rfl
                    have hcz37_1 : wr.cell? ⟨gb1048, 1, none⟩ = some (.int .i64 a0_1) := (blk_cell BK1048.out 1).trans rfl
                    have hcz37_2 : wr.cell? ⟨gb1048, 2, none⟩ = some (.int .i64 a0_2) := (blk_cell BK1048.out 2).trans rfl
                    have hcz37_3 : wr.cell? ⟨gb1048, 3, none⟩ = some (.int .i64 a0_3) := (blk_cell BK1048.out 3).trans rfl
                    have hcz37_4 : wr.cell? ⟨gb1048, 4, none⟩ = some (.int .i64 a0_4) := (blk_cell BK1048.out 4).trans rfl
                    have hcz37_5 : wr.cell? ⟨gb1048, 5, none⟩ = some (.string a0_5) := (blk_cell BK1048.out 5).trans rfl
                    have hcz37_6 : wr.cell? ⟨gb1048, 6, none⟩ = some (.slice A0_6 l0_6.length c0_6) := (blk_cell BK1048.out 6).trans rfl
                    have hfz37_0 := blk_frozen BK1048.out 0
                    have hfz37_1 := blk_frozen BK1048.out 1
                    have hfz37_2 := blk_frozen BK1048.out 2
                    have hfz37_3 := blk_frozen BK1048.out 3
                    have hfz37_4 := blk_frozen BK1048.out 4
                    have hfz37_5 := blk_frozen BK1048.out 5
                    have hfz37_6 := blk_frozen BK1048.out 6
                    try go_wp2
                    have n0_ := Aside0.mk (blk_drew BK1048.out)
                    have n1_ := Aside0.mk (below_drew1 HB.out)
                    clear BK1048
                    clear HB
                    have BK1048 := n0_
                    have HB := n1_
                    clear n0_ n1_
                    have p1050 : 0 ≤ (x3_2 : Int) := of_decide_eq_true (by first | (with_reducible assumption) | assumption)
                    have q1050 : x3_2 < (l0_6.length : Int) := of_decide_eq_true (by first | (with_reducible assumption) | assumption)
                    obtain ⟨ad1050, e1050, hx1050_0, hx1050_1, hx1050_2⟩ := at_T161 HR0_6.out x3_2 p1050 q1050
                    have hw1050_2 := hx1050_2
                    have hw1050_1 := hx1050_1
                    have hw1050_0 := hx1050_0
                    cases e1050
                    replace hx1050_0 := (HB.out.cell (World.block_lt_of_cell? w _ hx1050_0)).trans hx1050_0
                    replace hx1050_1 := (HB.out.cell (World.block_lt_of_cell? w _ hx1050_1)).trans hx1050_1
                    replace hx1050_2 := (HB.out.cell (World.block_lt_of_cell? w _ hx1050_2)).trans hx1050_2
                    replace p1050 := eq_true p1050
                    replace q1050 := eq_true q1050
                    refine start_ (n := 27) (S := fun w' => w'.cell? ⟨gb1048, 0, none⟩ = some (.bool false) ∧ w'.cell? ⟨gb1048, 1, none⟩ = some (.int .i64 a0_1) ∧ w'.cell? ⟨gb1048, 2, none⟩ = some (.int .i64 a0_2) ∧ w'.cell? ⟨gb1048, 3, none⟩ = some (.int .i64 a0_3) ∧ w'.cell? ⟨gb1048, 4, none⟩ = some (.int .i64 a0_4) ∧ w'.cell? ⟨gb1048, 5, none⟩ = some (.string a0_5) ∧ w'.cell? ⟨gb1048, 6, none⟩ = some (.slice (some ad1050) l0_6.length c0_6) ∧ w'.cell? (ad1050.add ((x3_2).toNat * 3)) = some (.int .i64 ((rd_T161 l0_6 x3_2).f0)) ∧ w'.cell? ⟨(ad1050.add ((x3_2).toNat * 3)).block, (ad1050.add ((x3_2).toNat * 3)).off + 1, none⟩ = some (.int .i64 ((rd_T161 l0_6 x3_2).f1)) ∧ w'.cell? ⟨(ad1050.add ((x3_2).toNat * 3)).block, (ad1050.add ((x3_2).toNat * 3)).off + 2, none⟩ = some (.string ((rd_T161 l0_6 x3_2).f2))) (ds := []) #[false, false, false, false, false, false, false, false, false, false, false, false, false, false, false, false, false, false, false, false, false, false, false, false, false, false, false] (by kernel_rfl) rfl rfl ⟨(blk_cell BK1048.out 0).trans rfl, (blk_cell BK1048.out 1).trans rfl, (blk_cell BK1048.out 2).trans rfl, (blk_cell BK1048.out 3).trans rfl, (blk_cell BK1048.out 4).trans rfl, (blk_cell BK1048.out 5).trans rfl, (blk_cell BK1048.out 6).trans rfl, ((HB.out.cell (World.block_lt_of_cell? w _ hw1050_0)).trans hw1050_0), ((HB.out.cell (World.block_lt_of_cell? w _ hw1050_1)).trans hw1050_1), ((HB.out.cell (World.block_lt_of_cell? w _ hw1050_2)).trans hw1050_2)⟩ (fun hHeld => ?_); refine with_tabW spec_l02BatchOK.tab8 spec_l02BatchOK.bits8 (fun HT_ HW_ => ?_)
                    generalize wr.drew = w38 at BK1048 HB hx1050_0 hx1050_1 hx1050_2 hHeld ⊢
                    refine pure_ (i := 0) (N := some 33) (v := ?_) (a' := ?_) #[true, false, false, false, false, false, false, false, false, false, false, false, false, false, false, false, false, false, false, false, false, false, false, false, false, false, false] rfl rfl (any_of HT_.out (by kernel_rfl)) (fun _ _ _ h => h) (Or.inl ⟨by rfl, ?_⟩) ?_ ?_
                    rotate_left
                    · intro w'
                      go_simp
                      with_reducible rfl
                    rotate_left
                    · simp only [Act.put, List.setIfInBounds_toArray, List.set_cons_zero, List.set_cons_succ, i64_w, i32_w]
                      rfl
                    refine pure_ (i := 2) (N := some 35) (v := ?_) (a' := ?_) #[true, false, true, false, false, false, false, false, false, false, false, false, false, false, false, false, false, false, false, false, false, false, false, false, false, false, false] rfl rfl (any_of HT_.out (by kernel_rfl)) (fun _ _ _ h => h) (Or.inl ⟨by rfl, ?_⟩) ?_ ?_
                    rotate_left
                    · intro w'
                      go_simp
                      with_reducible rfl
                    rotate_left
                    · simp only [Act.put, List.setIfInBounds_toArray, List.set_cons_zero, List.set_cons_succ, i64_w, i32_w]
                      rfl
                    refine take_ (i := 1) (N := some 34) (v := ?_) (a' := ?_) #[true, true, true, false, false, false, false, false, false, false, false, false, false, false, false, false, false, false, false, false, false, false, false, false, false, false, false] rfl rfl (take_ofW HT_.out HW_.out (by kernel_rfl)) (fun _ _ _ h => h) (Or.inl ⟨by rfl, ?_⟩) hHeld ?_ ?_
                    rotate_left
                    · rintro w' ⟨s0, s1, s2, s3, s4, s5, s6, s7, s8, s9⟩
                      go_simp
                      with_reducible rfl
                    rotate_left
                    · simp only [Act.put, List.setIfInBounds_toArray, List.set_cons_zero, List.set_cons_succ, i64_w, i32_w]
                      rfl
                    refine pure_ (i := 3) (N := some 36) (v := ?_) (a' := ?_) #[true, true, true, true, false, false, false, false, false, false, false, false, false, false, false, false, false, false, false, false, false, false, false, false, false, false, false] rfl rfl (any_of HT_.out (by kernel_rfl)) (fun _ _ _ h => h) (Or.inl ⟨by rfl, ?_⟩) ?_ ?_
                    rotate_left
                    · intro w'
                      go_simp
                      with_reducible rfl
                    rotate_left
                    · simp only [Act.put, List.setIfInBounds_toArray, List.set_cons_zero, List.set_cons_succ, i64_w, i32_w]
                      rfl
                    refine take_ (i := 4) (N := some 37) (v := ?_) (a' := ?_) #[true, true, true, true, true, false, false, false, false, false, false, false, false, false, false, false, false, false, false, false, false, false, false, false, false, false, false] rfl rfl (take_ofW HT_.out HW_.out (by kernel_rfl)) (fun _ _ _ h => h) (Or.inl ⟨by rfl, ?_⟩) hHeld ?_ ?_
                    rotate_left
                    · rintro w' ⟨s0, s1, s2, s3, s4, s5, s6, s7, s8, s9⟩
                      go_simp
                      with_reducible rfl
                    rotate_left
                    · simp only [Act.put, List.setIfInBounds_toArray, List.set_cons_zero, List.set_cons_succ, i64_w, i32_w]
                      rfl
                    refine one_ (i := 5) (N := some 38) #[true, true, true, true, true, true, false, false, false, false, false, false, false, false, false, false, false, false, false, false, false, false, false, false, false, false, false] rfl rfl (one_of HT_.out (by kernel_rfl)) (by decide) (fun K hK => ?_)
                    refine goes_ Try.func155 (by kernel_rfl) rfl #[.agg #[.int .i64 ((rd_T161 l0_6 x3_2).f0), .int .i64 ((rd_T161 l0_6 x3_2).f1), .string ((rd_T161 l0_6 x3_2).f2)]] (by rfl) rfl rfl (by (try simp only [List.map_toArray, List.map_cons, List.map_nil]); first | done | rfl | (simp only [List.length_drop, List.length_take]; rfl)) ?_
                    with_reducible refine (spec_l02Reading.calls ((rd_T161 l0_6 x3_2).f0) ((rd_T161 l0_6 x3_2).f1) ((rd_T161 l0_6 x3_2).f2) false _ A21.out).mono ?_
                    rintro e w39 ⟨rfl, hb⟩
                    refine ⟨_, rfl, ?_⟩
                    have n0_ := Aside0.mk (blk_below (g := gb1048) (o := .cells #[.bool false, .int .i64 a0_1, .int .i64 a0_2, .int .i64 a0_3, .int .i64 a0_4, .string a0_5, .slice (some ad1050) l0_6.length c0_6] 67 (0, 0)) (by (with_reducible repeat (first | refine blk_drewN ?_ _ | refine blk_drew ?_ | refine blk_alloc ?_ _)); exact BK1048.out) hb)
                    have n1_ := Aside0.mk (below_step (by repeat (first | (with_reducible first | exact HB.out | apply below_alloc | apply pw_below_drewN | apply below_drew1 | refine below_set ?_ GE1048.out) | exact HB.out)) hb)
                    clear BK1048
                    clear HB
                    have BK1048 := n0_
                    have HB := n1_
                    clear n0_ n1_
                    (try clear hb)
                    (try clear hb2)
                    (try clear hk)
                    (try clear hi)
                    refine hK.out _ _ ⟨(blk_cell BK1048.out 0).trans rfl, (blk_cell BK1048.out 1).trans rfl, (blk_cell BK1048.out 2).trans rfl, (blk_cell BK1048.out 3).trans rfl, (blk_cell BK1048.out 4).trans rfl, (blk_cell BK1048.out 5).trans rfl, (blk_cell BK1048.out 6).trans rfl, ((HB.out.cell (World.block_lt_of_cell? w _ hw1050_0)).trans hw1050_0), ((HB.out.cell (World.block_lt_of_cell? w _ hw1050_1)).trans hw1050_1), ((HB.out.cell (World.block_lt_of_cell? w _ hw1050_2)).trans hw1050_2)⟩ (fun hHeld => ?_)
                    clear hK K
                    refine norm_ (a' := ?_) ?_ ?_
                    rotate_left
                    · show Act.put _ (some 38) _ = _
                      simp only [Act.put, List.setIfInBounds_toArray, List.set_cons_zero, List.set_cons_succ, i64_w, i32_w]
                      rfl
                    refine pure_ (i := 6) (N := some 39) (v := ?_) (a' := ?_) #[true, true, true, true, true, true, true, false, false, false, false, false, false, false, false, false, false, false, false, false, false, false, false, false, false, false, false] rfl rfl (any_of HT_.out (by kernel_rfl)) (fun _ _ _ h => h) (Or.inl ⟨by rfl, ?_⟩) ?_ ?_
                    rotate_left
                    · intro w'
                      go_simp
                      with_reducible rfl
                    rotate_left
                    · simp only [Act.put, List.setIfInBounds_toArray, List.set_cons_zero, List.set_cons_succ, i64_w, i32_w]
                      rfl
                    refine pure_ (i := 7) (N := some 40) (v := ?_) (a' := ?_) #[true, true, true, true, true, true, true, true, false, false, false, false, false, false, false, false, false, false, false, false, false, false, false, false, false, false, false] rfl rfl (any_of HT_.out (by kernel_rfl)) (fun _ _ _ h => h) (Or.inl ⟨by rfl, ?_⟩) ?_ ?_
                    rotate_left
                    · intro w'
                      go_simp
                      with_reducible rfl
                    rotate_left
                    · simp only [Act.put, List.setIfInBounds_toArray, List.set_cons_zero, List.set_cons_succ, i64_w, i32_w]
                      rfl
                    refine pure_ (i := 8) (N := some 41) (v := undef) (a' := ?_) #[true, true, true, true, true, true, true, true, true, false, false, false, false, false, false, false, false, false, false, false, false, false, false, false, false, false, false] rfl rfl (any_of HT_.out (by kernel_rfl)) (fun _ _ _ h => h) (Or.inr ⟨by rfl, rfl⟩) ?_ ?_
                    rotate_left
                    · simp only [Act.put, List.setIfInBounds_toArray, List.set_cons_zero, List.set_cons_succ, i64_w, i32_w]
                      rfl
                    refine pure_ (i := 9) (N := some 42) (v := undef) (a' := ?_) #[true, true, true, true, true, true, true, true, true, true, false, false, false, false, false, false, false, false, false, false, false, false, false, false, false, false, false] rfl rfl (any_of HT_.out (by kernel_rfl)) (fun _ _ _ h => h) (Or.inr ⟨by rfl, rfl⟩) ?_ ?_
                    rotate_left
                    · simp only [Act.put, List.setIfInBounds_toArray, List.set_cons_zero, List.set_cons_succ, i64_w, i32_w]
                      rfl
                    refine pure_ (i := 10) (N := some 43) (v := undef) (a' := ?_) #[true, true, true, true, true, true, true, true, true, true, true, false, false, false, false, false, false, false, false, false, false, false, false, false, false, false, false] rfl rfl (any_of HT_.out (by kernel_rfl)) (fun _ _ _ h => h) (Or.inr ⟨by rfl, rfl⟩) ?_ ?_
                    rotate_left
                    · simp only [Act.put, List.setIfInBounds_toArray, List.set_cons_zero, List.set_cons_succ, i64_w, i32_w]
                      rfl
                    refine pure_ (i := 11) (N := some 44) (v := undef) (a' := ?_) #[true, true, true, true, true, true, true, true, true, true, true, true, false, false, false, false, false, false, false, false, false, false, false, false, false, false, false] rfl rfl (any_of HT_.out (by kernel_rfl)) (fun _ _ _ h => h) (Or.inr ⟨by rfl, rfl⟩) ?_ ?_
                    rotate_left
                    · simp only [Act.put, List.setIfInBounds_toArray, List.set_cons_zero, List.set_cons_succ, i64_w, i32_w]
                      rfl
                    refine pure_ (i := 12) (N := some 45) (v := undef) (a' := ?_) #[true, true, true, true, true, true, true, true, true, true, true, true, true, false, false, false, false, false, false, false, false, false, false, false, false, false, false] rfl rfl (any_of HT_.out (by kernel_rfl)) (fun _ _ _ h => h) (Or.inr ⟨by rfl, rfl⟩) ?_ ?_
                    rotate_left
                    · simp only [Act.put, List.setIfInBounds_toArray, List.set_cons_zero, List.set_cons_succ, i64_w, i32_w]
                      rfl
                    refine pure_ (i := 13) (N := some 46) (v := undef) (a' := ?_) #[true, true, true, true, true, true, true, true, true, true, true, true, true, true, false, false, false, false, false, false, false, false, false, false, false, false, false] rfl rfl (any_of HT_.out (by kernel_rfl)) (fun _ _ _ h => h) (Or.inr ⟨by rfl, rfl⟩) ?_ ?_
                    rotate_left
                    · simp only [Act.put, List.setIfInBounds_toArray, List.set_cons_zero, List.set_cons_succ, i64_w, i32_w]
                      rfl
                    refine pure_ (i := 14) (N := some 47) (v := undef) (a' := ?_) #[true, true, true, true, true, true, true, true, true, true, true, true, true, true, true, false, false, false, false, false, false, false, false, false, false, false, false] rfl rfl (any_of HT_.out (by kernel_rfl)) (fun _ _ _ h => h) (Or.inr ⟨by rfl, rfl⟩) ?_ ?_
                    rotate_left
                    · simp only [Act.put, List.setIfInBounds_toArray, List.set_cons_zero, List.set_cons_succ, i64_w, i32_w]
                      rfl
                    refine pure_ (i := 15) (N := some 48) (v := undef) (a' := ?_) #[true, true, true, true, true, true, true, true, true, true, true, true, true, true, true, true, false, false, false, false, false, false, false, false, false, false, false] rfl rfl (any_of HT_.out (by kernel_rfl)) (fun _ _ _ h => h) (Or.inr ⟨by rfl, rfl⟩) ?_ ?_
                    rotate_left
                    · simp only [Act.put, List.setIfInBounds_toArray, List.set_cons_zero, List.set_cons_succ, i64_w, i32_w]
                      rfl
                    refine pure_ (i := 16) (N := some 49) (v := undef) (a' := ?_) #[true, true, true, true, true, true, true, true, true, true, true, true, true, true, true, true, true, false, false, false, false, false, false, false, false, false, false] rfl rfl (any_of HT_.out (by kernel_rfl)) (fun _ _ _ h => h) (Or.inr ⟨by rfl, rfl⟩) ?_ ?_
                    rotate_left
                    · simp only [Act.put, List.setIfInBounds_toArray, List.set_cons_zero, List.set_cons_succ, i64_w, i32_w]
                      rfl
                    refine pure_ (i := 17) (N := some 50) (v := undef) (a' := ?_) #[true, true, true, true, true, true, true, true, true, true, true, true, true, true, true, true, true, true, false, false, false, false, false, false, false, false, false] rfl rfl (any_of HT_.out (by kernel_rfl)) (fun _ _ _ h => h) (Or.inr ⟨by rfl, rfl⟩) ?_ ?_
                    rotate_left
                    · simp only [Act.put, List.setIfInBounds_toArray, List.set_cons_zero, List.set_cons_succ, i64_w, i32_w]
                      rfl
                    refine pure_ (i := 18) (N := some 51) (v := undef) (a' := ?_) #[true, true, true, true, true, true, true, true, true, true, true, true, true, true, true, true, true, true, true, false, false, false, false, false, false, false, false] rfl rfl (any_of HT_.out (by kernel_rfl)) (fun _ _ _ h => h) (Or.inr ⟨by rfl, rfl⟩) ?_ ?_
                    rotate_left
                    · simp only [Act.put, List.setIfInBounds_toArray, List.set_cons_zero, List.set_cons_succ, i64_w, i32_w]
                      rfl
                    refine pure_ (i := 19) (N := some 52) (v := undef) (a' := ?_) #[true, true, true, true, true, true, true, true, true, true, true, true, true, true, true, true, true, true, true, true, false, false, false, false, false, false, false] rfl rfl (any_of HT_.out (by kernel_rfl)) (fun _ _ _ h => h) (Or.inr ⟨by rfl, rfl⟩) ?_ ?_
                    rotate_left
                    · simp only [Act.put, List.setIfInBounds_toArray, List.set_cons_zero, List.set_cons_succ, i64_w, i32_w]
                      rfl
                    refine pure_ (i := 20) (N := some 53) (v := undef) (a' := ?_) #[true, true, true, true, true, true, true, true, true, true, true, true, true, true, true, true, true, true, true, true, true, false, false, false, false, false, false] rfl rfl (any_of HT_.out (by kernel_rfl)) (fun _ _ _ h => h) (Or.inr ⟨by rfl, rfl⟩) ?_ ?_
                    rotate_left
                    · simp only [Act.put, List.setIfInBounds_toArray, List.set_cons_zero, List.set_cons_succ, i64_w, i32_w]
                      rfl
                    refine pure_ (i := 21) (N := some 54) (v := undef) (a' := ?_) #[true, true, true, true, true, true, true, true, true, true, true, true, true, true, true, true, true, true, true, true, true, true, false, false, false, false, false] rfl rfl (any_of HT_.out (by kernel_rfl)) (fun _ _ _ h => h) (Or.inr ⟨by rfl, rfl⟩) ?_ ?_
                    rotate_left
                    · simp only [Act.put, List.setIfInBounds_toArray, List.set_cons_zero, List.set_cons_succ, i64_w, i32_w]
                      rfl
                    refine pure_ (i := 22) (N := some 55) (v := undef) (a' := ?_) #[true, true, true, true, true, true, true, true, true, true, true, true, true, true, true, true, true, true, true, true, true, true, true, false, false, false, false] rfl rfl (any_of HT_.out (by kernel_rfl)) (fun _ _ _ h => h) (Or.inr ⟨by rfl, rfl⟩) ?_ ?_
                    rotate_left
                    · simp only [Act.put, List.setIfInBounds_toArray, List.set_cons_zero, List.set_cons_succ, i64_w, i32_w]
                      rfl
                    refine pure_ (i := 23) (N := some 56) (v := undef) (a' := ?_) #[true, true, true, true, true, true, true, true, true, true, true, true, true, true, true, true, true, true, true, true, true, true, true, true, false, false, false] rfl rfl (any_of HT_.out (by kernel_rfl)) (fun _ _ _ h => h) (Or.inr ⟨by rfl, rfl⟩) ?_ ?_
                    rotate_left
                    · simp only [Act.put, List.setIfInBounds_toArray, List.set_cons_zero, List.set_cons_succ, i64_w, i32_w]
                      rfl
                    refine pure_ (i := 24) (N := some 57) (v := undef) (a' := ?_) #[true, true, true, true, true, true, true, true, true, true, true, true, true, true, true, true, true, true, true, true, true, true, true, true, true, false, false] rfl rfl (any_of HT_.out (by kernel_rfl)) (fun _ _ _ h => h) (Or.inr ⟨by rfl, rfl⟩) ?_ ?_
                    rotate_left
                    · simp only [Act.put, List.setIfInBounds_toArray, List.set_cons_zero, List.set_cons_succ, i64_w, i32_w]
                      rfl
                    refine pure_ (i := 25) (N := some 58) (v := undef) (a' := ?_) #[true, true, true, true, true, true, true, true, true, true, true, true, true, true, true, true, true, true, true, true, true, true, true, true, true, true, false] rfl rfl (any_of HT_.out (by kernel_rfl)) (fun _ _ _ h => h) (Or.inr ⟨by rfl, rfl⟩) ?_ ?_
                    rotate_left
                    · simp only [Act.put, List.setIfInBounds_toArray, List.set_cons_zero, List.set_cons_succ, i64_w, i32_w]
                      rfl
                    refine pure_ (i := 26) (N := some 59) (v := ?_) (a' := ?_) #[true, true, true, true, true, true, true, true, true, true, true, true, true, true, true, true, true, true, true, true, true, true, true, true, true, true, true] rfl rfl (any_of HT_.out (by kernel_rfl)) (fun _ _ _ h => h) (Or.inl ⟨by rfl, ?_⟩) ?_ ?_
                    rotate_left
                    · intro w'
                      go_simp
                      with_reducible rfl
                    rotate_left
                    · simp only [Act.put, List.setIfInBounds_toArray, List.set_cons_zero, List.set_cons_succ, i64_w, i32_w]
                      rfl
                    refine done_ (done_of HT_.out (by kernel_rfl)) ?_
                    try go_wp2
                    go_ret
                    exact ⟨by first | rfl | (simp [errW_none, errW_some] <;> rfl) | (simp [*, errW_none, errW_some] <;> rfl) | (simp [mp_beq_nil, mp_bne_nil]; done) | (simp [*, mp_beq_nil, mp_bne_nil]; done), by repeat (first | (with_reducible first | exact HB.out | apply below_alloc | apply pw_below_drewN | apply below_drew1 | refine below_set ?_ GE1048.out) | exact HB.out)⟩
                · rw [if_neg c20] at H
                  exact absurd H (by simp)
              · rw [if_neg c19] at H
                have c19b0 : decide (x3_2 < (l0_6.length : Int)) = false := decide_eq_false c19
                clear c19
                obtain rfl := Option.some.inj H
                have hcz40_0 : wr.cell? ⟨gb1048, 0, none⟩ = some (.bool false) := (blk_cell BK1048.out 0).trans rfl
                have hcz40_1 : wr.cell? ⟨gb1048, 1, none⟩ = some (.int .i64 a0_1) := (blk_cell BK1048.out 1).trans rfl
                have hcz40_2 : wr.cell? ⟨gb1048, 2, none⟩ = some (.int .i64 a0_2) := (blk_cell BK1048.out 2).trans rfl
                have hcz40_3 : wr.cell? ⟨gb1048, 3, none⟩ = some (.int .i64 a0_3) := (blk_cell BK1048.out 3).trans rfl
                have hcz40_4 : wr.cell? ⟨gb1048, 4, none⟩ = some (.int .i64 a0_4) := (blk_cell BK1048.out 4).trans rfl
                have hcz40_5 : wr.cell? ⟨gb1048, 5, none⟩ = some (.string a0_5) := (blk_cell BK1048.out 5).trans rfl
                have hcz40_6 : wr.cell? ⟨gb1048, 6, none⟩ = some (.slice A0_6 l0_6.length c0_6) := (blk_cell BK1048.out 6).trans rfl
                have hfz40_0 := blk_frozen BK1048.out 0
                have hfz40_1 := blk_frozen BK1048.out 1
                have hfz40_2 := blk_frozen BK1048.out 2
                have hfz40_3 := blk_frozen BK1048.out 3
                have hfz40_4 := blk_frozen BK1048.out 4
                have hfz40_5 := blk_frozen BK1048.out 5
                have hfz40_6 := blk_frozen BK1048.out 6
                go_wp2
                go_ret
                exact ⟨by first | rfl | (simp [errW_none, errW_some] <;> rfl) | (simp [*, errW_none, errW_some] <;> rfl) | (simp [mp_beq_nil, mp_bne_nil]; done) | (simp [*, mp_beq_nil, mp_bne_nil]; done), by repeat (first | (with_reducible first | exact HB.out | apply below_alloc | apply pw_below_drewN | apply below_drew1 | refine below_set ?_ GE1048.out) | exact HB.out)⟩
end Go.Proofs.Ytofkobbiomhblaa.A
end

section
namespace Go.Proofs.Ytofkobbiomhblaa.A
open Go.RowKit Go.Proofs.YtofkobbiomhblaaW.PrintWords Go.Proofs.YtofkobbiomhblaaW.PrintLast Go.Proofs.YtofkobbiomhblaaW.PrintMore
attribute [local go_sem] max2_int min2_int max_two min_two max_three min_three max_four min_four
set_option maxHeartbeats 8000000 in
set_option maxRecDepth 100000 in
theorem spec_l02Of.calls (k : Nat) (a0 : ByteArray) (r : Int) (w : World) (h : spec_l02Of.f k a0 = some r) :
    Calls Try.prog 124 #[.string a0] w fun e w' => e = .returned (.int .i64 r) ∧ Drawn0 w w' := by
  have H : (spec_l02Of.l0 k a0 0 0) = some r := h
  clear h
  have H' := Aside0.mk H
  clear H
  go_enter Try.func124, Try.ntmps124
  go_wp2
  go_loopg [3, 4] k (fun kq v3 v4 w' => ∃ (x3_1 : Int) (x4_1 : Int), v3 = .int .i64 x3_1 ∧ v4 = .int .i64 x4_1 ∧ Aside0 (spec_l02Of.l0 kq a0 x3_1 x4_1 = some r) ∧ Aside0 (kq ≤ k) ∧ Drawn0 w w')
  case atStart => exact ⟨(0), (0), (by first | rfl | (simp; done) | (simp [*]; done)), (by first | rfl | (simp; done) | (simp [*]; done)), H', ⟨Nat.le_refl _⟩, by repeat (first | exact Drawn0.refl _ | apply Drawn0.step)⟩
  case round =>
    clear H'
    try clear c1
    obtain ⟨x3_1, x4_1, rfl, rfl, HA, HK1, ⟨m1, rfl⟩⟩ := hrel
    cases gk with
    | zero => exact absurd HA.out (by simp [spec_l02Of.l0])
    | succ k1 =>
      have H := HA.out
      clear HA
      simp only [spec_l02Of.l0] at H
      by_cases c2 : x4_1 < (a0.size : Int)
      · rw [if_pos c2] at H
        have c2b0 : decide (x4_1 < (a0.size : Int)) = true := decide_eq_true c2
        clear c2
        by_cases c3 : 0 ≤ x4_1
        · rw [if_pos c3] at H
          have c3b0 : decide (0 ≤ x4_1) = true := decide_eq_true c3
          clear c3
          have H' := Aside0.mk H
          clear H
          have p4 : 0 ≤ (x4_1 : Int) := of_decide_eq_true (by first | (with_reducible assumption) | assumption)
          have q4 : x4_1 < (a0.size : Int) := of_decide_eq_true (by first | (with_reducible assumption) | assumption)
          have hx4 := bt_at a0 x4_1
          replace p4 := eq_true p4
          replace q4 := eq_true q4
          go_wp2
          go_roundg k1
          case measure => have := HK1.out; omega
          case rel => exact ⟨(wrap64 ((wrap64 (x3_1 * 256)) + (wrap64 (bt a0 x4_1)))), (wrap64 (x4_1 + 1)), (by first | rfl | (simp; done) | (simp [*]; done)), (by first | rfl | (simp; done) | (simp [*]; done)), H', ⟨by have := HK1.out; omega⟩, by repeat (first | exact Drawn0.refl _ | apply Drawn0.step)⟩
        · rw [if_neg c3] at H
          exact absurd H (by simp)
      · rw [if_neg c2] at H
        have c2b0 : decide (x4_1 < (a0.size : Int)) = false := decide_eq_false c2
        clear c2
        obtain rfl := Option.some.inj H
        go_wp2
        go_ret
        exact ⟨by first | rfl | (simp; done) | (simp [*]; done), by repeat (first | exact Drawn0.refl _ | apply Drawn0.step)⟩
end Go.Proofs.Ytofkobbiomhblaa.A
end

section
namespace Go.Proofs.Ytofkobbiomhblaa.A
open Go.RowKit Go.Proofs.YtofkobbiomhblaaW.PrintWords Go.Proofs.YtofkobbiomhblaaW.PrintLast Go.Proofs.YtofkobbiomhblaaW.PrintMore
attribute [local go_sem] max2_int min2_int max_two min_two max_three min_three max_four min_four
def spec_l02ReadRequest.T3 : Bool × List (List Nat × List Nat) := (true, [([], []), ([0], [0]), ([1], [1]), ([], []), ([3], [3]), ([4], [4]), ([], []), ([6], [6]), ([7], [7]), ([], []), ([9], [9]), ([10, 5], [10]), ([], []), ([12], [12]), ([2, 5, 8, 11, 13], [2, 5, 8, 11, 13]), ([], []), ([15, 14, 11, 0, 1, 2, 3, 4, 5, 6, 7, 8, 9, 10, 11, 12, 13, 14, 15], [14, 15])])
def spec_l02ReadRequest.B3 : List Nat := [0, 1, 3, 0, 8, 24, 0, 64, 192, 0, 512, 1592, 0, 4096, 16383, 0, 65535]
theorem spec_l02ReadRequest.tab3 : rtab .any (opsOf Try.f137 3) = spec_l02ReadRequest.T3 := by kernel_rfl
theorem spec_l02ReadRequest.bits3 : waitsOk spec_l02ReadRequest.T3.2 spec_l02ReadRequest.B3 = true := by kernel_rfl
set_option maxHeartbeats 8000000 in
set_option maxRecDepth 100000 in
theorem spec_l02ReadRequest.calls (k : Nat) (a0 : ByteArray) (r1 : Int) (r2 : Int) (r3 : Int) (r4 : Int) (r5 : ByteArray) (r6 : Bool) (w : World) (h : spec_l02ReadRequest.f k a0 = some (r1, r2, r3, r4, r5, r6)) :
    Calls Try.prog 137 #[.string a0] w fun e w' => e = .returned (.tuple #[.agg #[.int .i64 r1, .int .i64 r2, .int .i64 r3, .int .i64 r4, .string r5], .bool r6]) ∧ Below w.heap.size w w' := by
  have hu36 := Try.underlying36
  have HB := Aside0.mk (Below.refl w.heap.size w)
  have H : (if (a0.size : Int) < 7 then (spec_l02ReadRequest.j0 k a0 true) else (if 6 < (a0.size : Int) then (spec_l02ReadRequest.j0 k a0 ((a0.size : Int) != (wrap64 (7 + (wrap64 (bt a0 6)))))) else (none))) = some (r1, r2, r3, r4, r5, r6) := h
  clear h
  have HC2 := Aside0.mk H
  clear H
  go_enter Try.func137, Try.ntmps137
  go_upto_region 1 with (first | ((with_reducible refine gate_dst (N := 2) rfl ?_); (try (refine gate_guard (by rfl) ?_; dsimp only)); refine box_event ?hg (N := 2) ?hd (cs := #[.int .i64 0, .int .i64 0, .int .i64 0, .int .i64 0, .string (⟨#[]⟩ : ByteArray)]) (t := 36) ?hr ?_; (case hd => rfl); (case hg => rfl); (case hr => first | (go_simp; done) | (go_simp; rfl)); intro gb1040 hg w3 hbox hb; have n0_ := Aside0.mk (below_step (by repeat (first | (with_reducible first | exact HB.out | apply below_alloc | apply pw_below_drewN | apply below_drew1) | exact HB.out)) hb); have n1_ := Aside0.mk (hbox); have n2_ := Aside0.mk ((by rw [hg]; exact (below_size (by repeat (first | (with_reducible first | exact HB.out | apply below_alloc | apply pw_below_drewN | apply below_drew1) | exact HB.out))) : w.heap.size ≤ gb1040)); have n3_ := Aside0.mk ((by rw [hg]; exact (below_size (by repeat (first | (with_reducible first | exact HB.out | apply below_alloc | apply pw_below_drewN | apply below_drew1) | exact HB.out))) : w.heap.size ≤ gb1040)); clear HB; have HB := n0_; have BK1040 := n1_; have GW1040 := n2_; have GE1040 := n3_; clear n0_ n1_ n2_ n3_; clear hb hbox hg))
  (try simp only [Act.put, List.setIfInBounds_toArray, List.set_cons_zero, List.set_cons_succ])
  go_cut [16] (fun v16 wc => ∃ (kq : Nat) (x16_1 : Bool), v16 = .bool x16_1 ∧ Aside0 (spec_l02ReadRequest.j0 kq a0 x16_1 = some (r1, r2, r3, r4, r5, r6)) ∧ Aside0 (kq ≤ k) ∧ Aside0 (wc.heap[gb1040]? = some (.cells #[.int .i64 0, .int .i64 0, .int .i64 0, .int .i64 0, .string (⟨#[]⟩ : ByteArray)] 36 (0, 0))) ∧ Aside0 (Below w.heap.size w wc))
  case first =>
    have H := HC2.out
    clear HC2
    by_cases c4 : (a0.size : Int) < 7
    · rw [if_pos c4] at H
      have c4b0 : decide ((a0.size : Int) < 7) = true := decide_eq_true c4
      have c4b1 : decide (a0.size < 7) = true := decide_eq_true (by omega)
      clear c4
      (first | rw [c4b0] | (simp only [i64_w, i32_w]; rw [c4b0]) | skip)
      have H' := Aside0.mk H
      clear H
      go_wp2
      go_meet
      case rel => exact ⟨_, (true), (by first | rfl | (simp; done) | (simp [*]; done)), H', ⟨by first | omega | exact Nat.le_refl _⟩, ⟨by (with_reducible repeat (first | refine blk_drewN ?_ _ | refine blk_drew ?_ | refine blk_alloc ?_ _)); exact BK1040.out⟩, ⟨by repeat (first | (with_reducible first | exact HB.out | apply below_alloc | apply pw_below_drewN | apply below_drew1 | refine below_set ?_ GE1040.out) | exact HB.out)⟩⟩
    · rw [if_neg c4] at H
      have c4b0 : decide ((a0.size : Int) < 7) = false := decide_eq_false c4
      have c4b1 : decide (a0.size < 7) = false := decide_eq_false (by omega)
      clear c4
      (first | rw [c4b0] | (simp only [i64_w, i32_w]; rw [c4b0]) | skip)
      by_cases c5 : 6 < (a0.size : Int)
      · rw [if_pos c5] at H
        have c5b0 : decide (6 < (a0.size : Int)) = true := decide_eq_true c5
        have c5b1 : decide (6 < a0.size) = true := decide_eq_true (by omega)
        clear c5
        have H' := Aside0.mk H
        clear H
        have p6 : 0 ≤ (6 : Int) := (by omega)
        have q6 : 6 < a0.size := (by have : (6 : Int) < (a0.size : Int) := of_decide_eq_true (by first | (with_reducible assumption) | assumption); omega)
        have hx6 : ∀ h : 6 < a0.size, ((a0[6]'h).toNat : Int) = bt a0 6 := bt_at a0 6
        clear p6
        have qi6 : (6 < (a0.size : Int)) = True := eq_true (of_decide_eq_true (by first | (with_reducible assumption) | assumption))
        replace q6 := eq_true q6
        go_wp2
        go_meet
        case rel => exact ⟨_, (((a0.size : Int) != (wrap64 (7 + (wrap64 (bt a0 6)))))), (by first | rfl | (simp; done) | (simp [*]; done)), H', ⟨by first | omega | exact Nat.le_refl _⟩, ⟨by (with_reducible repeat (first | refine blk_drewN ?_ _ | refine blk_drew ?_ | refine blk_alloc ?_ _)); exact BK1040.out⟩, ⟨by repeat (first | (with_reducible first | exact HB.out | apply below_alloc | apply pw_below_drewN | apply below_drew1 | refine below_set ?_ GE1040.out) | exact HB.out)⟩⟩
      · rw [if_neg c5] at H
        exact absurd H (by simp)
  case rest =>
    clear HC2
    try clear c1
    try clear p2
    try clear c4
    try clear c4b0
    try clear c4b1
    try clear c5
    try clear c5b0
    try clear c5b1
    try clear p6
    try clear q6
    try clear hx6
    try clear qi6
    try clear p6
    try clear q6
    obtain ⟨kq, x16_1, rfl, HA, HJ1, BK1040, HB⟩ := hcut
    cases kq with
    | zero => exact absurd HA.out (by simp [spec_l02ReadRequest.j0])
    | succ kj1 =>
      have H := HA.out
      clear HA
      simp only [spec_l02ReadRequest.j0] at H
      by_cases c7 : x16_1 = true
      · subst c7
        have H1 : (some (0, 0, 0, 0, (⟨#[]⟩ : ByteArray), false)) = some (r1, r2, r3, r4, r5, r6) := by rw [if_pos rfl] at H; exact H
        clear H
        have H := H1
        clear H1
        simp only [Option.some.injEq, Prod.mk.injEq] at H
        obtain ⟨rfl, rfl, rfl, rfl, rfl, rfl⟩ := H
        have hcz8_0 : wc.cell? ⟨gb1040, 0, none⟩ = some (.int .i64 0) := (blk_cell BK1040.out 0).trans rfl
        have hcz8_1 : wc.cell? ⟨gb1040, 1, none⟩ = some (.int .i64 0) := (blk_cell BK1040.out 1).trans rfl
        have hcz8_2 : wc.cell? ⟨gb1040, 2, none⟩ = some (.int .i64 0) := (blk_cell BK1040.out 2).trans rfl
        have hcz8_3 : wc.cell? ⟨gb1040, 3, none⟩ = some (.int .i64 0) := (blk_cell BK1040.out 3).trans rfl
        have hcz8_4 : wc.cell? ⟨gb1040, 4, none⟩ = some (.string (⟨#[]⟩ : ByteArray)) := (blk_cell BK1040.out 4).trans rfl
        have hfz8_0 := blk_frozen BK1040.out 0
        have hfz8_1 := blk_frozen BK1040.out 1
        have hfz8_2 := blk_frozen BK1040.out 2
        have hfz8_3 := blk_frozen BK1040.out 3
        have hfz8_4 := blk_frozen BK1040.out 4
        go_wp2
        refine bodyPost_ret (results_ct rfl _ _ gb1040 36 #[.int .i64 0, .int .i64 0, .int .i64 0, .int .i64 0, .string (⟨#[]⟩ : ByteArray)] (0, 0) _ rfl (by (with_reducible repeat (first | refine blk_drewN ?_ _ | refine blk_drew ?_ | refine blk_alloc ?_ _)); refine blk_put (cs := #[.int .i64 0, .int .i64 0, .int .i64 0, .int .i64 0, .string (⟨#[]⟩ : ByteArray)]) ?_ 4 _ rfl; (with_reducible repeat (first | refine blk_drewN ?_ _ | refine blk_drew ?_ | refine blk_alloc ?_ _)); refine blk_put (cs := #[.int .i64 0, .int .i64 0, .int .i64 0, .int .i64 0, .string (⟨#[]⟩ : ByteArray)]) ?_ 3 _ rfl; (with_reducible repeat (first | refine blk_drewN ?_ _ | refine blk_drew ?_ | refine blk_alloc ?_ _)); refine blk_put (cs := #[.int .i64 0, .int .i64 0, .int .i64 0, .int .i64 0, .string (⟨#[]⟩ : ByteArray)]) ?_ 2 _ rfl; (with_reducible repeat (first | refine blk_drewN ?_ _ | refine blk_drew ?_ | refine blk_alloc ?_ _)); refine blk_put (cs := #[.int .i64 0, .int .i64 0, .int .i64 0, .int .i64 0, .string (⟨#[]⟩ : ByteArray)]) ?_ 1 _ rfl; (with_reducible repeat (first | refine blk_drewN ?_ _ | refine blk_drew ?_ | refine blk_alloc ?_ _)); refine blk_put (cs := #[.int .i64 0, .int .i64 0, .int .i64 0, .int .i64 0, .string (⟨#[]⟩ : ByteArray)]) ?_ 0 _ rfl; (with_reducible repeat (first | refine blk_drewN ?_ _ | refine blk_drew ?_ | refine blk_alloc ?_ _)); exact BK1040.out) Try.underlying36 rfl (by kernel_rfl)) rfl ?_
        exact ⟨by first | rfl | (simp [errW_none, errW_some] <;> rfl) | (simp [*, errW_none, errW_some] <;> rfl) | (simp [mp_beq_nil, mp_bne_nil]; done) | (simp [*, mp_beq_nil, mp_bne_nil]; done), by repeat (first | (with_reducible first | exact HB.out | apply below_alloc | apply pw_below_drewN | apply below_drew1 | refine below_set ?_ GE1040.out) | exact HB.out)⟩
      · replace c7 := Bool.eq_false_iff.mpr c7
        subst c7
        have H1 : (if 0 < (a0.size : Int) then (if 1 ≤ 3 then (if 3 ≤ (a0.size : Int) then ((spec_l02Of.f kj1 (a0.extract 1 3)).bind fun t1041 => (if 3 < (a0.size : Int) then (if 4 ≤ 6 then (if 6 ≤ (a0.size : Int) then ((spec_l02Of.f kj1 (a0.extract 4 6)).bind fun t1042 => (if 7 ≤ (a0.size : Int) then ((spec_RequestOK.f kj1 (wrap64 (bt a0 0)) t1041 (wrap64 (bt a0 3)) t1042 (a0.extract 7 a0.size)).bind fun t1044 => (some (wrap64 (bt a0 0), t1041, wrap64 (bt a0 3), t1042, a0.extract 7 a0.size, t1044))) else (none))) else (none)) else (none)) else (none))) else (none)) else (none)) else (none)) = some (r1, r2, r3, r4, r5, r6) := by rw [if_neg (show ¬ (false = true) by decide)] at H; exact H
        clear H
        have H := H1
        clear H1
        by_cases c9 : 0 < (a0.size : Int)
        · rw [if_pos c9] at H
          have c9b0 : decide (0 < (a0.size : Int)) = true := decide_eq_true c9
          have c9b1 : decide (0 < a0.size) = true := decide_eq_true (by omega)
          clear c9
          by_cases c11 : 1 ≤ 3
          · rw [if_pos c11] at H
            have c11b0 := eq_true c11
            have c11b1 : decide (1 ≤ 3) = true := decide_eq_true c11
            clear c11
            by_cases c12 : 3 ≤ (a0.size : Int)
            · rw [if_pos c12] at H
              have c12b0 := eq_true c12
              have c12b1 : decide (3 ≤ (a0.size : Int)) = true := decide_eq_true c12
              clear c12
              replace H := Option.bind_eq_some_iff.mp H
              obtain ⟨t1041, A130, H⟩ := H
              replace H : (if 3 < (a0.size : Int) then (if 4 ≤ 6 then (if 6 ≤ (a0.size : Int) then ((spec_l02Of.f kj1 (a0.extract 4 6)).bind fun t1042 => (if 7 ≤ (a0.size : Int) then ((spec_RequestOK.f kj1 (wrap64 (bt a0 0)) t1041 (wrap64 (bt a0 3)) t1042 (a0.extract 7 a0.size)).bind fun t1044 => (some (wrap64 (bt a0 0), t1041, wrap64 (bt a0 3), t1042, a0.extract 7 a0.size, t1044))) else (none))) else (none)) else (none)) else (none)) = some (r1, r2, r3, r4, r5, r6) := H
              have A13 := Aside0.mk A130
              clear A130
              by_cases c14 : 3 < (a0.size : Int)
              · rw [if_pos c14] at H
                have c14b0 : decide (3 < (a0.size : Int)) = true := decide_eq_true c14
                have c14b1 : decide (3 < a0.size) = true := decide_eq_true (by omega)
                clear c14
                by_cases c16 : 4 ≤ 6
                · rw [if_pos c16] at H
                  have c16b0 := eq_true c16
                  have c16b1 : decide (4 ≤ 6) = true := decide_eq_true c16
                  clear c16
                  by_cases c17 : 6 ≤ (a0.size : Int)
                  · rw [if_pos c17] at H
                    have c17b0 := eq_true c17
                    have c17b1 : decide (6 ≤ (a0.size : Int)) = true := decide_eq_true c17
                    clear c17
                    replace H := Option.bind_eq_some_iff.mp H
                    obtain ⟨t1042, A180, H⟩ := H
                    replace H : (if 7 ≤ (a0.size : Int) then ((spec_RequestOK.f kj1 (wrap64 (bt a0 0)) t1041 (wrap64 (bt a0 3)) t1042 (a0.extract 7 a0.size)).bind fun t1044 => (some (wrap64 (bt a0 0), t1041, wrap64 (bt a0 3), t1042, a0.extract 7 a0.size, t1044))) else (none)) = some (r1, r2, r3, r4, r5, r6) := H
                    have A18 := Aside0.mk A180
                    clear A180
                    by_cases c19 : 7 ≤ (a0.size : Int)
                    · rw [if_pos c19] at H
                      have c19b0 := eq_true c19
                      have c19b1 : decide (7 ≤ (a0.size : Int)) = true := decide_eq_true c19
                      clear c19
                      replace H := Option.bind_eq_some_iff.mp H
                      obtain ⟨t1044, A200, H⟩ := H
                      replace H : (some (wrap64 (bt a0 0), t1041, wrap64 (bt a0 3), t1042, a0.extract 7 a0.size, t1044)) = some (r1, r2, r3, r4, r5, r6) := H
                      have A20 := Aside0.mk A200
                      clear A200
                      simp only [Option.some.injEq, Prod.mk.injEq] at H
                      obtain ⟨rfl, rfl, rfl, rfl, rfl, rfl⟩ := H
                      try go_wp2
                      have n0_ := Aside0.mk (blk_drew BK1040.out)
                      have n1_ := Aside0.mk (below_drew1 HB.out)
                      clear BK1040
                      clear HB
                      have BK1040 := n0_
                      have HB := n1_
                      clear n0_ n1_
                      have p10 : 0 ≤ (0 : Int) := (by omega)
                      have q10 : 0 < a0.size := (by have : (0 : Int) < (a0.size : Int) := of_decide_eq_true (by first | (with_reducible assumption) | assumption); omega)
                      have hx10 : ∀ h : 0 < a0.size, ((a0[0]'h).toNat : Int) = bt a0 0 := bt_at a0 0
                      clear p10
                      have qi10 : (0 < (a0.size : Int)) = True := eq_true (of_decide_eq_true (by first | (with_reducible assumption) | assumption))
                      replace q10 := eq_true q10
                      have p15 : 0 ≤ (3 : Int) := (by omega)
                      have q15 : 3 < a0.size := (by have : (3 : Int) < (a0.size : Int) := of_decide_eq_true (by first | (with_reducible assumption) | assumption); omega)
                      have hx15 : ∀ h : 3 < a0.size, ((a0[3]'h).toNat : Int) = bt a0 3 := bt_at a0 3
                      clear p15
                      have qi15 : (3 < (a0.size : Int)) = True := eq_true (of_decide_eq_true (by first | (with_reducible assumption) | assumption))
                      replace q15 := eq_true q15
                      refine start_ (n := 17) (S := fun w' => True) (ds := []) #[false, false, false, false, false, false, false, false, false, false, false, false, false, false, false, false, false] (by kernel_rfl) rfl rfl trivial (fun hHeld => ?_); refine with_tabW spec_l02ReadRequest.tab3 spec_l02ReadRequest.bits3 (fun HT_ HW_ => ?_)
                      generalize wc.drew = w21 at BK1040 HB hHeld ⊢
                      refine pure_ (i := 0) (N := some 18) (v := ?_) (a' := ?_) #[true, false, false, false, false, false, false, false, false, false, false, false, false, false, false, false, false] rfl rfl (any_of HT_.out (by kernel_rfl)) (fun _ _ _ h => h) (Or.inl ⟨by rfl, ?_⟩) ?_ ?_
                      rotate_left
                      · intro w'
                        go_simp
                        with_reducible rfl
                      rotate_left
                      · simp only [Act.put, List.setIfInBounds_toArray, List.set_cons_zero, List.set_cons_succ, i64_w, i32_w]
                        rfl
                      refine pure_ (i := 3) (N := some 21) (v := ?_) (a' := ?_) #[true, false, false, true, false, false, false, false, false, false, false, false, false, false, false, false, false] rfl rfl (any_of HT_.out (by kernel_rfl)) (fun _ _ _ h => h) (Or.inl ⟨by rfl, ?_⟩) ?_ ?_
                      rotate_left
                      · intro w'
                        go_simp
                        with_reducible rfl
                      rotate_left
                      · simp only [Act.put, List.setIfInBounds_toArray, List.set_cons_zero, List.set_cons_succ, i64_w, i32_w]
                        rfl
                      refine pure_ (i := 4) (N := some 22) (v := ?_) (a' := ?_) #[true, false, false, true, true, false, false, false, false, false, false, false, false, false, false, false, false] rfl rfl (any_of HT_.out (by kernel_rfl)) (fun _ _ _ h => h) (Or.inl ⟨by rfl, ?_⟩) ?_ ?_
                      rotate_left
                      · intro w'
                        go_simp
                        with_reducible rfl
                      rotate_left
                      · simp only [Act.put, List.setIfInBounds_toArray, List.set_cons_zero, List.set_cons_succ, i64_w, i32_w]
                        rfl
                      refine pure_ (i := 6) (N := some 24) (v := ?_) (a' := ?_) #[true, false, false, true, true, false, true, false, false, false, false, false, false, false, false, false, false] rfl rfl (any_of HT_.out (by kernel_rfl)) (fun _ _ _ h => h) (Or.inl ⟨by rfl, ?_⟩) ?_ ?_
                      rotate_left
                      · intro w'
                        go_simp
                        with_reducible rfl
                      rotate_left
                      · simp only [Act.put, List.setIfInBounds_toArray, List.set_cons_zero, List.set_cons_succ, i64_w, i32_w]
                        rfl
                      refine pure_ (i := 9) (N := some 27) (v := ?_) (a' := ?_) #[true, false, false, true, true, false, true, false, false, true, false, false, false, false, false, false, false] rfl rfl (any_of HT_.out (by kernel_rfl)) (fun _ _ _ h => h) (Or.inl ⟨by rfl, ?_⟩) ?_ ?_
                      rotate_left
                      · intro w'
                        go_simp
                        with_reducible rfl
                      rotate_left
                      · simp only [Act.put, List.setIfInBounds_toArray, List.set_cons_zero, List.set_cons_succ, i64_w, i32_w]
                        rfl
                      refine pure_ (i := 10) (N := some 28) (v := ?_) (a' := ?_) #[true, false, false, true, true, false, true, false, false, true, true, false, false, false, false, false, false] rfl rfl (any_of HT_.out (by kernel_rfl)) (fun _ _ _ h => h) (Or.inl ⟨by rfl, ?_⟩) ?_ ?_
                      rotate_left
                      · intro w'
                        go_simp
                        with_reducible rfl
                      rotate_left
                      · simp only [Act.put, List.setIfInBounds_toArray, List.set_cons_zero, List.set_cons_succ, i64_w, i32_w]
                        rfl
                      refine pure_ (i := 12) (N := some 30) (v := ?_) (a' := ?_) #[true, false, false, true, true, false, true, false, false, true, true, false, true, false, false, false, false] rfl rfl (any_of HT_.out (by kernel_rfl)) (fun _ _ _ h => h) (Or.inl ⟨by rfl, ?_⟩) ?_ ?_
                      rotate_left
                      · intro w'
                        go_simp
                        with_reducible rfl
                      rotate_left
                      · simp only [Act.put, List.setIfInBounds_toArray, List.set_cons_zero, List.set_cons_succ, i64_w, i32_w]
                        rfl
                      refine pure_ (i := 13) (N := some 31) (v := ?_) (a' := ?_) #[true, false, false, true, true, false, true, false, false, true, true, false, true, true, false, false, false] rfl rfl (any_of HT_.out (by kernel_rfl)) (fun _ _ _ h => h) (Or.inl ⟨by rfl, ?_⟩) ?_ ?_
                      rotate_left
                      · intro w'
                        go_simp
                        with_reducible rfl
                      rotate_left
                      · simp only [Act.put, List.setIfInBounds_toArray, List.set_cons_zero, List.set_cons_succ, i64_w, i32_w]
                        rfl
                      refine take_ (i := 1) (N := some 19) (v := ?_) (a' := ?_) #[true, true, false, true, true, false, true, false, false, true, true, false, true, true, false, false, false] rfl rfl (take_ofW HT_.out HW_.out (by kernel_rfl)) (fun _ _ _ h => h) (Or.inl ⟨by rfl, ?_⟩) hHeld ?_ ?_
                      rotate_left
                      · intro w' _
                        go_simp
                        with_reducible rfl
                      rotate_left
                      · simp only [Act.put, List.setIfInBounds_toArray, List.set_cons_zero, List.set_cons_succ, i64_w, i32_w]
                        rfl
                      refine pure_ (i := 2) (N := some 20) (v := ?_) (a' := ?_) #[true, true, true, true, true, false, true, false, false, true, true, false, true, true, false, false, false] rfl rfl (any_of HT_.out (by kernel_rfl)) (fun _ _ _ h => h) (Or.inl ⟨by rfl, ?_⟩) ?_ ?_
                      rotate_left
                      · intro w'
                        go_simp
                        with_reducible rfl
                      rotate_left
                      · simp only [Act.put, List.setIfInBounds_toArray, List.set_cons_zero, List.set_cons_succ, i64_w, i32_w]
                        rfl
                      refine take_ (i := 7) (N := some 25) (v := ?_) (a' := ?_) #[true, true, true, true, true, false, true, true, false, true, true, false, true, true, false, false, false] rfl rfl (take_ofW HT_.out HW_.out (by kernel_rfl)) (fun _ _ _ h => h) (Or.inl ⟨by rfl, ?_⟩) hHeld ?_ ?_
                      rotate_left
                      · intro w' _
                        go_simp
                        with_reducible rfl
                      rotate_left
                      · simp only [Act.put, List.setIfInBounds_toArray, List.set_cons_zero, List.set_cons_succ, i64_w, i32_w]
                        rfl
                      refine pure_ (i := 8) (N := some 26) (v := ?_) (a' := ?_) #[true, true, true, true, true, false, true, true, true, true, true, false, true, true, false, false, false] rfl rfl (any_of HT_.out (by kernel_rfl)) (fun _ _ _ h => h) (Or.inl ⟨by rfl, ?_⟩) ?_ ?_
                      rotate_left
                      · intro w'
                        go_simp
                        with_reducible rfl
                      rotate_left
                      · simp only [Act.put, List.setIfInBounds_toArray, List.set_cons_zero, List.set_cons_succ, i64_w, i32_w]
                        rfl
                      refine join_ (σ := Nat) 1 #[true, true, true, true, true, true, true, true, true, true, true, true, true, true, true, true, false] (fun s_ => [(23, .int .i64 t1041), (29, .int .i64 t1042), (4, .pointer (some ⟨s_, 0, none⟩)), (32, .agg #[.int .i64 (wrap64 (bt a0 0)), .int .i64 t1041, .int .i64 (wrap64 (bt a0 3)), .int .i64 t1042, .string (a0.extract 7 a0.size)])]) (fun s_ w' => (w'.heap[gb1040]? = some (.cells #[.int .i64 0, .int .i64 0, .int .i64 0, .int .i64 0, .string (⟨#[]⟩ : ByteArray)] 36 (0, 0))) ∧ (w'.heap[s_]? = some (.cells #[.int .i64 0, .int .i64 0, .int .i64 0, .int .i64 0, .string (⟨#[]⟩ : ByteArray)] 36 (0, 0))) ∧ (w.heap.size ≤ s_) ∧ (w.heap.size ≤ s_) ∧ (gb1040 ≠ s_) ∧ (s_ ≠ gb1040) ∧ (Below w.heap.size w w')) ?_ ?_
                      rotate_left
                      · intro hCont
                        refine two_ (i := 5) (j := 15) (Ni := some 23) (Nj := some 4) #[true, true, true, true, true, true, true, true, true, true, true, false, true, true, false, false, false] #[true, true, true, true, true, false, true, true, true, true, true, false, true, true, false, true, false] rfl rfl rfl rfl (two_of HT_.out (by kernel_rfl)) (by decide) (by decide) (fun K hK => ?_) (fun K hK => ?_)
                        · skip
                          refine goes_ Try.func124 (by kernel_rfl) rfl #[.string (a0.extract 1 3)] (by rfl) rfl rfl (by (try simp only [List.map_toArray, List.map_cons, List.map_nil]); first | done | rfl | (simp only [List.length_drop, List.length_take]; rfl)) ?_
                          with_reducible refine (spec_l02Of.calls kj1 (a0.extract 1 3) t1041 _ A13.out).mono ?_
                          rintro e w' ⟨rfl, ⟨nd, rfl⟩⟩
                          refine ⟨_, rfl, ?_⟩
                          refine hK.out _ _ trivial (fun hHeld => ?_)
                          clear hK K
                          refine norm_ (a' := ?_) ?_ ?_
                          rotate_left
                          · show Act.put _ (some 23) _ = _
                            simp only [Act.put, List.setIfInBounds_toArray, List.set_cons_zero, List.set_cons_succ, i64_w, i32_w]
                            rfl
                          refine two_ (i := 11) (j := 15) (Ni := some 29) (Nj := some 4) #[true, true, true, true, true, true, true, true, true, true, true, true, true, true, false, false, false] #[true, true, true, true, true, true, true, true, true, true, true, false, true, true, false, true, false] rfl rfl rfl rfl (two_of HT_.out (by kernel_rfl)) (by decide) (by decide) (fun K hK => ?_) (fun K hK => ?_)
                          · skip
                            refine goes_ Try.func124 (by kernel_rfl) rfl #[.string (a0.extract 4 6)] (by rfl) rfl rfl (by (try simp only [List.map_toArray, List.map_cons, List.map_nil]); first | done | rfl | (simp only [List.length_drop, List.length_take]; rfl)) ?_
                            with_reducible refine (spec_l02Of.calls kj1 (a0.extract 4 6) t1042 _ A18.out).mono ?_
                            rintro e w' ⟨rfl, ⟨nd, rfl⟩⟩
                            refine ⟨_, rfl, ?_⟩
                            refine hK.out _ _ trivial (fun hHeld => ?_)
                            clear hK K
                            refine norm_ (a' := ?_) ?_ ?_
                            rotate_left
                            · show Act.put _ (some 29) _ = _
                              simp only [Act.put, List.setIfInBounds_toArray, List.set_cons_zero, List.set_cons_succ, i64_w, i32_w]
                              rfl
                            refine pure_ (i := 14) (N := some 32) (v := ?_) (a' := ?_) #[true, true, true, true, true, true, true, true, true, true, true, true, true, true, true, false, false] rfl rfl (any_of HT_.out (by kernel_rfl)) (fun _ _ _ h => h) (Or.inl ⟨by rfl, ?_⟩) ?_ ?_
                            rotate_left
                            · intro w'
                              go_simp
                              with_reducible rfl
                            rotate_left
                            · simp only [Act.put, List.setIfInBounds_toArray, List.set_cons_zero, List.set_cons_succ, i64_w, i32_w]
                              rfl
                            refine one_ (i := 15) (N := some 4) #[true, true, true, true, true, true, true, true, true, true, true, true, true, true, true, true, false] rfl rfl (one_of HT_.out (by kernel_rfl)) (by decide) (fun K hK => ?_)
                            refine box_step ?hg (N := 4) ?hd (cs := #[.int .i64 0, .int .i64 0, .int .i64 0, .int .i64 0, .string (⟨#[]⟩ : ByteArray)]) (t := 36) ?hr ?_; (case hd => rfl); (case hg => rfl); (case hr => first | (go_simp; done) | (go_simp; rfl))
                            intro gb1043 hg w22 hbox hb
                            have n0_ := Aside0.mk (blk_below (g := gb1040) (o := .cells #[.int .i64 0, .int .i64 0, .int .i64 0, .int .i64 0, .string (⟨#[]⟩ : ByteArray)] 36 (0, 0)) (by (with_reducible repeat (first | refine blk_drewN ?_ _ | refine blk_drew ?_ | refine blk_alloc ?_ _)); exact BK1040.out) hb)
                            have n1_ := Aside0.mk (below_step (by repeat (first | (with_reducible first | exact HB.out | apply below_alloc | apply pw_below_drewN | apply below_drew1 | refine below_set ?_ GE1040.out) | exact HB.out)) hb)
                            have n2_ := Aside0.mk (hbox)
                            have n3_ := Aside0.mk ((by rw [hg]; exact (below_size (by repeat (first | (with_reducible first | exact HB.out | apply below_alloc | apply pw_below_drewN | apply below_drew1 | refine below_set ?_ GE1040.out) | exact HB.out))) : w.heap.size ≤ gb1043))
                            have n4_ := Aside0.mk ((by rw [hg]; exact (below_size (by repeat (first | (with_reducible first | exact HB.out | apply below_alloc | apply pw_below_drewN | apply below_drew1 | refine below_set ?_ GE1040.out) | exact HB.out))) : w.heap.size ≤ gb1043))
                            have n5_ := Aside0.mk ((by rw [hg]; exact Nat.ne_of_lt (blk_lt (g := gb1040) (o := .cells #[.int .i64 0, .int .i64 0, .int .i64 0, .int .i64 0, .string (⟨#[]⟩ : ByteArray)] 36 (0, 0)) (by (with_reducible repeat (first | refine blk_drewN ?_ _ | refine blk_drew ?_ | refine blk_alloc ?_ _)); exact BK1040.out)) : gb1040 ≠ gb1043))
                            have n6_ := Aside0.mk ((by rw [hg]; exact Nat.ne_of_gt (blk_lt (g := gb1040) (o := .cells #[.int .i64 0, .int .i64 0, .int .i64 0, .int .i64 0, .string (⟨#[]⟩ : ByteArray)] 36 (0, 0)) (by (with_reducible repeat (first | refine blk_drewN ?_ _ | refine blk_drew ?_ | refine blk_alloc ?_ _)); exact BK1040.out)) : gb1043 ≠ gb1040))
                            clear BK1040
                            clear HB
                            have BK1040 := n0_
                            have HB := n1_
                            have BK1043 := n2_
                            have GW1043 := n3_
                            have GE1043 := n4_
                            have NB1040_1043 := n5_
                            have NB1043_1040 := n6_
                            clear n0_ n1_ n2_ n3_ n4_ n5_ n6_
                            clear hb hbox hg
                            refine hK.out _ _ trivial (fun hHeld => ?_)
                            clear hK K
                            refine norm_ (a' := ?_) ?_ ?_
                            rotate_left
                            · show Act.put _ (some 4) _ = _
                              simp only [Act.put, List.setIfInBounds_toArray, List.set_cons_zero, List.set_cons_succ, i64_w, i32_w]
                              rfl
                            exact norm_ (by simp only [putAll, Act.put, List.setIfInBounds_toArray, List.set_cons_zero, List.set_cons_succ]) (hCont (gb1043) _ ⟨(by (with_reducible repeat (first | refine blk_drewN ?_ _ | refine blk_drew ?_ | refine blk_alloc ?_ _)); exact BK1040.out), (by (with_reducible repeat (first | refine blk_drewN ?_ _ | refine blk_drew ?_ | refine blk_alloc ?_ _)); exact BK1043.out), GW1043.out, GE1043.out, NB1040_1043.out, NB1043_1040.out, (by repeat (first | (with_reducible first | exact HB.out | apply below_alloc | apply pw_below_drewN | apply below_drew1 | refine below_set ?_ GE1040.out | refine below_set ?_ GE1043.out) | exact HB.out))⟩)
                          · skip
                            refine box_step ?hg (N := 4) ?hd (cs := #[.int .i64 0, .int .i64 0, .int .i64 0, .int .i64 0, .string (⟨#[]⟩ : ByteArray)]) (t := 36) ?hr ?_; (case hd => rfl); (case hg => rfl); (case hr => first | (go_simp; done) | (go_simp; rfl))
                            intro gb1043 hg w22 hbox hb
                            have n0_ := Aside0.mk (blk_below (g := gb1040) (o := .cells #[.int .i64 0, .int .i64 0, .int .i64 0, .int .i64 0, .string (⟨#[]⟩ : ByteArray)] 36 (0, 0)) (by (with_reducible repeat (first | refine blk_drewN ?_ _ | refine blk_drew ?_ | refine blk_alloc ?_ _)); exact BK1040.out) hb)
                            have n1_ := Aside0.mk (below_step (by repeat (first | (with_reducible first | exact HB.out | apply below_alloc | apply pw_below_drewN | apply below_drew1 | refine below_set ?_ GE1040.out) | exact HB.out)) hb)
                            have n2_ := Aside0.mk (hbox)
                            have n3_ := Aside0.mk ((by rw [hg]; exact (below_size (by repeat (first | (with_reducible first | exact HB.out | apply below_alloc | apply pw_below_drewN | apply below_drew1 | refine below_set ?_ GE1040.out) | exact HB.out))) : w.heap.size ≤ gb1043))
                            have n4_ := Aside0.mk ((by rw [hg]; exact (below_size (by repeat (first | (with_reducible first | exact HB.out | apply below_alloc | apply pw_below_drewN | apply below_drew1 | refine below_set ?_ GE1040.out) | exact HB.out))) : w.heap.size ≤ gb1043))
                            have n5_ := Aside0.mk ((by rw [hg]; exact Nat.ne_of_lt (blk_lt (g := gb1040) (o := .cells #[.int .i64 0, .int .i64 0, .int .i64 0, .int .i64 0, .string (⟨#[]⟩ : ByteArray)] 36 (0, 0)) (by (with_reducible repeat (first | refine blk_drewN ?_ _ | refine blk_drew ?_ | refine blk_alloc ?_ _)); exact BK1040.out)) : gb1040 ≠ gb1043))
                            have n6_ := Aside0.mk ((by rw [hg]; exact Nat.ne_of_gt (blk_lt (g := gb1040) (o := .cells #[.int .i64 0, .int .i64 0, .int .i64 0, .int .i64 0, .string (⟨#[]⟩ : ByteArray)] 36 (0, 0)) (by (with_reducible repeat (first | refine blk_drewN ?_ _ | refine blk_drew ?_ | refine blk_alloc ?_ _)); exact BK1040.out)) : gb1043 ≠ gb1040))
                            clear BK1040
                            clear HB
                            have BK1040 := n0_
                            have HB := n1_
                            have BK1043 := n2_
                            have GW1043 := n3_
                            have GE1043 := n4_
                            have NB1040_1043 := n5_
                            have NB1043_1040 := n6_
                            clear n0_ n1_ n2_ n3_ n4_ n5_ n6_
                            clear hb hbox hg
                            refine hK.out _ _ trivial (fun hHeld => ?_)
                            clear hK K
                            refine norm_ (a' := ?_) ?_ ?_
                            rotate_left
                            · show Act.put _ (some 4) _ = _
                              simp only [Act.put, List.setIfInBounds_toArray, List.set_cons_zero, List.set_cons_succ, i64_w, i32_w]
                              rfl
                            refine one_ (i := 11) (N := some 29) #[true, true, true, true, true, true, true, true, true, true, true, true, true, true, false, true, false] rfl rfl (one_of HT_.out (by kernel_rfl)) (by decide) (fun K hK => ?_)
                            refine goes_ Try.func124 (by kernel_rfl) rfl #[.string (a0.extract 4 6)] (by rfl) rfl rfl (by (try simp only [List.map_toArray, List.map_cons, List.map_nil]); first | done | rfl | (simp only [List.length_drop, List.length_take]; rfl)) ?_
                            with_reducible refine (spec_l02Of.calls kj1 (a0.extract 4 6) t1042 _ A18.out).mono ?_
                            rintro e w' ⟨rfl, ⟨nd, rfl⟩⟩
                            refine ⟨_, rfl, ?_⟩
                            refine hK.out _ _ trivial (fun hHeld => ?_)
                            clear hK K
                            refine norm_ (a' := ?_) ?_ ?_
                            rotate_left
                            · show Act.put _ (some 29) _ = _
                              simp only [Act.put, List.setIfInBounds_toArray, List.set_cons_zero, List.set_cons_succ, i64_w, i32_w]
                              rfl
                            refine pure_ (i := 14) (N := some 32) (v := ?_) (a' := ?_) #[true, true, true, true, true, true, true, true, true, true, true, true, true, true, true, true, false] rfl rfl (any_of HT_.out (by kernel_rfl)) (fun _ _ _ h => h) (Or.inl ⟨by rfl, ?_⟩) ?_ ?_
                            rotate_left
                            · intro w'
                              go_simp
                              with_reducible rfl
                            rotate_left
                            · simp only [Act.put, List.setIfInBounds_toArray, List.set_cons_zero, List.set_cons_succ, i64_w, i32_w]
                              rfl
                            exact norm_ (by simp only [putAll, Act.put, List.setIfInBounds_toArray, List.set_cons_zero, List.set_cons_succ]) (hCont (gb1043) _ ⟨(by (with_reducible repeat (first | refine blk_drewN ?_ _ | refine blk_drew ?_ | refine blk_alloc ?_ _)); exact BK1040.out), (by (with_reducible repeat (first | refine blk_drewN ?_ _ | refine blk_drew ?_ | refine blk_alloc ?_ _)); exact BK1043.out), GW1043.out, GE1043.out, NB1040_1043.out, NB1043_1040.out, (by repeat (first | (with_reducible first | exact HB.out | apply below_alloc | apply pw_below_drewN | apply below_drew1 | refine below_set ?_ GE1040.out | refine below_set ?_ GE1043.out) | exact HB.out))⟩)
                        · skip
                          refine box_step ?hg (N := 4) ?hd (cs := #[.int .i64 0, .int .i64 0, .int .i64 0, .int .i64 0, .string (⟨#[]⟩ : ByteArray)]) (t := 36) ?hr ?_; (case hd => rfl); (case hg => rfl); (case hr => first | (go_simp; done) | (go_simp; rfl))
                          intro gb1043 hg w22 hbox hb
                          have n0_ := Aside0.mk (blk_below (g := gb1040) (o := .cells #[.int .i64 0, .int .i64 0, .int .i64 0, .int .i64 0, .string (⟨#[]⟩ : ByteArray)] 36 (0, 0)) (by (with_reducible repeat (first | refine blk_drewN ?_ _ | refine blk_drew ?_ | refine blk_alloc ?_ _)); exact BK1040.out) hb)
                          have n1_ := Aside0.mk (below_step (by repeat (first | (with_reducible first | exact HB.out | apply below_alloc | apply pw_below_drewN | apply below_drew1 | refine below_set ?_ GE1040.out) | exact HB.out)) hb)
                          have n2_ := Aside0.mk (hbox)
                          have n3_ := Aside0.mk ((by rw [hg]; exact (below_size (by repeat (first | (with_reducible first | exact HB.out | apply below_alloc | apply pw_below_drewN | apply below_drew1 | refine below_set ?_ GE1040.out) | exact HB.out))) : w.heap.size ≤ gb1043))
                          have n4_ := Aside0.mk ((by rw [hg]; exact (below_size (by repeat (first | (with_reducible first | exact HB.out | apply below_alloc | apply pw_below_drewN | apply below_drew1 | refine below_set ?_ GE1040.out) | exact HB.out))) : w.heap.size ≤ gb1043))
                          have n5_ := Aside0.mk ((by rw [hg]; exact Nat.ne_of_lt (blk_lt (g := gb1040) (o := .cells #[.int .i64 0, .int .i64 0, .int .i64 0, .int .i64 0, .string (⟨#[]⟩ : ByteArray)] 36 (0, 0)) (by (with_reducible repeat (first | refine blk_drewN ?_ _ | refine blk_drew ?_ | refine blk_alloc ?_ _)); exact BK1040.out)) : gb1040 ≠ gb1043))
                          have n6_ := Aside0.mk ((by rw [hg]; exact Nat.ne_of_gt (blk_lt (g := gb1040) (o := .cells #[.int .i64 0, .int .i64 0, .int .i64 0, .int .i64 0, .string (⟨#[]⟩ : ByteArray)] 36 (0, 0)) (by (with_reducible repeat (first | refine blk_drewN ?_ _ | refine blk_drew ?_ | refine blk_alloc ?_ _)); exact BK1040.out)) : gb1043 ≠ gb1040))
                          clear BK1040
                          clear HB
                          have BK1040 := n0_
                          have HB := n1_
                          have BK1043 := n2_
                          have GW1043 := n3_
                          have GE1043 := n4_
                          have NB1040_1043 := n5_
                          have NB1043_1040 := n6_
                          clear n0_ n1_ n2_ n3_ n4_ n5_ n6_
                          clear hb hbox hg
                          refine hK.out _ _ trivial (fun hHeld => ?_)
                          clear hK K
                          refine norm_ (a' := ?_) ?_ ?_
                          rotate_left
                          · show Act.put _ (some 4) _ = _
                            simp only [Act.put, List.setIfInBounds_toArray, List.set_cons_zero, List.set_cons_succ, i64_w, i32_w]
                            rfl
                          refine one_ (i := 5) (N := some 23) #[true, true, true, true, true, true, true, true, true, true, true, false, true, true, false, true, false] rfl rfl (one_of HT_.out (by kernel_rfl)) (by decide) (fun K hK => ?_)
                          refine goes_ Try.func124 (by kernel_rfl) rfl #[.string (a0.extract 1 3)] (by rfl) rfl rfl (by (try simp only [List.map_toArray, List.map_cons, List.map_nil]); first | done | rfl | (simp only [List.length_drop, List.length_take]; rfl)) ?_
                          with_reducible refine (spec_l02Of.calls kj1 (a0.extract 1 3) t1041 _ A13.out).mono ?_
                          rintro e w' ⟨rfl, ⟨nd, rfl⟩⟩
                          refine ⟨_, rfl, ?_⟩
                          refine hK.out _ _ trivial (fun hHeld => ?_)
                          clear hK K
                          refine norm_ (a' := ?_) ?_ ?_
                          rotate_left
                          · show Act.put _ (some 23) _ = _
                            simp only [Act.put, List.setIfInBounds_toArray, List.set_cons_zero, List.set_cons_succ, i64_w, i32_w]
                            rfl
                          refine one_ (i := 11) (N := some 29) #[true, true, true, true, true, true, true, true, true, true, true, true, true, true, false, true, false] rfl rfl (one_of HT_.out (by kernel_rfl)) (by decide) (fun K hK => ?_)
                          refine goes_ Try.func124 (by kernel_rfl) rfl #[.string (a0.extract 4 6)] (by rfl) rfl rfl (by (try simp only [List.map_toArray, List.map_cons, List.map_nil]); first | done | rfl | (simp only [List.length_drop, List.length_take]; rfl)) ?_
                          with_reducible refine (spec_l02Of.calls kj1 (a0.extract 4 6) t1042 _ A18.out).mono ?_
                          rintro e w' ⟨rfl, ⟨nd, rfl⟩⟩
                          refine ⟨_, rfl, ?_⟩
                          refine hK.out _ _ trivial (fun hHeld => ?_)
                          clear hK K
                          refine norm_ (a' := ?_) ?_ ?_
                          rotate_left
                          · show Act.put _ (some 29) _ = _
                            simp only [Act.put, List.setIfInBounds_toArray, List.set_cons_zero, List.set_cons_succ, i64_w, i32_w]
                            rfl
                          refine pure_ (i := 14) (N := some 32) (v := ?_) (a' := ?_) #[true, true, true, true, true, true, true, true, true, true, true, true, true, true, true, true, false] rfl rfl (any_of HT_.out (by kernel_rfl)) (fun _ _ _ h => h) (Or.inl ⟨by rfl, ?_⟩) ?_ ?_
                          rotate_left
                          · intro w'
                            go_simp
                            with_reducible rfl
                          rotate_left
                          · simp only [Act.put, List.setIfInBounds_toArray, List.set_cons_zero, List.set_cons_succ, i64_w, i32_w]
                            rfl
                          exact norm_ (by simp only [putAll, Act.put, List.setIfInBounds_toArray, List.set_cons_zero, List.set_cons_succ]) (hCont (gb1043) _ ⟨(by (with_reducible repeat (first | refine blk_drewN ?_ _ | refine blk_drew ?_ | refine blk_alloc ?_ _)); exact BK1040.out), (by (with_reducible repeat (first | refine blk_drewN ?_ _ | refine blk_drew ?_ | refine blk_alloc ?_ _)); exact BK1043.out), GW1043.out, GE1043.out, NB1040_1043.out, NB1043_1040.out, (by repeat (first | (with_reducible first | exact HB.out | apply below_alloc | apply pw_below_drewN | apply below_drew1 | refine below_set ?_ GE1040.out | refine below_set ?_ GE1043.out) | exact HB.out))⟩)
                      rintro gb1043 w23 ⟨h0_, h1_, h2_, h3_, h4_, h5_, h6_⟩
                      have n0_ : Aside0 (w23.heap[gb1040]? = some (.cells #[.int .i64 0, .int .i64 0, .int .i64 0, .int .i64 0, .string (⟨#[]⟩ : ByteArray)] 36 (0, 0))) := ⟨h0_⟩
                      have n1_ : Aside0 (w23.heap[gb1043]? = some (.cells #[.int .i64 0, .int .i64 0, .int .i64 0, .int .i64 0, .string (⟨#[]⟩ : ByteArray)] 36 (0, 0))) := ⟨h1_⟩
                      have n2_ : Aside0 (w.heap.size ≤ gb1043) := ⟨h2_⟩
                      have n3_ : Aside0 (w.heap.size ≤ gb1043) := ⟨h3_⟩
                      have n4_ : Aside0 (gb1040 ≠ gb1043) := ⟨h4_⟩
                      have n5_ : Aside0 (gb1043 ≠ gb1040) := ⟨h5_⟩
                      have n6_ : Aside0 (Below w.heap.size w w23) := ⟨h6_⟩
                      clear BK1040
                      clear HB
                      clear h0_ h1_ h2_ h3_ h4_ h5_ h6_
                      have BK1040 := n0_
                      have BK1043 := n1_
                      have GW1043 := n2_
                      have GE1043 := n3_
                      have NB1040_1043 := n4_
                      have NB1043_1040 := n5_
                      have HB := n6_
                      clear n0_ n1_ n2_ n3_ n4_ n5_ n6_
                      have hHeld := trivial
                      refine norm_ (a' := ?_) ?_ ?_
                      rotate_left
                      · simp only [putAll, Act.put, List.setIfInBounds_toArray, List.set_cons_zero, List.set_cons_succ]
                        rfl
                      refine one_ (i := 16) (N := none) #[true, true, true, true, true, true, true, true, true, true, true, true, true, true, true, true, true] rfl rfl (one_of HT_.out (by kernel_rfl)) (by decide) (fun K hK => ?_)
                      have hs24 : w23.cell? ⟨gb1043, 0, none⟩ = some (.int .i64 0) := (blk_cell BK1043.out 0).trans rfl
                      have hfs24 := blk_frozen BK1043.out 0
                      have hns24_0 := NB1040_1043.out
                      have hms24_0 := NB1043_1040.out
                      have hs25 : w23.cell? ⟨gb1043, 1, none⟩ = some (.int .i64 0) := (blk_cell BK1043.out 1).trans rfl
                      have hfs25 := blk_frozen BK1043.out 1
                      have hns25_0 := NB1040_1043.out
                      have hms25_0 := NB1043_1040.out
                      have hs26 : w23.cell? ⟨gb1043, 2, none⟩ = some (.int .i64 0) := (blk_cell BK1043.out 2).trans rfl
                      have hfs26 := blk_frozen BK1043.out 2
                      have hns26_0 := NB1040_1043.out
                      have hms26_0 := NB1043_1040.out
                      have hs27 : w23.cell? ⟨gb1043, 3, none⟩ = some (.int .i64 0) := (blk_cell BK1043.out 3).trans rfl
                      have hfs27 := blk_frozen BK1043.out 3
                      have hns27_0 := NB1040_1043.out
                      have hms27_0 := NB1043_1040.out
                      have hs28 : w23.cell? ⟨gb1043, 4, none⟩ = some (.string (⟨#[]⟩ : ByteArray)) := (blk_cell BK1043.out 4).trans rfl
                      have hfs28 := blk_frozen BK1043.out 4
                      have hns28_0 := NB1040_1043.out
                      have hms28_0 := NB1043_1040.out
                      refine skip_ (w1 := ?_) (by rfl) rfl ?_ ?_
                      rotate_left
                      · go_simp
                        rfl
                      refine hK.out _ _ trivial (fun hHeld => ?_)
                      clear hK K
                      refine done_ (done_of HT_.out (by kernel_rfl)) ?_
                      try go_wp2
                      have n0_ : Aside0 ((((((w23.setCell ⟨gb1043, 0, none⟩ (.int .i64 (wrap64 (bt a0 0)))).setCell ⟨gb1043, 1, none⟩ (.int .i64 t1041)).setCell ⟨gb1043, 2, none⟩ (.int .i64 (wrap64 (bt a0 3)))).setCell ⟨gb1043, 3, none⟩ (.int .i64 t1042)).setCell ⟨gb1043, 4, none⟩ (.string (a0.extract 7 a0.size))).heap[gb1040]? = some (.cells #[.int .i64 0, .int .i64 0, .int .i64 0, .int .i64 0, .string (⟨#[]⟩ : ByteArray)] 36 (0, 0))) := ⟨by (with_reducible repeat (first | refine blk_drewN ?_ _ | refine blk_drew ?_ | refine blk_alloc ?_ _)); refine blk_far ?_ NB1040_1043.out _; (with_reducible repeat (first | refine blk_drewN ?_ _ | refine blk_drew ?_ | refine blk_alloc ?_ _)); refine blk_far ?_ NB1040_1043.out _; (with_reducible repeat (first | refine blk_drewN ?_ _ | refine blk_drew ?_ | refine blk_alloc ?_ _)); refine blk_far ?_ NB1040_1043.out _; (with_reducible repeat (first | refine blk_drewN ?_ _ | refine blk_drew ?_ | refine blk_alloc ?_ _)); refine blk_far ?_ NB1040_1043.out _; (with_reducible repeat (first | refine blk_drewN ?_ _ | refine blk_drew ?_ | refine blk_alloc ?_ _)); refine blk_far ?_ NB1040_1043.out _; (with_reducible repeat (first | refine blk_drewN ?_ _ | refine blk_drew ?_ | refine blk_alloc ?_ _)); exact BK1040.out⟩
                      have n1_ : Aside0 ((((((w23.setCell ⟨gb1043, 0, none⟩ (.int .i64 (wrap64 (bt a0 0)))).setCell ⟨gb1043, 1, none⟩ (.int .i64 t1041)).setCell ⟨gb1043, 2, none⟩ (.int .i64 (wrap64 (bt a0 3)))).setCell ⟨gb1043, 3, none⟩ (.int .i64 t1042)).setCell ⟨gb1043, 4, none⟩ (.string (a0.extract 7 a0.size))).heap[gb1043]? = some (.cells #[.int .i64 (wrap64 (bt a0 0)), .int .i64 t1041, .int .i64 (wrap64 (bt a0 3)), .int .i64 t1042, .string (a0.extract 7 a0.size)] 36 (0, 0))) := ⟨by (with_reducible repeat (first | refine blk_drewN ?_ _ | refine blk_drew ?_ | refine blk_alloc ?_ _)); refine blk_put (cs := #[.int .i64 (wrap64 (bt a0 0)), .int .i64 t1041, .int .i64 (wrap64 (bt a0 3)), .int .i64 t1042, .string (⟨#[]⟩ : ByteArray)]) ?_ 4 _ rfl; (with_reducible repeat (first | refine blk_drewN ?_ _ | refine blk_drew ?_ | refine blk_alloc ?_ _)); refine blk_put (cs := #[.int .i64 (wrap64 (bt a0 0)), .int .i64 t1041, .int .i64 (wrap64 (bt a0 3)), .int .i64 0, .string (⟨#[]⟩ : ByteArray)]) ?_ 3 _ rfl; (with_reducible repeat (first | refine blk_drewN ?_ _ | refine blk_drew ?_ | refine blk_alloc ?_ _)); refine blk_put (cs := #[.int .i64 (wrap64 (bt a0 0)), .int .i64 t1041, .int .i64 0, .int .i64 0, .string (⟨#[]⟩ : ByteArray)]) ?_ 2 _ rfl; (with_reducible repeat (first | refine blk_drewN ?_ _ | refine blk_drew ?_ | refine blk_alloc ?_ _)); refine blk_put (cs := #[.int .i64 (wrap64 (bt a0 0)), .int .i64 0, .int .i64 0, .int .i64 0, .string (⟨#[]⟩ : ByteArray)]) ?_ 1 _ rfl; (with_reducible repeat (first | refine blk_drewN ?_ _ | refine blk_drew ?_ | refine blk_alloc ?_ _)); refine blk_put (cs := #[.int .i64 0, .int .i64 0, .int .i64 0, .int .i64 0, .string (⟨#[]⟩ : ByteArray)]) ?_ 0 _ rfl; (with_reducible repeat (first | refine blk_drewN ?_ _ | refine blk_drew ?_ | refine blk_alloc ?_ _)); exact BK1043.out⟩
                      have n2_ : Aside0 (Below w.heap.size w (((((w23.setCell ⟨gb1043, 0, none⟩ (.int .i64 (wrap64 (bt a0 0)))).setCell ⟨gb1043, 1, none⟩ (.int .i64 t1041)).setCell ⟨gb1043, 2, none⟩ (.int .i64 (wrap64 (bt a0 3)))).setCell ⟨gb1043, 3, none⟩ (.int .i64 t1042)).setCell ⟨gb1043, 4, none⟩ (.string (a0.extract 7 a0.size)))) := ⟨by repeat (first | (with_reducible first | exact HB.out | apply below_alloc | apply pw_below_drewN | apply below_drew1 | refine below_set ?_ GE1040.out | refine below_set ?_ GE1043.out) | exact HB.out)⟩
                      (try clear BK1040)
                      (try clear BK1043)
                      (try clear HB)
                      generalize (((((w23.setCell ⟨gb1043, 0, none⟩ (.int .i64 (wrap64 (bt a0 0)))).setCell ⟨gb1043, 1, none⟩ (.int .i64 t1041)).setCell ⟨gb1043, 2, none⟩ (.int .i64 (wrap64 (bt a0 3)))).setCell ⟨gb1043, 3, none⟩ (.int .i64 t1042)).setCell ⟨gb1043, 4, none⟩ (.string (a0.extract 7 a0.size))) = w29 at n0_ n1_ n2_ ⊢
                      have BK1040 := n0_
                      have BK1043 := n1_
                      have HB := n2_
                      clear n0_ n1_ n2_
                      have n0_ := Aside0.mk (blk_drew BK1040.out)
                      have n1_ := Aside0.mk (blk_drew BK1043.out)
                      have n2_ := Aside0.mk (below_drew1 HB.out)
                      clear BK1040
                      clear BK1043
                      clear HB
                      have BK1040 := n0_
                      have BK1043 := n1_
                      have HB := n2_
                      clear n0_ n1_ n2_
                      refine start_ (n := 5) (S := fun w' => w'.cell? ⟨gb1043, 0, none⟩ = some (.int .i64 (wrap64 (bt a0 0))) ∧ w'.cell? ⟨gb1043, 1, none⟩ = some (.int .i64 t1041) ∧ w'.cell? ⟨gb1043, 2, none⟩ = some (.int .i64 (wrap64 (bt a0 3))) ∧ w'.cell? ⟨gb1043, 3, none⟩ = some (.int .i64 t1042) ∧ w'.cell? ⟨gb1043, 4, none⟩ = some (.string (a0.extract 7 a0.size))) (ds := []) #[false, false, false, false, false] (by kernel_rfl) rfl rfl ⟨(blk_cell BK1043.out 0).trans rfl, (blk_cell BK1043.out 1).trans rfl, (blk_cell BK1043.out 2).trans rfl, (blk_cell BK1043.out 3).trans rfl, (blk_cell BK1043.out 4).trans rfl⟩ (fun hHeld => ?_)
                      generalize w29.drew = w30 at BK1040 BK1043 HB hHeld ⊢
                      refine take_ (i := 0) (N := some 33) (v := ?_) (a' := ?_) #[true, false, false, false, false] rfl rfl (by kernel_rfl) (fun _ _ _ h => h) (Or.inl ⟨by rfl, ?_⟩) hHeld ?_ ?_
                      rotate_left
                      · rintro w' ⟨s0, s1, s2, s3, s4⟩
                        go_simp
                        with_reducible rfl
                      rotate_left
                      · simp only [Act.put, List.setIfInBounds_toArray, List.set_cons_zero, List.set_cons_succ, i64_w, i32_w]
                        rfl
                      refine take_ (i := 1) (N := some 34) (v := ?_) (a' := ?_) #[true, true, false, false, false] rfl rfl (by kernel_rfl) (fun _ _ _ h => h) (Or.inl ⟨by rfl, ?_⟩) hHeld ?_ ?_
                      rotate_left
                      · rintro w' ⟨s0, s1, s2, s3, s4⟩
                        go_simp
                        with_reducible rfl
                      rotate_left
                      · simp only [Act.put, List.setIfInBounds_toArray, List.set_cons_zero, List.set_cons_succ, i64_w, i32_w]
                        rfl
                      refine one_ (i := 2) (N := some 35) #[true, true, true, false, false] rfl rfl (by kernel_rfl) (by decide) (fun K hK => ?_)
                      refine goes_ Try.func154 (by kernel_rfl) rfl #[.agg #[.int .i64 (wrap64 (bt a0 0)), .int .i64 t1041, .int .i64 (wrap64 (bt a0 3)), .int .i64 t1042, .string (a0.extract 7 a0.size)]] (by rfl) rfl rfl (by (try simp only [List.map_toArray, List.map_cons, List.map_nil]); first | done | rfl | (simp only [List.length_drop, List.length_take]; rfl)) ?_
                      with_reducible refine (spec_RequestOK.calls kj1 (wrap64 (bt a0 0)) t1041 (wrap64 (bt a0 3)) t1042 (a0.extract 7 a0.size) t1044 _ A20.out).mono ?_
                      rintro e w31 ⟨rfl, hb⟩
                      refine ⟨_, rfl, ?_⟩
                      have n0_ := Aside0.mk (blk_below (g := gb1040) (o := .cells #[.int .i64 0, .int .i64 0, .int .i64 0, .int .i64 0, .string (⟨#[]⟩ : ByteArray)] 36 (0, 0)) (by (with_reducible repeat (first | refine blk_drewN ?_ _ | refine blk_drew ?_ | refine blk_alloc ?_ _)); exact BK1040.out) hb)
                      have n1_ := Aside0.mk (blk_below (g := gb1043) (o := .cells #[.int .i64 (wrap64 (bt a0 0)), .int .i64 t1041, .int .i64 (wrap64 (bt a0 3)), .int .i64 t1042, .string (a0.extract 7 a0.size)] 36 (0, 0)) (by (with_reducible repeat (first | refine blk_drewN ?_ _ | refine blk_drew ?_ | refine blk_alloc ?_ _)); exact BK1043.out) hb)
                      have n2_ := Aside0.mk (below_step (by repeat (first | (with_reducible first | exact HB.out | apply below_alloc | apply pw_below_drewN | apply below_drew1 | refine below_set ?_ GE1040.out | refine below_set ?_ GE1043.out) | exact HB.out)) hb)
                      clear BK1040
                      clear BK1043
                      clear HB
                      have BK1040 := n0_
                      have BK1043 := n1_
                      have HB := n2_
                      clear n0_ n1_ n2_
                      (try clear hb)
                      (try clear hb2)
                      (try clear hk)
                      (try clear hi)
                      refine hK.out _ _ ⟨(blk_cell BK1043.out 0).trans rfl, (blk_cell BK1043.out 1).trans rfl, (blk_cell BK1043.out 2).trans rfl, (blk_cell BK1043.out 3).trans rfl, (blk_cell BK1043.out 4).trans rfl⟩ (fun hHeld => ?_)
                      clear hK K
                      refine norm_ (a' := ?_) ?_ ?_
                      rotate_left
                      · show Act.put _ (some 35) _ = _
                        simp only [Act.put, List.setIfInBounds_toArray, List.set_cons_zero, List.set_cons_succ, i64_w, i32_w]
                        rfl
                      refine one_ (i := 3) (N := none) #[true, true, true, true, false] rfl rfl (by kernel_rfl) (by decide) (fun K hK => ?_)
                      have hs32 : w31.cell? ⟨gb1040, 0, none⟩ = some (.int .i64 0) := (blk_cell BK1040.out 0).trans rfl
                      have hfs32 := blk_frozen BK1040.out 0
                      have hns32_1 := NB1043_1040.out
                      have hms32_1 := NB1040_1043.out
                      have hs33 : w31.cell? ⟨gb1040, 1, none⟩ = some (.int .i64 0) := (blk_cell BK1040.out 1).trans rfl
                      have hfs33 := blk_frozen BK1040.out 1
                      have hns33_1 := NB1043_1040.out
                      have hms33_1 := NB1040_1043.out
                      have hs34 : w31.cell? ⟨gb1040, 2, none⟩ = some (.int .i64 0) := (blk_cell BK1040.out 2).trans rfl
                      have hfs34 := blk_frozen BK1040.out 2
                      have hns34_1 := NB1043_1040.out
                      have hms34_1 := NB1040_1043.out
                      have hs35 : w31.cell? ⟨gb1040, 3, none⟩ = some (.int .i64 0) := (blk_cell BK1040.out 3).trans rfl
                      have hfs35 := blk_frozen BK1040.out 3
                      have hns35_1 := NB1043_1040.out
                      have hms35_1 := NB1040_1043.out
                      have hs36 : w31.cell? ⟨gb1040, 4, none⟩ = some (.string (⟨#[]⟩ : ByteArray)) := (blk_cell BK1040.out 4).trans rfl
                      have hfs36 := blk_frozen BK1040.out 4
                      have hns36_1 := NB1043_1040.out
                      have hms36_1 := NB1040_1043.out
                      refine skip_ (w1 := ?_) (by rfl) rfl ?_ ?_
                      rotate_left
                      · go_simp
                        rfl
                      refine hK.out _ _ ⟨((cell_far (p := ⟨gb1040, _, none⟩) NB1043_1040.out _).trans (((cell_far (p := ⟨gb1040, _, none⟩) NB1043_1040.out _).trans (((cell_far (p := ⟨gb1040, _, none⟩) NB1043_1040.out _).trans (((cell_far (p := ⟨gb1040, _, none⟩) NB1043_1040.out _).trans (((cell_far (p := ⟨gb1040, _, none⟩) NB1043_1040.out _).trans (hHeld.1)))))))))), ((cell_far (p := ⟨gb1040, _, none⟩) NB1043_1040.out _).trans (((cell_far (p := ⟨gb1040, _, none⟩) NB1043_1040.out _).trans (((cell_far (p := ⟨gb1040, _, none⟩) NB1043_1040.out _).trans (((cell_far (p := ⟨gb1040, _, none⟩) NB1043_1040.out _).trans (((cell_far (p := ⟨gb1040, _, none⟩) NB1043_1040.out _).trans (hHeld.2.1)))))))))), ((cell_far (p := ⟨gb1040, _, none⟩) NB1043_1040.out _).trans (((cell_far (p := ⟨gb1040, _, none⟩) NB1043_1040.out _).trans (((cell_far (p := ⟨gb1040, _, none⟩) NB1043_1040.out _).trans (((cell_far (p := ⟨gb1040, _, none⟩) NB1043_1040.out _).trans (((cell_far (p := ⟨gb1040, _, none⟩) NB1043_1040.out _).trans (hHeld.2.2.1)))))))))), ((cell_far (p := ⟨gb1040, _, none⟩) NB1043_1040.out _).trans (((cell_far (p := ⟨gb1040, _, none⟩) NB1043_1040.out _).trans (((cell_far (p := ⟨gb1040, _, none⟩) NB1043_1040.out _).trans (((cell_far (p := ⟨gb1040, _, none⟩) NB1043_1040.out _).trans (((cell_far (p := ⟨gb1040, _, none⟩) NB1043_1040.out _).trans (hHeld.2.2.2.1)))))))))), ((cell_far (p := ⟨gb1040, _, none⟩) NB1043_1040.out _).trans (((cell_far (p := ⟨gb1040, _, none⟩) NB1043_1040.out _).trans (((cell_far (p := ⟨gb1040, _, none⟩) NB1043_1040.out _).trans (((cell_far (p := ⟨gb1040, _, none⟩) NB1043_1040.out _).trans (((cell_far (p := ⟨gb1040, _, none⟩) NB1043_1040.out _).trans (hHeld.2.2.2.2))))))))))⟩ (fun hHeld => ?_)
                      clear hK K
                      refine pure_ (i := 4) (N := some 3) (v := ?_) (a' := ?_) #[true, true, true, true, true] rfl rfl (by kernel_rfl) (fun _ _ _ h => h) (Or.inl ⟨by rfl, ?_⟩) ?_ ?_
                      rotate_left
                      · intro w'
                        go_simp
                        with_reducible rfl
                      rotate_left
                      · simp only [Act.put, List.setIfInBounds_toArray, List.set_cons_zero, List.set_cons_succ, i64_w, i32_w]
                        rfl
                      refine done_ (by kernel_rfl) ?_
                      try go_wp2
                      refine bodyPost_ret (results_ct rfl _ _ gb1040 36 #[.int .i64 (wrap64 (bt a0 0)), .int .i64 t1041, .int .i64 (wrap64 (bt a0 3)), .int .i64 t1042, .string (a0.extract 7 a0.size)] (0, 0) _ rfl (by (with_reducible repeat (first | refine blk_drewN ?_ _ | refine blk_drew ?_ | refine blk_alloc ?_ _)); refine blk_put (cs := #[.int .i64 (wrap64 (bt a0 0)), .int .i64 t1041, .int .i64 (wrap64 (bt a0 3)), .int .i64 t1042, .string (⟨#[]⟩ : ByteArray)]) ?_ 4 _ rfl; (with_reducible repeat (first | refine blk_drewN ?_ _ | refine blk_drew ?_ | refine blk_alloc ?_ _)); refine blk_put (cs := #[.int .i64 (wrap64 (bt a0 0)), .int .i64 t1041, .int .i64 (wrap64 (bt a0 3)), .int .i64 0, .string (⟨#[]⟩ : ByteArray)]) ?_ 3 _ rfl; (with_reducible repeat (first | refine blk_drewN ?_ _ | refine blk_drew ?_ | refine blk_alloc ?_ _)); refine blk_put (cs := #[.int .i64 (wrap64 (bt a0 0)), .int .i64 t1041, .int .i64 0, .int .i64 0, .string (⟨#[]⟩ : ByteArray)]) ?_ 2 _ rfl; (with_reducible repeat (first | refine blk_drewN ?_ _ | refine blk_drew ?_ | refine blk_alloc ?_ _)); refine blk_put (cs := #[.int .i64 (wrap64 (bt a0 0)), .int .i64 0, .int .i64 0, .int .i64 0, .string (⟨#[]⟩ : ByteArray)]) ?_ 1 _ rfl; (with_reducible repeat (first | refine blk_drewN ?_ _ | refine blk_drew ?_ | refine blk_alloc ?_ _)); refine blk_put (cs := #[.int .i64 0, .int .i64 0, .int .i64 0, .int .i64 0, .string (⟨#[]⟩ : ByteArray)]) ?_ 0 _ rfl; (with_reducible repeat (first | refine blk_drewN ?_ _ | refine blk_drew ?_ | refine blk_alloc ?_ _)); exact BK1040.out) Try.underlying36 rfl (by kernel_rfl)) rfl ?_
                      exact ⟨by first | rfl | (simp [errW_none, errW_some] <;> rfl) | (simp [*, errW_none, errW_some] <;> rfl) | (simp [mp_beq_nil, mp_bne_nil]; done) | (simp [*, mp_beq_nil, mp_bne_nil]; done), by repeat (first | (with_reducible first | exact HB.out | apply below_alloc | apply pw_below_drewN | apply below_drew1 | refine below_set ?_ GE1040.out | refine below_set ?_ GE1043.out) | exact HB.out)⟩
                    · rw [if_neg c19] at H
                      exact absurd H (by simp)
                  · rw [if_neg c17] at H
                    exact absurd H (by simp)
                · rw [if_neg c16] at H
                  exact absurd H (by simp)
              · rw [if_neg c14] at H
                exact absurd H (by simp)
            · rw [if_neg c12] at H
              exact absurd H (by simp)
          · rw [if_neg c11] at H
            exact absurd H (by simp)
        · rw [if_neg c9] at H
          exact absurd H (by simp)
end Go.Proofs.Ytofkobbiomhblaa.A
end
