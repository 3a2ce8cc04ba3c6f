/- A part of the proof that FnExactMakeReply returns true at every input: plain functions, contracts and lemmas. No conditions. -/
import Derived.Test.YtdpdbegglkdgnaaDoorQMakeReplyb
set_option linter.unusedVariables false
set_option linter.unusedSimpArgs false
set_option linter.unusedSectionVars false
section
namespace Go.Proofs.YtdpdbegglkdgnaaDoor.A
open Go.RowKit Go.Proofs.YtdpdbegglkdgnaaDoorW.PrintWords Go.Proofs.YtdpdbegglkdgnaaDoorW.PrintLast Go.Proofs.YtdpdbegglkdgnaaDoorW.PrintMore
attribute [local go_sem] max2_int min2_int max_two min_two max_three min_three max_four min_four
set_option maxHeartbeats 8000000 in
set_option maxRecDepth 100000 in
theorem laws_eqReply.calls (a0_0 : Int) (a0_1 : Int) (a0_2 : Int) (a0_3 : Int) (a0_4 : Int) (a0_5 : Int) (a0_6 : Int) (a0_7 : ByteArray) (a1_0 : Int) (a1_1 : Int) (a1_2 : Int) (a1_3 : Int) (a1_4 : Int) (a1_5 : Int) (a1_6 : Int) (a1_7 : ByteArray) (r : Bool) (w : World) (h : laws_eqReply.f a0_0 a0_1 a0_2 a0_3 a0_4 a0_5 a0_6 a0_7 a1_0 a1_1 a1_2 a1_3 a1_4 a1_5 a1_6 a1_7 = some r) :
  Calls Tryd.prog 28 #[.agg #[.int .i64 a0_0, .int .i64 a0_1, .int .i64 a0_2, .int .i64 a0_3, .int .i64 a0_4, .int .i64 a0_5, .int .i64 a0_6, .string a0_7], .agg #[.int .i64 a1_0, .int .i64 a1_1, .int .i64 a1_2, .int .i64 a1_3, .int .i64 a1_4, .int .i64 a1_5, .int .i64 a1_6, .string a1_7]] w fun e w' => e = .returned (.bool r) ∧ Below w.heap.size w w' := by
 have hu35 := Tryd.underlying35
 have hu33 := Tryd.underlying33
 have HB := am_ (Below.refl w.heap.size w)
 have H : (if a0_0 = a1_0 then (if a0_1 = a1_1 then (if a0_2 = a1_2 then ((laws_eqAnswer.f a0_3 a0_4 a0_5 a0_6 a1_3 a1_4 a1_5 a1_6).bind fun t514 => (if t514 = true then (if a0_7.toList = a1_7.toList then (some true) else (some false)) else (some false))) else (some false)) else (some false)) else (some false)) = some r := h
 clear h
 by_cases c3 : a0_0 = a1_0
 ·rw [if_pos c3] at H
  have c3b0 : (a0_0 == a1_0) = true := beq_iff_eq.mpr c3
  have c3b1 : (a0_0 != a1_0) = false := bne_eq_false_iff_eq.mpr c3
  clear c3
  by_cases c4 : a0_1 = a1_1
  ·rw [if_pos c4] at H
   have c4b0 : (a0_1 == a1_1) = true := beq_iff_eq.mpr c4
   have c4b1 : (a0_1 != a1_1) = false := bne_eq_false_iff_eq.mpr c4
   clear c4
   by_cases c5 : a0_2 = a1_2
   ·rw [if_pos c5] at H
    have c5b0 : (a0_2 == a1_2) = true := beq_iff_eq.mpr c5
    have c5b1 : (a0_2 != a1_2) = false := bne_eq_false_iff_eq.mpr c5
    clear c5
    replace H := Option.bind_eq_some_iff.mp H
    obtain ⟨t514, A60, H⟩ := H
    replace H : (if t514 = true then (if a0_7.toList = a1_7.toList then (some true) else (some false)) else (some false)) = some r := H
    have A6 := am_ A60
    clear A60
    by_cases c7 : t514 = true
    ·subst c7
     have H1 : (if a0_7.toList = a1_7.toList then (some true) else (some false)) = some r := by rw [if_pos rfl] at H; exact H
     clear H
     have H := H1
     clear H1
     by_cases c8 : a0_7.toList = a1_7.toList
     ·rw [if_pos c8] at H
      have c8b0 : (a0_7.toList == a1_7.toList) = true := beq_iff_eq.mpr c8
      have c8b1 : (a0_7.toList != a1_7.toList) = false := bne_eq_false_iff_eq.mpr c8
      clear c8
      obtain rfl := Option.some.inj H
      go_enter Tryd.func28, Tryd.ntmps28
      go_wp2_with (first | ((with_reducible refine gate_dst (N := 2) rfl ?_); refine box_event ?hg (N := 2) ?hd (cs := #[.int .i64 a0_0, .int .i64 a0_1, .int .i64 a0_2, .int .i64 a0_3, .int .i64 a0_4, .int .i64 a0_5, .int .i64 a0_6, .string a0_7]) (t := 35) ?hr ?_; (case hd => rfl); (case hg => rfl); (case hr => first | (go_simp; done) | (go_simp; rfl)); intro gb512 hg w9 hbox hb; have n0_ := am_ (below_step (by repeat (first | (with_reducible first | exact HB.out | apply b1_ | apply b2_ | apply b3_) | exact HB.out)) hb); have n1_ := am_ (hbox); have n2_ := am_ ((by rw [hg]; exact (below_size (by repeat (first | (with_reducible first | exact HB.out | apply b1_ | apply b2_ | apply b3_) | exact HB.out))) : w.heap.size ≤ gb512)); have n3_ := am_ ((by rw [hg]; exact (below_size (by repeat (first | (with_reducible first | exact HB.out | apply b1_ | apply b2_ | apply b3_) | exact HB.out))) : w.heap.size ≤ gb512)); clear HB; have HB := n0_; have BK512 := n1_; have GW512 := n2_; have GE512 := n3_; clear n0_ n1_ n2_ n3_; clear hb hbox hg) | ((with_reducible refine gate_dst (N := 3) rfl ?_); refine box_event ?hg (N := 3) ?hd (cs := #[.int .i64 a1_0, .int .i64 a1_1, .int .i64 a1_2, .int .i64 a1_3, .int .i64 a1_4, .int .i64 a1_5, .int .i64 a1_6, .string a1_7]) (t := 35) ?hr ?_; (case hd => rfl); (case hg => rfl); (case hr => first | (go_simp; done) | (go_simp; rfl)); intro gb513 hg w10 hbox hb; have n0_ := am_ (blk_below (g := gb512) (o := .cells #[.int .i64 a0_0, .int .i64 a0_1, .int .i64 a0_2, .int .i64 a0_3, .int .i64 a0_4, .int .i64 a0_5, .int .i64 a0_6, .string a0_7] 35 (0, 0)) (by (with_reducible repeat (first | apply k1_ | apply k2_ | apply k3_)); exact BK512.out) hb); have n1_ := am_ (below_step (by repeat (first | (with_reducible first | exact HB.out | apply b1_ | apply b2_ | apply b3_ | refine below_set ?_ GE512.out) | exact HB.out)) hb); have n2_ := am_ (hbox); have n3_ := am_ ((by rw [hg]; exact (below_size (by repeat (first | (with_reducible first | exact HB.out | apply b1_ | apply b2_ | apply b3_ | refine below_set ?_ GE512.out) | exact HB.out))) : w.heap.size ≤ gb513)); have n4_ := am_ ((by rw [hg]; exact (below_size (by repeat (first | (with_reducible first | exact HB.out | apply b1_ | apply b2_ | apply b3_ | refine below_set ?_ GE512.out) | exact HB.out))) : w.heap.size ≤ gb513)); have n5_ := am_ ((by rw [hg]; exact Nat.ne_of_lt (blk_lt (g := gb512) (o := .cells #[.int .i64 a0_0, .int .i64 a0_1, .int .i64 a0_2, .int .i64 a0_3, .int .i64 a0_4, .int .i64 a0_5, .int .i64 a0_6, .string a0_7] 35 (0, 0)) (by (with_reducible repeat (first | apply k1_ | apply k2_ | apply k3_)); exact BK512.out)) : gb512 ≠ gb513)); have n6_ := am_ ((by rw [hg]; exact Nat.ne_of_gt (blk_lt (g := gb512) (o := .cells #[.int .i64 a0_0, .int .i64 a0_1, .int .i64 a0_2, .int .i64 a0_3, .int .i64 a0_4, .int .i64 a0_5, .int .i64 a0_6, .string a0_7] 35 (0, 0)) (by (with_reducible repeat (first | apply k1_ | apply k2_ | apply k3_)); exact BK512.out)) : gb513 ≠ gb512)); clear BK512; clear HB; have BK512 := n0_; have HB := n1_; have BK513 := n2_; have GW513 := n3_; have GE513 := n4_; have NB512_513 := n5_; have NB513_512 := n6_; clear n0_ n1_ n2_ n3_ n4_ n5_ n6_; clear hb hbox hg; have hnb11 := NB512_513.out; have hnc11 := NB513_512.out; have hcz12_0 : w10.cell? ⟨gb512, 0, none⟩ = some (.int .i64 a0_0) := (blk_cell BK512.out 0).trans rfl; have hcz12_1 : w10.cell? ⟨gb512, 1, none⟩ = some (.int .i64 a0_1) := (blk_cell BK512.out 1).trans rfl; have hcz12_2 : w10.cell? ⟨gb512, 2, none⟩ = some (.int .i64 a0_2) := (blk_cell BK512.out 2).trans rfl; have hcz12_3 : w10.cell? ⟨gb512, 3, none⟩ = some (.int .i64 a0_3) := (blk_cell BK512.out 3).trans rfl; have hcz12_4 : w10.cell? ⟨gb512, 4, none⟩ = some (.int .i64 a0_4) := (blk_cell BK512.out 4).trans rfl; have hcz12_5 : w10.cell? ⟨gb512, 5, none⟩ = some (.int .i64 a0_5) := (blk_cell BK512.out 5).trans rfl; have hcz12_6 : w10.cell? ⟨gb512, 6, none⟩ = some (.int .i64 a0_6) := (blk_cell BK512.out 6).trans rfl; have hcz12_7 : w10.cell? ⟨gb512, 7, none⟩ = some (.string a0_7) := (blk_cell BK512.out 7).trans rfl; have hfz12_0 := blk_frozen BK512.out 0; have hfz12_1 := blk_frozen BK512.out 1; have hfz12_2 := blk_frozen BK512.out 2; have hfz12_3 := blk_frozen BK512.out 3; have hfz12_4 := blk_frozen BK512.out 4; have hfz12_5 := blk_frozen BK512.out 5; have hfz12_6 := blk_frozen BK512.out 6; have hfz12_7 := blk_frozen BK512.out 7; have hcz13_0 : w10.cell? ⟨gb513, 0, none⟩ = some (.int .i64 a1_0) := (blk_cell BK513.out 0).trans rfl; have hcz13_1 : w10.cell? ⟨gb513, 1, none⟩ = some (.int .i64 a1_1) := (blk_cell BK513.out 1).trans rfl; have hcz13_2 : w10.cell? ⟨gb513, 2, none⟩ = some (.int .i64 a1_2) := (blk_cell BK513.out 2).trans rfl; have hcz13_3 : w10.cell? ⟨gb513, 3, none⟩ = some (.int .i64 a1_3) := (blk_cell BK513.out 3).trans rfl; have hcz13_4 : w10.cell? ⟨gb513, 4, none⟩ = some (.int .i64 a1_4) := (blk_cell BK513.out 4).trans rfl; have hcz13_5 : w10.cell? ⟨gb513, 5, none⟩ = some (.int .i64 a1_5) := (blk_cell BK513.out 5).trans rfl; have hcz13_6 : w10.cell? ⟨gb513, 6, none⟩ = some (.int .i64 a1_6) := (blk_cell BK513.out 6).trans rfl; have hcz13_7 : w10.cell? ⟨gb513, 7, none⟩ = some (.string a1_7) := (blk_cell BK513.out 7).trans rfl; have hfz13_0 := blk_frozen BK513.out 0; have hfz13_1 := blk_frozen BK513.out 1; have hfz13_2 := blk_frozen BK513.out 2; have hfz13_3 := blk_frozen BK513.out 3; have hfz13_4 := blk_frozen BK513.out 4; have hfz13_5 := blk_frozen BK513.out 5; have hfz13_6 := blk_frozen BK513.out 6; have hfz13_7 := blk_frozen BK513.out 7) | ((with_reducible refine gate_callee (f := 65) rfl ?_); refine goesL_ (some 24) rfl rfl Tryd.func65 (by kernel_rfl) rfl #[.agg #[.int .i64 a0_3, .int .i64 a0_4, .int .i64 a0_5, .int .i64 a0_6], .agg #[.int .i64 a1_3, .int .i64 a1_4, .int .i64 a1_5, .int .i64 a1_6]] rfl (by (try simp only [m1_, m2_, m3_]); first | done | rfl | (simp only [d1_, d2_]; rfl)) ?_; (with_reducible refine (laws_eqAnswer.calls a0_3 a0_4 a0_5 a0_6 a1_3 a1_4 a1_5 a1_6 true _ A6.out).mono ?_); rintro e w14 ⟨rfl, hb⟩; refine ⟨_, rfl, ?_⟩; have n0_ := am_ (blk_below (g := gb512) (o := .cells #[.int .i64 a0_0, .int .i64 a0_1, .int .i64 a0_2, .int .i64 a0_3, .int .i64 a0_4, .int .i64 a0_5, .int .i64 a0_6, .string a0_7] 35 (0, 0)) (by (with_reducible repeat (first | apply k1_ | apply k2_ | apply k3_)); exact BK512.out) hb); have n1_ := am_ (blk_below (g := gb513) (o := .cells #[.int .i64 a1_0, .int .i64 a1_1, .int .i64 a1_2, .int .i64 a1_3, .int .i64 a1_4, .int .i64 a1_5, .int .i64 a1_6, .string a1_7] 35 (0, 0)) (by (with_reducible repeat (first | apply k1_ | apply k2_ | apply k3_)); exact BK513.out) hb); have n2_ := am_ (below_step (by repeat (first | (with_reducible first | exact HB.out | apply b1_ | apply b2_ | apply b3_ | refine below_set ?_ GE512.out | refine below_set ?_ GE513.out) | exact HB.out)) hb); clear BK512; clear BK513; clear HB; have BK512 := n0_; have BK513 := n1_; have HB := n2_; clear n0_ n1_ n2_; (try clear hb); (try clear hb2); (try clear hk); (try clear hi); have hcz15_0 : w14.cell? ⟨gb512, 0, none⟩ = some (.int .i64 a0_0) := (blk_cell BK512.out 0).trans rfl; have hcz15_1 : w14.cell? ⟨gb512, 1, none⟩ = some (.int .i64 a0_1) := (blk_cell BK512.out 1).trans rfl; have hcz15_2 : w14.cell? ⟨gb512, 2, none⟩ = some (.int .i64 a0_2) := (blk_cell BK512.out 2).trans rfl; have hcz15_3 : w14.cell? ⟨gb512, 3, none⟩ = some (.int .i64 a0_3) := (blk_cell BK512.out 3).trans rfl; have hcz15_4 : w14.cell? ⟨gb512, 4, none⟩ = some (.int .i64 a0_4) := (blk_cell BK512.out 4).trans rfl; have hcz15_5 : w14.cell? ⟨gb512, 5, none⟩ = some (.int .i64 a0_5) := (blk_cell BK512.out 5).trans rfl; have hcz15_6 : w14.cell? ⟨gb512, 6, none⟩ = some (.int .i64 a0_6) := (blk_cell BK512.out 6).trans rfl; have hcz15_7 : w14.cell? ⟨gb512, 7, none⟩ = some (.string a0_7) := (blk_cell BK512.out 7).trans rfl; have hfz15_0 := blk_frozen BK512.out 0; have hfz15_1 := blk_frozen BK512.out 1; have hfz15_2 := blk_frozen BK512.out 2; have hfz15_3 := blk_frozen BK512.out 3; have hfz15_4 := blk_frozen BK512.out 4; have hfz15_5 := blk_frozen BK512.out 5; have hfz15_6 := blk_frozen BK512.out 6; have hfz15_7 := blk_frozen BK512.out 7; have hcz16_0 : w14.cell? ⟨gb513, 0, none⟩ = some (.int .i64 a1_0) := (blk_cell BK513.out 0).trans rfl; have hcz16_1 : w14.cell? ⟨gb513, 1, none⟩ = some (.int .i64 a1_1) := (blk_cell BK513.out 1).trans rfl; have hcz16_2 : w14.cell? ⟨gb513, 2, none⟩ = some (.int .i64 a1_2) := (blk_cell BK513.out 2).trans rfl; have hcz16_3 : w14.cell? ⟨gb513, 3, none⟩ = some (.int .i64 a1_3) := (blk_cell BK513.out 3).trans rfl; have hcz16_4 : w14.cell? ⟨gb513, 4, none⟩ = some (.int .i64 a1_4) := (blk_cell BK513.out 4).trans rfl; have hcz16_5 : w14.cell? ⟨gb513, 5, none⟩ = some (.int .i64 a1_5) := (blk_cell BK513.out 5).trans rfl; have hcz16_6 : w14.cell? ⟨gb513, 6, none⟩ = some (.int .i64 a1_6) := (blk_cell BK513.out 6).trans rfl; have hcz16_7 : w14.cell? ⟨gb513, 7, none⟩ = some (.string a1_7) := (blk_cell BK513.out 7).trans rfl; have hfz16_0 := blk_frozen BK513.out 0; have hfz16_1 := blk_frozen BK513.out 1; have hfz16_2 := blk_frozen BK513.out 2; have hfz16_3 := blk_frozen BK513.out 3; have hfz16_4 := blk_frozen BK513.out 4; have hfz16_5 := blk_frozen BK513.out 5; have hfz16_6 := blk_frozen BK513.out 6; have hfz16_7 := blk_frozen BK513.out 7))
      go_ret
      exact ⟨by first | rfl | (simp [e1_, e2_] <;> rfl) | (simp [*, e1_, e2_] <;> rfl) | (simp [e3_, e4_]; done) | (simp [*, e3_, e4_]; done), by repeat (first | (with_reducible first | exact HB.out | apply b1_ | apply b2_ | apply b3_ | refine below_set ?_ GE512.out | refine below_set ?_ GE513.out) | exact HB.out)⟩
     ·rw [if_neg c8] at H
      have c8b0 : (a0_7.toList == a1_7.toList) = false := beq_eq_false_iff_ne.mpr c8
      have c8b1 : (a0_7.toList != a1_7.toList) = true := bne_iff_ne.mpr c8
      obtain rfl := Option.some.inj H
      go_enter Tryd.func28, Tryd.ntmps28
      go_wp2_with (first | ((with_reducible refine gate_dst (N := 2) rfl ?_); refine box_event ?hg (N := 2) ?hd (cs := #[.int .i64 a0_0, .int .i64 a0_1, .int .i64 a0_2, .int .i64 a0_3, .int .i64 a0_4, .int .i64 a0_5, .int .i64 a0_6, .string a0_7]) (t := 35) ?hr ?_; (case hd => rfl); (case hg => rfl); (case hr => first | (go_simp; done) | (go_simp; rfl)); intro gb512 hg w17 hbox hb; have n0_ := am_ (below_step (by repeat (first | (with_reducible first | exact HB.out | apply b1_ | apply b2_ | apply b3_) | exact HB.out)) hb); have n1_ := am_ (hbox); have n2_ := am_ ((by rw [hg]; exact (below_size (by repeat (first | (with_reducible first | exact HB.out | apply b1_ | apply b2_ | apply b3_) | exact HB.out))) : w.heap.size ≤ gb512)); have n3_ := am_ ((by rw [hg]; exact (below_size (by repeat (first | (with_reducible first | exact HB.out | apply b1_ | apply b2_ | apply b3_) | exact HB.out))) : w.heap.size ≤ gb512)); clear HB; have HB := n0_; have BK512 := n1_; have GW512 := n2_; have GE512 := n3_; clear n0_ n1_ n2_ n3_; clear hb hbox hg) | ((with_reducible refine gate_dst (N := 3) rfl ?_); refine box_event ?hg (N := 3) ?hd (cs := #[.int .i64 a1_0, .int .i64 a1_1, .int .i64 a1_2, .int .i64 a1_3, .int .i64 a1_4, .int .i64 a1_5, .int .i64 a1_6, .string a1_7]) (t := 35) ?hr ?_; (case hd => rfl); (case hg => rfl); (case hr => first | (go_simp; done) | (go_simp; rfl)); intro gb513 hg w18 hbox hb; have n0_ := am_ (blk_below (g := gb512) (o := .cells #[.int .i64 a0_0, .int .i64 a0_1, .int .i64 a0_2, .int .i64 a0_3, .int .i64 a0_4, .int .i64 a0_5, .int .i64 a0_6, .string a0_7] 35 (0, 0)) (by (with_reducible repeat (first | apply k1_ | apply k2_ | apply k3_)); exact BK512.out) hb); have n1_ := am_ (below_step (by repeat (first | (with_reducible first | exact HB.out | apply b1_ | apply b2_ | apply b3_ | refine below_set ?_ GE512.out) | exact HB.out)) hb); have n2_ := am_ (hbox); have n3_ := am_ ((by rw [hg]; exact (below_size (by repeat (first | (with_reducible first | exact HB.out | apply b1_ | apply b2_ | apply b3_ | refine below_set ?_ GE512.out) | exact HB.out))) : w.heap.size ≤ gb513)); have n4_ := am_ ((by rw [hg]; exact (below_size (by repeat (first | (with_reducible first | exact HB.out | apply b1_ | apply b2_ | apply b3_ | refine below_set ?_ GE512.out) | exact HB.out))) : w.heap.size ≤ gb513)); have n5_ := am_ ((by rw [hg]; exact Nat.ne_of_lt (blk_lt (g := gb512) (o := .cells #[.int .i64 a0_0, .int .i64 a0_1, .int .i64 a0_2, .int .i64 a0_3, .int .i64 a0_4, .int .i64 a0_5, .int .i64 a0_6, .string a0_7] 35 (0, 0)) (by (with_reducible repeat (first | apply k1_ | apply k2_ | apply k3_)); exact BK512.out)) : gb512 ≠ gb513)); have n6_ := am_ ((by rw [hg]; exact Nat.ne_of_gt (blk_lt (g := gb512) (o := .cells #[.int .i64 a0_0, .int .i64 a0_1, .int .i64 a0_2, .int .i64 a0_3, .int .i64 a0_4, .int .i64 a0_5, .int .i64 a0_6, .string a0_7] 35 (0, 0)) (by (with_reducible repeat (first | apply k1_ | apply k2_ | apply k3_)); exact BK512.out)) : gb513 ≠ gb512)); clear BK512; clear HB; have BK512 := n0_; have HB := n1_; have BK513 := n2_; have GW513 := n3_; have GE513 := n4_; have NB512_513 := n5_; have NB513_512 := n6_; clear n0_ n1_ n2_ n3_ n4_ n5_ n6_; clear hb hbox hg; have hnb19 := NB512_513.out; have hnc19 := NB513_512.out; have hcz20_0 : w18.cell? ⟨gb512, 0, none⟩ = some (.int .i64 a0_0) := (blk_cell BK512.out 0).trans rfl; have hcz20_1 : w18.cell? ⟨gb512, 1, none⟩ = some (.int .i64 a0_1) := (blk_cell BK512.out 1).trans rfl; have hcz20_2 : w18.cell? ⟨gb512, 2, none⟩ = some (.int .i64 a0_2) := (blk_cell BK512.out 2).trans rfl; have hcz20_3 : w18.cell? ⟨gb512, 3, none⟩ = some (.int .i64 a0_3) := (blk_cell BK512.out 3).trans rfl; have hcz20_4 : w18.cell? ⟨gb512, 4, none⟩ = some (.int .i64 a0_4) := (blk_cell BK512.out 4).trans rfl; have hcz20_5 : w18.cell? ⟨gb512, 5, none⟩ = some (.int .i64 a0_5) := (blk_cell BK512.out 5).trans rfl; have hcz20_6 : w18.cell? ⟨gb512, 6, none⟩ = some (.int .i64 a0_6) := (blk_cell BK512.out 6).trans rfl; have hcz20_7 : w18.cell? ⟨gb512, 7, none⟩ = some (.string a0_7) := (blk_cell BK512.out 7).trans rfl; have hfz20_0 := blk_frozen BK512.out 0; have hfz20_1 := blk_frozen BK512.out 1; have hfz20_2 := blk_frozen BK512.out 2; have hfz20_3 := blk_frozen BK512.out 3; have hfz20_4 := blk_frozen BK512.out 4; have hfz20_5 := blk_frozen BK512.out 5; have hfz20_6 := blk_frozen BK512.out 6; have hfz20_7 := blk_frozen BK512.out 7; have hcz21_0 : w18.cell? ⟨gb513, 0, none⟩ = some (.int .i64 a1_0) := (blk_cell BK513.out 0).trans rfl; have hcz21_1 : w18.cell? ⟨gb513, 1, none⟩ = some (.int .i64 a1_1) := (blk_cell BK513.out 1).trans rfl; have hcz21_2 : w18.cell? ⟨gb513, 2, none⟩ = some (.int .i64 a1_2) := (blk_cell BK513.out 2).trans rfl; have hcz21_3 : w18.cell? ⟨gb513, 3, none⟩ = some (.int .i64 a1_3) := (blk_cell BK513.out 3).trans rfl; have hcz21_4 : w18.cell? ⟨gb513, 4, none⟩ = some (.int .i64 a1_4) := (blk_cell BK513.out 4).trans rfl; have hcz21_5 : w18.cell? ⟨gb513, 5, none⟩ = some (.int .i64 a1_5) := (blk_cell BK513.out 5).trans rfl; have hcz21_6 : w18.cell? ⟨gb513, 6, none⟩ = some (.int .i64 a1_6) := (blk_cell BK513.out 6).trans rfl; have hcz21_7 : w18.cell? ⟨gb513, 7, none⟩ = some (.string a1_7) := (blk_cell BK513.out 7).trans rfl; have hfz21_0 := blk_frozen BK513.out 0; have hfz21_1 := blk_frozen BK513.out 1; have hfz21_2 := blk_frozen BK513.out 2; have hfz21_3 := blk_frozen BK513.out 3; have hfz21_4 := blk_frozen BK513.out 4; have hfz21_5 := blk_frozen BK513.out 5; have hfz21_6 := blk_frozen BK513.out 6; have hfz21_7 := blk_frozen BK513.out 7) | ((with_reducible refine gate_callee (f := 65) rfl ?_); refine goesL_ (some 24) rfl rfl Tryd.func65 (by kernel_rfl) rfl #[.agg #[.int .i64 a0_3, .int .i64 a0_4, .int .i64 a0_5, .int .i64 a0_6], .agg #[.int .i64 a1_3, .int .i64 a1_4, .int .i64 a1_5, .int .i64 a1_6]] rfl (by (try simp only [m1_, m2_, m3_]); first | done | rfl | (simp only [d1_, d2_]; rfl)) ?_; (with_reducible refine (laws_eqAnswer.calls a0_3 a0_4 a0_5 a0_6 a1_3 a1_4 a1_5 a1_6 true _ A6.out).mono ?_); rintro e w22 ⟨rfl, hb⟩; refine ⟨_, rfl, ?_⟩; have n0_ := am_ (blk_below (g := gb512) (o := .cells #[.int .i64 a0_0, .int .i64 a0_1, .int .i64 a0_2, .int .i64 a0_3, .int .i64 a0_4, .int .i64 a0_5, .int .i64 a0_6, .string a0_7] 35 (0, 0)) (by (with_reducible repeat (first | apply k1_ | apply k2_ | apply k3_)); exact BK512.out) hb); have n1_ := am_ (blk_below (g := gb513) (o := .cells #[.int .i64 a1_0, .int .i64 a1_1, .int .i64 a1_2, .int .i64 a1_3, .int .i64 a1_4, .int .i64 a1_5, .int .i64 a1_6, .string a1_7] 35 (0, 0)) (by (with_reducible repeat (first | apply k1_ | apply k2_ | apply k3_)); exact BK513.out) hb); have n2_ := am_ (below_step (by repeat (first | (with_reducible first | exact HB.out | apply b1_ | apply b2_ | apply b3_ | refine below_set ?_ GE512.out | refine below_set ?_ GE513.out) | exact HB.out)) hb); clear BK512; clear BK513; clear HB; have BK512 := n0_; have BK513 := n1_; have HB := n2_; clear n0_ n1_ n2_; (try clear hb); (try clear hb2); (try clear hk); (try clear hi); have hcz23_0 : w22.cell? ⟨gb512, 0, none⟩ = some (.int .i64 a0_0) := (blk_cell BK512.out 0).trans rfl; have hcz23_1 : w22.cell? ⟨gb512, 1, none⟩ = some (.int .i64 a0_1) := (blk_cell BK512.out 1).trans rfl; have hcz23_2 : w22.cell? ⟨gb512, 2, none⟩ = some (.int .i64 a0_2) := (blk_cell BK512.out 2).trans rfl; have hcz23_3 : w22.cell? ⟨gb512, 3, none⟩ = some (.int .i64 a0_3) := (blk_cell BK512.out 3).trans rfl; have hcz23_4 : w22.cell? ⟨gb512, 4, none⟩ = some (.int .i64 a0_4) := (blk_cell BK512.out 4).trans rfl; have hcz23_5 : w22.cell? ⟨gb512, 5, none⟩ = some (.int .i64 a0_5) := (blk_cell BK512.out 5).trans rfl; have hcz23_6 : w22.cell? ⟨gb512, 6, none⟩ = some (.int .i64 a0_6) := (blk_cell BK512.out 6).trans rfl; have hcz23_7 : w22.cell? ⟨gb512, 7, none⟩ = some (.string a0_7) := (blk_cell BK512.out 7).trans rfl; have hfz23_0 := blk_frozen BK512.out 0; have hfz23_1 := blk_frozen BK512.out 1; have hfz23_2 := blk_frozen BK512.out 2; have hfz23_3 := blk_frozen BK512.out 3; have hfz23_4 := blk_frozen BK512.out 4; have hfz23_5 := blk_frozen BK512.out 5; have hfz23_6 := blk_frozen BK512.out 6; have hfz23_7 := blk_frozen BK512.out 7; have hcz24_0 : w22.cell? ⟨gb513, 0, none⟩ = some (.int .i64 a1_0) := (blk_cell BK513.out 0).trans rfl; have hcz24_1 : w22.cell? ⟨gb513, 1, none⟩ = some (.int .i64 a1_1) := (blk_cell BK513.out 1).trans rfl; have hcz24_2 : w22.cell? ⟨gb513, 2, none⟩ = some (.int .i64 a1_2) := (blk_cell BK513.out 2).trans rfl; have hcz24_3 : w22.cell? ⟨gb513, 3, none⟩ = some (.int .i64 a1_3) := (blk_cell BK513.out 3).trans rfl; have hcz24_4 : w22.cell? ⟨gb513, 4, none⟩ = some (.int .i64 a1_4) := (blk_cell BK513.out 4).trans rfl; have hcz24_5 : w22.cell? ⟨gb513, 5, none⟩ = some (.int .i64 a1_5) := (blk_cell BK513.out 5).trans rfl; have hcz24_6 : w22.cell? ⟨gb513, 6, none⟩ = some (.int .i64 a1_6) := (blk_cell BK513.out 6).trans rfl; have hcz24_7 : w22.cell? ⟨gb513, 7, none⟩ = some (.string a1_7) := (blk_cell BK513.out 7).trans rfl; have hfz24_0 := blk_frozen BK513.out 0; have hfz24_1 := blk_frozen BK513.out 1; have hfz24_2 := blk_frozen BK513.out 2; have hfz24_3 := blk_frozen BK513.out 3; have hfz24_4 := blk_frozen BK513.out 4; have hfz24_5 := blk_frozen BK513.out 5; have hfz24_6 := blk_frozen BK513.out 6; have hfz24_7 := blk_frozen BK513.out 7))
      go_ret
      exact ⟨by first | rfl | (simp [e1_, e2_] <;> rfl) | (simp [*, e1_, e2_] <;> rfl) | (simp [e3_, e4_]; done) | (simp [*, e3_, e4_]; done), by repeat (first | (with_reducible first | exact HB.out | apply b1_ | apply b2_ | apply b3_ | refine below_set ?_ GE512.out | refine below_set ?_ GE513.out) | exact HB.out)⟩
    ·replace c7 := Bool.eq_false_iff.mpr c7
     subst c7
     have H1 : (some false) = some r := by rw [if_neg (show ¬ (false = true) by decide)] at H; exact H
     clear H
     have H := H1
     clear H1
     obtain rfl := Option.some.inj H
     go_enter Tryd.func28, Tryd.ntmps28
     go_wp2_with (first | ((with_reducible refine gate_dst (N := 2) rfl ?_); refine box_event ?hg (N := 2) ?hd (cs := #[.int .i64 a0_0, .int .i64 a0_1, .int .i64 a0_2, .int .i64 a0_3, .int .i64 a0_4, .int .i64 a0_5, .int .i64 a0_6, .string a0_7]) (t := 35) ?hr ?_; (case hd => rfl); (case hg => rfl); (case hr => first | (go_simp; done) | (go_simp; rfl)); intro gb512 hg w25 hbox hb; have n0_ := am_ (below_step (by repeat (first | (with_reducible first | exact HB.out | apply b1_ | apply b2_ | apply b3_) | exact HB.out)) hb); have n1_ := am_ (hbox); have n2_ := am_ ((by rw [hg]; exact (below_size (by repeat (first | (with_reducible first | exact HB.out | apply b1_ | apply b2_ | apply b3_) | exact HB.out))) : w.heap.size ≤ gb512)); have n3_ := am_ ((by rw [hg]; exact (below_size (by repeat (first | (with_reducible first | exact HB.out | apply b1_ | apply b2_ | apply b3_) | exact HB.out))) : w.heap.size ≤ gb512)); clear HB; have HB := n0_; have BK512 := n1_; have GW512 := n2_; have GE512 := n3_; clear n0_ n1_ n2_ n3_; clear hb hbox hg) | ((with_reducible refine gate_dst (N := 3) rfl ?_); refine box_event ?hg (N := 3) ?hd (cs := #[.int .i64 a1_0, .int .i64 a1_1, .int .i64 a1_2, .int .i64 a1_3, .int .i64 a1_4, .int .i64 a1_5, .int .i64 a1_6, .string a1_7]) (t := 35) ?hr ?_; (case hd => rfl); (case hg => rfl); (case hr => first | (go_simp; done) | (go_simp; rfl)); intro gb513 hg w26 hbox hb; have n0_ := am_ (blk_below (g := gb512) (o := .cells #[.int .i64 a0_0, .int .i64 a0_1, .int .i64 a0_2, .int .i64 a0_3, .int .i64 a0_4, .int .i64 a0_5, .int .i64 a0_6, .string a0_7] 35 (0, 0)) (by (with_reducible repeat (first | apply k1_ | apply k2_ | apply k3_)); exact BK512.out) hb); have n1_ := am_ (below_step (by repeat (first | (with_reducible first | exact HB.out | apply b1_ | apply b2_ | apply b3_ | refine below_set ?_ GE512.out) | exact HB.out)) hb); have n2_ := am_ (hbox); have n3_ := am_ ((by rw [hg]; exact (below_size (by repeat (first | (with_reducible first | exact HB.out | apply b1_ | apply b2_ | apply b3_ | refine below_set ?_ GE512.out) | exact HB.out))) : w.heap.size ≤ gb513)); have n4_ := am_ ((by rw [hg]; exact (below_size (by repeat (first | (with_reducible first | exact HB.out | apply b1_ | apply b2_ | apply b3_ | refine below_set ?_ GE512.out) | exact HB.out))) : w.heap.size ≤ gb513)); have n5_ := am_ ((by rw [hg]; exact Nat.ne_of_lt (blk_lt (g := gb512) (o := .cells #[.int .i64 a0_0, .int .i64 a0_1, .int .i64 a0_2, .int .i64 a0_3, .int .i64 a0_4, .int .i64 a0_5, .int .i64 a0_6, .string a0_7] 35 (0, 0)) (by (with_reducible repeat (first | apply k1_ | apply k2_ | apply k3_)); exact BK512.out)) : gb512 ≠ gb513)); have n6_ := am_ ((by rw [hg]; exact Nat.ne_of_gt (blk_lt (g := gb512) (o := .cells #[.int .i64 a0_0, .int .i64 a0_1, .int .i64 a0_2, .int .i64 a0_3, .int .i64 a0_4, .int .i64 a0_5, .int .i64 a0_6, .string a0_7] 35 (0, 0)) (by (with_reducible repeat (first | apply k1_ | apply k2_ | apply k3_)); exact BK512.out)) : gb513 ≠ gb512)); clear BK512; clear HB; have BK512 := n0_; have HB := n1_; have BK513 := n2_; have GW513 := n3_; have GE513 := n4_; have NB512_513 := n5_; have NB513_512 := n6_; clear n0_ n1_ n2_ n3_ n4_ n5_ n6_; clear hb hbox hg; have hnb27 := NB512_513.out; have hnc27 := NB513_512.out; have hcz28_0 : w26.cell? ⟨gb512, 0, none⟩ = some (.int .i64 a0_0) := (blk_cell BK512.out 0).trans rfl; have hcz28_1 : w26.cell? ⟨gb512, 1, none⟩ = some (.int .i64 a0_1) := (blk_cell BK512.out 1).trans rfl; have hcz28_2 : w26.cell? ⟨gb512, 2, none⟩ = some (.int .i64 a0_2) := (blk_cell BK512.out 2).trans rfl; have hcz28_3 : w26.cell? ⟨gb512, 3, none⟩ = some (.int .i64 a0_3) := (blk_cell BK512.out 3).trans rfl; have hcz28_4 : w26.cell? ⟨gb512, 4, none⟩ = some (.int .i64 a0_4) := (blk_cell BK512.out 4).trans rfl; have hcz28_5 : w26.cell? ⟨gb512, 5, none⟩ = some (.int .i64 a0_5) := (blk_cell BK512.out 5).trans rfl; have hcz28_6 : w26.cell? ⟨gb512, 6, none⟩ = some (.int .i64 a0_6) := (blk_cell BK512.out 6).trans rfl; have hcz28_7 : w26.cell? ⟨gb512, 7, none⟩ = some (.string a0_7) := (blk_cell BK512.out 7).trans rfl; have hfz28_0 := blk_frozen BK512.out 0; have hfz28_1 := blk_frozen BK512.out 1; have hfz28_2 := blk_frozen BK512.out 2; have hfz28_3 := blk_frozen BK512.out 3; have hfz28_4 := blk_frozen BK512.out 4; have hfz28_5 := blk_frozen BK512.out 5; have hfz28_6 := blk_frozen BK512.out 6; have hfz28_7 := blk_frozen BK512.out 7; have hcz29_0 : w26.cell? ⟨gb513, 0, none⟩ = some (.int .i64 a1_0) := (blk_cell BK513.out 0).trans rfl; have hcz29_1 : w26.cell? ⟨gb513, 1, none⟩ = some (.int .i64 a1_1) := (blk_cell BK513.out 1).trans rfl; have hcz29_2 : w26.cell? ⟨gb513, 2, none⟩ = some (.int .i64 a1_2) := (blk_cell BK513.out 2).trans rfl; have hcz29_3 : w26.cell? ⟨gb513, 3, none⟩ = some (.int .i64 a1_3) := (blk_cell BK513.out 3).trans rfl; have hcz29_4 : w26.cell? ⟨gb513, 4, none⟩ = some (.int .i64 a1_4) := (blk_cell BK513.out 4).trans rfl; have hcz29_5 : w26.cell? ⟨gb513, 5, none⟩ = some (.int .i64 a1_5) := (blk_cell BK513.out 5).trans rfl; have hcz29_6 : w26.cell? ⟨gb513, 6, none⟩ = some (.int .i64 a1_6) := (blk_cell BK513.out 6).trans rfl; have hcz29_7 : w26.cell? ⟨gb513, 7, none⟩ = some (.string a1_7) := (blk_cell BK513.out 7).trans rfl; have hfz29_0 := blk_frozen BK513.out 0; have hfz29_1 := blk_frozen BK513.out 1; have hfz29_2 := blk_frozen BK513.out 2; have hfz29_3 := blk_frozen BK513.out 3; have hfz29_4 := blk_frozen BK513.out 4; have hfz29_5 := blk_frozen BK513.out 5; have hfz29_6 := blk_frozen BK513.out 6; have hfz29_7 := blk_frozen BK513.out 7) | ((with_reducible refine gate_callee (f := 65) rfl ?_); refine goesL_ (some 24) rfl rfl Tryd.func65 (by kernel_rfl) rfl #[.agg #[.int .i64 a0_3, .int .i64 a0_4, .int .i64 a0_5, .int .i64 a0_6], .agg #[.int .i64 a1_3, .int .i64 a1_4, .int .i64 a1_5, .int .i64 a1_6]] rfl (by (try simp only [m1_, m2_, m3_]); first | done | rfl | (simp only [d1_, d2_]; rfl)) ?_; (with_reducible refine (laws_eqAnswer.calls a0_3 a0_4 a0_5 a0_6 a1_3 a1_4 a1_5 a1_6 false _ A6.out).mono ?_); rintro e w30 ⟨rfl, hb⟩; refine ⟨_, rfl, ?_⟩; have n0_ := am_ (blk_below (g := gb512) (o := .cells #[.int .i64 a0_0, .int .i64 a0_1, .int .i64 a0_2, .int .i64 a0_3, .int .i64 a0_4, .int .i64 a0_5, .int .i64 a0_6, .string a0_7] 35 (0, 0)) (by (with_reducible repeat (first | apply k1_ | apply k2_ | apply k3_)); exact BK512.out) hb); have n1_ := am_ (blk_below (g := gb513) (o := .cells #[.int .i64 a1_0, .int .i64 a1_1, .int .i64 a1_2, .int .i64 a1_3, .int .i64 a1_4, .int .i64 a1_5, .int .i64 a1_6, .string a1_7] 35 (0, 0)) (by (with_reducible repeat (first | apply k1_ | apply k2_ | apply k3_)); exact BK513.out) hb); have n2_ := am_ (below_step (by repeat (first | (with_reducible first | exact HB.out | apply b1_ | apply b2_ | apply b3_ | refine below_set ?_ GE512.out | refine below_set ?_ GE513.out) | exact HB.out)) hb); clear BK512; clear BK513; clear HB; have BK512 := n0_; have BK513 := n1_; have HB := n2_; clear n0_ n1_ n2_; (try clear hb); (try clear hb2); (try clear hk); (try clear hi)))
     go_ret
     exact ⟨by first | rfl | (simp [e1_, e2_] <;> rfl) | (simp [*, e1_, e2_] <;> rfl) | (simp [e3_, e4_]; done) | (simp [*, e3_, e4_]; done), by repeat (first | (with_reducible first | exact HB.out | apply b1_ | apply b2_ | apply b3_ | refine below_set ?_ GE512.out | refine below_set ?_ GE513.out) | exact HB.out)⟩
   ·rw [if_neg c5] at H
    have c5b0 : (a0_2 == a1_2) = false := beq_eq_false_iff_ne.mpr c5
    have c5b1 : (a0_2 != a1_2) = true := bne_iff_ne.mpr c5
    obtain rfl := Option.some.inj H
    go_enter Tryd.func28, Tryd.ntmps28
    go_wp2_with (first | ((with_reducible refine gate_dst (N := 2) rfl ?_); refine box_event ?hg (N := 2) ?hd (cs := #[.int .i64 a0_0, .int .i64 a0_1, .int .i64 a0_2, .int .i64 a0_3, .int .i64 a0_4, .int .i64 a0_5, .int .i64 a0_6, .string a0_7]) (t := 35) ?hr ?_; (case hd => rfl); (case hg => rfl); (case hr => first | (go_simp; done) | (go_simp; rfl)); intro gb512 hg w31 hbox hb; have n0_ := am_ (below_step (by repeat (first | (with_reducible first | exact HB.out | apply b1_ | apply b2_ | apply b3_) | exact HB.out)) hb); have n1_ := am_ (hbox); have n2_ := am_ ((by rw [hg]; exact (below_size (by repeat (first | (with_reducible first | exact HB.out | apply b1_ | apply b2_ | apply b3_) | exact HB.out))) : w.heap.size ≤ gb512)); have n3_ := am_ ((by rw [hg]; exact (below_size (by repeat (first | (with_reducible first | exact HB.out | apply b1_ | apply b2_ | apply b3_) | exact HB.out))) : w.heap.size ≤ gb512)); clear HB; have HB := n0_; have BK512 := n1_; have GW512 := n2_; have GE512 := n3_; clear n0_ n1_ n2_ n3_; clear hb hbox hg) | ((with_reducible refine gate_dst (N := 3) rfl ?_); refine box_event ?hg (N := 3) ?hd (cs := #[.int .i64 a1_0, .int .i64 a1_1, .int .i64 a1_2, .int .i64 a1_3, .int .i64 a1_4, .int .i64 a1_5, .int .i64 a1_6, .string a1_7]) (t := 35) ?hr ?_; (case hd => rfl); (case hg => rfl); (case hr => first | (go_simp; done) | (go_simp; rfl)); intro gb513 hg w32 hbox hb; have n0_ := am_ (blk_below (g := gb512) (o := .cells #[.int .i64 a0_0, .int .i64 a0_1, .int .i64 a0_2, .int .i64 a0_3, .int .i64 a0_4, .int .i64 a0_5, .int .i64 a0_6, .string a0_7] 35 (0, 0)) (by (with_reducible repeat (first | apply k1_ | apply k2_ | apply k3_)); exact BK512.out) hb); have n1_ := am_ (below_step (by repeat (first | (with_reducible first | exact HB.out | apply b1_ | apply b2_ | apply b3_ | refine below_set ?_ GE512.out) | exact HB.out)) hb); have n2_ := am_ (hbox); have n3_ := am_ ((by rw [hg]; exact (below_size (by repeat (first | (with_reducible first | exact HB.out | apply b1_ | apply b2_ | apply b3_ | refine below_set ?_ GE512.out) | exact HB.out))) : w.heap.size ≤ gb513)); have n4_ := am_ ((by rw [hg]; exact (below_size (by repeat (first | (with_reducible first | exact HB.out | apply b1_ | apply b2_ | apply b3_ | refine below_set ?_ GE512.out) | exact HB.out))) : w.heap.size ≤ gb513)); have n5_ := am_ ((by rw [hg]; exact Nat.ne_of_lt (blk_lt (g := gb512) (o := .cells #[.int .i64 a0_0, .int .i64 a0_1, .int .i64 a0_2, .int .i64 a0_3, .int .i64 a0_4, .int .i64 a0_5, .int .i64 a0_6, .string a0_7] 35 (0, 0)) (by (with_reducible repeat (first | apply k1_ | apply k2_ | apply k3_)); exact BK512.out)) : gb512 ≠ gb513)); have n6_ := am_ ((by rw [hg]; exact Nat.ne_of_gt (blk_lt (g := gb512) (o := .cells #[.int .i64 a0_0, .int .i64 a0_1, .int .i64 a0_2, .int .i64 a0_3, .int .i64 a0_4, .int .i64 a0_5, .int .i64 a0_6, .string a0_7] 35 (0, 0)) (by (with_reducible repeat (first | apply k1_ | apply k2_ | apply k3_)); exact BK512.out)) : gb513 ≠ gb512)); clear BK512; clear HB; have BK512 := n0_; have HB := n1_; have BK513 := n2_; have GW513 := n3_; have GE513 := n4_; have NB512_513 := n5_; have NB513_512 := n6_; clear n0_ n1_ n2_ n3_ n4_ n5_ n6_; clear hb hbox hg; have hnb33 := NB512_513.out; have hnc33 := NB513_512.out; have hcz34_0 : w32.cell? ⟨gb512, 0, none⟩ = some (.int .i64 a0_0) := (blk_cell BK512.out 0).trans rfl; have hcz34_1 : w32.cell? ⟨gb512, 1, none⟩ = some (.int .i64 a0_1) := (blk_cell BK512.out 1).trans rfl; have hcz34_2 : w32.cell? ⟨gb512, 2, none⟩ = some (.int .i64 a0_2) := (blk_cell BK512.out 2).trans rfl; have hcz34_3 : w32.cell? ⟨gb512, 3, none⟩ = some (.int .i64 a0_3) := (blk_cell BK512.out 3).trans rfl; have hcz34_4 : w32.cell? ⟨gb512, 4, none⟩ = some (.int .i64 a0_4) := (blk_cell BK512.out 4).trans rfl; have hcz34_5 : w32.cell? ⟨gb512, 5, none⟩ = some (.int .i64 a0_5) := (blk_cell BK512.out 5).trans rfl; have hcz34_6 : w32.cell? ⟨gb512, 6, none⟩ = some (.int .i64 a0_6) := (blk_cell BK512.out 6).trans rfl; have hcz34_7 : w32.cell? ⟨gb512, 7, none⟩ = some (.string a0_7) := (blk_cell BK512.out 7).trans rfl; have hfz34_0 := blk_frozen BK512.out 0; have hfz34_1 := blk_frozen BK512.out 1; have hfz34_2 := blk_frozen BK512.out 2; have hfz34_3 := blk_frozen BK512.out 3; have hfz34_4 := blk_frozen BK512.out 4; have hfz34_5 := blk_frozen BK512.out 5; have hfz34_6 := blk_frozen BK512.out 6; have hfz34_7 := blk_frozen BK512.out 7; have hcz35_0 : w32.cell? ⟨gb513, 0, none⟩ = some (.int .i64 a1_0) := (blk_cell BK513.out 0).trans rfl; have hcz35_1 : w32.cell? ⟨gb513, 1, none⟩ = some (.int .i64 a1_1) := (blk_cell BK513.out 1).trans rfl; have hcz35_2 : w32.cell? ⟨gb513, 2, none⟩ = some (.int .i64 a1_2) := (blk_cell BK513.out 2).trans rfl; have hcz35_3 : w32.cell? ⟨gb513, 3, none⟩ = some (.int .i64 a1_3) := (blk_cell BK513.out 3).trans rfl; have hcz35_4 : w32.cell? ⟨gb513, 4, none⟩ = some (.int .i64 a1_4) := (blk_cell BK513.out 4).trans rfl; have hcz35_5 : w32.cell? ⟨gb513, 5, none⟩ = some (.int .i64 a1_5) := (blk_cell BK513.out 5).trans rfl; have hcz35_6 : w32.cell? ⟨gb513, 6, none⟩ = some (.int .i64 a1_6) := (blk_cell BK513.out 6).trans rfl; have hcz35_7 : w32.cell? ⟨gb513, 7, none⟩ = some (.string a1_7) := (blk_cell BK513.out 7).trans rfl; have hfz35_0 := blk_frozen BK513.out 0; have hfz35_1 := blk_frozen BK513.out 1; have hfz35_2 := blk_frozen BK513.out 2; have hfz35_3 := blk_frozen BK513.out 3; have hfz35_4 := blk_frozen BK513.out 4; have hfz35_5 := blk_frozen BK513.out 5; have hfz35_6 := blk_frozen BK513.out 6; have hfz35_7 := blk_frozen BK513.out 7))
    go_ret
    exact ⟨by first | rfl | (simp [e1_, e2_] <;> rfl) | (simp [*, e1_, e2_] <;> rfl) | (simp [e3_, e4_]; done) | (simp [*, e3_, e4_]; done), by repeat (first | (with_reducible first | exact HB.out | apply b1_ | apply b2_ | apply b3_ | refine below_set ?_ GE512.out | refine below_set ?_ GE513.out) | exact HB.out)⟩
  ·rw [if_neg c4] at H
   have c4b0 : (a0_1 == a1_1) = false := beq_eq_false_iff_ne.mpr c4
   have c4b1 : (a0_1 != a1_1) = true := bne_iff_ne.mpr c4
   obtain rfl := Option.some.inj H
   go_enter Tryd.func28, Tryd.ntmps28
   go_wp2_with (first | ((with_reducible refine gate_dst (N := 2) rfl ?_); refine box_event ?hg (N := 2) ?hd (cs := #[.int .i64 a0_0, .int .i64 a0_1, .int .i64 a0_2, .int .i64 a0_3, .int .i64 a0_4, .int .i64 a0_5, .int .i64 a0_6, .string a0_7]) (t := 35) ?hr ?_; (case hd => rfl); (case hg => rfl); (case hr => first | (go_simp; done) | (go_simp; rfl)); intro gb512 hg w36 hbox hb; have n0_ := am_ (below_step (by repeat (first | (with_reducible first | exact HB.out | apply b1_ | apply b2_ | apply b3_) | exact HB.out)) hb); have n1_ := am_ (hbox); have n2_ := am_ ((by rw [hg]; exact (below_size (by repeat (first | (with_reducible first | exact HB.out | apply b1_ | apply b2_ | apply b3_) | exact HB.out))) : w.heap.size ≤ gb512)); have n3_ := am_ ((by rw [hg]; exact (below_size (by repeat (first | (with_reducible first | exact HB.out | apply b1_ | apply b2_ | apply b3_) | exact HB.out))) : w.heap.size ≤ gb512)); clear HB; have HB := n0_; have BK512 := n1_; have GW512 := n2_; have GE512 := n3_; clear n0_ n1_ n2_ n3_; clear hb hbox hg) | ((with_reducible refine gate_dst (N := 3) rfl ?_); refine box_event ?hg (N := 3) ?hd (cs := #[.int .i64 a1_0, .int .i64 a1_1, .int .i64 a1_2, .int .i64 a1_3, .int .i64 a1_4, .int .i64 a1_5, .int .i64 a1_6, .string a1_7]) (t := 35) ?hr ?_; (case hd => rfl); (case hg => rfl); (case hr => first | (go_simp; done) | (go_simp; rfl)); intro gb513 hg w37 hbox hb; have n0_ := am_ (blk_below (g := gb512) (o := .cells #[.int .i64 a0_0, .int .i64 a0_1, .int .i64 a0_2, .int .i64 a0_3, .int .i64 a0_4, .int .i64 a0_5, .int .i64 a0_6, .string a0_7] 35 (0, 0)) (by (with_reducible repeat (first | apply k1_ | apply k2_ | apply k3_)); exact BK512.out) hb); have n1_ := am_ (below_step (by repeat (first | (with_reducible first | exact HB.out | apply b1_ | apply b2_ | apply b3_ | refine below_set ?_ GE512.out) | exact HB.out)) hb); have n2_ := am_ (hbox); have n3_ := am_ ((by rw [hg]; exact (below_size (by repeat (first | (with_reducible first | exact HB.out | apply b1_ | apply b2_ | apply b3_ | refine below_set ?_ GE512.out) | exact HB.out))) : w.heap.size ≤ gb513)); have n4_ := am_ ((by rw [hg]; exact (below_size (by repeat (first | (with_reducible first | exact HB.out | apply b1_ | apply b2_ | apply b3_ | refine below_set ?_ GE512.out) | exact HB.out))) : w.heap.size ≤ gb513)); have n5_ := am_ ((by rw [hg]; exact Nat.ne_of_lt (blk_lt (g := gb512) (o := .cells #[.int .i64 a0_0, .int .i64 a0_1, .int .i64 a0_2, .int .i64 a0_3, .int .i64 a0_4, .int .i64 a0_5, .int .i64 a0_6, .string a0_7] 35 (0, 0)) (by (with_reducible repeat (first | apply k1_ | apply k2_ | apply k3_)); exact BK512.out)) : gb512 ≠ gb513)); have n6_ := am_ ((by rw [hg]; exact Nat.ne_of_gt (blk_lt (g := gb512) (o := .cells #[.int .i64 a0_0, .int .i64 a0_1, .int .i64 a0_2, .int .i64 a0_3, .int .i64 a0_4, .int .i64 a0_5, .int .i64 a0_6, .string a0_7] 35 (0, 0)) (by (with_reducible repeat (first | apply k1_ | apply k2_ | apply k3_)); exact BK512.out)) : gb513 ≠ gb512)); clear BK512; clear HB; have BK512 := n0_; have HB := n1_; have BK513 := n2_; have GW513 := n3_; have GE513 := n4_; have NB512_513 := n5_; have NB513_512 := n6_; clear n0_ n1_ n2_ n3_ n4_ n5_ n6_; clear hb hbox hg; have hnb38 := NB512_513.out; have hnc38 := NB513_512.out; have hcz39_0 : w37.cell? ⟨gb512, 0, none⟩ = some (.int .i64 a0_0) := (blk_cell BK512.out 0).trans rfl; have hcz39_1 : w37.cell? ⟨gb512, 1, none⟩ = some (.int .i64 a0_1) := (blk_cell BK512.out 1).trans rfl; have hcz39_2 : w37.cell? ⟨gb512, 2, none⟩ = some (.int .i64 a0_2) := (blk_cell BK512.out 2).trans rfl; have hcz39_3 : w37.cell? ⟨gb512, 3, none⟩ = some (.int .i64 a0_3) := (blk_cell BK512.out 3).trans rfl; have hcz39_4 : w37.cell? ⟨gb512, 4, none⟩ = some (.int .i64 a0_4) := (blk_cell BK512.out 4).trans rfl; have hcz39_5 : w37.cell? ⟨gb512, 5, none⟩ = some (.int .i64 a0_5) := (blk_cell BK512.out 5).trans rfl; have hcz39_6 : w37.cell? ⟨gb512, 6, none⟩ = some (.int .i64 a0_6) := (blk_cell BK512.out 6).trans rfl; have hcz39_7 : w37.cell? ⟨gb512, 7, none⟩ = some (.string a0_7) := (blk_cell BK512.out 7).trans rfl; have hfz39_0 := blk_frozen BK512.out 0; have hfz39_1 := blk_frozen BK512.out 1; have hfz39_2 := blk_frozen BK512.out 2; have hfz39_3 := blk_frozen BK512.out 3; have hfz39_4 := blk_frozen BK512.out 4; have hfz39_5 := blk_frozen BK512.out 5; have hfz39_6 := blk_frozen BK512.out 6; have hfz39_7 := blk_frozen BK512.out 7; have hcz40_0 : w37.cell? ⟨gb513, 0, none⟩ = some (.int .i64 a1_0) := (blk_cell BK513.out 0).trans rfl; have hcz40_1 : w37.cell? ⟨gb513, 1, none⟩ = some (.int .i64 a1_1) := (blk_cell BK513.out 1).trans rfl; have hcz40_2 : w37.cell? ⟨gb513, 2, none⟩ = some (.int .i64 a1_2) := (blk_cell BK513.out 2).trans rfl; have hcz40_3 : w37.cell? ⟨gb513, 3, none⟩ = some (.int .i64 a1_3) := (blk_cell BK513.out 3).trans rfl; have hcz40_4 : w37.cell? ⟨gb513, 4, none⟩ = some (.int .i64 a1_4) := (blk_cell BK513.out 4).trans rfl; have hcz40_5 : w37.cell? ⟨gb513, 5, none⟩ = some (.int .i64 a1_5) := (blk_cell BK513.out 5).trans rfl; have hcz40_6 : w37.cell? ⟨gb513, 6, none⟩ = some (.int .i64 a1_6) := (blk_cell BK513.out 6).trans rfl; have hcz40_7 : w37.cell? ⟨gb513, 7, none⟩ = some (.string a1_7) := (blk_cell BK513.out 7).trans rfl; have hfz40_0 := blk_frozen BK513.out 0; have hfz40_1 := blk_frozen BK513.out 1; have hfz40_2 := blk_frozen BK513.out 2; have hfz40_3 := blk_frozen BK513.out 3; have hfz40_4 := blk_frozen BK513.out 4; have hfz40_5 := blk_frozen BK513.out 5; have hfz40_6 := blk_frozen BK513.out 6; have hfz40_7 := blk_frozen BK513.out 7))
   go_ret
   exact ⟨by first | rfl | (simp [e1_, e2_] <;> rfl) | (simp [*, e1_, e2_] <;> rfl) | (simp [e3_, e4_]; done) | (simp [*, e3_, e4_]; done), by repeat (first | (with_reducible first | exact HB.out | apply b1_ | apply b2_ | apply b3_ | refine below_set ?_ GE512.out | refine below_set ?_ GE513.out) | exact HB.out)⟩
 ·rw [if_neg c3] at H
  have c3b0 : (a0_0 == a1_0) = false := beq_eq_false_iff_ne.mpr c3
  have c3b1 : (a0_0 != a1_0) = true := bne_iff_ne.mpr c3
  obtain rfl := Option.some.inj H
  go_enter Tryd.func28, Tryd.ntmps28
  go_wp2_with (first | ((with_reducible refine gate_dst (N := 2) rfl ?_); refine box_event ?hg (N := 2) ?hd (cs := #[.int .i64 a0_0, .int .i64 a0_1, .int .i64 a0_2, .int .i64 a0_3, .int .i64 a0_4, .int .i64 a0_5, .int .i64 a0_6, .string a0_7]) (t := 35) ?hr ?_; (case hd => rfl); (case hg => rfl); (case hr => first | (go_simp; done) | (go_simp; rfl)); intro gb512 hg w41 hbox hb; have n0_ := am_ (below_step (by repeat (first | (with_reducible first | exact HB.out | apply b1_ | apply b2_ | apply b3_) | exact HB.out)) hb); have n1_ := am_ (hbox); have n2_ := am_ ((by rw [hg]; exact (below_size (by repeat (first | (with_reducible first | exact HB.out | apply b1_ | apply b2_ | apply b3_) | exact HB.out))) : w.heap.size ≤ gb512)); have n3_ := am_ ((by rw [hg]; exact (below_size (by repeat (first | (with_reducible first | exact HB.out | apply b1_ | apply b2_ | apply b3_) | exact HB.out))) : w.heap.size ≤ gb512)); clear HB; have HB := n0_; have BK512 := n1_; have GW512 := n2_; have GE512 := n3_; clear n0_ n1_ n2_ n3_; clear hb hbox hg) | ((with_reducible refine gate_dst (N := 3) rfl ?_); refine box_event ?hg (N := 3) ?hd (cs := #[.int .i64 a1_0, .int .i64 a1_1, .int .i64 a1_2, .int .i64 a1_3, .int .i64 a1_4, .int .i64 a1_5, .int .i64 a1_6, .string a1_7]) (t := 35) ?hr ?_; (case hd => rfl); (case hg => rfl); (case hr => first | (go_simp; done) | (go_simp; rfl)); intro gb513 hg w42 hbox hb; have n0_ := am_ (blk_below (g := gb512) (o := .cells #[.int .i64 a0_0, .int .i64 a0_1, .int .i64 a0_2, .int .i64 a0_3, .int .i64 a0_4, .int .i64 a0_5, .int .i64 a0_6, .string a0_7] 35 (0, 0)) (by (with_reducible repeat (first | apply k1_ | apply k2_ | apply k3_)); exact BK512.out) hb); have n1_ := am_ (below_step (by repeat (first | (with_reducible first | exact HB.out | apply b1_ | apply b2_ | apply b3_ | refine below_set ?_ GE512.out) | exact HB.out)) hb); have n2_ := am_ (hbox); have n3_ := am_ ((by rw [hg]; exact (below_size (by repeat (first | (with_reducible first | exact HB.out | apply b1_ | apply b2_ | apply b3_ | refine below_set ?_ GE512.out) | exact HB.out))) : w.heap.size ≤ gb513)); have n4_ := am_ ((by rw [hg]; exact (below_size (by repeat (first | (with_reducible first | exact HB.out | apply b1_ | apply b2_ | apply b3_ | refine below_set ?_ GE512.out) | exact HB.out))) : w.heap.size ≤ gb513)); have n5_ := am_ ((by rw [hg]; exact Nat.ne_of_lt (blk_lt (g := gb512) (o := .cells #[.int .i64 a0_0, .int .i64 a0_1, .int .i64 a0_2, .int .i64 a0_3, .int .i64 a0_4, .int .i64 a0_5, .int .i64 a0_6, .string a0_7] 35 (0, 0)) (by (with_reducible repeat (first | apply k1_ | apply k2_ | apply k3_)); exact BK512.out)) : gb512 ≠ gb513)); have n6_ := am_ ((by rw [hg]; exact Nat.ne_of_gt (blk_lt (g := gb512) (o := .cells #[.int .i64 a0_0, .int .i64 a0_1, .int .i64 a0_2, .int .i64 a0_3, .int .i64 a0_4, .int .i64 a0_5, .int .i64 a0_6, .string a0_7] 35 (0, 0)) (by (with_reducible repeat (first | apply k1_ | apply k2_ | apply k3_)); exact BK512.out)) : gb513 ≠ gb512)); clear BK512; clear HB; have BK512 := n0_; have HB := n1_; have BK513 := n2_; have GW513 := n3_; have GE513 := n4_; have NB512_513 := n5_; have NB513_512 := n6_; clear n0_ n1_ n2_ n3_ n4_ n5_ n6_; clear hb hbox hg; have hnb43 := NB512_513.out; have hnc43 := NB513_512.out; have hcz44_0 : w42.cell? ⟨gb512, 0, none⟩ = some (.int .i64 a0_0) := (blk_cell BK512.out 0).trans rfl; have hcz44_1 : w42.cell? ⟨gb512, 1, none⟩ = some (.int .i64 a0_1) := (blk_cell BK512.out 1).trans rfl; have hcz44_2 : w42.cell? ⟨gb512, 2, none⟩ = some (.int .i64 a0_2) := (blk_cell BK512.out 2).trans rfl; have hcz44_3 : w42.cell? ⟨gb512, 3, none⟩ = some (.int .i64 a0_3) := (blk_cell BK512.out 3).trans rfl; have hcz44_4 : w42.cell? ⟨gb512, 4, none⟩ = some (.int .i64 a0_4) := (blk_cell BK512.out 4).trans rfl; have hcz44_5 : w42.cell? ⟨gb512, 5, none⟩ = some (.int .i64 a0_5) := (blk_cell BK512.out 5).trans rfl; have hcz44_6 : w42.cell? ⟨gb512, 6, none⟩ = some (.int .i64 a0_6) := (blk_cell BK512.out 6).trans rfl; have hcz44_7 : w42.cell? ⟨gb512, 7, none⟩ = some (.string a0_7) := (blk_cell BK512.out 7).trans rfl; have hfz44_0 := blk_frozen BK512.out 0; have hfz44_1 := blk_frozen BK512.out 1; have hfz44_2 := blk_frozen BK512.out 2; have hfz44_3 := blk_frozen BK512.out 3; have hfz44_4 := blk_frozen BK512.out 4; have hfz44_5 := blk_frozen BK512.out 5; have hfz44_6 := blk_frozen BK512.out 6; have hfz44_7 := blk_frozen BK512.out 7; have hcz45_0 : w42.cell? ⟨gb513, 0, none⟩ = some (.int .i64 a1_0) := (blk_cell BK513.out 0).trans rfl; have hcz45_1 : w42.cell? ⟨gb513, 1, none⟩ = some (.int .i64 a1_1) := (blk_cell BK513.out 1).trans rfl; have hcz45_2 : w42.cell? ⟨gb513, 2, none⟩ = some (.int .i64 a1_2) := (blk_cell BK513.out 2).trans rfl; have hcz45_3 : w42.cell? ⟨gb513, 3, none⟩ = some (.int .i64 a1_3) := (blk_cell BK513.out 3).trans rfl; have hcz45_4 : w42.cell? ⟨gb513, 4, none⟩ = some (.int .i64 a1_4) := (blk_cell BK513.out 4).trans rfl; have hcz45_5 : w42.cell? ⟨gb513, 5, none⟩ = some (.int .i64 a1_5) := (blk_cell BK513.out 5).trans rfl; have hcz45_6 : w42.cell? ⟨gb513, 6, none⟩ = some (.int .i64 a1_6) := (blk_cell BK513.out 6).trans rfl; have hcz45_7 : w42.cell? ⟨gb513, 7, none⟩ = some (.string a1_7) := (blk_cell BK513.out 7).trans rfl; have hfz45_0 := blk_frozen BK513.out 0; have hfz45_1 := blk_frozen BK513.out 1; have hfz45_2 := blk_frozen BK513.out 2; have hfz45_3 := blk_frozen BK513.out 3; have hfz45_4 := blk_frozen BK513.out 4; have hfz45_5 := blk_frozen BK513.out 5; have hfz45_6 := blk_frozen BK513.out 6; have hfz45_7 := blk_frozen BK513.out 7))
  go_ret
  exact ⟨by first | rfl | (simp [e1_, e2_] <;> rfl) | (simp [*, e1_, e2_] <;> rfl) | (simp [e3_, e4_]; done) | (simp [*, e3_, e4_]; done), by repeat (first | (with_reducible first | exact HB.out | apply b1_ | apply b2_ | apply b3_ | refine below_set ?_ GE512.out | refine below_set ?_ GE513.out) | exact HB.out)⟩
set_option maxHeartbeats 8000000 in
set_option maxRecDepth 100000 in
theorem laws_toAnswer.calls (a0_0 : Int) (a0_1 : Int) (a0_2 : Int) (a0_3 : Int) (r1 : Int) (r2 : Int) (r3 : Int) (r4 : Int) (w : World) (h : laws_toAnswer.f a0_0 a0_1 a0_2 a0_3 = some (r1, r2, r3, r4)) :
  Calls Tryd.prog 26 #[.agg #[.int .i64 a0_0, .int .i64 a0_1, .int .i64 a0_2, .int .i64 a0_3]] w fun e w' => e = .returned (.agg #[.int .i64 r1, .int .i64 r2, .int .i64 r3, .int .i64 r4]) ∧ Below w.heap.size w w' := by
 have hu28 := Tryd.underlying28
 have hu33 := Tryd.underlying33
 have HB := am_ (Below.refl w.heap.size w)
 have H : (some (a0_0, a0_1, a0_2, a0_3)) = some (r1, r2, r3, r4) := h
 clear h
 simp only [Option.some.injEq, Prod.mk.injEq] at H
 obtain ⟨rfl, rfl, rfl, rfl⟩ := H
 go_enter Tryd.func26, Tryd.ntmps26
 go_wp2_with (first | ((with_reducible refine gate_dst (N := 1) rfl ?_); refine box_event ?hg (N := 1) ?hd (cs := #[.int .i64 a0_0, .int .i64 a0_1, .int .i64 a0_2, .int .i64 a0_3]) (t := 28) ?hr ?_; (case hd => rfl); (case hg => rfl); (case hr => first | (go_simp; done) | (go_simp; rfl)); intro gb320 hg w2 hbox hb; have n0_ := am_ (below_step (by repeat (first | (with_reducible first | exact HB.out | apply b1_ | apply b2_ | apply b3_) | exact HB.out)) hb); have n1_ := am_ (hbox); have n2_ := am_ ((by rw [hg]; exact (below_size (by repeat (first | (with_reducible first | exact HB.out | apply b1_ | apply b2_ | apply b3_) | exact HB.out))) : w.heap.size ≤ gb320)); have n3_ := am_ ((by rw [hg]; exact (below_size (by repeat (first | (with_reducible first | exact HB.out | apply b1_ | apply b2_ | apply b3_) | exact HB.out))) : w.heap.size ≤ gb320)); clear HB; have HB := n0_; have BK320 := n1_; have GW320 := n2_; have GE320 := n3_; clear n0_ n1_ n2_ n3_; clear hb hbox hg) | ((with_reducible refine gate_dst (N := 2) rfl ?_); refine box_event ?hg (N := 2) ?hd (cs := #[.int .i64 0, .int .i64 0, .int .i64 0, .int .i64 0]) (t := 33) ?hr ?_; (case hd => rfl); (case hg => rfl); (case hr => first | (go_simp; done) | (go_simp; rfl)); intro gb321 hg w3 hbox hb; have n0_ := am_ (blk_below (g := gb320) (o := .cells #[.int .i64 a0_0, .int .i64 a0_1, .int .i64 a0_2, .int .i64 a0_3] 28 (0, 0)) (by (with_reducible repeat (first | apply k1_ | apply k2_ | apply k3_)); exact BK320.out) hb); have n1_ := am_ (below_step (by repeat (first | (with_reducible first | exact HB.out | apply b1_ | apply b2_ | apply b3_ | refine below_set ?_ GE320.out) | exact HB.out)) hb); have n2_ := am_ (hbox); have n3_ := am_ ((by rw [hg]; exact (below_size (by repeat (first | (with_reducible first | exact HB.out | apply b1_ | apply b2_ | apply b3_ | refine below_set ?_ GE320.out) | exact HB.out))) : w.heap.size ≤ gb321)); have n4_ := am_ ((by rw [hg]; exact (below_size (by repeat (first | (with_reducible first | exact HB.out | apply b1_ | apply b2_ | apply b3_ | refine below_set ?_ GE320.out) | exact HB.out))) : w.heap.size ≤ gb321)); have n5_ := am_ ((by rw [hg]; exact Nat.ne_of_lt (blk_lt (g := gb320) (o := .cells #[.int .i64 a0_0, .int .i64 a0_1, .int .i64 a0_2, .int .i64 a0_3] 28 (0, 0)) (by (with_reducible repeat (first | apply k1_ | apply k2_ | apply k3_)); exact BK320.out)) : gb320 ≠ gb321)); have n6_ := am_ ((by rw [hg]; exact Nat.ne_of_gt (blk_lt (g := gb320) (o := .cells #[.int .i64 a0_0, .int .i64 a0_1, .int .i64 a0_2, .int .i64 a0_3] 28 (0, 0)) (by (with_reducible repeat (first | apply k1_ | apply k2_ | apply k3_)); exact BK320.out)) : gb321 ≠ gb320)); clear BK320; clear HB; have BK320 := n0_; have HB := n1_; have BK321 := n2_; have GW321 := n3_; have GE321 := n4_; have NB320_321 := n5_; have NB321_320 := n6_; clear n0_ n1_ n2_ n3_ n4_ n5_ n6_; clear hb hbox hg) | ((with_reducible refine gate_dst (N := 3) rfl ?_); refine box_event ?hg (N := 3) ?hd (cs := #[.int .i64 0, .int .i64 0, .int .i64 0, .int .i64 0]) (t := 33) ?hr ?_; (case hd => rfl); (case hg => rfl); (case hr => first | (go_simp; done) | (go_simp; rfl)); intro gb322 hg w4 hbox hb; have n0_ := am_ (blk_below (g := gb320) (o := .cells #[.int .i64 a0_0, .int .i64 a0_1, .int .i64 a0_2, .int .i64 a0_3] 28 (0, 0)) (by (with_reducible repeat (first | apply k1_ | apply k2_ | apply k3_)); exact BK320.out) hb); have n1_ := am_ (blk_below (g := gb321) (o := .cells #[.int .i64 0, .int .i64 0, .int .i64 0, .int .i64 0] 33 (0, 0)) (by (with_reducible repeat (first | apply k1_ | apply k2_ | apply k3_)); exact BK321.out) hb); have n2_ := am_ (below_step (by repeat (first | (with_reducible first | exact HB.out | apply b1_ | apply b2_ | apply b3_ | refine below_set ?_ GE320.out | refine below_set ?_ GE321.out) | exact HB.out)) hb); have n3_ := am_ (hbox); have n4_ := am_ ((by rw [hg]; exact (below_size (by repeat (first | (with_reducible first | exact HB.out | apply b1_ | apply b2_ | apply b3_ | refine below_set ?_ GE320.out | refine below_set ?_ GE321.out) | exact HB.out))) : w.heap.size ≤ gb322)); have n5_ := am_ ((by rw [hg]; exact (below_size (by repeat (first | (with_reducible first | exact HB.out | apply b1_ | apply b2_ | apply b3_ | refine below_set ?_ GE320.out | refine below_set ?_ GE321.out) | exact HB.out))) : w.heap.size ≤ gb322)); have n6_ := am_ ((by rw [hg]; exact Nat.ne_of_lt (blk_lt (g := gb320) (o := .cells #[.int .i64 a0_0, .int .i64 a0_1, .int .i64 a0_2, .int .i64 a0_3] 28 (0, 0)) (by (with_reducible repeat (first | apply k1_ | apply k2_ | apply k3_)); exact BK320.out)) : gb320 ≠ gb322)); have n7_ := am_ ((by rw [hg]; exact Nat.ne_of_gt (blk_lt (g := gb320) (o := .cells #[.int .i64 a0_0, .int .i64 a0_1, .int .i64 a0_2, .int .i64 a0_3] 28 (0, 0)) (by (with_reducible repeat (first | apply k1_ | apply k2_ | apply k3_)); exact BK320.out)) : gb322 ≠ gb320)); have n8_ := am_ ((by rw [hg]; exact Nat.ne_of_lt (blk_lt (g := gb321) (o := .cells #[.int .i64 0, .int .i64 0, .int .i64 0, .int .i64 0] 33 (0, 0)) (by (with_reducible repeat (first | apply k1_ | apply k2_ | apply k3_)); exact BK321.out)) : gb321 ≠ gb322)); have n9_ := am_ ((by rw [hg]; exact Nat.ne_of_gt (blk_lt (g := gb321) (o := .cells #[.int .i64 0, .int .i64 0, .int .i64 0, .int .i64 0] 33 (0, 0)) (by (with_reducible repeat (first | apply k1_ | apply k2_ | apply k3_)); exact BK321.out)) : gb322 ≠ gb321)); clear BK320; clear BK321; clear HB; have BK320 := n0_; have BK321 := n1_; have HB := n2_; have BK322 := n3_; have GW322 := n4_; have GE322 := n5_; have NB320_322 := n6_; have NB322_320 := n7_; have NB321_322 := n8_; have NB322_321 := n9_; clear n0_ n1_ n2_ n3_ n4_ n5_ n6_ n7_ n8_ n9_; clear hb hbox hg; have hnb5 := NB320_321.out; have hnc5 := NB321_320.out; have hnb6 := NB320_322.out; have hnc6 := NB322_320.out; have hcz7_0 : w4.cell? ⟨gb320, 0, none⟩ = some (.int .i64 a0_0) := (blk_cell BK320.out 0).trans rfl; have hcz7_1 : w4.cell? ⟨gb320, 1, none⟩ = some (.int .i64 a0_1) := (blk_cell BK320.out 1).trans rfl; have hcz7_2 : w4.cell? ⟨gb320, 2, none⟩ = some (.int .i64 a0_2) := (blk_cell BK320.out 2).trans rfl; have hcz7_3 : w4.cell? ⟨gb320, 3, none⟩ = some (.int .i64 a0_3) := (blk_cell BK320.out 3).trans rfl; have hfz7_0 := blk_frozen BK320.out 0; have hfz7_1 := blk_frozen BK320.out 1; have hfz7_2 := blk_frozen BK320.out 2; have hfz7_3 := blk_frozen BK320.out 3; have hnb8 := NB322_321.out; have hnc8 := NB321_322.out; have hcz9_0 : w4.cell? ⟨gb322, 0, none⟩ = some (.int .i64 0) := (blk_cell BK322.out 0).trans rfl; have hcz9_1 : w4.cell? ⟨gb322, 1, none⟩ = some (.int .i64 0) := (blk_cell BK322.out 1).trans rfl; have hcz9_2 : w4.cell? ⟨gb322, 2, none⟩ = some (.int .i64 0) := (blk_cell BK322.out 2).trans rfl; have hcz9_3 : w4.cell? ⟨gb322, 3, none⟩ = some (.int .i64 0) := (blk_cell BK322.out 3).trans rfl; have hfz9_0 := blk_frozen BK322.out 0; have hfz9_1 := blk_frozen BK322.out 1; have hfz9_2 := blk_frozen BK322.out 2; have hfz9_3 := blk_frozen BK322.out 3; have hcz10_0 : w4.cell? ⟨gb321, 0, none⟩ = some (.int .i64 0) := (blk_cell BK321.out 0).trans rfl; have hcz10_1 : w4.cell? ⟨gb321, 1, none⟩ = some (.int .i64 0) := (blk_cell BK321.out 1).trans rfl; have hcz10_2 : w4.cell? ⟨gb321, 2, none⟩ = some (.int .i64 0) := (blk_cell BK321.out 2).trans rfl; have hcz10_3 : w4.cell? ⟨gb321, 3, none⟩ = some (.int .i64 0) := (blk_cell BK321.out 3).trans rfl; have hfz10_0 := blk_frozen BK321.out 0; have hfz10_1 := blk_frozen BK321.out 1; have hfz10_2 := blk_frozen BK321.out 2; have hfz10_3 := blk_frozen BK321.out 3))
 refine bodyPost_ret (results_cell_row rfl _ _ gb321 33 #[.int .i64 a0_0, .int .i64 a0_1, .int .i64 a0_2, .int .i64 a0_3] (0, 0) _ rfl (by (with_reducible repeat (first | apply k1_ | apply k2_ | apply k3_)); refine blk_put (cs := #[.int .i64 a0_0, .int .i64 a0_1, .int .i64 a0_2, .int .i64 0]) ?_ 3 _ rfl; (with_reducible repeat (first | apply k1_ | apply k2_ | apply k3_)); refine blk_put (cs := #[.int .i64 a0_0, .int .i64 a0_1, .int .i64 0, .int .i64 0]) ?_ 2 _ rfl; (with_reducible repeat (first | apply k1_ | apply k2_ | apply k3_)); refine blk_put (cs := #[.int .i64 a0_0, .int .i64 0, .int .i64 0, .int .i64 0]) ?_ 1 _ rfl; (with_reducible repeat (first | apply k1_ | apply k2_ | apply k3_)); refine blk_put (cs := #[.int .i64 0, .int .i64 0, .int .i64 0, .int .i64 0]) ?_ 0 _ rfl; (with_reducible repeat (first | apply k1_ | apply k2_ | apply k3_)); refine blk_far ?_ NB321_322.out _; (with_reducible repeat (first | apply k1_ | apply k2_ | apply k3_)); refine blk_far ?_ NB321_322.out _; (with_reducible repeat (first | apply k1_ | apply k2_ | apply k3_)); refine blk_far ?_ NB321_322.out _; (with_reducible repeat (first | apply k1_ | apply k2_ | apply k3_)); refine blk_far ?_ NB321_322.out _; (with_reducible repeat (first | apply k1_ | apply k2_ | apply k3_)); exact BK321.out) Tryd.underlying33 rfl (by kernel_rfl)) rfl ?_
 exact ⟨by first | rfl | (simp [e1_, e2_] <;> rfl) | (simp [*, e1_, e2_] <;> rfl) | (simp [e3_, e4_]; done) | (simp [*, e3_, e4_]; done), by repeat (first | (with_reducible first | exact HB.out | apply b1_ | apply b2_ | apply b3_ | refine below_set ?_ GE320.out | refine below_set ?_ GE321.out | refine below_set ?_ GE322.out) | exact HB.out)⟩
set_option maxHeartbeats 8000000 in
set_option maxRecDepth 100000 in
theorem spec_l01In.calls (a0 : Int) (a1 : Int) (a2 : Int) (r : Bool) (w : World) (h : spec_l01In.f a0 a1 a2 = some r) :
  Calls Tryd.prog 45 #[.int .i64 a0, .int .i64 a1, .int .i64 a2] w fun e w' => e = .returned (.bool r) ∧ Drawn0 w w' := by
 have H : (if a0 ≥ a1 then (some (decide (a0 ≤ a2))) else (some false)) = some r := h
 clear h
 by_cases c4 : a0 ≥ a1
 ·rw [if_pos c4] at H
  have c4b0 : decide (a1 ≤ a0) = true := decide_eq_true c4
  clear c4
  obtain rfl := Option.some.inj H
  go_enter Tryd.func45, Tryd.ntmps45
  go_wp2
  go_ret
  exact ⟨by first | rfl | (simp; done) | (simp [*]; done), by repeat (first | exact Drawn0.refl _ | apply Drawn0.step)⟩
 ·rw [if_neg c4] at H
  have c4b0 : decide (a1 ≤ a0) = false := decide_eq_false c4
  clear c4
  obtain rfl := Option.some.inj H
  go_enter Tryd.func45, Tryd.ntmps45
  go_wp2
  go_ret
  exact ⟨by first | rfl | (simp; done) | (simp [*]; done), by repeat (first | exact Drawn0.refl _ | apply Drawn0.step)⟩
set_option maxHeartbeats 8000000 in
set_option maxRecDepth 100000 in
theorem spec_l05Answer.calls (a0_0 : Int) (a0_1 : Int) (a0_2 : Int) (a0_3 : Int) (r : Bool) (w : World) (h : spec_l05Answer.f a0_0 a0_1 a0_2 a0_3 = some r) :
  Calls Tryd.prog 92 #[.agg #[.int .i64 a0_0, .int .i64 a0_1, .int .i64 a0_2, .int .i64 a0_3]] w fun e w' => e = .returned (.bool r) ∧ Below w.heap.size w w' := by
 have hu33 := Tryd.underlying33
 have HB := am_ (Below.refl w.heap.size w)
 have H : ((spec_l01In.f a0_0 1 8).bind fun t269 => (if t269 = true then ((spec_l01In.f a0_1 0 1000000).bind fun t270 => (if t270 = true then ((spec_l01In.f a0_2 (-1) 255).bind fun t271 => (if t271 = true then ((spec_l01In.f a0_3 0 2000000000).bind fun t272 => (some t272)) else (some false))) else (some false))) else (some false))) = some r := h
 clear h
 replace H := Option.bind_eq_some_iff.mp H
 obtain ⟨t269, A20, H⟩ := H
 replace H : (if t269 = true then ((spec_l01In.f a0_1 0 1000000).bind fun t270 => (if t270 = true then ((spec_l01In.f a0_2 (-1) 255).bind fun t271 => (if t271 = true then ((spec_l01In.f a0_3 0 2000000000).bind fun t272 => (some t272)) else (some false))) else (some false))) else (some false)) = some r := H
 have A2 := am_ A20
 clear A20
 by_cases c3 : t269 = true
 ·subst c3
  have H1 : ((spec_l01In.f a0_1 0 1000000).bind fun t270 => (if t270 = true then ((spec_l01In.f a0_2 (-1) 255).bind fun t271 => (if t271 = true then ((spec_l01In.f a0_3 0 2000000000).bind fun t272 => (some t272)) else (some false))) else (some false))) = some r := by rw [if_pos rfl] at H; exact H
  clear H
  have H := H1
  clear H1
  replace H := Option.bind_eq_some_iff.mp H
  obtain ⟨t270, A40, H⟩ := H
  replace H : (if t270 = true then ((spec_l01In.f a0_2 (-1) 255).bind fun t271 => (if t271 = true then ((spec_l01In.f a0_3 0 2000000000).bind fun t272 => (some t272)) else (some false))) else (some false)) = some r := H
  have A4 := am_ A40
  clear A40
  by_cases c5 : t270 = true
  ·subst c5
   have H1 : ((spec_l01In.f a0_2 (-1) 255).bind fun t271 => (if t271 = true then ((spec_l01In.f a0_3 0 2000000000).bind fun t272 => (some t272)) else (some false))) = some r := by rw [if_pos rfl] at H; exact H
   clear H
   have H := H1
   clear H1
   replace H := Option.bind_eq_some_iff.mp H
   obtain ⟨t271, A60, H⟩ := H
   replace H : (if t271 = true then ((spec_l01In.f a0_3 0 2000000000).bind fun t272 => (some t272)) else (some false)) = some r := H
   have A6 := am_ A60
   clear A60
   by_cases c7 : t271 = true
   ·subst c7
    have H1 : ((spec_l01In.f a0_3 0 2000000000).bind fun t272 => (some t272)) = some r := by rw [if_pos rfl] at H; exact H
    clear H
    have H := H1
    clear H1
    replace H := Option.bind_eq_some_iff.mp H
    obtain ⟨t272, A80, H⟩ := H
    replace H : (some t272) = some r := H
    have A8 := am_ A80
    clear A80
    obtain rfl := Option.some.inj H
    go_enter Tryd.func92, Tryd.ntmps92
    go_wp2_with (first | ((with_reducible refine gate_dst (N := 1) rfl ?_); refine box_event ?hg (N := 1) ?hd (cs := #[.int .i64 a0_0, .int .i64 a0_1, .int .i64 a0_2, .int .i64 a0_3]) (t := 33) ?hr ?_; (case hd => rfl); (case hg => rfl); (case hr => first | (go_simp; done) | (go_simp; rfl)); intro gb268 hg w9 hbox hb; have n0_ := am_ (below_step (by repeat (first | (with_reducible first | exact HB.out | apply b1_ | apply b2_ | apply b3_) | exact HB.out)) hb); have n1_ := am_ (hbox); have n2_ := am_ ((by rw [hg]; exact (below_size (by repeat (first | (with_reducible first | exact HB.out | apply b1_ | apply b2_ | apply b3_) | exact HB.out))) : w.heap.size ≤ gb268)); have n3_ := am_ ((by rw [hg]; exact (below_size (by repeat (first | (with_reducible first | exact HB.out | apply b1_ | apply b2_ | apply b3_) | exact HB.out))) : w.heap.size ≤ gb268)); clear HB; have HB := n0_; have BK268 := n1_; have GW268 := n2_; have GE268 := n3_; clear n0_ n1_ n2_ n3_; clear hb hbox hg; have hcz10_0 : w9.cell? ⟨gb268, 0, none⟩ = some (.int .i64 a0_0) := (blk_cell BK268.out 0).trans rfl; have hcz10_1 : w9.cell? ⟨gb268, 1, none⟩ = some (.int .i64 a0_1) := (blk_cell BK268.out 1).trans rfl; have hcz10_2 : w9.cell? ⟨gb268, 2, none⟩ = some (.int .i64 a0_2) := (blk_cell BK268.out 2).trans rfl; have hcz10_3 : w9.cell? ⟨gb268, 3, none⟩ = some (.int .i64 a0_3) := (blk_cell BK268.out 3).trans rfl; have hfz10_0 := blk_frozen BK268.out 0; have hfz10_1 := blk_frozen BK268.out 1; have hfz10_2 := blk_frozen BK268.out 2; have hfz10_3 := blk_frozen BK268.out 3) | ((with_reducible refine gate_callee (f := 45) rfl ?_); refine goesL_ (some 5) rfl rfl Tryd.func45 (by kernel_rfl) rfl #[.int .i64 a0_0, .int .i64 1, .int .i64 8] rfl (by (try simp only [m1_, m2_, m3_]); first | done | rfl | (simp only [d1_, d2_]; rfl)) ?_; (with_reducible refine (spec_l01In.calls a0_0 1 8 true _ A2.out).mono ?_); rintro e w' ⟨rfl, ⟨nd, rfl⟩⟩; refine ⟨_, rfl, ?_⟩) | (go_at_call 45; (with_reducible refine (spec_l01In.calls a0_1 0 1000000 true _ A4.out).mono ?_); rintro e w' ⟨rfl, ⟨nd, rfl⟩⟩) | (go_at_call 45; (with_reducible refine (spec_l01In.calls a0_2 (-1) 255 true _ A6.out).mono ?_); rintro e w' ⟨rfl, ⟨nd, rfl⟩⟩) | (go_at_call 45; (with_reducible refine (spec_l01In.calls a0_3 0 2000000000 t272 _ A8.out).mono ?_); rintro e w' ⟨rfl, ⟨nd, rfl⟩⟩))
    go_ret
    exact ⟨by first | rfl | (simp [e1_, e2_] <;> rfl) | (simp [*, e1_, e2_] <;> rfl) | (simp [e3_, e4_]; done) | (simp [*, e3_, e4_]; done), by repeat (first | (with_reducible first | exact HB.out | apply b1_ | apply b2_ | apply b3_ | refine below_set ?_ GE268.out) | exact HB.out)⟩
   ·replace c7 := Bool.eq_false_iff.mpr c7
    subst c7
    have H1 : (some false) = some r := by rw [if_neg (show ¬ (false = true) by decide)] at H; exact H
    clear H
    have H := H1
    clear H1
    obtain rfl := Option.some.inj H
    go_enter Tryd.func92, Tryd.ntmps92
    go_wp2_with (first | ((with_reducible refine gate_dst (N := 1) rfl ?_); refine box_event ?hg (N := 1) ?hd (cs := #[.int .i64 a0_0, .int .i64 a0_1, .int .i64 a0_2, .int .i64 a0_3]) (t := 33) ?hr ?_; (case hd => rfl); (case hg => rfl); (case hr => first | (go_simp; done) | (go_simp; rfl)); intro gb268 hg w11 hbox hb; have n0_ := am_ (below_step (by repeat (first | (with_reducible first | exact HB.out | apply b1_ | apply b2_ | apply b3_) | exact HB.out)) hb); have n1_ := am_ (hbox); have n2_ := am_ ((by rw [hg]; exact (below_size (by repeat (first | (with_reducible first | exact HB.out | apply b1_ | apply b2_ | apply b3_) | exact HB.out))) : w.heap.size ≤ gb268)); have n3_ := am_ ((by rw [hg]; exact (below_size (by repeat (first | (with_reducible first | exact HB.out | apply b1_ | apply b2_ | apply b3_) | exact HB.out))) : w.heap.size ≤ gb268)); clear HB; have HB := n0_; have BK268 := n1_; have GW268 := n2_; have GE268 := n3_; clear n0_ n1_ n2_ n3_; clear hb hbox hg; have hcz12_0 : w11.cell? ⟨gb268, 0, none⟩ = some (.int .i64 a0_0) := (blk_cell BK268.out 0).trans rfl; have hcz12_1 : w11.cell? ⟨gb268, 1, none⟩ = some (.int .i64 a0_1) := (blk_cell BK268.out 1).trans rfl; have hcz12_2 : w11.cell? ⟨gb268, 2, none⟩ = some (.int .i64 a0_2) := (blk_cell BK268.out 2).trans rfl; have hcz12_3 : w11.cell? ⟨gb268, 3, none⟩ = some (.int .i64 a0_3) := (blk_cell BK268.out 3).trans rfl; have hfz12_0 := blk_frozen BK268.out 0; have hfz12_1 := blk_frozen BK268.out 1; have hfz12_2 := blk_frozen BK268.out 2; have hfz12_3 := blk_frozen BK268.out 3) | ((with_reducible refine gate_callee (f := 45) rfl ?_); refine goesL_ (some 5) rfl rfl Tryd.func45 (by kernel_rfl) rfl #[.int .i64 a0_0, .int .i64 1, .int .i64 8] rfl (by (try simp only [m1_, m2_, m3_]); first | done | rfl | (simp only [d1_, d2_]; rfl)) ?_; (with_reducible refine (spec_l01In.calls a0_0 1 8 true _ A2.out).mono ?_); rintro e w' ⟨rfl, ⟨nd, rfl⟩⟩; refine ⟨_, rfl, ?_⟩) | (go_at_call 45; (with_reducible refine (spec_l01In.calls a0_1 0 1000000 true _ A4.out).mono ?_); rintro e w' ⟨rfl, ⟨nd, rfl⟩⟩) | (go_at_call 45; (with_reducible refine (spec_l01In.calls a0_2 (-1) 255 false _ A6.out).mono ?_); rintro e w' ⟨rfl, ⟨nd, rfl⟩⟩))
    go_ret
    exact ⟨by first | rfl | (simp [e1_, e2_] <;> rfl) | (simp [*, e1_, e2_] <;> rfl) | (simp [e3_, e4_]; done) | (simp [*, e3_, e4_]; done), by repeat (first | (with_reducible first | exact HB.out | apply b1_ | apply b2_ | apply b3_ | refine below_set ?_ GE268.out) | exact HB.out)⟩
  ·replace c5 := Bool.eq_false_iff.mpr c5
   subst c5
   have H1 : (some false) = some r := by rw [if_neg (show ¬ (false = true) by decide)] at H; exact H
   clear H
   have H := H1
   clear H1
   obtain rfl := Option.some.inj H
   go_enter Tryd.func92, Tryd.ntmps92
   go_wp2_with (first | ((with_reducible refine gate_dst (N := 1) rfl ?_); refine box_event ?hg (N := 1) ?hd (cs := #[.int .i64 a0_0, .int .i64 a0_1, .int .i64 a0_2, .int .i64 a0_3]) (t := 33) ?hr ?_; (case hd => rfl); (case hg => rfl); (case hr => first | (go_simp; done) | (go_simp; rfl)); intro gb268 hg w13 hbox hb; have n0_ := am_ (below_step (by repeat (first | (with_reducible first | exact HB.out | apply b1_ | apply b2_ | apply b3_) | exact HB.out)) hb); have n1_ := am_ (hbox); have n2_ := am_ ((by rw [hg]; exact (below_size (by repeat (first | (with_reducible first | exact HB.out | apply b1_ | apply b2_ | apply b3_) | exact HB.out))) : w.heap.size ≤ gb268)); have n3_ := am_ ((by rw [hg]; exact (below_size (by repeat (first | (with_reducible first | exact HB.out | apply b1_ | apply b2_ | apply b3_) | exact HB.out))) : w.heap.size ≤ gb268)); clear HB; have HB := n0_; have BK268 := n1_; have GW268 := n2_; have GE268 := n3_; clear n0_ n1_ n2_ n3_; clear hb hbox hg; have hcz14_0 : w13.cell? ⟨gb268, 0, none⟩ = some (.int .i64 a0_0) := (blk_cell BK268.out 0).trans rfl; have hcz14_1 : w13.cell? ⟨gb268, 1, none⟩ = some (.int .i64 a0_1) := (blk_cell BK268.out 1).trans rfl; have hcz14_2 : w13.cell? ⟨gb268, 2, none⟩ = some (.int .i64 a0_2) := (blk_cell BK268.out 2).trans rfl; have hcz14_3 : w13.cell? ⟨gb268, 3, none⟩ = some (.int .i64 a0_3) := (blk_cell BK268.out 3).trans rfl; have hfz14_0 := blk_frozen BK268.out 0; have hfz14_1 := blk_frozen BK268.out 1; have hfz14_2 := blk_frozen BK268.out 2; have hfz14_3 := blk_frozen BK268.out 3) | ((with_reducible refine gate_callee (f := 45) rfl ?_); refine goesL_ (some 5) rfl rfl Tryd.func45 (by kernel_rfl) rfl #[.int .i64 a0_0, .int .i64 1, .int .i64 8] rfl (by (try simp only [m1_, m2_, m3_]); first | done | rfl | (simp only [d1_, d2_]; rfl)) ?_; (with_reducible refine (spec_l01In.calls a0_0 1 8 true _ A2.out).mono ?_); rintro e w' ⟨rfl, ⟨nd, rfl⟩⟩; refine ⟨_, rfl, ?_⟩) | (go_at_call 45; (with_reducible refine (spec_l01In.calls a0_1 0 1000000 false _ A4.out).mono ?_); rintro e w' ⟨rfl, ⟨nd, rfl⟩⟩))
   go_ret
   exact ⟨by first | rfl | (simp [e1_, e2_] <;> rfl) | (simp [*, e1_, e2_] <;> rfl) | (simp [e3_, e4_]; done) | (simp [*, e3_, e4_]; done), by repeat (first | (with_reducible first | exact HB.out | apply b1_ | apply b2_ | apply b3_ | refine below_set ?_ GE268.out) | exact HB.out)⟩
 ·replace c3 := Bool.eq_false_iff.mpr c3
  subst c3
  have H1 : (some false) = some r := by rw [if_neg (show ¬ (false = true) by decide)] at H; exact H
  clear H
  have H := H1
  clear H1
  obtain rfl := Option.some.inj H
  go_enter Tryd.func92, Tryd.ntmps92
  go_wp2_with (first | ((with_reducible refine gate_dst (N := 1) rfl ?_); refine box_event ?hg (N := 1) ?hd (cs := #[.int .i64 a0_0, .int .i64 a0_1, .int .i64 a0_2, .int .i64 a0_3]) (t := 33) ?hr ?_; (case hd => rfl); (case hg => rfl); (case hr => first | (go_simp; done) | (go_simp; rfl)); intro gb268 hg w15 hbox hb; have n0_ := am_ (below_step (by repeat (first | (with_reducible first | exact HB.out | apply b1_ | apply b2_ | apply b3_) | exact HB.out)) hb); have n1_ := am_ (hbox); have n2_ := am_ ((by rw [hg]; exact (below_size (by repeat (first | (with_reducible first | exact HB.out | apply b1_ | apply b2_ | apply b3_) | exact HB.out))) : w.heap.size ≤ gb268)); have n3_ := am_ ((by rw [hg]; exact (below_size (by repeat (first | (with_reducible first | exact HB.out | apply b1_ | apply b2_ | apply b3_) | exact HB.out))) : w.heap.size ≤ gb268)); clear HB; have HB := n0_; have BK268 := n1_; have GW268 := n2_; have GE268 := n3_; clear n0_ n1_ n2_ n3_; clear hb hbox hg; have hcz16_0 : w15.cell? ⟨gb268, 0, none⟩ = some (.int .i64 a0_0) := (blk_cell BK268.out 0).trans rfl; have hcz16_1 : w15.cell? ⟨gb268, 1, none⟩ = some (.int .i64 a0_1) := (blk_cell BK268.out 1).trans rfl; have hcz16_2 : w15.cell? ⟨gb268, 2, none⟩ = some (.int .i64 a0_2) := (blk_cell BK268.out 2).trans rfl; have hcz16_3 : w15.cell? ⟨gb268, 3, none⟩ = some (.int .i64 a0_3) := (blk_cell BK268.out 3).trans rfl; have hfz16_0 := blk_frozen BK268.out 0; have hfz16_1 := blk_frozen BK268.out 1; have hfz16_2 := blk_frozen BK268.out 2; have hfz16_3 := blk_frozen BK268.out 3) | ((with_reducible refine gate_callee (f := 45) rfl ?_); refine goesL_ (some 5) rfl rfl Tryd.func45 (by kernel_rfl) rfl #[.int .i64 a0_0, .int .i64 1, .int .i64 8] rfl (by (try simp only [m1_, m2_, m3_]); first | done | rfl | (simp only [d1_, d2_]; rfl)) ?_; (with_reducible refine (spec_l01In.calls a0_0 1 8 false _ A2.out).mono ?_); rintro e w' ⟨rfl, ⟨nd, rfl⟩⟩; refine ⟨_, rfl, ?_⟩))
  go_ret
  exact ⟨by first | rfl | (simp [e1_, e2_] <;> rfl) | (simp [*, e1_, e2_] <;> rfl) | (simp [e3_, e4_]; done) | (simp [*, e3_, e4_]; done), by repeat (first | (with_reducible first | exact HB.out | apply b1_ | apply b2_ | apply b3_ | refine below_set ?_ GE268.out) | exact HB.out)⟩
set_option maxHeartbeats 8000000 in
set_option maxRecDepth 100000 in
theorem spec_l11Form.calls (a0_0 : Int) (a0_1 : Int) (a0_2 : Int) (a0_3 : Int) (a0_4 : Int) (a0_5 : Int) (a0_6 : Int) (a0_7 : ByteArray) (r : Bool) (w : World) (h : spec_l11Form.f a0_0 a0_1 a0_2 a0_3 a0_4 a0_5 a0_6 a0_7 = some r) :
  Calls Tryd.prog 54 #[.agg #[.int .i64 a0_0, .int .i64 a0_1, .int .i64 a0_2, .int .i64 a0_3, .int .i64 a0_4, .int .i64 a0_5, .int .i64 a0_6, .string a0_7]] w fun e w' => e = .returned (.bool r) ∧ Below w.heap.size w w' := by
 have hu35 := Tryd.underlying35
 have hu33 := Tryd.underlying33
 have HB := am_ (Below.refl w.heap.size w)
 have H : ((spec_l01In.f a0_0 0 6).bind fun t274 => (if t274 = true then ((spec_l01In.f a0_1 0 255).bind fun t275 => (if t275 = true then ((spec_l01In.f a0_2 1 65535).bind fun t276 => (if t276 = true then ((spec_l05Answer.f a0_3 a0_4 a0_5 a0_6).bind fun t277 => (some t277)) else (some false))) else (some false))) else (some false))) = some r := h
 clear h
 replace H := Option.bind_eq_some_iff.mp H
 obtain ⟨t274, A20, H⟩ := H
 replace H : (if t274 = true then ((spec_l01In.f a0_1 0 255).bind fun t275 => (if t275 = true then ((spec_l01In.f a0_2 1 65535).bind fun t276 => (if t276 = true then ((spec_l05Answer.f a0_3 a0_4 a0_5 a0_6).bind fun t277 => (some t277)) else (some false))) else (some false))) else (some false)) = some r := H
 have A2 := am_ A20
 clear A20
 by_cases c3 : t274 = true
 ·subst c3
  have H1 : ((spec_l01In.f a0_1 0 255).bind fun t275 => (if t275 = true then ((spec_l01In.f a0_2 1 65535).bind fun t276 => (if t276 = true then ((spec_l05Answer.f a0_3 a0_4 a0_5 a0_6).bind fun t277 => (some t277)) else (some false))) else (some false))) = some r := by rw [if_pos rfl] at H; exact H
  clear H
  have H := H1
  clear H1
  replace H := Option.bind_eq_some_iff.mp H
  obtain ⟨t275, A40, H⟩ := H
  replace H : (if t275 = true then ((spec_l01In.f a0_2 1 65535).bind fun t276 => (if t276 = true then ((spec_l05Answer.f a0_3 a0_4 a0_5 a0_6).bind fun t277 => (some t277)) else (some false))) else (some false)) = some r := H
  have A4 := am_ A40
  clear A40
  by_cases c5 : t275 = true
  ·subst c5
   have H1 : ((spec_l01In.f a0_2 1 65535).bind fun t276 => (if t276 = true then ((spec_l05Answer.f a0_3 a0_4 a0_5 a0_6).bind fun t277 => (some t277)) else (some false))) = some r := by rw [if_pos rfl] at H; exact H
   clear H
   have H := H1
   clear H1
   replace H := Option.bind_eq_some_iff.mp H
   obtain ⟨t276, A60, H⟩ := H
   replace H : (if t276 = true then ((spec_l05Answer.f a0_3 a0_4 a0_5 a0_6).bind fun t277 => (some t277)) else (some false)) = some r := H
   have A6 := am_ A60
   clear A60
   by_cases c7 : t276 = true
   ·subst c7
    have H1 : ((spec_l05Answer.f a0_3 a0_4 a0_5 a0_6).bind fun t277 => (some t277)) = some r := by rw [if_pos rfl] at H; exact H
    clear H
    have H := H1
    clear H1
    replace H := Option.bind_eq_some_iff.mp H
    obtain ⟨t277, A80, H⟩ := H
    replace H : (some t277) = some r := H
    have A8 := am_ A80
    clear A80
    obtain rfl := Option.some.inj H
    go_enter Tryd.func54, Tryd.ntmps54
    go_wp2_with (first | ((with_reducible refine gate_dst (N := 1) rfl ?_); refine box_event ?hg (N := 1) ?hd (cs := #[.int .i64 a0_0, .int .i64 a0_1, .int .i64 a0_2, .int .i64 a0_3, .int .i64 a0_4, .int .i64 a0_5, .int .i64 a0_6, .string a0_7]) (t := 35) ?hr ?_; (case hd => rfl); (case hg => rfl); (case hr => first | (go_simp; done) | (go_simp; rfl)); intro gb273 hg w9 hbox hb; have n0_ := am_ (below_step (by repeat (first | (with_reducible first | exact HB.out | apply b1_ | apply b2_ | apply b3_) | exact HB.out)) hb); have n1_ := am_ (hbox); have n2_ := am_ ((by rw [hg]; exact (below_size (by repeat (first | (with_reducible first | exact HB.out | apply b1_ | apply b2_ | apply b3_) | exact HB.out))) : w.heap.size ≤ gb273)); have n3_ := am_ ((by rw [hg]; exact (below_size (by repeat (first | (with_reducible first | exact HB.out | apply b1_ | apply b2_ | apply b3_) | exact HB.out))) : w.heap.size ≤ gb273)); clear HB; have HB := n0_; have BK273 := n1_; have GW273 := n2_; have GE273 := n3_; clear n0_ n1_ n2_ n3_; clear hb hbox hg; have hcz10_0 : w9.cell? ⟨gb273, 0, none⟩ = some (.int .i64 a0_0) := (blk_cell BK273.out 0).trans rfl; have hcz10_1 : w9.cell? ⟨gb273, 1, none⟩ = some (.int .i64 a0_1) := (blk_cell BK273.out 1).trans rfl; have hcz10_2 : w9.cell? ⟨gb273, 2, none⟩ = some (.int .i64 a0_2) := (blk_cell BK273.out 2).trans rfl; have hcz10_3 : w9.cell? ⟨gb273, 3, none⟩ = some (.int .i64 a0_3) := (blk_cell BK273.out 3).trans rfl; have hcz10_4 : w9.cell? ⟨gb273, 4, none⟩ = some (.int .i64 a0_4) := (blk_cell BK273.out 4).trans rfl; have hcz10_5 : w9.cell? ⟨gb273, 5, none⟩ = some (.int .i64 a0_5) := (blk_cell BK273.out 5).trans rfl; have hcz10_6 : w9.cell? ⟨gb273, 6, none⟩ = some (.int .i64 a0_6) := (blk_cell BK273.out 6).trans rfl; have hcz10_7 : w9.cell? ⟨gb273, 7, none⟩ = some (.string a0_7) := (blk_cell BK273.out 7).trans rfl; have hfz10_0 := blk_frozen BK273.out 0; have hfz10_1 := blk_frozen BK273.out 1; have hfz10_2 := blk_frozen BK273.out 2; have hfz10_3 := blk_frozen BK273.out 3; have hfz10_4 := blk_frozen BK273.out 4; have hfz10_5 := blk_frozen BK273.out 5; have hfz10_6 := blk_frozen BK273.out 6; have hfz10_7 := blk_frozen BK273.out 7) | ((with_reducible refine gate_callee (f := 45) rfl ?_); refine goesL_ (some 5) rfl rfl Tryd.func45 (by kernel_rfl) rfl #[.int .i64 a0_0, .int .i64 0, .int .i64 6] rfl (by (try simp only [m1_, m2_, m3_]); first | done | rfl | (simp only [d1_, d2_]; rfl)) ?_; (with_reducible refine (spec_l01In.calls a0_0 0 6 true _ A2.out).mono ?_); rintro e w' ⟨rfl, ⟨nd, rfl⟩⟩; refine ⟨_, rfl, ?_⟩) | (go_at_call 45; (with_reducible refine (spec_l01In.calls a0_1 0 255 true _ A4.out).mono ?_); rintro e w' ⟨rfl, ⟨nd, rfl⟩⟩) | (go_at_call 45; (with_reducible refine (spec_l01In.calls a0_2 1 65535 true _ A6.out).mono ?_); rintro e w' ⟨rfl, ⟨nd, rfl⟩⟩) | (go_at_call 92; (with_reducible refine (spec_l05Answer.calls a0_3 a0_4 a0_5 a0_6 t277 _ A8.out).mono ?_); rintro e w11 ⟨rfl, hb⟩; have n0_ := am_ (blk_below (g := gb273) (o := .cells #[.int .i64 a0_0, .int .i64 a0_1, .int .i64 a0_2, .int .i64 a0_3, .int .i64 a0_4, .int .i64 a0_5, .int .i64 a0_6, .string a0_7] 35 (0, 0)) (by (with_reducible repeat (first | apply k1_ | apply k2_ | apply k3_)); exact BK273.out) hb); have n1_ := am_ (below_step (by repeat (first | (with_reducible first | exact HB.out | apply b1_ | apply b2_ | apply b3_ | refine below_set ?_ GE273.out) | exact HB.out)) hb); clear BK273; clear HB; have BK273 := n0_; have HB := n1_; clear n0_ n1_; (try clear hb); (try clear hb2); (try clear hk); (try clear hi)))
    go_ret
    exact ⟨by first | rfl | (simp [e1_, e2_] <;> rfl) | (simp [*, e1_, e2_] <;> rfl) | (simp [e3_, e4_]; done) | (simp [*, e3_, e4_]; done), by repeat (first | (with_reducible first | exact HB.out | apply b1_ | apply b2_ | apply b3_ | refine below_set ?_ GE273.out) | exact HB.out)⟩
   ·replace c7 := Bool.eq_false_iff.mpr c7
    subst c7
    have H1 : (some false) = some r := by rw [if_neg (show ¬ (false = true) by decide)] at H; exact H
    clear H
    have H := H1
    clear H1
    obtain rfl := Option.some.inj H
    go_enter Tryd.func54, Tryd.ntmps54
    go_wp2_with (first | ((with_reducible refine gate_dst (N := 1) rfl ?_); refine box_event ?hg (N := 1) ?hd (cs := #[.int .i64 a0_0, .int .i64 a0_1, .int .i64 a0_2, .int .i64 a0_3, .int .i64 a0_4, .int .i64 a0_5, .int .i64 a0_6, .string a0_7]) (t := 35) ?hr ?_; (case hd => rfl); (case hg => rfl); (case hr => first | (go_simp; done) | (go_simp; rfl)); intro gb273 hg w12 hbox hb; have n0_ := am_ (below_step (by repeat (first | (with_reducible first | exact HB.out | apply b1_ | apply b2_ | apply b3_) | exact HB.out)) hb); have n1_ := am_ (hbox); have n2_ := am_ ((by rw [hg]; exact (below_size (by repeat (first | (with_reducible first | exact HB.out | apply b1_ | apply b2_ | apply b3_) | exact HB.out))) : w.heap.size ≤ gb273)); have n3_ := am_ ((by rw [hg]; exact (below_size (by repeat (first | (with_reducible first | exact HB.out | apply b1_ | apply b2_ | apply b3_) | exact HB.out))) : w.heap.size ≤ gb273)); clear HB; have HB := n0_; have BK273 := n1_; have GW273 := n2_; have GE273 := n3_; clear n0_ n1_ n2_ n3_; clear hb hbox hg; have hcz13_0 : w12.cell? ⟨gb273, 0, none⟩ = some (.int .i64 a0_0) := (blk_cell BK273.out 0).trans rfl; have hcz13_1 : w12.cell? ⟨gb273, 1, none⟩ = some (.int .i64 a0_1) := (blk_cell BK273.out 1).trans rfl; have hcz13_2 : w12.cell? ⟨gb273, 2, none⟩ = some (.int .i64 a0_2) := (blk_cell BK273.out 2).trans rfl; have hcz13_3 : w12.cell? ⟨gb273, 3, none⟩ = some (.int .i64 a0_3) := (blk_cell BK273.out 3).trans rfl; have hcz13_4 : w12.cell? ⟨gb273, 4, none⟩ = some (.int .i64 a0_4) := (blk_cell BK273.out 4).trans rfl; have hcz13_5 : w12.cell? ⟨gb273, 5, none⟩ = some (.int .i64 a0_5) := (blk_cell BK273.out 5).trans rfl; have hcz13_6 : w12.cell? ⟨gb273, 6, none⟩ = some (.int .i64 a0_6) := (blk_cell BK273.out 6).trans rfl; have hcz13_7 : w12.cell? ⟨gb273, 7, none⟩ = some (.string a0_7) := (blk_cell BK273.out 7).trans rfl; have hfz13_0 := blk_frozen BK273.out 0; have hfz13_1 := blk_frozen BK273.out 1; have hfz13_2 := blk_frozen BK273.out 2; have hfz13_3 := blk_frozen BK273.out 3; have hfz13_4 := blk_frozen BK273.out 4; have hfz13_5 := blk_frozen BK273.out 5; have hfz13_6 := blk_frozen BK273.out 6; have hfz13_7 := blk_frozen BK273.out 7) | ((with_reducible refine gate_callee (f := 45) rfl ?_); refine goesL_ (some 5) rfl rfl Tryd.func45 (by kernel_rfl) rfl #[.int .i64 a0_0, .int .i64 0, .int .i64 6] rfl (by (try simp only [m1_, m2_, m3_]); first | done | rfl | (simp only [d1_, d2_]; rfl)) ?_; (with_reducible refine (spec_l01In.calls a0_0 0 6 true _ A2.out).mono ?_); rintro e w' ⟨rfl, ⟨nd, rfl⟩⟩; refine ⟨_, rfl, ?_⟩) | (go_at_call 45; (with_reducible refine (spec_l01In.calls a0_1 0 255 true _ A4.out).mono ?_); rintro e w' ⟨rfl, ⟨nd, rfl⟩⟩) | (go_at_call 45; (with_reducible refine (spec_l01In.calls a0_2 1 65535 false _ A6.out).mono ?_); rintro e w' ⟨rfl, ⟨nd, rfl⟩⟩))
    go_ret
    exact ⟨by first | rfl | (simp [e1_, e2_] <;> rfl) | (simp [*, e1_, e2_] <;> rfl) | (simp [e3_, e4_]; done) | (simp [*, e3_, e4_]; done), by repeat (first | (with_reducible first | exact HB.out | apply b1_ | apply b2_ | apply b3_ | refine below_set ?_ GE273.out) | exact HB.out)⟩
  ·replace c5 := Bool.eq_false_iff.mpr c5
   subst c5
   have H1 : (some false) = some r := by rw [if_neg (show ¬ (false = true) by decide)] at H; exact H
   clear H
   have H := H1
   clear H1
   obtain rfl := Option.some.inj H
   go_enter Tryd.func54, Tryd.ntmps54
   go_wp2_with (first | ((with_reducible refine gate_dst (N := 1) rfl ?_); refine box_event ?hg (N := 1) ?hd (cs := #[.int .i64 a0_0, .int .i64 a0_1, .int .i64 a0_2, .int .i64 a0_3, .int .i64 a0_4, .int .i64 a0_5, .int .i64 a0_6, .string a0_7]) (t := 35) ?hr ?_; (case hd => rfl); (case hg => rfl); (case hr => first | (go_simp; done) | (go_simp; rfl)); intro gb273 hg w14 hbox hb; have n0_ := am_ (below_step (by repeat (first | (with_reducible first | exact HB.out | apply b1_ | apply b2_ | apply b3_) | exact HB.out)) hb); have n1_ := am_ (hbox); have n2_ := am_ ((by rw [hg]; exact (below_size (by repeat (first | (with_reducible first | exact HB.out | apply b1_ | apply b2_ | apply b3_) | exact HB.out))) : w.heap.size ≤ gb273)); have n3_ := am_ ((by rw [hg]; exact (below_size (by repeat (first | (with_reducible first | exact HB.out | apply b1_ | apply b2_ | apply b3_) | exact HB.out))) : w.heap.size ≤ gb273)); clear HB; have HB := n0_; have BK273 := n1_; have GW273 := n2_; have GE273 := n3_; clear n0_ n1_ n2_ n3_; clear hb hbox hg; have hcz15_0 : w14.cell? ⟨gb273, 0, none⟩ = some (.int .i64 a0_0) := (blk_cell BK273.out 0).trans rfl; have hcz15_1 : w14.cell? ⟨gb273, 1, none⟩ = some (.int .i64 a0_1) := (blk_cell BK273.out 1).trans rfl; have hcz15_2 : w14.cell? ⟨gb273, 2, none⟩ = some (.int .i64 a0_2) := (blk_cell BK273.out 2).trans rfl; have hcz15_3 : w14.cell? ⟨gb273, 3, none⟩ = some (.int .i64 a0_3) := (blk_cell BK273.out 3).trans rfl; have hcz15_4 : w14.cell? ⟨gb273, 4, none⟩ = some (.int .i64 a0_4) := (blk_cell BK273.out 4).trans rfl; have hcz15_5 : w14.cell? ⟨gb273, 5, none⟩ = some (.int .i64 a0_5) := (blk_cell BK273.out 5).trans rfl; have hcz15_6 : w14.cell? ⟨gb273, 6, none⟩ = some (.int .i64 a0_6) := (blk_cell BK273.out 6).trans rfl; have hcz15_7 : w14.cell? ⟨gb273, 7, none⟩ = some (.string a0_7) := (blk_cell BK273.out 7).trans rfl; have hfz15_0 := blk_frozen BK273.out 0; have hfz15_1 := blk_frozen BK273.out 1; have hfz15_2 := blk_frozen BK273.out 2; have hfz15_3 := blk_frozen BK273.out 3; have hfz15_4 := blk_frozen BK273.out 4; have hfz15_5 := blk_frozen BK273.out 5; have hfz15_6 := blk_frozen BK273.out 6; have hfz15_7 := blk_frozen BK273.out 7) | ((with_reducible refine gate_callee (f := 45) rfl ?_); refine goesL_ (some 5) rfl rfl Tryd.func45 (by kernel_rfl) rfl #[.int .i64 a0_0, .int .i64 0, .int .i64 6] rfl (by (try simp only [m1_, m2_, m3_]); first | done | rfl | (simp only [d1_, d2_]; rfl)) ?_; (with_reducible refine (spec_l01In.calls a0_0 0 6 true _ A2.out).mono ?_); rintro e w' ⟨rfl, ⟨nd, rfl⟩⟩; refine ⟨_, rfl, ?_⟩) | (go_at_call 45; (with_reducible refine (spec_l01In.calls a0_1 0 255 false _ A4.out).mono ?_); rintro e w' ⟨rfl, ⟨nd, rfl⟩⟩))
   go_ret
   exact ⟨by first | rfl | (simp [e1_, e2_] <;> rfl) | (simp [*, e1_, e2_] <;> rfl) | (simp [e3_, e4_]; done) | (simp [*, e3_, e4_]; done), by repeat (first | (with_reducible first | exact HB.out | apply b1_ | apply b2_ | apply b3_ | refine below_set ?_ GE273.out) | exact HB.out)⟩
 ·replace c3 := Bool.eq_false_iff.mpr c3
  subst c3
  have H1 : (some false) = some r := by rw [if_neg (show ¬ (false = true) by decide)] at H; exact H
  clear H
  have H := H1
  clear H1
  obtain rfl := Option.some.inj H
  go_enter Tryd.func54, Tryd.ntmps54
  go_wp2_with (first | ((with_reducible refine gate_dst (N := 1) rfl ?_); refine box_event ?hg (N := 1) ?hd (cs := #[.int .i64 a0_0, .int .i64 a0_1, .int .i64 a0_2, .int .i64 a0_3, .int .i64 a0_4, .int .i64 a0_5, .int .i64 a0_6, .string a0_7]) (t := 35) ?hr ?_; (case hd => rfl); (case hg => rfl); (case hr => first | (go_simp; done) | (go_simp; rfl)); intro gb273 hg w16 hbox hb; have n0_ := am_ (below_step (by repeat (first | (with_reducible first | exact HB.out | apply b1_ | apply b2_ | apply b3_) | exact HB.out)) hb); have n1_ := am_ (hbox); have n2_ := am_ ((by rw [hg]; exact (below_size (by repeat (first | (with_reducible first | exact HB.out | apply b1_ | apply b2_ | apply b3_) | exact HB.out))) : w.heap.size ≤ gb273)); have n3_ := am_ ((by rw [hg]; exact (below_size (by repeat (first | (with_reducible first | exact HB.out | apply b1_ | apply b2_ | apply b3_) | exact HB.out))) : w.heap.size ≤ gb273)); clear HB; have HB := n0_; have BK273 := n1_; have GW273 := n2_; have GE273 := n3_; clear n0_ n1_ n2_ n3_; clear hb hbox hg; have hcz17_0 : w16.cell? ⟨gb273, 0, none⟩ = some (.int .i64 a0_0) := (blk_cell BK273.out 0).trans rfl; have hcz17_1 : w16.cell? ⟨gb273, 1, none⟩ = some (.int .i64 a0_1) := (blk_cell BK273.out 1).trans rfl; have hcz17_2 : w16.cell? ⟨gb273, 2, none⟩ = some (.int .i64 a0_2) := (blk_cell BK273.out 2).trans rfl; have hcz17_3 : w16.cell? ⟨gb273, 3, none⟩ = some (.int .i64 a0_3) := (blk_cell BK273.out 3).trans rfl; have hcz17_4 : w16.cell? ⟨gb273, 4, none⟩ = some (.int .i64 a0_4) := (blk_cell BK273.out 4).trans rfl; have hcz17_5 : w16.cell? ⟨gb273, 5, none⟩ = some (.int .i64 a0_5) := (blk_cell BK273.out 5).trans rfl; have hcz17_6 : w16.cell? ⟨gb273, 6, none⟩ = some (.int .i64 a0_6) := (blk_cell BK273.out 6).trans rfl; have hcz17_7 : w16.cell? ⟨gb273, 7, none⟩ = some (.string a0_7) := (blk_cell BK273.out 7).trans rfl; have hfz17_0 := blk_frozen BK273.out 0; have hfz17_1 := blk_frozen BK273.out 1; have hfz17_2 := blk_frozen BK273.out 2; have hfz17_3 := blk_frozen BK273.out 3; have hfz17_4 := blk_frozen BK273.out 4; have hfz17_5 := blk_frozen BK273.out 5; have hfz17_6 := blk_frozen BK273.out 6; have hfz17_7 := blk_frozen BK273.out 7) | ((with_reducible refine gate_callee (f := 45) rfl ?_); refine goesL_ (some 5) rfl rfl Tryd.func45 (by kernel_rfl) rfl #[.int .i64 a0_0, .int .i64 0, .int .i64 6] rfl (by (try simp only [m1_, m2_, m3_]); first | done | rfl | (simp only [d1_, d2_]; rfl)) ?_; (with_reducible refine (spec_l01In.calls a0_0 0 6 false _ A2.out).mono ?_); rintro e w' ⟨rfl, ⟨nd, rfl⟩⟩; refine ⟨_, rfl, ?_⟩))
  go_ret
  exact ⟨by first | rfl | (simp [e1_, e2_] <;> rfl) | (simp [*, e1_, e2_] <;> rfl) | (simp [e3_, e4_]; done) | (simp [*, e3_, e4_]; done), by repeat (first | (with_reducible first | exact HB.out | apply b1_ | apply b2_ | apply b3_ | refine below_set ?_ GE273.out) | exact HB.out)⟩
end Go.Proofs.YtdpdbegglkdgnaaDoor.A
end

section
namespace Go.Proofs.YtdpdbegglkdgnaaDoor.A
open Go.RowKit Go.Proofs.YtdpdbegglkdgnaaDoorW.PrintWords Go.Proofs.YtdpdbegglkdgnaaDoorW.PrintLast Go.Proofs.YtdpdbegglkdgnaaDoorW.PrintMore
theorem Au.of_R {W : World} {base g n cap e : Nat} {ok : Nat → Prop} {xs : List Int} (h : Kd.R (Kd.int .u32) e W base ok (.slice (some ⟨g, 0, none⟩) n cap) xs) : Au W g xs := by
  have hn := (Kd.R_reads' h).1
  refine ⟨fun j hj => ?_, fun j hj => ?_⟩
  · have := (Kd.R_celln 0 h (j : Int) (by omega) (by omega)).1
    simpa [rdOf] using this
  · have := (Kd.R_celln 0 h (j : Int) (by omega) (by omega)).2
    simpa using this
theorem C_cells {k : IntKind} {W : World} {A : Option Addr} {n : Nat} {xs : List Int} (h : Kd.C (Kd.int k) W A n xs) (hn : 0 < n) : ∃ ad, A = some ad ∧ ∀ j, j < n → W.cell? (ad.add j) = some (.int k (xs.getD j 0)) := by
  obtain ⟨ad, e, c⟩ := Kd.at_int h 0 (by decide) (by omega)
  refine ⟨ad, e, fun j hj => ?_⟩
  obtain ⟨ad2, e2, c2⟩ := Kd.at_int h (j : Int) (by omega) (by omega)
  obtain rfl : ad = ad2 := Option.some.inj (e.symm.trans e2)
  simpa [rd] using c2
structure Sk (w W : World) (n gw : Nat) (lw : List Int) : Prop where
  hw : Au W gw lw
  mine : n ≤ gw
  lt : gw < W.heap.size
  below : Below n w W
theorem Sk.drew {w W : World} {n gw : Nat} {lw : List Int} (h : Sk w W n gw lw) : Sk w W.drew n gw lw := ⟨h.hw.drew, h.mine, h.lt, below_drew_h h.below⟩
theorem Sk.word {w W : World} {n gw : Nat} {lw : List Int} (h : Sk w W n gw lw) (j : Nat) (hj : j < lw.length) (x : Int) : Sk w (W.setCell ⟨gw, j, none⟩ (.int .u32 x)) n gw (lw.set j x) :=
  ⟨h.hw.set j hj x, h.mine, by simpa [World.setCell] using h.lt, below_set_h h.below h.mine⟩
structure Sv (w W : World) (n gw gv : Nat) (lw la : List Int) : Prop where
  hw : Au W gw lw
  ha : Au W gv la
  mw : n ≤ gw
  mv : n ≤ gv
  tw : gw < W.heap.size
  tv : gv < W.heap.size
  below : Below n w W
theorem Sv.drew {w W : World} {n gw gv : Nat} {lw la : List Int} (h : Sv w W n gw gv lw la) : Sv w W.drew n gw gv lw la := ⟨h.hw.drew, h.ha.drew, h.mw, h.mv, h.tw, h.tv, below_drew_h h.below⟩
theorem Sv.lit {w W : World} {n gw gv : Nat} {lw la : List Int} (h : Sv w W n gw gv lw la) (l : List Int) (t : Nat) : Sv w (W.alloc (.cells (l.map (Value.int .u32)).toArray t)) n gw W.heap.size lw l := by
  have h1 := h.tw
  have h2 := h.mw
  have hs := alloc_sz W (.cells (l.map (Value.int .u32)).toArray t)
  have e : ∀ k, k < W.heap.size → (W.alloc (.cells (l.map (Value.int .u32)).toArray t)).heap[k]? = W.heap[k]? := fun k hk => by rw [alloc_at, if_neg (by omega)]
  refine ⟨h.hw.at (e _ h.tw), Au.of_row (e := t) _ ?_, h.mw, by omega, by omega, by omega, ⟨h.below.os, h.below.tape, h.below.output, by have := h.below.size; omega, fun k hk => (e k (by omega)).trans (h.below.block k hk)⟩⟩
  rw [alloc_at, if_pos rfl]
/-- The copy of the eight words. -/
theorem append8 {P : Program} {ops : Array Oper} {rest : List Oper} {o : Oper} {a : Act} {Q : Exit → Act → World → Prop} {w W : World} {n gw g g0 c0 : Nat} {lw l0 : List Int} (t e : TypeId) (hgd : o.guard = none) (s x : Operand)
    (ho : o.op = .call { callee := .builtin .append, args := #[s, x], argTypes := #[t, t] }) (ht : P.underlying t = some (.slice e)) (hinfo : (P.info? e).map (fun i => (i.zero, i.size, i.bytes)) = some (some (.int .u32 0), 1, 4))
    (hs : a.eval s = .slice (some ⟨g, 0, none⟩) 0 0) (hx : a.eval x = .slice (some ⟨g0, 0, none⟩) 8 c0) (hl0 : l0.length = 8) (hc : Au W g0 l0) (F : Sk w W n gw lw)
    (h : ∀ gv cv w1, Sv w w1 n gw gv lw l0 → wpList P ops Q rest (a.put o.dst (.slice (some ⟨gv, 0, none⟩) 8 cv)) w1) : wpList P ops Q (o :: rest) a W := by
  obtain ⟨i, hi, hzz⟩ := Option.map_eq_some_iff.1 hinfo
  simp only [Prod.mk.injEq] at hzz
  obtain ⟨hz, hs1, hb1⟩ := hzz
  have hnl : (l0.map (Value.int .u32)).length = 8 := by simp [hl0]
  have h48' : ¬ (281474976710656 < Builtin.nextslicecap 8 0 * i.bytes) := by rw [hb1]; decide
  have hf0 := run_firstCells_some (P := P) W.drew 1 0 ⟨g, 0, none⟩ 0 0 [] rfl (fun j v hj => by simp at hj)
  have hf8 := run_firstCells_some (P := P) W.drew 1 8 ⟨g0, 0, none⟩ 8 c0 (l0.map (Value.int .u32)) (by simp [hl0]) (fun j v hj => by
    rw [add_plain]
    have hjl : j < l0.length := by
      have := (List.getElem?_eq_some_iff.1 hj).1
      omega
    have := hc.cell j hjl
    simp only [List.getElem?_map, List.getElem?_eq_getElem hjl, Option.map_some, Option.some.injEq] at hj
    subst hj
    simpa [List.getD, hjl] using this)
  have hzc : (Value.int .u32 0).cells = #[.int .u32 0] := rfl
  have hr : (Builtin.append_ #[t, t] o.type #[.slice (some ⟨g, 0, none⟩) 0 0, .slice (some ⟨g0, 0, none⟩) 8 c0]).run P W = .ok (.slice (some ⟨W.heap.size, 0, none⟩) 8 (grownCap W 8 0 e))
      (W.drew.alloc (.cells ((l0.map (Value.int .u32)).toArray ++ Builtin.zeroCells #[.int .u32 0] (grownCap W 8 0 e - 8)) e)) := by
    rw [← hs1] at hf0 hf8
    simp [Builtin.append_, run_underlying ht, sizeOf, typeInfo, zeroValue, hi, hz, Builtin.lenOf, h48', Question.forced, hf0, hf8, newRow, grownCap, hzc]
  refine wpList_plain hgd fun K hK => ?_
  unfold Oper.wp execOp
  simp only [ho, resolve, invoke, builtin, Sem.run_bind, Sem.run_pure, Result.andThen_ok, List.map_toArray, List.map_cons, List.map_nil, hs, hx, hr]
  refine hK _ _ (h _ _ _ ?_)
  have h1 := F.lt
  have h2 := F.mine
  have hsz : (W.drew.alloc (.cells ((l0.map (Value.int .u32)).toArray ++ Builtin.zeroCells #[.int .u32 0] (grownCap W 8 0 e - 8)) e)).heap.size = W.heap.size + 1 := alloc_sz _ _
  have e2 : ∀ k, k < W.heap.size → (W.drew.alloc (.cells ((l0.map (Value.int .u32)).toArray ++ Builtin.zeroCells #[.int .u32 0] (grownCap W 8 0 e - 8)) e)).heap[k]? = W.heap[k]? := fun k hk => by
    rw [alloc_at, if_neg (by show ¬ k = W.heap.size; omega)]
    rfl
  have e3 : (W.drew.alloc (.cells ((l0.map (Value.int .u32)).toArray ++ Builtin.zeroCells #[.int .u32 0] (grownCap W 8 0 e - 8)) e)).heap[W.heap.size]? = some (.cells ((l0.map (Value.int .u32)).toArray ++ Builtin.zeroCells #[.int .u32 0] (grownCap W 8 0 e - 8)) e) := by
    rw [alloc_at, if_pos (by rfl)]
  refine ⟨F.hw.at (e2 _ F.lt), ⟨fun j hj => ?_, fun j hj => ?_⟩, F.mine, by omega, by omega, by omega, ⟨F.below.os, F.below.tape, F.below.output, by rw [hsz]; have := F.below.size; omega, fun k hk => (e2 k (by omega)).trans (F.below.block k hk)⟩⟩
  · unfold World.cell?
    rw [e3]
    have hj2 : j < (l0.map (Value.int .u32)).toArray.size := by simpa using hj
    simp only [Option.isSome_none, Bool.false_eq_true, if_false]
    rw [Array.getElem?_append_left hj2]
    simp [List.getD, hj]
  · unfold World.frozen?
    rw [e3]
    simp
/-- The last loop: the state that came in is written. -/
structure St (w0 w W : World) (S : Nat → Prop) (g0 c0 gv : Nat) (lh la : List Int) : Prop where
  hr : Kd.R (Kd.int .u32) 117 W w0.heap.size S (.slice (some ⟨g0, 0, none⟩) 8 c0) lh
  ha : Au W gv la
  ne : gv ≠ g0
  below : Below w0.heap.size w0 W
  kept : Kept w W S
theorem St.drew {w0 w W : World} {S : Nat → Prop} {g0 c0 gv : Nat} {lh la : List Int} (h : St w0 w W S g0 c0 gv lh la) : St w0 w W.drew S g0 c0 gv lh la :=
  ⟨Kd.R_drew h.hr, h.ha.drew, h.ne, below_drew_h h.below, h.kept.drew⟩
theorem St.set {w0 w W : World} {S : Nat → Prop} {g0 c0 gv : Nat} {lh la : List Int} (h : St w0 w W S g0 c0 gv lh la) (j : Nat) (x : Int) : St w0 w (W.setCell ⟨g0, j, none⟩ (.int .u32 x)) S g0 c0 gv (lh.set j x) la := by
  have hp := Kd.R_putn h.hr (j : Int) x
  rw [Int.toNat_natCast] at hp
  exact ⟨hp, h.ha.far h.ne j _, h.ne, below_set_h h.below (Kd.R_base h.hr _ rfl), h.kept.setCell (p := ⟨g0, j, none⟩) (.inl (h.hr.1 _ rfl)) _⟩
set_option maxHeartbeats 4000000 in
set_option maxRecDepth 100000 in
theorem sblock_walk (S : Nat → Prop) (g0 c0 : Nat) (l0 l1 l2 r : List Int) (ad1 ad2 : Addr) (c1 c2 : Nat) (w0 w : World) (hB : Below w0.heap.size w0 w) (ho0 : Kd.R (Kd.int .u32) 117 w w0.heap.size S (.slice (some ⟨g0, 0, none⟩) 8 c0) l0)
    (hr1 : ∀ W, Kept w W S → ∀ j, j < 64 → W.cell? (ad1.add j) = some (.int .u8 (l1.getD j 0))) (hr2 : ∀ W, Kept w W S → ∀ j, j < 64 → W.cell? (ad2.add j) = some (.int .u32 (l2.getD j 0)))
    (h0 : l0.length = 8) (h1 : l1.length = 64) (h2 : l2.length = 64) (hc1 : 64 ≤ c1) (hc2 : 64 ≤ c2) (H : spec_l01Block.v l0 l1 l2 = some r) :
    Calls Tryd.prog 120 #[.slice (some ⟨g0, 0, none⟩) 8 c0, .slice (some ad1) 64 c1, .slice (some ad2) 64 c2] w fun e w' => e = .returned (.tuple #[]) ∧ Kd.R (Kd.int .u32) 117 w' w0.heap.size S (.slice (some ⟨g0, 0, none⟩) 8 c0) r ∧ Below w0.heap.size w0 w' ∧ Kept w w' S := by
  have H0 := Aside0.mk (start0 _ _ _ _ H)
  have HR1 := Aside0.mk hr1
  have HR2 := Aside0.mk hr2
  have HO := Aside0.mk ho0
  have HB := Aside0.mk hB
  have HL := Aside0.mk (And.intro h0 (And.intro h1 h2))
  clear H hr1 hr2 ho0 hB h0 h1 h2
  go_enter Tryd.func120, Tryd.ntmps120
  go_wp2_with (first | ((with_reducible refine gate_dst (N := 18) rfl ?_); refine Kd.R_make (Kd.int .u32) _ 117 rfl (N := 18) rfl 118 _ _ rfl 64 rfl rfl Tryd.underlying118 (.int .u32 0) 4 info117 rfl (by decide) (by omega) 0 (ok := fun _ => True) (okp := fun _ => True) rfl (fun _ hk => hk) trivial (by omega) (by omega) (Below.refl _ _) (Nat.le_refl _) ?_; intro v1 w1 ho hb hg_ hnew_; clear hg_ hnew_; simp only [Int.reduceToNat] at ho; obtain ⟨gw, cw, rfl, hbase, hlt, -⟩ := Kd.R_form ho (by simp); rw [List.length_replicate] at ho ⊢; have hcw := (Kd.R_reads' ho).2.1; have F := Aside0.mk (Sk.mk (Au.of_R ho) hbase hlt hb); clear ho hb hbase hlt))
  obtain ⟨hl0, hl1, hl2⟩ := HL.out
  go_loopg [7] 16 (fun gg v7 wr => ∃ (i : Nat) (ws : List Int), i ≤ 16 ∧ gg + i = 16 ∧ v7 = .int .i64 (i : Int) ∧ ws.length = 64 ∧ Aside0 (spec_l01Block.lv0 l0 l1 l2 ws (i : Int) = some r) ∧ Aside0 (Sk w wr w.heap.size gw ws))
  case atStart => exact ⟨0, _, by omega, rfl, rfl, List.length_replicate, H0, F⟩
  case round =>
    clear F H0
    obtain ⟨i, ws, hi, hg, rfl, hws, H0, F⟩ := hrel
    by_cases hlt : i < 16
    · have c1 : ((i : Int) < 16) := by omega
      have hk := Kept.of_below F.out.below S
      obtain ⟨q0, hq0⟩ : ∃ q, q = 4 * i := ⟨_, rfl⟩
      obtain ⟨q1, hq1⟩ : ∃ q, q = 4 * i + 1 := ⟨_, rfl⟩
      obtain ⟨q2, hq2⟩ : ∃ q, q = 4 * i + 2 := ⟨_, rfl⟩
      obtain ⟨q3, hq3⟩ : ∃ q, q = 4 * i + 3 := ⟨_, rfl⟩
      have w0 : IntKind.i64.wrap (4 * (i : Int)) = (q0 : Int) := (w64id _ (by omega) (by omega)).trans (by omega)
      have w1 : IntKind.i64.wrap ((q0 : Int) + 1) = (q1 : Int) := by clear w0; exact (w64id _ (by omega) (by omega)).trans (by omega)
      have w2 : IntKind.i64.wrap ((q0 : Int) + 2) = (q2 : Int) := by clear w0 w1; exact (w64id _ (by omega) (by omega)).trans (by omega)
      have w3 : IntKind.i64.wrap ((q0 : Int) + 3) = (q3 : Int) := by clear w0 w1 w2; exact (w64id _ (by omega) (by omega)).trans (by omega)
      have b0 := HR1.out wr hk q0 (by clear w0 w1 w2 w3; omega)
      have b1 := HR1.out wr hk q1 (by clear w0 w1 w2 w3; omega)
      have b2 := HR1.out wr hk q2 (by clear w0 w1 w2 w3; omega)
      have b3 := HR1.out wr hk q3 (by clear w0 w1 w2 w3; omega)
      have e0 : (q0 : Int) < 64 := by clear w0 w1 w2 w3; omega
      have e1 : (q1 : Int) < 64 := by clear w0 w1 w2 w3; omega
      have e2 : (q2 : Int) < 64 := by clear w0 w1 w2 w3; omega
      have e3 : (q3 : Int) < 64 := by clear w0 w1 w2 w3; omega
      have ei : (i : Int) < 64 := by clear w0 w1 w2 w3; omega
      have g4 : i < ws.length := by clear w0 w1 w2 w3; omega
      have z0 := F.out.hw.cell i g4
      have z1 := F.out.hw.free i g4
      have H1 := Aside0.mk (step0 _ _ _ _ _ _ hl1 hws hlt H0.out)
      rw [← hq1, ← hq2, ← hq3, ← hq0] at H1
      generalize hx0 : l1.getD q0 0 = x0 at b0 H1
      generalize hx1 : l1.getD q1 0 = x1 at b1 H1
      generalize hx2 : l1.getD q2 0 = x2 at b2 H1
      generalize hx3 : l1.getD q3 0 = x3 at b3 H1
      generalize ws.getD i 0 = xi at z0
      clear hq0 hq1 hq2 hq3 hx0 hx1 hx2 hx3 hk H0
      go_wp2
      go_still_tail 36, (by kernel_rfl)
      change wpList _ _ _ _ _ wr.drew
      have z2 : wr.drew.cell? ⟨gw, i, none⟩ = some (.int .u32 xi) := z0
      have z3 : wr.drew.frozen? ⟨gw, i, none⟩ = false := z1
      have F2 := Aside0.mk (F.out.drew.word i g4 (word4 x0 x1 x2 x3))
      generalize wr.drew = w4 at z2 z3 F2 ⊢
      clear z0 z1 b0 b1 b2 b3 F
      go_wp2
      go_roundg (16 - (i + 1))
      case measure => omega
      case rel => exact ⟨i + 1, _, by omega, by omega, by go_num, by rw [List.length_set]; exact hws, H1, F2⟩
    · have hlt2 : ¬ ((i : Int) < 16) := by omega
      have H1 := Aside0.mk (exit0 _ _ _ _ _ _ hlt2 H0.out)
      clear H0
      go_wp2
      go_loopg [8] 48 (fun gg v8 wr => ∃ (i : Nat) (ws : List Int), i ≤ 64 ∧ 16 ≤ i ∧ gg + i = 64 ∧ v8 = .int .i64 (i : Int) ∧ ws.length = 64 ∧ Aside0 (spec_l01Block.lv1 l0 l2 ws (i : Int) = some r) ∧ Aside0 (Sk w wr w.heap.size gw ws))
      case atStart => exact ⟨16, ws, by omega, by omega, rfl, rfl, hws, H1, F⟩
      case round =>
        clear F H1 hlt2 hlt hi hws
        obtain ⟨i, ws, hi, h16, hg, rfl, hws, H0, F⟩ := hrel
        by_cases hlt : i < 64
        · have c1 : ((i : Int) < 64) := by omega
          obtain ⟨q0, hq0⟩ : ∃ q, q = i - 16 := ⟨_, rfl⟩
          obtain ⟨q1, hq1⟩ : ∃ q, q = i - 15 := ⟨_, rfl⟩
          obtain ⟨q2, hq2⟩ : ∃ q, q = i - 7 := ⟨_, rfl⟩
          obtain ⟨q3, hq3⟩ : ∃ q, q = i - 2 := ⟨_, rfl⟩
          have w0 : IntKind.i64.wrap ((i : Int) - 16) = (q0 : Int) := (w64id _ (by omega) (by omega)).trans (by omega)
          have w1 : IntKind.i64.wrap ((i : Int) - 15) = (q1 : Int) := by clear w0; exact (w64id _ (by omega) (by omega)).trans (by omega)
          have w2 : IntKind.i64.wrap ((i : Int) - 7) = (q2 : Int) := by clear w0 w1; exact (w64id _ (by omega) (by omega)).trans (by omega)
          have w3 : IntKind.i64.wrap ((i : Int) - 2) = (q3 : Int) := by clear w0 w1 w2; exact (w64id _ (by omega) (by omega)).trans (by omega)
          have g0 : q0 < ws.length := by clear w0 w1 w2 w3; omega
          have g1 : q1 < ws.length := by clear w0 w1 w2 w3; omega
          have g2 : q2 < ws.length := by clear w0 w1 w2 w3; omega
          have g3 : q3 < ws.length := by clear w0 w1 w2 w3; omega
          have g4 : i < ws.length := by clear w0 w1 w2 w3; omega
          have b0 := F.out.hw.cell q0 g0
          have b1 := F.out.hw.cell q1 g1
          have b2 := F.out.hw.cell q2 g2
          have b3 := F.out.hw.cell q3 g3
          have e0 : (q0 : Int) < 64 := by clear w0 w1 w2 w3; omega
          have e1 : (q1 : Int) < 64 := by clear w0 w1 w2 w3; omega
          have e2 : (q2 : Int) < 64 := by clear w0 w1 w2 w3; omega
          have e3 : (q3 : Int) < 64 := by clear w0 w1 w2 w3; omega
          have z0 := F.out.hw.cell i g4
          have z1 := F.out.hw.free i g4
          have H1 := Aside0.mk (step1 _ _ _ _ _ hws h16 hlt H0.out)
          rw [← hq0, ← hq1, ← hq2, ← hq3] at H1
          generalize hx0 : ws.getD q0 0 = x0 at b0 H1
          generalize hx1 : ws.getD q1 0 = x1 at b1 H1
          generalize hx2 : ws.getD q2 0 = x2 at b2 H1
          generalize hx3 : ws.getD q3 0 = x3 at b3 H1
          generalize ws.getD i 0 = xi at z0
          clear hq0 hq1 hq2 hq3 hx0 hx1 hx2 hx3 g0 g1 g2 g3 H0
          go_wp2
          refine wp_region_still_tail 32 (by kernel_rfl) (by kernel_rfl) ?_
          simp only [List.take_succ_cons, List.take_zero, List.drop_succ_cons, List.drop_zero]
          repeat still_step
          still_call (stn7 _ _)
          repeat still_step
          still_call (stn18 _ _)
          repeat still_step
          still_call (stn17 _ _)
          repeat still_step
          still_call (stn19 _ _)
          repeat still_step
          refine wpStill_nil ?_
          change wpList _ _ _ _ _ wr.drew
          have z2 : wr.drew.cell? ⟨gw, i, none⟩ = some (.int .u32 xi) := z0
          have z3 : wr.drew.frozen? ⟨gw, i, none⟩ = false := z1
          have F2 := Aside0.mk (F.out.drew.word i g4 (wordX x0 (sig x1 7 18 (x1 / 8)) x2 (sig x3 17 19 (x3 / 1024))))
          generalize wr.drew = w4 at z2 z3 F2 ⊢
          clear z0 z1 b0 b1 b2 b3 F w0 w1 w2 w3
          go_wp2
          go_roundg (64 - (i + 1))
          case measure => omega
          case rel => exact ⟨i + 1, _, by omega, by omega, by omega, by go_num, by rw [List.length_set]; exact hws, H1, F2⟩
        · have hlt2 : ¬ ((i : Int) < 64) := by omega
          have H1 := Aside0.mk (exit1 _ _ _ _ hl0 _ hlt2 H0.out)
          clear H0
          have hA0 : Aside0 (Au w g0 l0) := Aside0.mk (Au.of_R HO.out)
          have hg0 := Kd.R_lt HO.out g0 rfl
          have HG := Aside0.mk hg0
          clear hg0
          go_wp2_with (first | ((with_reducible refine gate_builtin (b := .append) (xs := #[.tmp 105, .tmp 106]) rfl ?_); at_builtin; refine append8 (l0 := l0) 118 117 rfl (.tmp 105) (.tmp 106) rfl Tryd.underlying118 info117 (by rfl) (by rfl) hl0 ((hA0.out.at (F.out.below.block g0 HG.out)).at (by first | rfl | (rw [alloc_at, if_neg (by have := HG.out; have := F.out.below.size; omega)]))) (w := w) (n := w.heap.size) (gw := gw) (lw := ws) (by first | exact F.out | exact ⟨F.out.hw.at (by rw [alloc_at, if_neg (by have := F.out.lt; omega)]), F.out.mine, by rw [alloc_sz]; have := F.out.lt; omega, ⟨F.out.below.os, F.out.below.tape, F.out.below.output, by rw [alloc_sz]; have := F.out.below.size; omega, fun k hk => by rw [alloc_at, if_neg (by have := F.out.below.size; omega)]; exact F.out.below.block k hk⟩⟩) ?_; clear F; intro gv cv w6 F0; have F := Aside0.mk F0; clear F0))
          obtain ⟨h0, h1, h2, h3, h4, h5, h6, h7, rfl⟩ := eight hl0
          go_loopg [11, 12] 64 (fun gg v11 v12 wr => ∃ (i gv cv : Nat) (a0 a1 a2 a3 a4 a5 a6 a7 : Int), i ≤ 64 ∧ gg + i = 64 ∧ v11 = .slice (some ⟨gv, 0, none⟩) 8 cv ∧ v12 = .int .i64 (i : Int) ∧ Aside0 (spec_l01Block.lv2 [h0, h1, h2, h3, h4, h5, h6, h7] l2 ws [a0, a1, a2, a3, a4, a5, a6, a7] (i : Int) = some r) ∧ Aside0 (Sv w wr w.heap.size gw gv ws [a0, a1, a2, a3, a4, a5, a6, a7]))
          case atStart => exact ⟨0, gv, cv, h0, h1, h2, h3, h4, h5, h6, h7, by omega, rfl, rfl, rfl, H1, F⟩
          case round =>
            clear F H1 hlt2 hlt hi h16
            obtain ⟨i, gv, cv, a0, a1, a2, a3, a4, a5, a6, a7, hi, hg, rfl, rfl, H0, F⟩ := hrel
            by_cases hlt : i < 64
            · have c1 : ((i : Int) < 64) := by omega
              have hk := Kept.of_below F.out.below S
              obtain ⟨⟨c0_, d1, d2, d3, d4, d5, d6, d7⟩, -⟩ := F.out.ha.eight
              have bk := HR2.out wr hk i hlt
              have bw := F.out.hw.cell i (by omega)
              clear hk
              obtain ⟨xk, hxk⟩ : ∃ x, l2.getD i 0 = x := ⟨_, rfl⟩
              obtain ⟨xw, hxw⟩ : ∃ x, ws.getD i 0 = x := ⟨_, rfl⟩
              rw [hxk] at bk
              rw [hxw] at bw
              have HX := Aside0.mk (And.intro hxk hxw)
              clear hxk hxw
              go_wp2
              refine wp_region_still_lit (by kernel_rfl) (by kernel_rfl) ?_
              repeat still_step
              still_call (stn6 _ _)
              repeat still_step
              still_call (stn11 _ _)
              repeat still_step
              still_call (stn25 _ _)
              repeat still_step
              refine wpStill_nil ?_
              have F3 := Aside0.mk F.out.drew
              have c0d : wr.drew.cell? _ = _ := c0_
              have d1_ : wr.drew.cell? _ = _ := d1
              have d2_ : wr.drew.cell? _ = _ := d2
              have d3_ : wr.drew.cell? _ = _ := d3
              have d4_ : wr.drew.cell? _ = _ := d4
              have d5_ : wr.drew.cell? _ = _ := d5
              have d6_ : wr.drew.cell? _ = _ := d6
              have d7_ : wr.drew.cell? _ = _ := d7
              clear c0_ d1 d2 d3 d4 d5 d6 d7 bk bw F
              generalize hxp : IntKind.u32.wrap (IntKind.u32.wrap (_ + xk) + xw) = xp
              have hp : pX a7 a4 a5 a6 xk xw = xp := hxp
              have HP := Aside0.mk ((pX_eq _ _ _ _ _ _).symm.trans hp)
              clear hxp hp
              rw [show ({ heap := wr.heap, tape := wr.tape, drawn := wr.drawn + 1, os := wr.os, output := wr.output } : World) = wr.drew from rfl]
              generalize wr.drew = w6 at c0d d1_ d2_ d3_ d4_ d5_ d6_ d7_ F3 ⊢
              go_wp2
              refine wp_region_still_lit (by kernel_rfl) (by kernel_rfl) ?_
              repeat still_step
              still_call (stn2 _ _)
              repeat still_step
              still_call (stn13 _ _)
              repeat still_step
              still_call (stn22 _ _)
              repeat still_step
              refine wpStill_nil ?_
              obtain ⟨⟨c0_, d1, d2, d3, d4, d5, d6, d7⟩, -⟩ := F3.out.drew.ha.eight
              have F4 := Aside0.mk F3.out.drew
              clear c0d d1_ d2_ d3_ d4_ d5_ d6_ d7_ F3
              generalize hxq : IntKind.u32.wrap (_ + Go.bits .xor .u32 _ (Go.bits .and .u32 a1 a2)) = xq
              have hq : qW a0 a1 a2 = xq := hxq
              have HQ := Aside0.mk hq
              clear hxq hq
              rw [show ({ heap := w6.heap, tape := w6.tape, drawn := w6.drawn + 1, os := w6.os, output := w6.output } : World) = w6.drew from rfl]
              generalize w6.drew = w7 at c0_ d1 d2 d3 d4 d5 d6 d7 F4 ⊢
              have H1 := Aside0.mk (step2w _ _ _ _ _ _ _ _ _ _ _ _ _ hws hl2 hlt xk xw xp xq HX.out.1 HX.out.2 HP.out HQ.out H0.out)
              clear H0
              go_wp2
              refine wp_region_still_tail 26 (by kernel_rfl) (by kernel_rfl) ?_
              simp only [List.take_succ_cons, List.take_zero, List.drop_succ_cons, List.drop_zero]
              repeat still_step
              refine wpStill_nil ?_
              change wpList _ _ _ _ _ w7.drew
              have F5 := Aside0.mk F4.out.drew
              clear c0_ d1 d2 d3 d4 d5 d6 d7 F4
              generalize w7.drew = w8 at F5 ⊢
              go_wp2
              go_roundg (64 - (i + 1))
              case measure => omega
              case rel => exact ⟨i + 1, w8.heap.size, 8, (xp + xq) % 4294967296, a0, a1, a2, (a3 + xp) % 4294967296, a4, a5, a6, by omega, by omega, rfl, by go_num, H1, ⟨F5.out.lit [(xp + xq) % 4294967296, a0, a1, a2, (a3 + xp) % 4294967296, a4, a5, a6] 117⟩⟩
            · have hlt2 : ¬ ((i : Int) < 64) := by omega
              have H1 := Aside0.mk (exit2 _ _ _ _ _ _ hlt2 H0.out)
              clear H0
              have F2 : Aside0 (St w0 w wr S g0 c0 gv [h0, h1, h2, h3, h4, h5, h6, h7] [a0, a1, a2, a3, a4, a5, a6, a7]) := Aside0.mk ⟨Kd.R_below HO.out F.out.below, F.out.ha, by have := F.out.mv; have := HG.out; omega, HB.out.trans (F.out.below.mono HB.out.size), Kept.of_below F.out.below S⟩
              clear F
              go_wp2
              go_loopg [17] 8 (fun gg v17 wr => ∃ (i : Nat) (lh : List Int), i ≤ 8 ∧ gg + i = 8 ∧ v17 = .int .i64 (i : Int) ∧ lh.length = 8 ∧ Aside0 (spec_l01Block.lv3 lh [a0, a1, a2, a3, a4, a5, a6, a7] (i : Int) = some r) ∧ Aside0 (St w0 w wr S g0 c0 gv lh [a0, a1, a2, a3, a4, a5, a6, a7]))
              case atStart => exact ⟨0, _, by omega, rfl, rfl, rfl, H1, F2⟩
              case round =>
                clear F2 H1 hlt2 hlt hi
                obtain ⟨i, lh, hi, hg, rfl, hlh, H0, F⟩ := hrel
                by_cases hlt : i < 8
                · have c1 : ((i : Int) < 8) := by omega
                  have H1 := Aside0.mk (step3 _ _ _ _ hlh rfl hlt H0.out)
                  obtain ⟨b0, z1⟩ := Kd.R_celln 0 F.out.hr (i : Int) (by omega) (by omega)
                  have b1 := F.out.ha.cell i (by simpa using hlt)
                  rw [Int.toNat_natCast] at b0 z1
                  have b0' : wr.cell? ⟨g0, i, none⟩ = some (.int .u32 (lh.getD i 0)) := by simpa [rdOf] using b0
                  clear H0 b0
                  obtain ⟨x0, hx0⟩ : ∃ x, lh.getD i 0 = x := ⟨_, rfl⟩
                  obtain ⟨x1, hx1⟩ : ∃ x, ([a0, a1, a2, a3, a4, a5, a6, a7] : List Int).getD i 0 = x := ⟨_, rfl⟩
                  rw [hx0] at b0' H1
                  rw [hx1] at b1 H1
                  rw [u32w_h] at H1
                  clear hx0 hx1
                  go_wp2
                  refine wp_region_still_tail 10 (by kernel_rfl) (by kernel_rfl) ?_
                  simp only [List.take_succ_cons, List.take_zero, List.drop_succ_cons, List.drop_zero]
                  repeat still_step
                  refine wpStill_nil ?_
                  change wpList _ _ _ _ _ wr.drew
                  have z2 : wr.drew.cell? ⟨g0, i, none⟩ = some (.int .u32 x0) := b0'
                  have z3 : wr.drew.frozen? ⟨g0, i, none⟩ = false := z1
                  have F2 := Aside0.mk (F.out.drew.set i ((x0 + x1) % 4294967296))
                  generalize wr.drew = w4 at z2 z3 F2 ⊢
                  clear z1 b0' b1 F
                  go_wp2
                  go_roundg (8 - (i + 1))
                  case measure => omega
                  case rel => exact ⟨i + 1, _, by omega, by omega, by go_num, by rw [List.length_set]; exact hlh, H1, F2⟩
                · have hlt2 : ¬ ((i : Int) < 8) := by omega
                  have e := exit3 _ _ _ _ hlt2 H0.out
                  subst e
                  clear H0
                  go_wp2
                  first | go_end0 | ((try simp only [Exit.inBlock, Exit.then]); refine bodyPost_ret (results_none rfl _ _ _) rfl ?_)
                  exact ⟨rfl, F.out.hr, F.out.below, F.out.kept⟩
end Go.Proofs.YtdpdbegglkdgnaaDoor.A
end

section
namespace Go.Proofs.YtdpdbegglkdgnaaDoor.A
open Go.RowKit Go.Proofs.YtdpdbegglkdgnaaDoorW.PrintWords Go.Proofs.YtdpdbegglkdgnaaDoorW.PrintLast Go.Proofs.YtdpdbegglkdgnaaDoorW.PrintMore
attribute [local go_sem] max2_int min2_int max_two min_two max_three min_three max_four min_four
theorem spec_l01Block.calls (k : Nat) (P0_ : Nat → Prop) (u9000_ : Value) (l0 : List Int) (A1 : Option Addr) (c1 : Nat) (l1 : List Int) (A2 : Option Addr) (c2 : Nat) (l2 : List Int) (r : List Int) (w0 w : World) (hB : Below w0.heap.size w0 w) (ho0 : Kd.R (Kd.int .u32) 117 w w0.heap.size P0_ u9000_ l0) (hr1 : ∀ W_, Kept w W_ (fun k_ => P0_ k_) → Kd.C (Kd.int .u8) W_ A1 l1.length l1) (hc1 : l1.length ≤ c1) (hr2 : ∀ W_, Kept w W_ (fun k_ => P0_ k_) → Kd.C (Kd.int .u32) W_ A2 l2.length l2) (hc2 : l2.length ≤ c2) (h : spec_l01Block.f k l0 l1 l2 = some r) :
  Calls Tryd.prog 120 #[u9000_, .slice A1 l1.length c1, .slice A2 l2.length c2] w fun e w' => e = .returned (.tuple #[]) ∧ Kd.R (Kd.int .u32) 117 w' w0.heap.size (fun k_ => (P0_ k_ ∨ w.heap.size ≤ k_)) u9000_ r ∧ Below w0.heap.size w0 w' ∧ Kept w w' (fun k_ => P0_ k_) := by
 unfold spec_l01Block.f at h
 by_cases c : l0.length = 8 ∧ l1.length = 64 ∧ l2.length = 64
 ·have hv : spec_l01Block.v l0 l1 l2 = some r := (spec_l01Block.v_lim l0 l1 l2).up k r h
  obtain ⟨h0, h1, h2⟩ := c
  obtain ⟨g0, c0, rfl, -, -, -⟩ := Kd.R_form ho0 (by omega)
  obtain ⟨ad1, rfl, -⟩ := C_cells (hr1 w (Kept.refl w _)) (by omega)
  obtain ⟨ad2, rfl, -⟩ := C_cells (hr2 w (Kept.refl w _)) (by omega)
  have k1 : ∀ W, Kept w W P0_ → ∀ j, j < 64 → W.cell? (ad1.add j) = some (.int .u8 (l1.getD j 0)) := fun W hk j hj => by
   obtain ⟨ad, e, hc⟩ := C_cells (hr1 W hk) (by omega)
   injection e with e
   subst e
   exact hc j (by omega)
  have k2 : ∀ W, Kept w W P0_ → ∀ j, j < 64 → W.cell? (ad2.add j) = some (.int .u32 (l2.getD j 0)) := fun W hk j hj => by
   obtain ⟨ad, e, hc⟩ := C_cells (hr2 W hk) (by omega)
   injection e with e
   subst e
   exact hc j (by omega)
  rw [h0] at ho0 ⊢
  rw [h1] at hc1 ⊢
  rw [h2] at hc2 ⊢
  exact (sblock_walk P0_ g0 c0 l0 l1 l2 r ad1 ad2 c1 c2 w0 w hB ho0 k1 k2 h0 h1 h2 hc1 hc2 hv).mono fun e w' ⟨he, hr, hb, hk⟩ => ⟨he, Kd.R_mono hr (fun k_ hk_ => .inl hk_), hb, hk⟩
 ·rw [if_neg c] at h
  cases h
set_option maxHeartbeats 8000000 in
set_option maxRecDepth 100000 in
theorem spec_l01Consts.calls  (r : List Int) (w : World) (h : spec_l01Consts.f  = some r) :
  Calls Tryd.prog 119 #[] w fun e w' => ∃ v0_ : Value, e = .returned (v0_) ∧ Kd.R (Kd.int .u32) 117 w' w.heap.size (fun _ => True) v0_ r ∧ Below w.heap.size w w' := by
 have HB := am_ (Below.refl w.heap.size w)
 have H : (some (([1116352408, 1899447441, 3049323471, 3921009573, 961987163, 1508970993, 2453635748, 2870763221, 3624381080, 310598401, 607225278, 1426881987, 1925078388, 2162078206, 2614888103, 3248222580, 3835390401, 4022224774, 264347078, 604807628, 770255983, 1249150122, 1555081692, 1996064986, 2554220882, 2821834349, 2952996808, 3210313671, 3336571891, 3584528711, 113926993, 338241895, 666307205, 773529912, 1294757372, 1396182291, 1695183700, 1986661051, 2177026350, 2456956037, 2730485921, 2820302411, 3259730800, 3345764771, 3516065817, 3600352804, 4094571909, 275423344, 430227734, 506948616, 659060556, 883997877, 958139571, 1322822218, 1537002063, 1747873779, 1955562222, 2024104815, 2227730452, 2361852424, 2428436474, 2756734187, 3204031479, 3329325298] : List Int))) = some r := h
 clear h
 obtain ⟨y101, hy101⟩ : ∃ y_ : List Int, y_ = (([1116352408, 1899447441, 3049323471, 3921009573, 961987163, 1508970993, 2453635748, 2870763221, 3624381080, 310598401, 607225278, 1426881987, 1925078388, 2162078206, 2614888103, 3248222580, 3835390401, 4022224774, 264347078, 604807628, 770255983, 1249150122, 1555081692, 1996064986, 2554220882, 2821834349, 2952996808, 3210313671, 3336571891, 3584528711, 113926993, 338241895, 666307205, 773529912, 1294757372, 1396182291, 1695183700, 1986661051, 2177026350, 2456956037, 2730485921, 2820302411, 3259730800, 3345764771, 3516065817, 3600352804, 4094571909, 275423344, 430227734, 506948616, 659060556, 883997877, 958139571, 1322822218, 1537002063, 1747873779, 1955562222, 2024104815, 2227730452, 2361852424, 2428436474, 2756734187, 3204031479, 3329325298] : List Int)) := ⟨_, rfl⟩
 replace H : (some y101) = some r := by first | (rw [hy101]; with_reducible exact H) | (have H2_ := (Option.bind_some _ _).symm.trans H; rw [hy101]; with_reducible exact H2_) | (have H2_ := (Option.bind_some _ _).symm.trans H; with_reducible exact H2_) | with_reducible exact H | (rw [hy101]; exact H) | exact H
 have Ny101 := am_ hy101
 clear hy101
 obtain rfl := Option.some.inj H
 go_enter Tryd.func119, Tryd.ntmps119
 go_wp2_with (first | ((with_reducible refine gate_dst (N := 1) rfl ?_); refine Kd.R_lit (Kd.int .u32) _ 117 ?hg (N := 1) ?hd (xs := ([1116352408, 1899447441, 3049323471, 3921009573, 961987163, 1508970993, 2453635748, 2870763221, 3624381080, 310598401, 607225278, 1426881987, 1925078388, 2162078206, 2614888103, 3248222580, 3835390401, 4022224774, 264347078, 604807628, 770255983, 1249150122, 1555081692, 1996064986, 2554220882, 2821834349, 2952996808, 3210313671, 3336571891, 3584528711, 113926993, 338241895, 666307205, 773529912, 1294757372, 1396182291, 1695183700, 1986661051, 2177026350, 2456956037, 2730485921, 2820302411, 3259730800, 3345764771, 3516065817, 3600352804, 4094571909, 275423344, 430227734, 506948616, 659060556, 883997877, 958139571, 1322822218, 1537002063, 1747873779, 1955562222, 2024104815, 2227730452, 2361852424, 2428436474, 2756734187, 3204031479, 3329325298] : List Int)) (inner := [.int .u32 1116352408, .int .u32 1899447441, .int .u32 3049323471, .int .u32 3921009573, .int .u32 961987163, .int .u32 1508970993, .int .u32 2453635748, .int .u32 2870763221, .int .u32 3624381080, .int .u32 310598401, .int .u32 607225278, .int .u32 1426881987, .int .u32 1925078388, .int .u32 2162078206, .int .u32 2614888103, .int .u32 3248222580, .int .u32 3835390401, .int .u32 4022224774, .int .u32 264347078, .int .u32 604807628, .int .u32 770255983, .int .u32 1249150122, .int .u32 1555081692, .int .u32 1996064986, .int .u32 2554220882, .int .u32 2821834349, .int .u32 2952996808, .int .u32 3210313671, .int .u32 3336571891, .int .u32 3584528711, .int .u32 113926993, .int .u32 338241895, .int .u32 666307205, .int .u32 773529912, .int .u32 1294757372, .int .u32 1396182291, .int .u32 1695183700, .int .u32 1986661051, .int .u32 2177026350, .int .u32 2456956037, .int .u32 2730485921, .int .u32 2820302411, .int .u32 3259730800, .int .u32 3345764771, .int .u32 3516065817, .int .u32 3600352804, .int .u32 4094571909, .int .u32 275423344, .int .u32 430227734, .int .u32 506948616, .int .u32 659060556, .int .u32 883997877, .int .u32 958139571, .int .u32 1322822218, .int .u32 1537002063, .int .u32 1747873779, .int .u32 1955562222, .int .u32 2024104815, .int .u32 2227730452, .int .u32 2361852424, .int .u32 2428436474, .int .u32 2756734187, .int .u32 3204031479, .int .u32 3329325298]) (ok := fun _ => True) (okp := fun _ => True) ?hr ?hp (fun _ hk => hk) trivial (Below.refl _ _) (Nat.le_refl _) (by simp) ?_; (case hd => rfl); (case hg => rfl); (case hr => first | (go_simp; done) | (go_simp; rfl)); (case hp => exact (Reps.one (show Kd.M (Kd.int .u32) _ _ _ 1116352408 [.int .u32 1116352408] from rfl) (Reps.one (show Kd.M (Kd.int .u32) _ _ _ 1899447441 [.int .u32 1899447441] from rfl) (Reps.one (show Kd.M (Kd.int .u32) _ _ _ 3049323471 [.int .u32 3049323471] from rfl) (Reps.one (show Kd.M (Kd.int .u32) _ _ _ 3921009573 [.int .u32 3921009573] from rfl) (Reps.one (show Kd.M (Kd.int .u32) _ _ _ 961987163 [.int .u32 961987163] from rfl) (Reps.one (show Kd.M (Kd.int .u32) _ _ _ 1508970993 [.int .u32 1508970993] from rfl) (Reps.one (show Kd.M (Kd.int .u32) _ _ _ 2453635748 [.int .u32 2453635748] from rfl) (Reps.one (show Kd.M (Kd.int .u32) _ _ _ 2870763221 [.int .u32 2870763221] from rfl) (Reps.one (show Kd.M (Kd.int .u32) _ _ _ 3624381080 [.int .u32 3624381080] from rfl) (Reps.one (show Kd.M (Kd.int .u32) _ _ _ 310598401 [.int .u32 310598401] from rfl) (Reps.one (show Kd.M (Kd.int .u32) _ _ _ 607225278 [.int .u32 607225278] from rfl) (Reps.one (show Kd.M (Kd.int .u32) _ _ _ 1426881987 [.int .u32 1426881987] from rfl) (Reps.one (show Kd.M (Kd.int .u32) _ _ _ 1925078388 [.int .u32 1925078388] from rfl) (Reps.one (show Kd.M (Kd.int .u32) _ _ _ 2162078206 [.int .u32 2162078206] from rfl) (Reps.one (show Kd.M (Kd.int .u32) _ _ _ 2614888103 [.int .u32 2614888103] from rfl) (Reps.one (show Kd.M (Kd.int .u32) _ _ _ 3248222580 [.int .u32 3248222580] from rfl) (Reps.one (show Kd.M (Kd.int .u32) _ _ _ 3835390401 [.int .u32 3835390401] from rfl) (Reps.one (show Kd.M (Kd.int .u32) _ _ _ 4022224774 [.int .u32 4022224774] from rfl) (Reps.one (show Kd.M (Kd.int .u32) _ _ _ 264347078 [.int .u32 264347078] from rfl) (Reps.one (show Kd.M (Kd.int .u32) _ _ _ 604807628 [.int .u32 604807628] from rfl) (Reps.one (show Kd.M (Kd.int .u32) _ _ _ 770255983 [.int .u32 770255983] from rfl) (Reps.one (show Kd.M (Kd.int .u32) _ _ _ 1249150122 [.int .u32 1249150122] from rfl) (Reps.one (show Kd.M (Kd.int .u32) _ _ _ 1555081692 [.int .u32 1555081692] from rfl) (Reps.one (show Kd.M (Kd.int .u32) _ _ _ 1996064986 [.int .u32 1996064986] from rfl) (Reps.one (show Kd.M (Kd.int .u32) _ _ _ 2554220882 [.int .u32 2554220882] from rfl) (Reps.one (show Kd.M (Kd.int .u32) _ _ _ 2821834349 [.int .u32 2821834349] from rfl) (Reps.one (show Kd.M (Kd.int .u32) _ _ _ 2952996808 [.int .u32 2952996808] from rfl) (Reps.one (show Kd.M (Kd.int .u32) _ _ _ 3210313671 [.int .u32 3210313671] from rfl) (Reps.one (show Kd.M (Kd.int .u32) _ _ _ 3336571891 [.int .u32 3336571891] from rfl) (Reps.one (show Kd.M (Kd.int .u32) _ _ _ 3584528711 [.int .u32 3584528711] from rfl) (Reps.one (show Kd.M (Kd.int .u32) _ _ _ 113926993 [.int .u32 113926993] from rfl) (Reps.one (show Kd.M (Kd.int .u32) _ _ _ 338241895 [.int .u32 338241895] from rfl) (Reps.one (show Kd.M (Kd.int .u32) _ _ _ 666307205 [.int .u32 666307205] from rfl) (Reps.one (show Kd.M (Kd.int .u32) _ _ _ 773529912 [.int .u32 773529912] from rfl) (Reps.one (show Kd.M (Kd.int .u32) _ _ _ 1294757372 [.int .u32 1294757372] from rfl) (Reps.one (show Kd.M (Kd.int .u32) _ _ _ 1396182291 [.int .u32 1396182291] from rfl) (Reps.one (show Kd.M (Kd.int .u32) _ _ _ 1695183700 [.int .u32 1695183700] from rfl) (Reps.one (show Kd.M (Kd.int .u32) _ _ _ 1986661051 [.int .u32 1986661051] from rfl) (Reps.one (show Kd.M (Kd.int .u32) _ _ _ 2177026350 [.int .u32 2177026350] from rfl) (Reps.one (show Kd.M (Kd.int .u32) _ _ _ 2456956037 [.int .u32 2456956037] from rfl) (Reps.one (show Kd.M (Kd.int .u32) _ _ _ 2730485921 [.int .u32 2730485921] from rfl) (Reps.one (show Kd.M (Kd.int .u32) _ _ _ 2820302411 [.int .u32 2820302411] from rfl) (Reps.one (show Kd.M (Kd.int .u32) _ _ _ 3259730800 [.int .u32 3259730800] from rfl) (Reps.one (show Kd.M (Kd.int .u32) _ _ _ 3345764771 [.int .u32 3345764771] from rfl) (Reps.one (show Kd.M (Kd.int .u32) _ _ _ 3516065817 [.int .u32 3516065817] from rfl) (Reps.one (show Kd.M (Kd.int .u32) _ _ _ 3600352804 [.int .u32 3600352804] from rfl) (Reps.one (show Kd.M (Kd.int .u32) _ _ _ 4094571909 [.int .u32 4094571909] from rfl) (Reps.one (show Kd.M (Kd.int .u32) _ _ _ 275423344 [.int .u32 275423344] from rfl) (Reps.one (show Kd.M (Kd.int .u32) _ _ _ 430227734 [.int .u32 430227734] from rfl) (Reps.one (show Kd.M (Kd.int .u32) _ _ _ 506948616 [.int .u32 506948616] from rfl) (Reps.one (show Kd.M (Kd.int .u32) _ _ _ 659060556 [.int .u32 659060556] from rfl) (Reps.one (show Kd.M (Kd.int .u32) _ _ _ 883997877 [.int .u32 883997877] from rfl) (Reps.one (show Kd.M (Kd.int .u32) _ _ _ 958139571 [.int .u32 958139571] from rfl) (Reps.one (show Kd.M (Kd.int .u32) _ _ _ 1322822218 [.int .u32 1322822218] from rfl) (Reps.one (show Kd.M (Kd.int .u32) _ _ _ 1537002063 [.int .u32 1537002063] from rfl) (Reps.one (show Kd.M (Kd.int .u32) _ _ _ 1747873779 [.int .u32 1747873779] from rfl) (Reps.one (show Kd.M (Kd.int .u32) _ _ _ 1955562222 [.int .u32 1955562222] from rfl) (Reps.one (show Kd.M (Kd.int .u32) _ _ _ 2024104815 [.int .u32 2024104815] from rfl) (Reps.one (show Kd.M (Kd.int .u32) _ _ _ 2227730452 [.int .u32 2227730452] from rfl) (Reps.one (show Kd.M (Kd.int .u32) _ _ _ 2361852424 [.int .u32 2361852424] from rfl) (Reps.one (show Kd.M (Kd.int .u32) _ _ _ 2428436474 [.int .u32 2428436474] from rfl) (Reps.one (show Kd.M (Kd.int .u32) _ _ _ 2756734187 [.int .u32 2756734187] from rfl) (Reps.one (show Kd.M (Kd.int .u32) _ _ _ 3204031479 [.int .u32 3204031479] from rfl) (Reps.one (show Kd.M (Kd.int .u32) _ _ _ 3329325298 [.int .u32 3329325298] from rfl) (Reps.none _ _)))))))))))))))))))))))))))))))))))))))))))))))))))))))))))))))))); intro v102 w1 ho2 hb hg_ hnew_; clear hg_ hnew_; (first | rw [← Ny101.out] at ho2 | (simp only [Int.reduceToNat] at ho2; rw [← Ny101.out] at ho2)); have n0_ := am_ (Kd.R_lower ho2 (below_size (by repeat (first | (with_reducible first | exact HB.out | apply b1_ | apply b2_ | apply b3_) | exact HB.out)))); have n1_ := am_ (below_step (by repeat (first | (with_reducible first | exact HB.out | apply b1_ | apply b2_ | apply b3_) | exact HB.out)) hb); clear HB; have HO103 := n0_; have HB := n1_; clear n0_ n1_; clear hb ho2))
 go_ret
 exact ⟨_, by first | rfl | (simp [e1_, e2_] <;> rfl) | (simp [*, e1_, e2_] <;> rfl) | (simp [e3_, e4_]; done) | (simp [*, e3_, e4_]; done), by (with_reducible repeat (first | apply r1_ | apply r2_ | apply r3_)); exact HO103.out, by repeat (first | (with_reducible first | exact HB.out | apply b1_ | apply b2_ | apply b3_) | exact HB.out)⟩
def spec_l01Hash.T18 : Bool × List (List Nat × List Nat) := (true, [([], []), ([], []), ([], []), ([1, 2], [1, 2]), ([3], [3]), ([4], [4]), ([5], [5]), ([], []), ([], []), ([7, 8], [7, 8]), ([9], [9]), ([10], [10]), ([11], [11]), ([], []), ([], []), ([13, 14], [13, 14]), ([15], [15]), ([16], [16]), ([17], [17]), ([], []), ([], []), ([19, 20], [19, 20]), ([21], [21]), ([22], [22]), ([6, 12, 18, 23], [6, 12, 18, 23]), ([0, 24], [0, 24]), ([25, 25, 0, 1, 2, 3, 4, 5, 6, 7, 8, 9, 10, 11, 12, 13, 14, 15, 16, 17, 18, 19, 20, 21, 22, 23, 24, 25], [0, 25])])
def spec_l01Hash.B18 : List Nat := [0, 0, 0, 6, 14, 30, 62, 0, 0, 384, 896, 1920, 3968, 0, 0, 24576, 57344, 122880, 253952, 0, 0, 1572864, 3670016, 7864320, 16777214, 33554431, 67108863]
theorem spec_l01Hash.tab18 : rtab .any (opsOf Tryd.f83 18) = spec_l01Hash.T18 := by kernel_rfl
theorem spec_l01Hash.bits18 : waitsOk spec_l01Hash.T18.2 spec_l01Hash.B18 = true := by kernel_rfl
set_option maxHeartbeats 8000000 in
set_option maxRecDepth 100000 in
theorem spec_l01Hash.calls (k : Nat) (A0 : Option Addr) (c0 : Nat) (l0 : List Int) (r : ByteArray) (w : World) (hr0 : Kd.C (Kd.int .u8) w A0 l0.length l0) (hc0 : l0.length ≤ c0) (h : spec_l01Hash.f k l0 = some r) :
  Calls Tryd.prog 83 #[.slice A0 l0.length c0] w fun e w' => e = .returned (.string r) ∧ Below w.heap.size w w' := by
 have HR0 := am_ hr0
 have HC0 := am_ hc0
 clear hr0 hc0
 have HB := am_ (Below.refl w.heap.size w)
 have H : ((some (([] : List Int) : List Int)).bind fun y160 => (if y160.length + l0.length < 140737488355328 then ((some (y160 ++ l0 : List Int)).bind fun y163 => (if y163.length < 140737488355328 then (spec_l01Hash.l0 k l0 (([1779033703, 3144134277, 1013904242, 2773480762, 1359893119, 2600822924, 528734635, 1541459225] : List Int)) (y163 ++ [128])) else (none))) else (none))) = some r := h
 clear h
 obtain ⟨y157, hy157⟩ : ∃ y_ : List Int, y_ = (([1779033703, 3144134277, 1013904242, 2773480762, 1359893119, 2600822924, 528734635, 1541459225] : List Int)) := ⟨_, rfl⟩
 replace H : ((some (([] : List Int) : List Int)).bind fun y160 => (if y160.length + l0.length < 140737488355328 then ((some (y160 ++ l0 : List Int)).bind fun y163 => (if y163.length < 140737488355328 then (spec_l01Hash.l0 k l0 y157 (y163 ++ [128])) else (none))) else (none))) = some r := by first | (rw [hy157]; with_reducible exact H) | (have H2_ := (Option.bind_some _ _).symm.trans H; rw [hy157]; with_reducible exact H2_) | (have H2_ := (Option.bind_some _ _).symm.trans H; with_reducible exact H2_) | with_reducible exact H | (rw [hy157]; exact H) | exact H
 have Ny157 := am_ hy157
 clear hy157
 obtain ⟨y160, hy160⟩ : ∃ y_ : List Int, y_ = (([] : List Int)) := ⟨_, rfl⟩
 replace H : (if y160.length + l0.length < 140737488355328 then ((some (y160 ++ l0 : List Int)).bind fun y163 => (if y163.length < 140737488355328 then (spec_l01Hash.l0 k l0 y157 (y163 ++ [128])) else (none))) else (none)) = some r := by first | (rw [hy160]; with_reducible exact H) | (have H2_ := (Option.bind_some _ _).symm.trans H; rw [hy160]; with_reducible exact H2_) | (have H2_ := (Option.bind_some _ _).symm.trans H; with_reducible exact H2_) | with_reducible exact H | (rw [hy160]; exact H) | exact H
 have Ny160 := am_ hy160
 clear hy160
 by_cases c2 : y160.length + l0.length < 140737488355328
 ·rw [if_pos c2] at H
  have LMc2 := am_ c2
  clear c2
  obtain ⟨y163, hy163⟩ : ∃ y_ : List Int, y_ = (y160 ++ l0) := ⟨_, rfl⟩
  replace H : (if y163.length < 140737488355328 then (spec_l01Hash.l0 k l0 y157 (y163 ++ [128])) else (none)) = some r := by first | (rw [hy163]; with_reducible exact H) | (have H2_ := (Option.bind_some _ _).symm.trans H; rw [hy163]; with_reducible exact H2_) | (have H2_ := (Option.bind_some _ _).symm.trans H; with_reducible exact H2_) | with_reducible exact H | (rw [hy163]; exact H) | exact H
  have Ny163 := am_ hy163
  clear hy163
  by_cases c3 : y163.length < 140737488355328
  ·rw [if_pos c3] at H
   have LMc3 := am_ c3
   clear c3
   obtain ⟨y166, hy166⟩ : ∃ y_ : List Int, y_ = (y163 ++ [128]) := ⟨_, rfl⟩
   replace H : (spec_l01Hash.l0 k l0 y157 y166) = some r := by first | (rw [hy166]; with_reducible exact H) | (have H2_ := (Option.bind_some _ _).symm.trans H; rw [hy166]; with_reducible exact H2_) | (have H2_ := (Option.bind_some _ _).symm.trans H; with_reducible exact H2_) | with_reducible exact H | (rw [hy166]; exact H) | exact H
   have Ny166 := am_ hy166
   clear hy166
   have H' := am_ H
   clear H
   go_enter Tryd.func83, Tryd.ntmps83
   go_wp2_with (first | ((with_reducible refine gate_dst (N := 10) rfl ?_); refine Kd.R_lit (Kd.int .u32) _ 117 ?hg (N := 10) ?hd (xs := ([1779033703, 3144134277, 1013904242, 2773480762, 1359893119, 2600822924, 528734635, 1541459225] : List Int)) (inner := [.int .u32 1779033703, .int .u32 3144134277, .int .u32 1013904242, .int .u32 2773480762, .int .u32 1359893119, .int .u32 2600822924, .int .u32 528734635, .int .u32 1541459225]) (ok := fun _ => True) (okp := fun _ => True) ?hr ?hp (fun _ hk => hk) trivial (Below.refl _ _) (Nat.le_refl _) (by simp) ?_; (case hd => rfl); (case hg => rfl); (case hr => first | (go_simp; done) | (go_simp; rfl)); (case hp => exact (Reps.one (show Kd.M (Kd.int .u32) _ _ _ 1779033703 [.int .u32 1779033703] from rfl) (Reps.one (show Kd.M (Kd.int .u32) _ _ _ 3144134277 [.int .u32 3144134277] from rfl) (Reps.one (show Kd.M (Kd.int .u32) _ _ _ 1013904242 [.int .u32 1013904242] from rfl) (Reps.one (show Kd.M (Kd.int .u32) _ _ _ 2773480762 [.int .u32 2773480762] from rfl) (Reps.one (show Kd.M (Kd.int .u32) _ _ _ 1359893119 [.int .u32 1359893119] from rfl) (Reps.one (show Kd.M (Kd.int .u32) _ _ _ 2600822924 [.int .u32 2600822924] from rfl) (Reps.one (show Kd.M (Kd.int .u32) _ _ _ 528734635 [.int .u32 528734635] from rfl) (Reps.one (show Kd.M (Kd.int .u32) _ _ _ 1541459225 [.int .u32 1541459225] from rfl) (Reps.none _ _)))))))))); intro v158 w4 ho5 hb hg_ hnew_; clear hg_ hnew_; (first | rw [← Ny157.out] at ho5 | (simp only [Int.reduceToNat] at ho5; rw [← Ny157.out] at ho5)); have n0_ := am_ (Kd.R_lower ho5 (below_size (by repeat (first | (with_reducible first | exact HB.out | apply b1_ | apply b2_ | apply b3_) | exact HB.out)))); have n1_ := am_ (below_step (by repeat (first | (with_reducible first | exact HB.out | apply b1_ | apply b2_ | apply b3_) | exact HB.out)) hb); clear HB; have HO159 := n0_; have HB := n1_; clear n0_ n1_; clear hb ho5) | ((with_reducible refine gate_dst (N := 11) rfl ?_); refine Kd.R_lit (Kd.int .u8) _ 5 ?hg (N := 11) ?hd (xs := ([] : List Int)) (inner := []) (ok := fun _ => True) (okp := fun _ => True) ?hr ?hp (fun _ hk => hk) trivial (Below.refl _ _) (Nat.le_refl _) (by simp) ?_; (case hd => rfl); (case hg => rfl); (case hr => first | (go_simp; done) | (go_simp; rfl)); (case hp => exact (Reps.none _ _)); intro v161 w6 ho7 hb hg_ hnew_; clear hg_ hnew_; (first | rw [← Ny160.out] at ho7 | (simp only [Int.reduceToNat] at ho7; rw [← Ny160.out] at ho7)); have n0_ := am_ (Kd.R_below (by (with_reducible repeat (first | apply r1_ | apply r2_ | apply r3_)); exact HO159.out) hb); have n1_ := am_ (Kd.R_lower ho7 (below_size (by repeat (first | (with_reducible first | exact HB.out | apply b1_ | apply b2_ | apply b3_) | exact HB.out)))); have n2_ := am_ (below_step (by repeat (first | (with_reducible first | exact HB.out | apply b1_ | apply b2_ | apply b3_) | exact HB.out)) hb); clear HO159; clear HB; have HO159 := n0_; have HO162 := n1_; have HB := n2_; clear n0_ n1_ n2_; clear hb ho7) | ((with_reducible refine gate_builtin (b := .append) (xs := #[.tmp 11, .tmp 12]) rfl ?_); at_builtin; refine Kd.R_append_rows (Kd.int .u8) (w0 := w) w.heap.size rfl (.tmp 11) (.tmp 12) 94 5 (.int .u8 0) 1 rfl Tryd.underlying94 info5 rfl (by decide) (by omega) v161 y160 l0 _ _ _ (fun _ => True) (fun _ => False) rfl rfl ?aO ?aR (fun _ _ h => h) (fun _ h => h.elim) ?aF ?aB ?aS ?aL ?_; (case aR => repeat (first | exact (Kd.C_below HR0.out HB.out) | (with_reducible refine Kd.C_alloc ?_ _) | (with_reducible refine Kd.C_drewN ?_ _) | (with_reducible refine Kd.C_drew ?_))); (case aB => exact (by repeat (first | (with_reducible first | exact HB.out | apply b1_ | apply b2_ | apply b3_) | exact HB.out))); (case aF => exact (fun _ _ => trivial)); (case aO => exact (by (with_reducible repeat (first | apply r1_ | apply r2_ | apply r3_)); exact HO162.out)); (case aS => exact (below_size (by repeat (first | (with_reducible first | exact HB.out | apply b1_ | apply b2_ | apply b3_) | exact HB.out)))); (case aL => have := LMc2.out; omega); intro v164 w8 ho hb hg hat; rw [← Ny163.out] at ho; have n0_ := am_ (Kd.R_over' (by (with_reducible repeat (first | apply r1_ | apply r2_ | apply r3_)); exact HO159.out) (Kd.R_typed (by (with_reducible repeat (first | apply r1_ | apply r2_ | apply r3_)); exact HO162.out)) (by decide) hg); have n1_ := am_ (hb); have n2_ := am_ (ho); clear HO159; clear HB; clear HO162; have HO159 := n0_; have HB := n1_; have HO165 := n2_; clear n0_ n1_ n2_; clear ho hb hg hat) | ((with_reducible refine gate_builtin (b := .append) (xs := #[.tmp 13, .tmp 14]) rfl ?_); at_builtin; refine Kd.R_append (Kd.int .u8) (w0 := w) w.heap.size rfl (.tmp 13) (.tmp 14) 94 5 (.int .u8 0) 1 rfl Tryd.underlying94 info5 rfl (by decide) (by omega) v164 y163 128 [.int .u8 128] (fun _ => True) (fun _ => False) rfl rfl ?aP (fun _ hk => hk.elim) ?aF ?aO ?aB ?aS ?aL ?_; (case aP => exact rfl); (case aB => exact (by repeat (first | (with_reducible first | exact HB.out | apply b1_ | apply b2_ | apply b3_) | exact HB.out))); (case aF => exact (fun _ _ => trivial)); (case aO => exact (by (with_reducible repeat (first | apply r1_ | apply r2_ | apply r3_)); exact HO165.out)); (case aS => exact (below_size (by repeat (first | (with_reducible first | exact HB.out | apply b1_ | apply b2_ | apply b3_) | exact HB.out)))); (case aL => have := LMc3.out; omega); intro v167 w9 ho hb hg hat; rw [← Ny166.out] at ho; have n0_ := am_ (Kd.R_over' (by (with_reducible repeat (first | apply r1_ | apply r2_ | apply r3_)); exact HO159.out) (Kd.R_typed (by (with_reducible repeat (first | apply r1_ | apply r2_ | apply r3_)); exact HO165.out)) (by decide) hg); have n1_ := am_ (hb); have n2_ := am_ (ho); clear HO159; clear HB; clear HO165; have HO159 := n0_; have HB := n1_; have HO168 := n2_; clear n0_ n1_ n2_; clear ho hb hg hat))
   go_loopg [4] k (fun kq v4 w' => ∃ (x4_1 : List Int), Aside0 (spec_l01Hash.l0 kq l0 y157 x4_1 = some r) ∧ Aside0 (kq ≤ k) ∧ Aside0 (Kd.R (Kd.int .u32) 117 w' w.heap.size (fun _ => True) v158 y157) ∧ Aside0 (Kd.R (Kd.int .u8) 5 w' w.heap.size (fun _ => True) v4 x4_1) ∧ Aside0 (Below w.heap.size w w'))
   case atStart => exact ⟨(y166), H', ⟨Nat.le_refl _⟩, ⟨by (with_reducible repeat (first | apply r1_ | apply r2_ | apply r3_)); exact HO159.out⟩, ⟨by (with_reducible repeat (first | apply r1_ | apply r2_ | apply r3_)); exact HO168.out⟩, ⟨by repeat (first | (with_reducible first | exact HB.out | apply b1_ | apply b2_ | apply b3_) | exact HB.out)⟩⟩
   case round =>
    clear H'
    try clear c2
    try clear p2
    try clear c3
    try clear c8
    obtain ⟨x4_1, HA, HK1, HO_3, HO_4, HB⟩ := hrel
    cases gk with
    | zero => exact absurd HA.out (by simp [spec_l01Hash.l0])
    | succ k1 =>
     have H := HA.out
     clear HA
     simp only [spec_l01Hash.l0] at H
     by_cases c10 : ((x4_1.length : Int) % 64) = 56
     ·rw [if_pos c10] at H
      have c10b0 : (((x4_1.length : Int) % 64) == 56) = true := beq_iff_eq.mpr c10
      have c10b1 : (((x4_1.length : Int) % 64) != 56) = false := bne_eq_false_iff_eq.mpr c10
      clear c10
      have H' := am_ H
      clear H
      obtain ⟨Ao11, co11, eo11⟩ := Kd.R_slice HO_4.out
      subst eo11
      go_wp2
      go_loopg [4, 5] k1 (fun kq v4 v5 w' => ∃ (x4_2 : List Int) (x5_2 : Int), v5 = .int .i64 x5_2 ∧ Aside0 (spec_l01Hash.l1 kq l0 y157 x4_2 x5_2 = some r) ∧ Aside0 (kq ≤ k1) ∧ Aside0 (Kd.R (Kd.int .u32) 117 w' w.heap.size (fun _ => True) v158 y157) ∧ Aside0 (Kd.R (Kd.int .u8) 5 w' w.heap.size (fun _ => True) v4 x4_2) ∧ Aside0 (Below w.heap.size w w'))
      case atStart => exact ⟨(x4_1), (7), (by first | rfl | (simp; done) | (simp [*]; done)), H', ⟨Nat.le_refl _⟩, ⟨by (with_reducible repeat (first | apply r1_ | apply r2_ | apply r3_)); exact HO_3.out⟩, ⟨by (with_reducible repeat (first | apply r1_ | apply r2_ | apply r3_)); exact HO_4.out⟩, ⟨by repeat (first | (with_reducible first | exact HB.out | apply b1_ | apply b2_ | apply b3_) | exact HB.out)⟩⟩
      case round =>
       clear H'
       try clear c1
       try clear c2
       try clear p2
       try clear c3
       try clear c8
       try clear c10
       try clear c10b0
       try clear c10b1
       try clear p2
       obtain ⟨x4_2, x5_2, rfl, HA, HK2, HO_3, HO_4, HB⟩ := hrel
       cases gk with
       | zero => exact absurd HA.out (by simp [spec_l01Hash.l1])
       | succ k2 =>
        have H := HA.out
        clear HA
        simp only [spec_l01Hash.l1] at H
        by_cases c12 : x5_2 ≥ 0
        ·rw [if_pos c12] at H
         have c12b0 : decide (0 ≤ x5_2) = true := decide_eq_true c12
         clear c12
         obtain ⟨ji13, hji13⟩ : ∃ j_ : Int, (IntKind.u64.wrap (wrap64 (8 * x5_2))) = j_ := ⟨_, rfl⟩
         replace H : (if 0 ≤ (ji13) then (if x4_2.length < 140737488355328 then (spec_l01Hash.l1 k2 l0 y157 (x4_2 ++ [(shr .i64 (wrap64 (8 * (l0.length : Int))) (ji13)) % 256]) (wrap64 (x5_2 - 1))) else (none)) else (none)) = some r := by first | (rw [hji13] at H; exact H) | (simp only [hji13] at H ⊢; exact H)
         by_cases c14 : 0 ≤ (ji13)
         ·rw [if_pos c14] at H
          have c14b0 := eq_true c14
          have c14b1 : decide (0 ≤ (ji13)) = true := decide_eq_true c14
          clear c14
          obtain ⟨ji15, hji15⟩ : ∃ j_ : Int, (shr .i64 (wrap64 (8 * (l0.length : Int))) (ji13)) = j_ := ⟨_, rfl⟩
          replace H : (if x4_2.length < 140737488355328 then (spec_l01Hash.l1 k2 l0 y157 (x4_2 ++ [(ji15) % 256]) (wrap64 (x5_2 - 1))) else (none)) = some r := by first | (rw [hji15] at H; exact H) | (simp only [hji15] at H ⊢; exact H)
          have hji15_ : ((wrap64 (8 * (l0.length : Int))) / 2 ^ min (ji13).toNat 64) = ji15 := hji15
          have hji15z : (ji13) ≤ 64 → ((wrap64 (8 * (l0.length : Int))) / 2 ^ (ji13).toNat) = ji15 := shr_small hji15
          by_cases c16 : x4_2.length < 140737488355328
          ·rw [if_pos c16] at H
           have LMc16 := am_ c16
           clear c16
           obtain ⟨y172, hy172⟩ : ∃ y_ : List Int, y_ = (x4_2 ++ [(ji15) % 256]) := ⟨_, rfl⟩
           replace H : (spec_l01Hash.l1 k2 l0 y157 y172 (wrap64 (x5_2 - 1))) = some r := by first | (rw [hy172]; with_reducible exact H) | (have H2_ := (Option.bind_some _ _).symm.trans H; rw [hy172]; with_reducible exact H2_) | (have H2_ := (Option.bind_some _ _).symm.trans H; with_reducible exact H2_) | with_reducible exact H | (rw [hy172]; exact H) | exact H
           have Ny172 := am_ hy172
           clear hy172
           have H' := am_ H
           clear H
           go_wp2_with (first | ((with_reducible refine gate_builtin (b := .append) (xs := #[.tmp 27, .tmp 36]) rfl ?_); at_builtin; refine Kd.R_append (Kd.int .u8) (w0 := w) w.heap.size rfl (.tmp 27) (.tmp 36) 94 5 (.int .u8 0) 1 rfl Tryd.underlying94 info5 rfl (by decide) (by omega) u4 x4_2 ((ji15) % 256) [.int .u8 ((ji15) % 256)] (fun _ => True) (fun _ => False) rfl rfl ?aP (fun _ hk => hk.elim) ?aF ?aO ?aB ?aS ?aL ?_; (case aP => exact rfl); (case aB => exact (by repeat (first | (with_reducible first | exact HB.out | apply b1_ | apply b2_ | apply b3_) | exact HB.out))); (case aF => exact (fun _ _ => trivial)); (case aO => exact (by (with_reducible repeat (first | apply r1_ | apply r2_ | apply r3_)); exact HO_4.out)); (case aS => exact (below_size (by repeat (first | (with_reducible first | exact HB.out | apply b1_ | apply b2_ | apply b3_) | exact HB.out)))); (case aL => have := LMc16.out; omega); intro v173 w17 ho hb hg hat; rw [← Ny172.out] at ho; have n0_ := am_ (Kd.R_over' (by (with_reducible repeat (first | apply r1_ | apply r2_ | apply r3_)); exact HO_3.out) (Kd.R_typed (by (with_reducible repeat (first | apply r1_ | apply r2_ | apply r3_)); exact HO_4.out)) (by decide) hg); have n1_ := am_ (hb); have n2_ := am_ (ho); clear HO_3; clear HB; clear HO_4; have HO_3 := n0_; have HB := n1_; have HO174 := n2_; clear n0_ n1_ n2_; clear ho hb hg hat))
           go_roundg k2
           case measure => have := HK1.out; have := HK2.out; omega
           case rel => exact ⟨(y172), (wrap64 (x5_2 - 1)), (by first | rfl | (simp; done) | (simp [*]; done)), H', ⟨by have := HK1.out; have := HK2.out; omega⟩, ⟨by (with_reducible repeat (first | apply r1_ | apply r2_ | apply r3_)); exact HO_3.out⟩, ⟨by (with_reducible repeat (first | apply r1_ | apply r2_ | apply r3_)); exact HO174.out⟩, ⟨by repeat (first | (with_reducible first | exact HB.out | apply b1_ | apply b2_ | apply b3_) | exact HB.out)⟩⟩
          ·rw [if_neg c16] at H
           exact absurd H (by simp)
         ·rw [if_neg c14] at H
          exact absurd H (by simp)
        ·rw [if_neg c12] at H
         have c12b0 : decide (0 ≤ x5_2) = false := decide_eq_false c12
         clear c12
         replace H := Option.bind_eq_some_iff.mp H
         obtain ⟨t175, A180, H⟩ := H
         replace H : (spec_l01Hash.l2 k2 y157 x4_2 t175 0) = some r := H
         have A18 := am_ A180
         clear A180
         have H' := am_ H
         clear H
         go_wp2_with (first | ((with_reducible refine gate_callee (f := 119) rfl ?_); refine goesL_ (some 38) rfl rfl Tryd.func119 (by kernel_rfl) rfl #[] rfl (by (try simp only [m1_, m2_, m3_]); first | done | rfl | (simp only [d1_, d2_]; rfl)) ?_; (with_reducible refine (spec_l01Consts.calls  t175 _ A18.out).mono ?_); rintro e w19 ⟨v176, rfl, ho0, hb⟩; refine ⟨_, rfl, ?_⟩; have n0_ := am_ (Kd.R_elder' (by (with_reducible repeat (first | apply r1_ | apply r2_ | apply r3_)); exact HO_3.out) (Kd.R_base ho0) hb); have n1_ := am_ (Kd.R_below (by (with_reducible repeat (first | apply r1_ | apply r2_ | apply r3_)); exact HO_4.out) hb); have n2_ := am_ (Kd.R_lower (Kd.R_new' ho0 (Kd.R_lt (by (with_reducible repeat (first | apply r1_ | apply r2_ | apply r3_)); exact HO_3.out))) (below_size (by repeat (first | (with_reducible first | exact HB.out | apply b1_ | apply b2_ | apply b3_) | exact HB.out)))); have n3_ := am_ (below_step (by repeat (first | (with_reducible first | exact HB.out | apply b1_ | apply b2_ | apply b3_) | exact HB.out)) hb); clear HO_3; clear HO_4; clear HB; have HO_3 := n0_; have HO_4 := n1_; have HO177 := n2_; have HB := n3_; clear n0_ n1_ n2_ n3_; (try clear hb); (try clear hb2); (try clear hk); (try clear hi); (try clear ho0)))
         go_loopg [7] k2 (fun kq v7 w' => ∃ (x3_3 : List Int) (x7_3 : Int), v7 = .int .i64 x7_3 ∧ Aside0 (spec_l01Hash.l2 kq x3_3 x4_2 t175 x7_3 = some r) ∧ Aside0 (kq ≤ k2) ∧ Aside0 (Kd.R (Kd.int .u32) 117 w' w.heap.size (fun k_ => some k_ ≠ (v176 : Value).ownBlock) v158 x3_3) ∧ Aside0 (Kd.R (Kd.int .u8) 5 w' w.heap.size (fun _ => True) u4 x4_2) ∧ Aside0 (Kd.R (Kd.int .u32) 117 w' w.heap.size (fun k_ => some k_ ≠ (v158 : Value).ownBlock) v176 t175) ∧ Aside0 (Below w.heap.size w w'))
         case atStart => exact ⟨(y157), (0), (by first | rfl | (simp; done) | (simp [*]; done)), H', ⟨Nat.le_refl _⟩, ⟨by (with_reducible repeat (first | apply r1_ | apply r2_ | apply r3_)); exact Kd.R_mono HO_3.out (fun _ hk => hk.2)⟩, ⟨by (with_reducible repeat (first | apply r1_ | apply r2_ | apply r3_)); exact HO_4.out⟩, ⟨by (with_reducible repeat (first | apply r1_ | apply r2_ | apply r3_)); exact Kd.R_mono HO177.out (fun _ hk => hk.2)⟩, ⟨by repeat (first | (with_reducible first | exact HB.out | apply b1_ | apply b2_ | apply b3_) | exact HB.out)⟩⟩
         case round =>
          clear H'
          try clear c1
          try clear c2
          try clear p2
          try clear c3
          try clear p6
          try clear c8
          try clear c10
          try clear c10b0
          try clear c10b1
          try clear c11
          try clear c12
          try clear c12b0
          try clear c14
          try clear c14b0
          try clear c14b1
          try clear c16
          try clear p2
          obtain ⟨x3_3, x7_3, rfl, HA, HK3, HO_3, HO_4, HO_6, HB⟩ := hrel
          cases gk with
          | zero => exact absurd HA.out (by simp [spec_l01Hash.l2])
          | succ k3 =>
           have H := HA.out
           clear HA
           simp only [spec_l01Hash.l2] at H
           by_cases c20 : x7_3 < (x4_2.length : Int)
           ·rw [if_pos c20] at H
            obtain ⟨je_, hje_⟩ : ∃ j_ : Int, (wrap64 (x7_3 + 64)) = j_ := ⟨_, rfl⟩
            rw [hje_] at H
            have hje_w : (IntKind.i64.wrap (x7_3 + 64)) = je_ := (i64_w _).trans hje_
            clear hje_
            have c20b0 : decide (x7_3 < (x4_2.length : Int)) = true := decide_eq_true c20
            clear c20
            by_cases c21 : 0 ≤ x7_3
            ·rw [if_pos c21] at H
             have c21b0 := eq_true c21
             have c21b1 : decide (0 ≤ x7_3) = true := decide_eq_true c21
             clear c21
             by_cases c22 : x7_3 ≤ (je_)
             ·rw [if_pos c22] at H
              have c22b0 := eq_true c22
              have c22b1 : decide (x7_3 ≤ (je_)) = true := decide_eq_true c22
              by_cases c23 : (je_) ≤ (x4_2.length : Int)
              ·rw [if_pos c23] at H
               have c23b0 := eq_true c23
               have c23b1 : decide ((je_) ≤ (x4_2.length : Int)) = true := decide_eq_true c23
               obtain ⟨y178, hy178⟩ : ∃ y_ : List Int, y_ = ((x4_2.take ((je_) : Int).toNat).drop (x7_3 : Int).toNat) := ⟨_, rfl⟩
               replace H : ((spec_l01Block.f k3 x3_3 y178 t175).bind fun t182 => (spec_l01Hash.l2 k3 t182 x4_2 t175 (je_))) = some r := by first | (rw [hy178]; with_reducible exact H) | (have H2_ := (Option.bind_some _ _).symm.trans H; rw [hy178]; with_reducible exact H2_) | (have H2_ := (Option.bind_some _ _).symm.trans H; with_reducible exact H2_) | with_reducible exact H | (rw [hy178]; exact H) | exact H
               have Ny178 := am_ hy178
               clear hy178
               replace H := Option.bind_eq_some_iff.mp H
               obtain ⟨t182, A240, H⟩ := H
               replace H : (spec_l01Hash.l2 k3 t182 x4_2 t175 (je_)) = some r := H
               have A24 := am_ A240
               clear A240
               have H' := am_ H
               clear H
               obtain ⟨Ao25, co25, eo25⟩ := Kd.R_slice HO_4.out
               subst eo25
               have q26 : ((je_) : Int) ≤ ((x4_2.length : Int) : Int) := o1_ (by first | (with_reducible assumption) | assumption)
               obtain ⟨i026, hi026, _, hsz26, _⟩ := info_parts info5
               have hroom26 : x4_2.length ≤ co25 := (Kd.R_reads' HO_4.out).2.1
               have hC26 : Kd.C (Kd.int .u8) _ Ao25 x4_2.length x4_2 := (Kd.R_reads' HO_4.out).2.2
               have ql26 : (x7_3 : Int) ≤ ((je_) : Int) := o1_ (by first | (with_reducible assumption) | assumption)
               have q026 : (0 : Int) ≤ (x7_3 : Int) := o1_ (by first | (with_reducible assumption) | assumption)
               have hcut26 := cut_mid (P := Tryd.prog) 94 5 .i64 .i64 Tryd.underlying94 hi026 1 hsz26 Ao25 x4_2.length co25 x7_3 (je_) q026 ql26 q26 hroom26
               have hr26 := Kd.C_mid (lo := (x7_3 : Int).toNat) (hi := ((je_) : Int).toNat) (c := co25) hC26 (by omega) (by omega) hroom26
               obtain ⟨A26, hA26⟩ : ∃ A1, A1 = (if co25 = (x7_3 : Int).toNat then Ao25 else (Ao25 : Option Addr).map (·.add ((x7_3 : Int).toNat * 1))) := ⟨_, rfl⟩
               obtain ⟨c26, hc26⟩ : ∃ c1, c1 = co25 - (x7_3 : Int).toNat := ⟨_, rfl⟩
               have hy26 : y178.length = ((je_) : Int).toNat - (x7_3 : Int).toNat := (by rw [Ny178.out, d1_, d2_] <;> omega)
               rw [show ((x4_2).take ((je_) : Int).toNat).drop (x7_3 : Int).toNat = y178 from Ny178.out.symm] at hr26
               replace hr26 : Kd.C (Kd.int .u8) _ A26 y178.length y178 := (by rw [hA26]; exact hr26)
               rw [← hy26, ← hA26, ← hc26] at hcut26
               have HR181 := am_ hr26
               have HC181 := am_ (show y178.length ≤ c26 from by rw [hy26, hc26]; exact Nat.sub_le_sub_right (Nat.le_trans (by omega) hroom26) _)
               clear hr26 hC26 hroom26 hi026 hsz26 hc26
               have KY26 := am_ hy26
               have KA26 := am_ hA26
               clear hy26 hA26
               have KL26 := am_ (show ((je_) : Int).toNat ≤ x4_2.length from by omega)
               have KM26 := am_ (show (x7_3 : Int).toNat ≤ ((je_) : Int).toNat from by omega)
               replace q26 := eq_true q26
               obtain ⟨Ao27, co27, eo27⟩ := Kd.R_slice HO_3.out
               subst eo27
               obtain ⟨Ao28, co28, eo28⟩ := Kd.R_slice HO_6.out
               subst eo28
               go_wp2_with (first | ((with_reducible refine gate_callee (f := 120) rfl ?_); refine goesL_ (some 52) rfl rfl Tryd.func120 (by kernel_rfl) rfl #[.slice Ao27 x3_3.length co27, .slice A26 y178.length c26, .slice Ao28 t175.length co28] rfl (by (try simp only [m1_, m2_, m3_]); first | done | rfl | (simp only [d1_, d2_]; rfl)) ?_; (with_reducible refine (spec_l01Block.calls k3 (fun k_ => some k_ = (.slice Ao27 x3_3.length co27 : Value).ownBlock) (.slice Ao27 x3_3.length co27) x3_3 _ _ y178 _ _ t175 t182 w _ ?side1 ?side2 ?side3 ?side4 ?side5 ?side6 A24.out).mono ?_); (case side1 => repeat (first | (with_reducible first | exact HB.out | apply b1_ | apply b2_ | apply b3_) | exact HB.out)); (case side2 => exact Kd.R_tight rfl HO_3.out); (case side3 => exact fun W1_ hk1_ => (show Kd.C (Kd.int .u8) W1_ A26 y178.length y178 from by rw [Ny178.out, KA26.out]; exact Kd.C_mid (lo := (x7_3 : Int).toNat) (hi := ((je_) : Int).toNat) (c := co25) (Kd.C_kept_own ((Kd.R_apart' HO_4.out (Kd.R_typed HO_3.out) (by decide))) (fun k_ hk_ hs_ => (hk_.2) hs_) W1_ hk1_) KM26.out KL26.out ((Kd.R_reads' HO_4.out).2.1))); (case side4 => exact HC181.out); (case side5 => exact Kd.C_kept_own (HO_6.out) (fun k_ hk_ hs_ => (hk_) hs_)); (case side6 => exact (Kd.R_reads' HO_6.out).2.1); rintro e w29 ⟨rfl, hy0, hb, hkp⟩; refine ⟨_, rfl, ?_⟩; have n0_ := am_ (Kd.R_reok rfl hy0 (fun k_ e_ => HO_3.out.1 k_ e_)); have n1_ := am_ (Kd.R_mono (ok' := fun k_ => True) (Kd.R_keptB ((Kd.R_apart' HO_4.out (Kd.R_typed HO_3.out) (by decide))) hkp (fun k_ hk_ hs_ => (hk_.2) hs_)) (fun k_ hk_ => trivial)); have n2_ := am_ (Kd.R_mono (ok' := fun k_ => some k_ ≠ (.slice Ao27 x3_3.length co27 : Value).ownBlock) (Kd.R_keptB (HO_6.out) hkp (fun k_ hk_ hs_ => (hk_) hs_)) (fun k_ hk_ => hk_.1)); have n3_ := am_ (hb); clear HO_3; clear HO_4; clear HO_6; clear HB; have HO_3 := n0_; have HO_4 := n1_; have HO_6 := n2_; have HB := n3_; clear n0_ n1_ n2_ n3_; (try clear hb); (try clear hkp); (try clear hy0)))
               go_roundg k3
               case measure => have := HK1.out; have := HK2.out; have := HK3.out; omega
               case rel => exact ⟨(t182), (je_), (by first | rfl | (simp; done) | (simp [*]; done)), H', ⟨by have := HK1.out; have := HK2.out; have := HK3.out; omega⟩, ⟨by (with_reducible repeat (first | apply r1_ | apply r2_ | apply r3_)); exact HO_3.out⟩, ⟨by (with_reducible repeat (first | apply r1_ | apply r2_ | apply r3_)); exact HO_4.out⟩, ⟨by (with_reducible repeat (first | apply r1_ | apply r2_ | apply r3_)); exact HO_6.out⟩, ⟨by repeat (first | (with_reducible first | exact HB.out | apply b1_ | apply b2_ | apply b3_) | exact HB.out)⟩⟩
              ·rw [if_neg c23] at H
               exact absurd H (by simp)
             ·rw [if_neg c22] at H
              exact absurd H (by simp)
            ·rw [if_neg c21] at H
             exact absurd H (by simp)
           ·rw [if_neg c20] at H
            have c20b0 : decide (x7_3 < (x4_2.length : Int)) = false := decide_eq_false c20
            clear c20
            obtain ⟨y183, hy183⟩ : ∃ y_ : List Int, y_ = (([] : List Int)) := ⟨_, rfl⟩
            replace H : (spec_l01Hash.l3 k3 x3_3 y183 0) = some r := by first | (rw [hy183]; with_reducible exact H) | (have H2_ := (Option.bind_some _ _).symm.trans H; rw [hy183]; with_reducible exact H2_) | (have H2_ := (Option.bind_some _ _).symm.trans H; with_reducible exact H2_) | with_reducible exact H | (rw [hy183]; exact H) | exact H
            have Ny183 := am_ hy183
            clear hy183
            have H' := am_ H
            clear H
            obtain ⟨Ao30, co30, eo30⟩ := Kd.R_slice HO_4.out
            subst eo30
            go_wp2_with (first | ((with_reducible refine gate_dst (N := 53) rfl ?_); refine Kd.R_lit (Kd.int .u8) _ 5 ?hg (N := 53) ?hd (xs := ([] : List Int)) (inner := []) (ok := fun _ => True) (okp := fun _ => True) ?hr ?hp (fun _ hk => hk) trivial (Below.refl _ _) (Nat.le_refl _) (by simp) ?_; (case hd => rfl); (case hg => rfl); (case hr => first | (go_simp; done) | (go_simp; rfl)); (case hp => exact (Reps.none _ _)); intro v184 w31 ho32 hb hg_ hnew_; clear hg_ hnew_; (first | rw [← Ny183.out] at ho32 | (simp only [Int.reduceToNat] at ho32; rw [← Ny183.out] at ho32)); have n0_ := am_ (Kd.R_below (by (with_reducible repeat (first | apply r1_ | apply r2_ | apply r3_)); exact HO_3.out) hb); have n1_ := am_ (Kd.R_elder' (by (with_reducible repeat (first | apply r1_ | apply r2_ | apply r3_)); exact HO_4.out) (Kd.R_base ho32) hb); have n2_ := am_ (Kd.R_below (by (with_reducible repeat (first | apply r1_ | apply r2_ | apply r3_)); exact HO_6.out) hb); have n3_ := am_ (Kd.R_lower (Kd.R_new' ho32 (Kd.R_lt (by (with_reducible repeat (first | apply r1_ | apply r2_ | apply r3_)); exact HO_4.out))) (below_size (by repeat (first | (with_reducible first | exact HB.out | apply b1_ | apply b2_ | apply b3_) | exact HB.out)))); have n4_ := am_ (below_step (by repeat (first | (with_reducible first | exact HB.out | apply b1_ | apply b2_ | apply b3_) | exact HB.out)) hb); clear HO_3; clear HO_4; clear HO_6; clear HB; have HO_3 := n0_; have HO_4 := n1_; have HO_6 := n2_; have HO185 := n3_; have HB := n4_; clear n0_ n1_ n2_ n3_ n4_; clear hb ho32))
            go_loopg [8, 9] k3 (fun kq v8 v9 w' => ∃ (x8_4 : List Int) (x9_4 : Int), v9 = .int .i64 x9_4 ∧ Aside0 (spec_l01Hash.l3 kq x3_3 x8_4 x9_4 = some r) ∧ Aside0 (kq ≤ k3) ∧ Aside0 (Kd.R (Kd.int .u32) 117 w' w.heap.size (fun _ => True) v158 x3_3) ∧ Aside0 (Kd.R (Kd.int .u8) 5 w' w.heap.size (fun _ => True) v8 x8_4) ∧ Aside0 (Below w.heap.size w w'))
            case atStart => exact ⟨(y183), (0), (by first | rfl | (simp; done) | (simp [*]; done)), H', ⟨Nat.le_refl _⟩, ⟨by (with_reducible repeat (first | apply r1_ | apply r2_ | apply r3_)); exact Kd.R_mono HO_3.out (fun _ hk => trivial)⟩, ⟨by (with_reducible repeat (first | apply r1_ | apply r2_ | apply r3_)); exact Kd.R_mono HO185.out (fun _ hk => trivial)⟩, ⟨by repeat (first | (with_reducible first | exact HB.out | apply b1_ | apply b2_ | apply b3_) | exact HB.out)⟩⟩
            case round =>
             clear H'
             try clear c1
             try clear c2
             try clear p2
             try clear q2
             try clear c3
             try clear p6
             try clear c8
             try clear c10
             try clear c10b0
             try clear c10b1
             try clear c11
             try clear c12
             try clear c12b0
             try clear c14
             try clear c14b0
             try clear c14b1
             try clear c16
             try clear c20
             try clear c20b0
             try clear c21
             try clear c21b0
             try clear c21b1
             try clear c22
             try clear c22b0
             try clear c22b1
             try clear c23
             try clear c23b0
             try clear c23b1
             try clear c26
             try clear q26
             try clear p2
             try clear p6
             try clear q026
             try clear q26
             obtain ⟨x8_4, x9_4, rfl, HA, HK4, HO_3, HO_8, HB⟩ := hrel
             cases gk with
             | zero => exact absurd HA.out (by simp [spec_l01Hash.l3])
             | succ k4 =>
              have H := HA.out
              clear HA
              simp only [spec_l01Hash.l3] at H
              by_cases c33 : x9_4 < 8
              ·rw [if_pos c33] at H
               have c33b0 : decide (x9_4 < 8) = true := decide_eq_true c33
               clear c33
               by_cases c34 : 0 ≤ x9_4
               ·rw [if_pos c34] at H
                have c34b0 : decide (0 ≤ x9_4) = true := decide_eq_true c34
                clear c34
                by_cases c35 : x9_4 < (x3_3.length : Int)
                ·rw [if_pos c35] at H
                 have c35b0 : decide (x9_4 < (x3_3.length : Int)) = true := decide_eq_true c35
                 clear c35
                 obtain ⟨y190, hy190⟩ : ∃ y_ : List Int, y_ = (([((rd x3_3 x9_4) / 16777216) % 256, ((rd x3_3 x9_4) / 65536) % 256, ((rd x3_3 x9_4) / 256) % 256, (rd x3_3 x9_4) % 256] : List Int)) := ⟨_, rfl⟩
                 replace H : (if x8_4.length + y190.length < 140737488355328 then (spec_l01Hash.l3 k4 x3_3 (x8_4 ++ y190) (wrap64 (x9_4 + 1))) else (none)) = some r := by first | (rw [hy190]; with_reducible exact H) | (have H2_ := (Option.bind_some _ _).symm.trans H; rw [hy190]; with_reducible exact H2_) | (have H2_ := (Option.bind_some _ _).symm.trans H; with_reducible exact H2_) | with_reducible exact H | (rw [hy190]; exact H) | exact H
                 have Ny190 := am_ hy190
                 clear hy190
                 by_cases c36 : x8_4.length + y190.length < 140737488355328
                 ·rw [if_pos c36] at H
                  have LMc36 := am_ c36
                  clear c36
                  obtain ⟨y193, hy193⟩ : ∃ y_ : List Int, y_ = (x8_4 ++ y190) := ⟨_, rfl⟩
                  replace H : (spec_l01Hash.l3 k4 x3_3 y193 (wrap64 (x9_4 + 1))) = some r := by first | (rw [hy193]; with_reducible exact H) | (have H2_ := (Option.bind_some _ _).symm.trans H; rw [hy193]; with_reducible exact H2_) | (have H2_ := (Option.bind_some _ _).symm.trans H; with_reducible exact H2_) | with_reducible exact H | (rw [hy193]; exact H) | exact H
                  have Ny193 := am_ hy193
                  clear hy193
                  have H' := am_ H
                  clear H
                  try go_wp2
                  have n0_ := am_ (Kd.R_drew HO_3.out)
                  have n1_ := am_ (Kd.R_drew HO_8.out)
                  have n2_ := am_ (below_drew1 HB.out)
                  clear HO_3
                  clear HO_8
                  clear HB
                  have HO_3 := n0_
                  have HO_8 := n1_
                  have HB := n2_
                  clear n0_ n1_ n2_
                  obtain ⟨Ao38, co38, eo38⟩ := Kd.R_slice HO_3.out
                  (first | subst eo38 | (injection eo38 with f1_ f2_ f3_; have f4_ := f1_.symm; have f5_ := f3_.symm; clear f1_ f2_ f3_; subst f4_; subst f5_))
                  have p186 : 0 ≤ (x9_4 : Int) := o1_ (by first | (with_reducible assumption) | assumption)
                  have q186 : x9_4 < (x3_3.length : Int) := o1_ (by first | (with_reducible assumption) | assumption)
                  obtain ⟨ad186, e186, hx186_0⟩ := Kd.at_int (Kd.R_reads' HO_3.out).2.2 x9_4 p186 q186
                  cases e186
                  replace p186 := eq_true p186
                  replace q186 := eq_true q186
                  have p187 : 0 ≤ (x9_4 : Int) := o1_ (by first | (with_reducible assumption) | assumption)
                  have q187 : x9_4 < (x3_3.length : Int) := o1_ (by first | (with_reducible assumption) | assumption)
                  obtain ⟨ad187, e187, hx187_0⟩ := Kd.at_int (Kd.R_reads' HO_3.out).2.2 x9_4 p187 q187
                  obtain rfl : ad186 = ad187 := (by injection e187)
                  replace p187 := eq_true p187
                  replace q187 := eq_true q187
                  have p188 : 0 ≤ (x9_4 : Int) := o1_ (by first | (with_reducible assumption) | assumption)
                  have q188 : x9_4 < (x3_3.length : Int) := o1_ (by first | (with_reducible assumption) | assumption)
                  obtain ⟨ad188, e188, hx188_0⟩ := Kd.at_int (Kd.R_reads' HO_3.out).2.2 x9_4 p188 q188
                  obtain rfl : ad186 = ad188 := (by injection e188)
                  replace p188 := eq_true p188
                  replace q188 := eq_true q188
                  have p189 : 0 ≤ (x9_4 : Int) := o1_ (by first | (with_reducible assumption) | assumption)
                  have q189 : x9_4 < (x3_3.length : Int) := o1_ (by first | (with_reducible assumption) | assumption)
                  obtain ⟨ad189, e189, hx189_0⟩ := Kd.at_int (Kd.R_reads' HO_3.out).2.2 x9_4 p189 q189
                  obtain rfl : ad186 = ad189 := (by injection e189)
                  replace p189 := eq_true p189
                  replace q189 := eq_true q189
                  refine start_ (n := 27) (S := fun w' => w'.cell? (ad186.add (x9_4).toNat) = some (.int .u32 (rd x3_3 x9_4)) ∧ w'.cell? (ad186.add (x9_4).toNat) = some (.int .u32 (rd x3_3 x9_4)) ∧ w'.cell? (ad186.add (x9_4).toNat) = some (.int .u32 (rd x3_3 x9_4)) ∧ w'.cell? (ad186.add (x9_4).toNat) = some (.int .u32 (rd x3_3 x9_4))) (ds := [25]) #[false, false, false, false, false, false, false, false, false, false, false, false, false, false, false, false, false, false, false, false, false, false, false, false, false, false, false] (by kernel_rfl) rfl rfl ⟨hx186_0, hx187_0, hx188_0, hx189_0⟩ (fun hHeld => ?_); refine with_tabW spec_l01Hash.tab18 spec_l01Hash.bits18 (fun HT_ HW_ => ?_)
                  generalize wr.drew = w37 at HO_3 HO_8 HB hx186_0 hx187_0 hx188_0 hx189_0 hHeld ⊢
                  refine pure_ (i := 0) (N := some 58) (v := ?_) (a' := ?_) #[true, false, false, false, false, false, false, false, false, false, false, false, false, false, false, false, false, false, false, false, false, false, false, false, false, false, false] rfl rfl (any_of HT_.out (by kernel_rfl)) (fun _ _ _ h => h) (Or.inl ⟨by rfl, ?_⟩) ?_ ?_
                  rotate_left
                  ·intro w'
                   go_simp
                   with_reducible rfl
                  rotate_left
                  ·simp only [Act.put, p1_, p2_, p3_, i64_w, i32_w]
                   rfl
                  refine pure_ (i := 1) (N := some 59) (v := ?_) (a' := ?_) #[true, true, false, false, false, false, false, false, false, false, false, false, false, false, false, false, false, false, false, false, false, false, false, false, false, false, false] rfl rfl (any_of HT_.out (by kernel_rfl)) (fun _ _ _ h => h) (Or.inl ⟨by rfl, ?_⟩) ?_ ?_
                  rotate_left
                  ·intro w'
                   go_simp
                   with_reducible rfl
                  rotate_left
                  ·simp only [Act.put, p1_, p2_, p3_, i64_w, i32_w]
                   rfl
                  refine pure_ (i := 2) (N := some 60) (v := ?_) (a' := ?_) #[true, true, true, false, false, false, false, false, false, false, false, false, false, false, false, false, false, false, false, false, false, false, false, false, false, false, false] rfl rfl (any_of HT_.out (by kernel_rfl)) (fun _ _ _ h => h) (Or.inl ⟨by rfl, ?_⟩) ?_ ?_
                  rotate_left
                  ·intro w'
                   go_simp
                   with_reducible rfl
                  rotate_left
                  ·simp only [Act.put, p1_, p2_, p3_, i64_w, i32_w]
                   rfl
                  refine pure_ (i := 3) (N := some 61) (v := ?_) (a' := ?_) #[true, true, true, true, false, false, false, false, false, false, false, false, false, false, false, false, false, false, false, false, false, false, false, false, false, false, false] rfl rfl (any_of HT_.out (by kernel_rfl)) (fun _ _ _ h => h) (Or.inl ⟨by rfl, ?_⟩) ?_ ?_
                  rotate_left
                  ·intro w'
                   go_simp
                   with_reducible rfl
                  rotate_left
                  ·simp only [Act.put, p1_, p2_, p3_, i64_w, i32_w]
                   rfl
                  refine pure_ (i := 7) (N := some 65) (v := ?_) (a' := ?_) #[true, true, true, true, false, false, false, true, false, false, false, false, false, false, false, false, false, false, false, false, false, false, false, false, false, false, false] rfl rfl (any_of HT_.out (by kernel_rfl)) (fun _ _ _ h => h) (Or.inl ⟨by rfl, ?_⟩) ?_ ?_
                  rotate_left
                  ·intro w'
                   go_simp
                   with_reducible rfl
                  rotate_left
                  ·simp only [Act.put, p1_, p2_, p3_, i64_w, i32_w]
                   rfl
                  refine pure_ (i := 8) (N := some 66) (v := ?_) (a' := ?_) #[true, true, true, true, false, false, false, true, true, false, false, false, false, false, false, false, false, false, false, false, false, false, false, false, false, false, false] rfl rfl (any_of HT_.out (by kernel_rfl)) (fun _ _ _ h => h) (Or.inl ⟨by rfl, ?_⟩) ?_ ?_
                  rotate_left
                  ·intro w'
                   go_simp
                   with_reducible rfl
                  rotate_left
                  ·simp only [Act.put, p1_, p2_, p3_, i64_w, i32_w]
                   rfl
                  refine pure_ (i := 9) (N := some 67) (v := ?_) (a' := ?_) #[true, true, true, true, false, false, false, true, true, true, false, false, false, false, false, false, false, false, false, false, false, false, false, false, false, false, false] rfl rfl (any_of HT_.out (by kernel_rfl)) (fun _ _ _ h => h) (Or.inl ⟨by rfl, ?_⟩) ?_ ?_
                  rotate_left
                  ·intro w'
                   go_simp
                   with_reducible rfl
                  rotate_left
                  ·simp only [Act.put, p1_, p2_, p3_, i64_w, i32_w]
                   rfl
                  refine pure_ (i := 13) (N := some 71) (v := ?_) (a' := ?_) #[true, true, true, true, false, false, false, true, true, true, false, false, false, true, false, false, false, false, false, false, false, false, false, false, false, false, false] rfl rfl (any_of HT_.out (by kernel_rfl)) (fun _ _ _ h => h) (Or.inl ⟨by rfl, ?_⟩) ?_ ?_
                  rotate_left
                  ·intro w'
                   go_simp
                   with_reducible rfl
                  rotate_left
                  ·simp only [Act.put, p1_, p2_, p3_, i64_w, i32_w]
                   rfl
                  refine pure_ (i := 14) (N := some 72) (v := ?_) (a' := ?_) #[true, true, true, true, false, false, false, true, true, true, false, false, false, true, true, false, false, false, false, false, false, false, false, false, false, false, false] rfl rfl (any_of HT_.out (by kernel_rfl)) (fun _ _ _ h => h) (Or.inl ⟨by rfl, ?_⟩) ?_ ?_
                  rotate_left
                  ·intro w'
                   go_simp
                   with_reducible rfl
                  rotate_left
                  ·simp only [Act.put, p1_, p2_, p3_, i64_w, i32_w]
                   rfl
                  refine pure_ (i := 15) (N := some 73) (v := ?_) (a' := ?_) #[true, true, true, true, false, false, false, true, true, true, false, false, false, true, true, true, false, false, false, false, false, false, false, false, false, false, false] rfl rfl (any_of HT_.out (by kernel_rfl)) (fun _ _ _ h => h) (Or.inl ⟨by rfl, ?_⟩) ?_ ?_
                  rotate_left
                  ·intro w'
                   go_simp
                   with_reducible rfl
                  rotate_left
                  ·simp only [Act.put, p1_, p2_, p3_, i64_w, i32_w]
                   rfl
                  refine pure_ (i := 19) (N := some 77) (v := ?_) (a' := ?_) #[true, true, true, true, false, false, false, true, true, true, false, false, false, true, true, true, false, false, false, true, false, false, false, false, false, false, false] rfl rfl (any_of HT_.out (by kernel_rfl)) (fun _ _ _ h => h) (Or.inl ⟨by rfl, ?_⟩) ?_ ?_
                  rotate_left
                  ·intro w'
                   go_simp
                   with_reducible rfl
                  rotate_left
                  ·simp only [Act.put, p1_, p2_, p3_, i64_w, i32_w]
                   rfl
                  refine pure_ (i := 20) (N := some 78) (v := ?_) (a' := ?_) #[true, true, true, true, false, false, false, true, true, true, false, false, false, true, true, true, false, false, false, true, true, false, false, false, false, false, false] rfl rfl (any_of HT_.out (by kernel_rfl)) (fun _ _ _ h => h) (Or.inl ⟨by rfl, ?_⟩) ?_ ?_
                  rotate_left
                  ·intro w'
                   go_simp
                   with_reducible rfl
                  rotate_left
                  ·simp only [Act.put, p1_, p2_, p3_, i64_w, i32_w]
                   rfl
                  refine pure_ (i := 21) (N := some 79) (v := ?_) (a' := ?_) #[true, true, true, true, false, false, false, true, true, true, false, false, false, true, true, true, false, false, false, true, true, true, false, false, false, false, false] rfl rfl (any_of HT_.out (by kernel_rfl)) (fun _ _ _ h => h) (Or.inl ⟨by rfl, ?_⟩) ?_ ?_
                  rotate_left
                  ·intro w'
                   go_simp
                   with_reducible rfl
                  rotate_left
                  ·simp only [Act.put, p1_, p2_, p3_, i64_w, i32_w]
                   rfl
                  refine take_ (i := 4) (N := some 62) (v := ?_) (a' := ?_) #[true, true, true, true, true, false, false, true, true, true, false, false, false, true, true, true, false, false, false, true, true, true, false, false, false, false, false] rfl rfl (take_ofW HT_.out HW_.out (by kernel_rfl)) (fun _ _ _ h => h) (Or.inl ⟨by rfl, ?_⟩) hHeld ?_ ?_
                  rotate_left
                  ·rintro w' ⟨s0, s1, s2, s3⟩
                   go_simp
                   with_reducible rfl
                  rotate_left
                  ·simp only [Act.put, p1_, p2_, p3_, i64_w, i32_w]
                   rfl
                  refine pure_ (i := 5) (N := some 63) (v := ?_) (a' := ?_) #[true, true, true, true, true, true, false, true, true, true, false, false, false, true, true, true, false, false, false, true, true, true, false, false, false, false, false] rfl rfl (any_of HT_.out (by kernel_rfl)) (fun _ _ _ h => h) (Or.inl ⟨by rfl, ?_⟩) ?_ ?_
                  rotate_left
                  ·intro w'
                   go_simp
                   with_reducible rfl
                  rotate_left
                  ·simp only [Act.put, p1_, p2_, p3_, i64_w, i32_w]
                   rfl
                  refine pure_ (i := 6) (N := some 64) (v := ?_) (a' := ?_) #[true, true, true, true, true, true, true, true, true, true, false, false, false, true, true, true, false, false, false, true, true, true, false, false, false, false, false] rfl rfl (any_of HT_.out (by kernel_rfl)) (fun _ _ _ h => h) (Or.inl ⟨by rfl, ?_⟩) ?_ ?_
                  rotate_left
                  ·intro w'
                   go_simp
                   with_reducible rfl
                  rotate_left
                  ·simp only [Act.put, p1_, p2_, p3_, i64_w, i32_w]
                   rfl
                  refine take_ (i := 10) (N := some 68) (v := ?_) (a' := ?_) #[true, true, true, true, true, true, true, true, true, true, true, false, false, true, true, true, false, false, false, true, true, true, false, false, false, false, false] rfl rfl (take_ofW HT_.out HW_.out (by kernel_rfl)) (fun _ _ _ h => h) (Or.inl ⟨by rfl, ?_⟩) hHeld ?_ ?_
                  rotate_left
                  ·rintro w' ⟨s0, s1, s2, s3⟩
                   go_simp
                   with_reducible rfl
                  rotate_left
                  ·simp only [Act.put, p1_, p2_, p3_, i64_w, i32_w]
                   rfl
                  refine pure_ (i := 11) (N := some 69) (v := ?_) (a' := ?_) #[true, true, true, true, true, true, true, true, true, true, true, true, false, true, true, true, false, false, false, true, true, true, false, false, false, false, false] rfl rfl (any_of HT_.out (by kernel_rfl)) (fun _ _ _ h => h) (Or.inl ⟨by rfl, ?_⟩) ?_ ?_
                  rotate_left
                  ·intro w'
                   go_simp
                   with_reducible rfl
                  rotate_left
                  ·simp only [Act.put, p1_, p2_, p3_, i64_w, i32_w]
                   rfl
                  refine pure_ (i := 12) (N := some 70) (v := ?_) (a' := ?_) #[true, true, true, true, true, true, true, true, true, true, true, true, true, true, true, true, false, false, false, true, true, true, false, false, false, false, false] rfl rfl (any_of HT_.out (by kernel_rfl)) (fun _ _ _ h => h) (Or.inl ⟨by rfl, ?_⟩) ?_ ?_
                  rotate_left
                  ·intro w'
                   go_simp
                   with_reducible rfl
                  rotate_left
                  ·simp only [Act.put, p1_, p2_, p3_, i64_w, i32_w]
                   rfl
                  refine take_ (i := 16) (N := some 74) (v := ?_) (a' := ?_) #[true, true, true, true, true, true, true, true, true, true, true, true, true, true, true, true, true, false, false, true, true, true, false, false, false, false, false] rfl rfl (take_ofW HT_.out HW_.out (by kernel_rfl)) (fun _ _ _ h => h) (Or.inl ⟨by rfl, ?_⟩) hHeld ?_ ?_
                  rotate_left
                  ·rintro w' ⟨s0, s1, s2, s3⟩
                   go_simp
                   with_reducible rfl
                  rotate_left
                  ·simp only [Act.put, p1_, p2_, p3_, i64_w, i32_w]
                   rfl
                  refine pure_ (i := 17) (N := some 75) (v := ?_) (a' := ?_) #[true, true, true, true, true, true, true, true, true, true, true, true, true, true, true, true, true, true, false, true, true, true, false, false, false, false, false] rfl rfl (any_of HT_.out (by kernel_rfl)) (fun _ _ _ h => h) (Or.inl ⟨by rfl, ?_⟩) ?_ ?_
                  rotate_left
                  ·intro w'
                   go_simp
                   with_reducible rfl
                  rotate_left
                  ·simp only [Act.put, p1_, p2_, p3_, i64_w, i32_w]
                   rfl
                  refine pure_ (i := 18) (N := some 76) (v := ?_) (a' := ?_) #[true, true, true, true, true, true, true, true, true, true, true, true, true, true, true, true, true, true, true, true, true, true, false, false, false, false, false] rfl rfl (any_of HT_.out (by kernel_rfl)) (fun _ _ _ h => h) (Or.inl ⟨by rfl, ?_⟩) ?_ ?_
                  rotate_left
                  ·intro w'
                   go_simp
                   with_reducible rfl
                  rotate_left
                  ·simp only [Act.put, p1_, p2_, p3_, i64_w, i32_w]
                   rfl
                  refine take_ (i := 22) (N := some 80) (v := ?_) (a' := ?_) #[true, true, true, true, true, true, true, true, true, true, true, true, true, true, true, true, true, true, true, true, true, true, true, false, false, false, false] rfl rfl (take_ofW HT_.out HW_.out (by kernel_rfl)) (fun _ _ _ h => h) (Or.inl ⟨by rfl, ?_⟩) hHeld ?_ ?_
                  rotate_left
                  ·rintro w' ⟨s0, s1, s2, s3⟩
                   go_simp
                   with_reducible rfl
                  rotate_left
                  ·simp only [Act.put, p1_, p2_, p3_, i64_w, i32_w]
                   rfl
                  refine pure_ (i := 23) (N := some 81) (v := ?_) (a' := ?_) #[true, true, true, true, true, true, true, true, true, true, true, true, true, true, true, true, true, true, true, true, true, true, true, true, false, false, false] rfl rfl (any_of HT_.out (by kernel_rfl)) (fun _ _ _ h => h) (Or.inl ⟨by rfl, ?_⟩) ?_ ?_
                  rotate_left
                  ·intro w'
                   go_simp
                   with_reducible rfl
                  rotate_left
                  ·simp only [Act.put, p1_, p2_, p3_, i64_w, i32_w]
                   rfl
                  refine one_ (i := 24) (N := some 82) #[true, true, true, true, true, true, true, true, true, true, true, true, true, true, true, true, true, true, true, true, true, true, true, true, true, false, false] rfl rfl (one_of HT_.out (by kernel_rfl)) (by decide) (fun K hK => ?_)
                  refine Kd.R_lit_step (Kd.int .u8) _ 5 ?hg (N := 82) ?hd (xs := ([((rd x3_3 x9_4) / 16777216) % 256, ((rd x3_3 x9_4) / 65536) % 256, ((rd x3_3 x9_4) / 256) % 256, (rd x3_3 x9_4) % 256] : List Int)) (inner := [.int .u8 (((rd x3_3 x9_4) / 16777216) % 256), .int .u8 (((rd x3_3 x9_4) / 65536) % 256), .int .u8 (((rd x3_3 x9_4) / 256) % 256), .int .u8 ((rd x3_3 x9_4) % 256)]) (ok := fun _ => True) (okp := fun _ => True) ?hr ?hp (fun _ hk => hk) trivial (Below.refl _ _) (Nat.le_refl _) (by simp) ?_; (case hd => rfl); (case hg => rfl); (case hr => first | (go_simp; done) | (go_simp; rfl)); (case hp => exact (Reps.one (show Kd.M (Kd.int .u8) _ _ _ (((rd x3_3 x9_4) / 16777216) % 256) [.int .u8 (((rd x3_3 x9_4) / 16777216) % 256)] from rfl) (Reps.one (show Kd.M (Kd.int .u8) _ _ _ (((rd x3_3 x9_4) / 65536) % 256) [.int .u8 (((rd x3_3 x9_4) / 65536) % 256)] from rfl) (Reps.one (show Kd.M (Kd.int .u8) _ _ _ (((rd x3_3 x9_4) / 256) % 256) [.int .u8 (((rd x3_3 x9_4) / 256) % 256)] from rfl) (Reps.one (show Kd.M (Kd.int .u8) _ _ _ ((rd x3_3 x9_4) % 256) [.int .u8 ((rd x3_3 x9_4) % 256)] from rfl) (Reps.none _ _))))))
                  intro v191 w39 ho40 hb hg_ hnew_
                  have HS0_ := (hb.cell (World.block_lt_of_cell? _ _ (hHeld.1))).trans (hHeld.1)
                  have HS1_ := (hb.cell (World.block_lt_of_cell? _ _ (hHeld.2.1))).trans (hHeld.2.1)
                  have HS2_ := (hb.cell (World.block_lt_of_cell? _ _ (hHeld.2.2.1))).trans (hHeld.2.2.1)
                  have HS3_ := (hb.cell (World.block_lt_of_cell? _ _ (hHeld.2.2.2))).trans (hHeld.2.2.2)
                  clear hg_ hnew_
                  (first | rw [← Ny190.out] at ho40 | (simp only [Int.reduceToNat] at ho40; rw [← Ny190.out] at ho40))
                  have n0_ := am_ (Kd.R_below (by (with_reducible repeat (first | apply r1_ | apply r2_ | apply r3_)); exact HO_3.out) hb)
                  have n1_ := am_ (Kd.R_elder' (by (with_reducible repeat (first | apply r1_ | apply r2_ | apply r3_)); exact HO_8.out) (Kd.R_base ho40) hb)
                  have n2_ := am_ (Kd.R_lower (Kd.R_new' ho40 (Kd.R_lt (by (with_reducible repeat (first | apply r1_ | apply r2_ | apply r3_)); exact HO_8.out))) (below_size (by repeat (first | (with_reducible first | exact HB.out | apply b1_ | apply b2_ | apply b3_) | exact HB.out))))
                  have n3_ := am_ (below_step (by repeat (first | (with_reducible first | exact HB.out | apply b1_ | apply b2_ | apply b3_) | exact HB.out)) hb)
                  clear HO_3
                  clear HO_8
                  clear HB
                  have HO_3 := n0_
                  have HO_8 := n1_
                  have HO192 := n2_
                  have HB := n3_
                  clear n0_ n1_ n2_ n3_
                  clear hb ho40
                  obtain ⟨Ao42, co42, eo42⟩ := Kd.R_slice HO192.out
                  (first | subst eo42 | (injection eo42 with f1_ f2_ f3_; have f4_ := f1_.symm; have f5_ := f3_.symm; clear f1_ f2_ f3_; subst f4_; subst f5_))
                  refine hK.out _ _ ⟨HS0_, HS1_, HS2_, HS3_⟩ (fun hHeld => ?_)
                  clear hK K
                  refine norm_ (a' := ?_) ?_ ?_
                  rotate_left
                  ·show Act.put _ (some 82) _ = _
                   simp only [Act.put, p1_, p2_, p3_, i64_w, i32_w]
                   rfl
                  refine last_ (i := 25) (N := some 83) #[true, true, true, true, true, true, true, true, true, true, true, true, true, true, true, true, true, true, true, true, true, true, true, true, true, true, false] rfl rfl (one_of HT_.out (by kernel_rfl)) (by decide) (fun K hK => ?_)
                  refine Kd.R_append_rows_step (Kd.int .u8) (w0 := w) w.heap.size (by rfl) (.tmp 58) (.tmp 82) 94 5 (.int .u8 0) 1 rfl Tryd.underlying94 info5 rfl (by decide) (by omega) u8 x8_4 y190 _ _ _ (fun k_ => some k_ ≠ (.slice Ao42 y190.length co42 : Value).ownBlock) (fun _ => False) rfl rfl ?aO ?aR (fun _ _ h => h) (fun _ h => h.elim) ?aF ?aB ?aS ?aL ?_
                  (case aR => repeat (first | exact (Kd.R_reads' HO192.out).2.2 | (with_reducible refine Kd.C_alloc ?_ _) | (with_reducible refine Kd.C_drewN ?_ _) | (with_reducible refine Kd.C_drew ?_)))
                  (case aB => exact (by repeat (first | (with_reducible first | exact HB.out | apply b1_ | apply b2_ | apply b3_) | exact HB.out)))
                  (case aF => exact (fun k_ hk => Kd.fresh' (Kd.R_lt (by (with_reducible repeat (first | apply r1_ | apply r2_ | apply r3_)); exact HO192.out)) k_ hk))
                  (case aO => exact (by (with_reducible repeat (first | apply r1_ | apply r2_ | apply r3_)); exact Kd.R_mono HO_8.out (fun _ hk => hk.2)))
                  (case aS => exact (below_size (by repeat (first | (with_reducible first | exact HB.out | apply b1_ | apply b2_ | apply b3_) | exact HB.out))))
                  (case aL => have := LMc36.out; omega)
                  intro v194 w41 ho hb hg hat
                  rw [← Ny193.out] at ho
                  have n0_ := am_ (Kd.R_over' (by (with_reducible repeat (first | apply r1_ | apply r2_ | apply r3_)); exact HO_3.out) (Kd.R_typed (by (with_reducible repeat (first | apply r1_ | apply r2_ | apply r3_)); exact HO_8.out)) (by decide) hg)
                  have n1_ := am_ (Kd.R_after (ok := (fun _ => True)) (by (with_reducible repeat (first | apply r1_ | apply r2_ | apply r3_)); exact HO192.out) hg hat)
                  have n2_ := am_ (hb)
                  have n3_ := am_ (ho)
                  clear HO_3
                  clear HO192
                  clear HB
                  clear HO_8
                  have HO_3 := n0_
                  have HO192 := n1_
                  have HB := n2_
                  have HO195 := n3_
                  clear n0_ n1_ n2_ n3_
                  clear ho hb hg hat
                  refine hK.out _ _ ?_
                  clear hK K
                  refine norm_ (a' := ?_) ?_ ?_
                  rotate_left
                  ·show Act.put _ (some 83) _ = _
                   simp only [Act.put, p1_, p2_, p3_, i64_w, i32_w]
                   rfl
                  refine pure_ (i := 26) (N := some 8) (v := ?_) (a' := ?_) #[true, true, true, true, true, true, true, true, true, true, true, true, true, true, true, true, true, true, true, true, true, true, true, true, true, true, true] rfl rfl (any_of HT_.out (by kernel_rfl)) (fun _ _ _ h => h) (Or.inl ⟨by rfl, ?_⟩) ?_ ?_
                  rotate_left
                  ·intro w'
                   go_simp
                   with_reducible rfl
                  rotate_left
                  ·simp only [Act.put, p1_, p2_, p3_, i64_w, i32_w]
                   rfl
                  refine done_ (done_of HT_.out (by kernel_rfl)) ?_
                  try go_wp2
                  go_roundg k4
                  case measure => have := HK1.out; have := HK2.out; have := HK3.out; have := HK4.out; omega
                  case rel => exact ⟨(y193), (wrap64 (x9_4 + 1)), (by first | rfl | (simp; done) | (simp [*]; done)), H', ⟨by have := HK1.out; have := HK2.out; have := HK3.out; have := HK4.out; omega⟩, ⟨by (with_reducible repeat (first | apply r1_ | apply r2_ | apply r3_)); exact HO_3.out⟩, ⟨by (with_reducible repeat (first | apply r1_ | apply r2_ | apply r3_)); exact Kd.R_mono HO195.out (fun _ hk => trivial)⟩, ⟨by repeat (first | (with_reducible first | exact HB.out | apply b1_ | apply b2_ | apply b3_) | exact HB.out)⟩⟩
                 ·rw [if_neg c36] at H
                  exact absurd H (by simp)
                ·rw [if_neg c35] at H
                 exact absurd H (by simp)
               ·rw [if_neg c34] at H
                exact absurd H (by simp)
              ·rw [if_neg c33] at H
               have c33b0 : decide (x9_4 < 8) = false := decide_eq_false c33
               clear c33
               obtain rfl := Option.some.inj H
               have hcv43 := own_string (P := Tryd.prog) Tryd.underlying94 Tryd.underlying5 Tryd.underlying9 (Kd.own_of_R HO_8.out)
               go_wp2
               go_ret
               exact ⟨by first | rfl | (simp [e1_, e2_] <;> rfl) | (simp [*, e1_, e2_] <;> rfl) | (simp [e3_, e4_]; done) | (simp [*, e3_, e4_]; done), by repeat (first | (with_reducible first | exact HB.out | apply b1_ | apply b2_ | apply b3_) | exact HB.out)⟩
     ·rw [if_neg c10] at H
      have c10b0 : (((x4_1.length : Int) % 64) == 56) = false := beq_eq_false_iff_ne.mpr c10
      have c10b1 : (((x4_1.length : Int) % 64) != 56) = true := bne_iff_ne.mpr c10
      by_cases c44 : x4_1.length < 140737488355328
      ·rw [if_pos c44] at H
       have LMc44 := am_ c44
       clear c44
       obtain ⟨y169, hy169⟩ : ∃ y_ : List Int, y_ = (x4_1 ++ [0]) := ⟨_, rfl⟩
       replace H : (spec_l01Hash.l0 k1 l0 y157 y169) = some r := by first | (rw [hy169]; with_reducible exact H) | (have H2_ := (Option.bind_some _ _).symm.trans H; rw [hy169]; with_reducible exact H2_) | (have H2_ := (Option.bind_some _ _).symm.trans H; with_reducible exact H2_) | with_reducible exact H | (rw [hy169]; exact H) | exact H
       have Ny169 := am_ hy169
       clear hy169
       have H' := am_ H
       clear H
       obtain ⟨Ao45, co45, eo45⟩ := Kd.R_slice HO_4.out
       subst eo45
       go_wp2_with (first | ((with_reducible refine gate_builtin (b := .append) (xs := #[.tmp 20, .tmp 21]) rfl ?_); at_builtin; refine Kd.R_append (Kd.int .u8) (w0 := w) w.heap.size rfl (.tmp 20) (.tmp 21) 94 5 (.int .u8 0) 1 rfl Tryd.underlying94 info5 rfl (by decide) (by omega) (.slice Ao45 x4_1.length co45) x4_1 0 [.int .u8 0] (fun _ => True) (fun _ => False) rfl rfl ?aP (fun _ hk => hk.elim) ?aF ?aO ?aB ?aS ?aL ?_; (case aP => exact rfl); (case aB => exact (by repeat (first | (with_reducible first | exact HB.out | apply b1_ | apply b2_ | apply b3_) | exact HB.out))); (case aF => exact (fun _ _ => trivial)); (case aO => exact (by (with_reducible repeat (first | apply r1_ | apply r2_ | apply r3_)); exact HO_4.out)); (case aS => exact (below_size (by repeat (first | (with_reducible first | exact HB.out | apply b1_ | apply b2_ | apply b3_) | exact HB.out)))); (case aL => have := LMc44.out; omega); intro v170 w46 ho hb hg hat; rw [← Ny169.out] at ho; have n0_ := am_ (Kd.R_over' (by (with_reducible repeat (first | apply r1_ | apply r2_ | apply r3_)); exact HO_3.out) (Kd.R_typed (by (with_reducible repeat (first | apply r1_ | apply r2_ | apply r3_)); exact HO_4.out)) (by decide) hg); have n1_ := am_ (hb); have n2_ := am_ (ho); clear HO_3; clear HB; clear HO_4; have HO_3 := n0_; have HB := n1_; have HO171 := n2_; clear n0_ n1_ n2_; clear ho hb hg hat))
       go_roundg k1
       case measure => have := HK1.out; omega
       case rel => exact ⟨(y169), H', ⟨by have := HK1.out; omega⟩, ⟨by (with_reducible repeat (first | apply r1_ | apply r2_ | apply r3_)); exact HO_3.out⟩, ⟨by (with_reducible repeat (first | apply r1_ | apply r2_ | apply r3_)); exact HO171.out⟩, ⟨by repeat (first | (with_reducible first | exact HB.out | apply b1_ | apply b2_ | apply b3_) | exact HB.out)⟩⟩
      ·rw [if_neg c44] at H
       exact absurd H (by simp)
  ·rw [if_neg c3] at H
   exact absurd H (by simp)
 ·rw [if_neg c2] at H
  exact absurd H (by simp)
set_option maxHeartbeats 8000000 in
set_option maxRecDepth 100000 in
theorem spec_l04Secret.calls (k : Nat) (a0 : Int) (r : ByteArray) (w : World) (h : spec_l04Secret.f k a0 = some r) :
  Calls Tryd.prog 122 #[.int .i64 a0] w fun e w' => e = .returned (.string r) ∧ Below w.heap.size w w' := by
 have HB := am_ (Below.refl w.heap.size w)
 have H : ((some (([(a0) % 256] : List Int) : List Int)).bind fun y220 => (if 8 + (strOfNums y220).size ≤ 9223372036854775807 then (if ((⟨#[110, 111, 100, 101, 32, 107, 101, 121]⟩ : ByteArray) ++ (strOfNums y220)).size ≤ 140737488355328 then ((spec_l01Hash.f k (bytesOf ((⟨#[110, 111, 100, 101, 32, 107, 101, 121]⟩ : ByteArray) ++ (strOfNums y220)))).bind fun t226 => (some t226)) else (none)) else (none))) = some r := h
 clear h
 obtain ⟨y220, hy220⟩ : ∃ y_ : List Int, y_ = (([(a0) % 256] : List Int)) := ⟨_, rfl⟩
 replace H : (if 8 + (strOfNums y220).size ≤ 9223372036854775807 then (if ((⟨#[110, 111, 100, 101, 32, 107, 101, 121]⟩ : ByteArray) ++ (strOfNums y220)).size ≤ 140737488355328 then ((spec_l01Hash.f k (bytesOf ((⟨#[110, 111, 100, 101, 32, 107, 101, 121]⟩ : ByteArray) ++ (strOfNums y220)))).bind fun t226 => (some t226)) else (none)) else (none)) = some r := by first | (rw [hy220]; with_reducible exact H) | (have H2_ := (Option.bind_some _ _).symm.trans H; rw [hy220]; with_reducible exact H2_) | (have H2_ := (Option.bind_some _ _).symm.trans H; with_reducible exact H2_) | with_reducible exact H | (rw [hy220]; exact H) | exact H
 have Ny220 := am_ hy220
 clear hy220
 by_cases c2 : 8 + (strOfNums y220).size ≤ 9223372036854775807
 ·rw [if_pos c2] at H
  have c2b0 := eq_true c2
  have c2b1 : decide (8 + (strOfNums y220).size ≤ 9223372036854775807) = true := decide_eq_true c2
  try have c2b2 : (9223372036854775807 < 8 + (strOfNums y220).size) = False := eq_false (Nat.not_lt.2 c2)
  by_cases c3 : ((⟨#[110, 111, 100, 101, 32, 107, 101, 121]⟩ : ByteArray) ++ (strOfNums y220)).size ≤ 140737488355328
  ·rw [if_pos c3] at H
   have c3b0 := eq_true c3
   have c3b1 : decide (((⟨#[110, 111, 100, 101, 32, 107, 101, 121]⟩ : ByteArray) ++ (strOfNums y220)).size ≤ 140737488355328) = true := decide_eq_true c3
   obtain ⟨y223, hy223⟩ : ∃ y_ : List Int, y_ = (bytesOf ((⟨#[110, 111, 100, 101, 32, 107, 101, 121]⟩ : ByteArray) ++ (strOfNums y220))) := ⟨_, rfl⟩
   replace H : ((spec_l01Hash.f k y223).bind fun t226 => (some t226)) = some r := by first | (rw [hy223]; with_reducible exact H) | (have H2_ := (Option.bind_some _ _).symm.trans H; rw [hy223]; with_reducible exact H2_) | (have H2_ := (Option.bind_some _ _).symm.trans H; with_reducible exact H2_) | with_reducible exact H | (rw [hy223]; exact H) | exact H
   have Ny223 := am_ hy223
   clear hy223
   replace H := Option.bind_eq_some_iff.mp H
   obtain ⟨t226, A40, H⟩ := H
   replace H : (some t226) = some r := H
   have A4 := am_ A40
   clear A40
   obtain rfl := Option.some.inj H
   go_enter Tryd.func122, Tryd.ntmps122
   go_wp2_with (first | ((with_reducible refine gate_dst (N := 5) rfl ?_); refine Kd.R_lit (Kd.int .u8) _ 5 ?hg (N := 5) ?hd (xs := ([(a0) % 256] : List Int)) (inner := [.int .u8 ((a0) % 256)]) (ok := fun _ => True) (okp := fun _ => True) ?hr ?hp (fun _ hk => hk) trivial (Below.refl _ _) (Nat.le_refl _) (by simp) ?_; (case hd => rfl); (case hg => rfl); (case hr => first | (go_simp; done) | (go_simp; rfl)); (case hp => exact (Reps.one (show Kd.M (Kd.int .u8) _ _ _ ((a0) % 256) [.int .u8 ((a0) % 256)] from rfl) (Reps.none _ _))); intro v221 w5 ho6 hb hg_ hnew_; clear hg_ hnew_; (first | rw [← Ny220.out] at ho6 | (simp only [Int.reduceToNat] at ho6; rw [← Ny220.out] at ho6)); have n0_ := am_ (Kd.R_lower ho6 (below_size (by repeat (first | (with_reducible first | exact HB.out | apply b1_ | apply b2_ | apply b3_) | exact HB.out)))); have n1_ := am_ (below_step (by repeat (first | (with_reducible first | exact HB.out | apply b1_ | apply b2_ | apply b3_) | exact HB.out)) hb); clear HB; have HO222 := n0_; have HB := n1_; clear n0_ n1_; clear hb ho6; have hcv7 := own_string (P := Tryd.prog) Tryd.underlying94 Tryd.underlying5 Tryd.underlying9 (Kd.own_of_R HO222.out)) | ((with_reducible refine gate_dst (N := 8) rfl ?_); refine Kd.V_conv (Kd.int .u8) rfl _ 5 rfl (N := 8) rfl 9 94 _ rfl ((⟨#[110, 111, 100, 101, 32, 107, 101, 121]⟩ : ByteArray) ++ (strOfNums y220)) rfl Tryd.underlying9 Tryd.underlying94 Tryd.underlying5 (ok := fun k_ => w5.heap.size ≤ k_) (okp := fun _ => False) (fun _ hk => hk.elim) (Nat.le_refl _) (by have := o1_ (by first | (with_reducible assumption) | assumption : decide (((⟨#[110, 111, 100, 101, 32, 107, 101, 121]⟩ : ByteArray) ++ (strOfNums y220)).size ≤ 140737488355328) = true); omega) (Below.refl _ _) (Nat.le_refl _) ?_; intro v224 w8 ho9 hb hg_ hnew_; clear hg_ hnew_; (first | rw [← Ny223.out] at ho9 | (simp only [Int.reduceToNat] at ho9; rw [← Ny223.out] at ho9)); have n0_ := am_ (Kd.R_below (by (with_reducible repeat (first | apply r1_ | apply r2_ | apply r3_)); exact HO222.out) hb); have n1_ := am_ (Kd.V_lower (Kd.V_mono (ok' := fun k_ => some k_ ≠ (v221 : Value).ownBlock) ho9 (fun k_ hk_ => (Kd.fresh' (Kd.R_lt (by (with_reducible repeat (first | apply r1_ | apply r2_ | apply r3_)); exact HO222.out)) k_ hk_))) (below_size (by repeat (first | (with_reducible first | exact HB.out | apply b1_ | apply b2_ | apply b3_) | exact HB.out)))); have n2_ := am_ (below_step (by repeat (first | (with_reducible first | exact HB.out | apply b1_ | apply b2_ | apply b3_) | exact HB.out)) hb); clear HO222; clear HB; have HO222 := n0_; have HO225 := n1_; have HB := n2_; clear n0_ n1_ n2_; clear hb ho9; obtain ⟨Ao10, co10, eo10⟩ := Kd.V_slice HO225.out; subst eo10) | ((with_reducible refine gate_callee (f := 83) rfl ?_); refine goesL_ (some 9) rfl rfl Tryd.func83 (by kernel_rfl) rfl #[.slice Ao10 y223.length co10] rfl (by (try simp only [m1_, m2_, m3_]); first | done | rfl | (simp only [d1_, d2_]; rfl)) ?_; (with_reducible refine (spec_l01Hash.calls k _ _ y223 t226 _ ?side1 ?side2 A4.out).mono ?_); (case side1 => repeat (first | exact (Kd.V_reads' HO225.out).2.2 | (with_reducible refine Kd.C_alloc ?_ _) | (with_reducible refine Kd.C_drewN ?_ _) | (with_reducible refine Kd.C_drew ?_))); (case side2 => exact (Kd.V_reads' HO225.out).2.1); rintro e w11 ⟨rfl, hb⟩; refine ⟨_, rfl, ?_⟩; have n0_ := am_ (Kd.R_below (by (with_reducible repeat (first | apply r1_ | apply r2_ | apply r3_)); exact HO222.out) hb); have n1_ := am_ (Kd.V_below (by (with_reducible repeat (first | apply Kd.V_alloc | apply Kd.V_drewN | apply Kd.V_drew)); exact HO225.out) hb); have n2_ := am_ (below_step (by repeat (first | (with_reducible first | exact HB.out | apply b1_ | apply b2_ | apply b3_) | exact HB.out)) hb); clear HO222; clear HO225; clear HB; have HO222 := n0_; have HO225 := n1_; have HB := n2_; clear n0_ n1_ n2_; (try clear hb); (try clear hb2); (try clear hk); (try clear hi)))
   go_ret
   exact ⟨by first | rfl | (simp [e1_, e2_] <;> rfl) | (simp [*, e1_, e2_] <;> rfl) | (simp [e3_, e4_]; done) | (simp [*, e3_, e4_]; done), by repeat (first | (with_reducible first | exact HB.out | apply b1_ | apply b2_ | apply b3_) | exact HB.out)⟩
  ·rw [if_neg c3] at H
   exact absurd H (by simp)
 ·rw [if_neg c2] at H
  exact absurd H (by simp)
end Go.Proofs.YtdpdbegglkdgnaaDoor.A
end

section
namespace Go.Proofs.YtdpdbegglkdgnaaDoor.A
open Go.RowKit Go.Proofs.YtdpdbegglkdgnaaDoorW.PrintWords Go.Proofs.YtdpdbegglkdgnaaDoorW.PrintLast Go.Proofs.YtdpdbegglkdgnaaDoorW.PrintMore
theorem bm_C {W : World} {g cap : Nat} {l : List Int} (h : Bm W g cap l) (hl : l.length ≤ 140737488355328) : Kd.C (Kd.int .u8) W (some ⟨g, 0, none⟩) l.length l :=
  Kd.C_of_reads (enc := Value.int .u8) (d := (0 : Int)) (h1 := fun _ => rfl) ⟨rfl, by omega, fun hn => ⟨⟨g, 0, none⟩, rfl, fun j hj => by rw [add0]; exact h.cell j hj⟩⟩
theorem firstCells_C {P : Program} {W : World} {A : Option Addr} {c : Nat} {ys : List Int} (hC : Kd.C (Kd.int .u8) W A ys.length ys) : ∀ W', W'.heap = W.heap → (Builtin.firstCells 1 ys.length (.slice A ys.length c)).run P W' = .ok (nums .u8 ys).toArray W' := by
  intro W' hW
  by_cases h0 : 0 < ys.length
  · obtain ⟨ad, e, cc⟩ := Kd.at_int hC 0 (by decide) (by omega)
    subst e
    refine run_firstCells_some (P := P) W' 1 ys.length ad ys.length c (nums .u8 ys) (by rw [nums_length]; omega) (fun j v hj => ?_)
    have hjl : j < ys.length := by
      have := (List.getElem?_eq_some_iff.1 hj).1
      rw [nums_length] at this
      exact this
    obtain ⟨ad2, e2, c2⟩ := Kd.at_int hC (j : Int) (by omega) (by omega)
    obtain rfl : ad = ad2 := Option.some.inj e2
    rw [Int.toNat_natCast] at c2
    have hc : W'.cell? (ad.add j) = W.cell? (ad.add j) := by unfold World.cell?; rw [hW]
    rw [hc, c2]
    simp only [nums, List.getElem?_map, List.getElem?_eq_getElem hjl, Option.map_some, Option.some.injEq] at hj
    subst hj
    simp [rd, List.getD, hjl]
  · have h1 : ys = [] := List.eq_nil_of_length_eq_zero (by omega)
    subst h1
    cases A with
    | none => simp [Builtin.firstCells, nums]
    | some ad => exact run_firstCells_some (P := P) W' 1 0 ad 0 c [] rfl (fun j v hj => by simp at hj)
theorem appendC_hs {P : Program} {ops : Array Oper} {rest : List Oper} {o : Oper} {a : Act} {Q : Exit → Act → World → Prop} {w W : World} {n g cap : Nat} {l ys : List Int} {A : Option Addr} {c : Nat} (t e : TypeId) (hgd : o.guard = none) (s x : Operand)
    (ho : o.op = .call { callee := .builtin .append, args := #[s, x], argTypes := #[t, t] })
    (ht : P.underlying t = some (.slice e)) (hinfo : (P.info? e).map (fun i => (i.zero, i.size, i.bytes)) = some (some (.int .u8 0), 1, 1))
    (hs : a.eval s = .slice (some ⟨g, 0, none⟩) l.length cap) (hx : a.eval x = .slice A ys.length c) (hC : Kd.C (Kd.int .u8) W A ys.length ys) (hne : 0 < l.length) (HB : Hs w W n g cap l) (hl : l.length + ys.length ≤ 140737488355328)
    (h : ∀ g' cap' w1, Hs w w1 n g' cap' (l ++ ys) → wpList P ops Q rest (a.put o.dst (.slice (some ⟨g', 0, none⟩) (l ++ ys).length cap')) w1) :
    wpList P ops Q (o :: rest) a W := by
  obtain ⟨g', cap', w1, hr, hb, hg, hat⟩ := run_append_bm (P := P) (W := W) t t o.type e ht (Or.inr ht) hinfo (.slice A ys.length c) ys (fun W' => by simp [Builtin.lenOf]) (firstCells_C hC) HB.row hl
  refine wpList_plain hgd fun K hK => ?_
  unfold Oper.wp execOp
  simp only [ho, resolve, invoke, builtin, Sem.run_bind, Sem.run_pure, Result.andThen_ok, List.map_toArray, List.map_cons, List.map_nil, hs, hx, hr]
  refine hK _ _ ?_
  have := h g' cap' w1 (HB.after hb (by have := hb.room; rw [List.length_append] at this; omega) hg hat)
  rwa [List.length_append] at this
set_option maxHeartbeats 2000000 in
set_option maxRecDepth 100000 in
theorem mac_walk (k : Nat) (a0 : Int) (A1 : Option Addr) (c1 : Nat) (l1 : List Int) (t t2 : ByteArray) (w : World) (hr1 : Kd.C (Kd.int .u8) w A1 l1.length l1) (hc1 : l1.length ≤ c1) (h1 : spec_l04Secret.f k a0 = some t) (hz : t.size + l1.length < 140737488355328) (h0 : 0 < t.size) (h2 : spec_l01Hash.f k (bytesOf t ++ l1) = some t2) (h8 : 8 ≤ t2.size) :
    Calls Tryd.prog 86 #[.int .i64 a0, .slice A1 l1.length c1] w fun e w' => e = .returned (.string (t2.extract 0 8)) ∧ Below w.heap.size w w' := by
  have HR := Aside0.mk hr1
  have HC := Aside0.mk hc1
  have H1 := Aside0.mk h1
  have H2 := Aside0.mk h2
  have hb : (bytesOf t).length = t.size := bytesOf_length t
  have HZ := Aside0.mk (And.intro hb (And.intro hz h0))
  clear hr1 hc1 h1 h2 hb hz h0
  have h8i : (8 : Int) ≤ (t2.size : Int) := by omega
  go_enter Tryd.func86, Tryd.ntmps86
  go_wp2_with (first | (go_at_call 122; with_reducible refine (spec_l04Secret.calls k a0 t _ H1.out).mono ?_; rintro e w1 ⟨rfl, hb1⟩; have B1 := Aside0.mk hb1; clear hb1) | ((with_reducible refine gate_dst (N := 7) rfl ?_); refine conv_hs 5 rfl 9 94 _ rfl t rfl Tryd.underlying9 Tryd.underlying94 Tryd.underlying5 ?_; intro g cap w2 F0; have F := Aside0.mk F0; clear F0) | ((with_reducible refine gate_builtin (b := .append) (xs := #[.tmp 7, .tmp 8]) rfl ?_); at_builtin; refine appendC_hs (l := bytesOf t) (ys := l1) 94 5 rfl (.tmp 7) (.tmp 8) rfl Tryd.underlying94 info5 (by rw [HZ.out.1]; rfl) rfl (Kd.C_below HR.out (Below.trans B1.out (F.out.below.mono B1.out.size))) (by have := HZ.out; omega) F.out (by have := HZ.out; omega) ?_; clear F; intro g' cap' w3 F0; have F := Aside0.mk F0; clear F0) | (go_at_call 83; refine calls_of_args (args' := #[.slice (some ⟨g', 0, none⟩) (bytesOf t ++ l1).length cap']) (by rw [List.length_append]) ?_; with_reducible refine (spec_l01Hash.calls k (some ⟨g', 0, none⟩) cap' (bytesOf t ++ l1) t2 _ (bm_C F.out.row (by have := HZ.out; rw [List.length_append]; omega)) F.out.row.room H2.out).mono ?_; rintro e w4 ⟨rfl, hb4⟩; have B4 := Aside0.mk (Below.trans (Below.trans B1.out (F.out.below.mono B1.out.size)) (hb4.mono (Nat.le_trans B1.out.size F.out.below.size))); clear hb4 F B1))
  go_ret
  exact ⟨by first | rfl | (simp; done), B4.out⟩
end Go.Proofs.YtdpdbegglkdgnaaDoor.A
end

section
namespace Go.Proofs.YtdpdbegglkdgnaaDoor.A
open Go.RowKit Go.Proofs.YtdpdbegglkdgnaaDoorW.PrintWords Go.Proofs.YtdpdbegglkdgnaaDoorW.PrintLast Go.Proofs.YtdpdbegglkdgnaaDoorW.PrintMore
attribute [local go_sem] max2_int min2_int max_two min_two max_three min_three max_four min_four
theorem spec_l04Mac.calls (k : Nat) (a0 : Int) (A1 : Option Addr) (c1 : Nat) (l1 : List Int) (r : ByteArray) (w : World) (hr1 : Kd.C (Kd.int .u8) w A1 l1.length l1) (hc1 : l1.length ≤ c1) (h : spec_l04Mac.f k a0 l1 = some r) :
  Calls Tryd.prog 86 #[.int .i64 a0, .slice A1 l1.length c1] w fun e w' => e = .returned (.string r) ∧ Below w.heap.size w w' := by
 unfold spec_l04Mac.f at h
 obtain ⟨t1, h1, h⟩ := Option.bind_eq_some_iff.1 h
 by_cases c : t1.size + l1.length < 140737488355328 ∧ 0 < t1.size
 ·rw [if_pos c] at h
  obtain ⟨t2, h2, h⟩ := Option.bind_eq_some_iff.1 h
  by_cases c8 : 8 ≤ t2.size
  ·rw [if_pos c8] at h
   obtain rfl := Option.some.inj h
   exact mac_walk k a0 A1 c1 l1 t1 t2 w hr1 hc1 h1 c.1 c.2 h2 c8
  ·rw [if_neg c8] at h
   cases h
 ·rw [if_neg c] at h
  cases h
set_option maxHeartbeats 8000000 in
set_option maxRecDepth 100000 in
theorem spec_l02Number.calls (k : Nat) (a0 : Int) (a1 : Int) (r : List Int) (w : World) (h : spec_l02Number.f k a0 a1 = some r) :
  Calls Tryd.prog 87 #[.int .i64 a0, .int .i64 a1] w fun e w' => ∃ v0_ : Value, e = .returned (v0_) ∧ Kd.R (Kd.int .u8) 5 w' w.heap.size (fun _ => True) v0_ r ∧ Below w.heap.size w w' := by
 have HB := am_ (Below.refl w.heap.size w)
 have H : (spec_l02Number.l0 k a0 (([] : List Int)) (wrap64 (a1 - 1))) = some r := h
 clear h
 obtain ⟨y227, hy227⟩ : ∃ y_ : List Int, y_ = (([] : List Int)) := ⟨_, rfl⟩
 replace H : (spec_l02Number.l0 k a0 y227 (wrap64 (a1 - 1))) = some r := by first | (rw [hy227]; with_reducible exact H) | (have H2_ := (Option.bind_some _ _).symm.trans H; rw [hy227]; with_reducible exact H2_) | (have H2_ := (Option.bind_some _ _).symm.trans H; with_reducible exact H2_) | with_reducible exact H | (rw [hy227]; exact H) | exact H
 have Ny227 := am_ hy227
 clear hy227
 have H' := am_ H
 clear H
 go_enter Tryd.func87, Tryd.ntmps87
 go_wp2_with (first | ((with_reducible refine gate_dst (N := 7) rfl ?_); refine Kd.R_lit (Kd.int .u8) _ 5 ?hg (N := 7) ?hd (xs := ([] : List Int)) (inner := []) (ok := fun _ => True) (okp := fun _ => True) ?hr ?hp (fun _ hk => hk) trivial (Below.refl _ _) (Nat.le_refl _) (by simp) ?_; (case hd => rfl); (case hg => rfl); (case hr => first | (go_simp; done) | (go_simp; rfl)); (case hp => exact (Reps.none _ _)); intro v228 w3 ho4 hb hg_ hnew_; clear hg_ hnew_; (first | rw [← Ny227.out] at ho4 | (simp only [Int.reduceToNat] at ho4; rw [← Ny227.out] at ho4)); have n0_ := am_ (Kd.R_lower ho4 (below_size (by repeat (first | (with_reducible first | exact HB.out | apply b1_ | apply b2_ | apply b3_) | exact HB.out)))); have n1_ := am_ (below_step (by repeat (first | (with_reducible first | exact HB.out | apply b1_ | apply b2_ | apply b3_) | exact HB.out)) hb); clear HB; have HO229 := n0_; have HB := n1_; clear n0_ n1_; clear hb ho4))
 go_loopg [5, 6] k (fun kq v5 v6 w' => ∃ (x5_1 : List Int) (x6_1 : Int), v6 = .int .i64 x6_1 ∧ Aside0 (spec_l02Number.l0 kq a0 x5_1 x6_1 = some r) ∧ Aside0 (kq ≤ k) ∧ Aside0 (Kd.R (Kd.int .u8) 5 w' w.heap.size (fun _ => True) v5 x5_1) ∧ Aside0 (Below w.heap.size w w'))
 case atStart => exact ⟨(y227), (wrap64 (a1 - 1)), (by first | rfl | (simp; done) | (simp [*]; done)), H', ⟨Nat.le_refl _⟩, ⟨by (with_reducible repeat (first | apply r1_ | apply r2_ | apply r3_)); exact HO229.out⟩, ⟨by repeat (first | (with_reducible first | exact HB.out | apply b1_ | apply b2_ | apply b3_) | exact HB.out)⟩⟩
 case round =>
  clear H'
  try clear p2
  obtain ⟨x5_1, x6_1, rfl, HA, HK1, HO_5, HB⟩ := hrel
  cases gk with
  | zero => exact absurd HA.out (by simp [spec_l02Number.l0])
  | succ k1 =>
   have H := HA.out
   clear HA
   simp only [spec_l02Number.l0] at H
   by_cases c5 : x6_1 ≥ 0
   ·rw [if_pos c5] at H
    have c5b0 : decide (0 ≤ x6_1) = true := decide_eq_true c5
    clear c5
    obtain ⟨ji6, hji6⟩ : ∃ j_ : Int, (IntKind.u64.wrap (wrap64 (8 * x6_1))) = j_ := ⟨_, rfl⟩
    replace H : (if 0 ≤ (ji6) then (if x5_1.length < 140737488355328 then (spec_l02Number.l0 k1 a0 (x5_1 ++ [(shr .i64 a0 (ji6)) % 256]) (wrap64 (x6_1 - 1))) else (none)) else (none)) = some r := by first | (rw [hji6] at H; exact H) | (simp only [hji6] at H ⊢; exact H)
    by_cases c7 : 0 ≤ (ji6)
    ·rw [if_pos c7] at H
     have c7b0 := eq_true c7
     have c7b1 : decide (0 ≤ (ji6)) = true := decide_eq_true c7
     clear c7
     obtain ⟨ji8, hji8⟩ : ∃ j_ : Int, (shr .i64 a0 (ji6)) = j_ := ⟨_, rfl⟩
     replace H : (if x5_1.length < 140737488355328 then (spec_l02Number.l0 k1 a0 (x5_1 ++ [(ji8) % 256]) (wrap64 (x6_1 - 1))) else (none)) = some r := by first | (rw [hji8] at H; exact H) | (simp only [hji8] at H ⊢; exact H)
     have hji8_ : (a0 / 2 ^ min (ji6).toNat 64) = ji8 := hji8
     have hji8z : (ji6) ≤ 64 → (a0 / 2 ^ (ji6).toNat) = ji8 := shr_small hji8
     by_cases c9 : x5_1.length < 140737488355328
     ·rw [if_pos c9] at H
      have LMc9 := am_ c9
      clear c9
      obtain ⟨y230, hy230⟩ : ∃ y_ : List Int, y_ = (x5_1 ++ [(ji8) % 256]) := ⟨_, rfl⟩
      replace H : (spec_l02Number.l0 k1 a0 y230 (wrap64 (x6_1 - 1))) = some r := by first | (rw [hy230]; with_reducible exact H) | (have H2_ := (Option.bind_some _ _).symm.trans H; rw [hy230]; with_reducible exact H2_) | (have H2_ := (Option.bind_some _ _).symm.trans H; with_reducible exact H2_) | with_reducible exact H | (rw [hy230]; exact H) | exact H
      have Ny230 := am_ hy230
      clear hy230
      have H' := am_ H
      clear H
      go_wp2_with (first | ((with_reducible refine gate_builtin (b := .append) (xs := #[.tmp 14, .tmp 21]) rfl ?_); at_builtin; refine Kd.R_append (Kd.int .u8) (w0 := w) w.heap.size rfl (.tmp 14) (.tmp 21) 94 5 (.int .u8 0) 1 rfl Tryd.underlying94 info5 rfl (by decide) (by omega) u5 x5_1 ((ji8) % 256) [.int .u8 ((ji8) % 256)] (fun _ => True) (fun _ => False) rfl rfl ?aP (fun _ hk => hk.elim) ?aF ?aO ?aB ?aS ?aL ?_; (case aP => exact rfl); (case aB => exact (by repeat (first | (with_reducible first | exact HB.out | apply b1_ | apply b2_ | apply b3_) | exact HB.out))); (case aF => exact (fun _ _ => trivial)); (case aO => exact (by (with_reducible repeat (first | apply r1_ | apply r2_ | apply r3_)); exact HO_5.out)); (case aS => exact (below_size (by repeat (first | (with_reducible first | exact HB.out | apply b1_ | apply b2_ | apply b3_) | exact HB.out)))); (case aL => have := LMc9.out; omega); intro v231 w10 ho hb hg hat; rw [← Ny230.out] at ho; have n0_ := am_ (hb); have n1_ := am_ (ho); clear HB; clear HO_5; have HB := n0_; have HO232 := n1_; clear n0_ n1_; clear ho hb hg hat))
      go_roundg k1
      case measure => have := HK1.out; omega
      case rel => exact ⟨(y230), (wrap64 (x6_1 - 1)), (by first | rfl | (simp; done) | (simp [*]; done)), H', ⟨by have := HK1.out; omega⟩, ⟨by (with_reducible repeat (first | apply r1_ | apply r2_ | apply r3_)); exact HO232.out⟩, ⟨by repeat (first | (with_reducible first | exact HB.out | apply b1_ | apply b2_ | apply b3_) | exact HB.out)⟩⟩
     ·rw [if_neg c9] at H
      exact absurd H (by simp)
    ·rw [if_neg c7] at H
     exact absurd H (by simp)
   ·rw [if_neg c5] at H
    have c5b0 : decide (0 ≤ x6_1) = false := decide_eq_false c5
    clear c5
    obtain rfl := Option.some.inj H
    go_wp2
    go_ret
    exact ⟨_, by first | rfl | (simp [e1_, e2_] <;> rfl) | (simp [*, e1_, e2_] <;> rfl) | (simp [e3_, e4_]; done) | (simp [*, e3_, e4_]; done), by (with_reducible repeat (first | apply r1_ | apply r2_ | apply r3_)); exact HO_5.out, by repeat (first | (with_reducible first | exact HB.out | apply b1_ | apply b2_ | apply b3_) | exact HB.out)⟩
end Go.Proofs.YtdpdbegglkdgnaaDoor.A
end
