/- A part of the proof that FnExactReadBatch returns true at every input: plain functions, contracts and lemmas. No conditions. -/
import Derived.Test.YtofkobbiomhblaaQReadBatchc
set_option linter.unusedVariables false
set_option linter.unusedSimpArgs false
set_option linter.unusedSectionVars false
section
namespace Go.Proofs.Ytofkobbiomhblaa.A
open Go.RowKit Go.Proofs.YtofkobbiomhblaaW.PrintWords Go.Proofs.YtofkobbiomhblaaW.PrintLast Go.Proofs.YtofkobbiomhblaaW.PrintMore
attribute [local go_sem] max2_int min2_int max_two min_two max_three min_three max_four min_four
def impl_readBatch.T10 : Bool × List (List Nat × List Nat) := (true, [([], []), ([0], [0]), ([], []), ([2], [2]), ([], []), ([4, 3], [4]), ([], []), ([6, 5], [6]), ([3, 5, 7], [3, 5, 7]), ([8], [8]), ([1, 9, 7], [1, 9]), ([0, 1, 2, 3, 4, 5, 6, 7, 8, 9, 10], []), ([11, 10, 10, 0, 1, 2, 3, 4, 5, 6, 7, 8, 9, 10], [10, 11])])
def impl_readBatch.B10 : List Nat := [0, 1, 0, 4, 0, 28, 0, 124, 252, 508, 1023, 2047, 4095]
theorem impl_readBatch.tab10 : rtab .any (opsOf Try.f93 10) = impl_readBatch.T10 := by kernel_rfl
theorem impl_readBatch.bits10 : waitsOk impl_readBatch.T10.2 impl_readBatch.B10 = true := by kernel_rfl
set_option maxHeartbeats 8000000 in
set_option maxRecDepth 100000 in
theorem impl_readBatch.calls (k : Nat) (a0 : ByteArray) (r1 : Bool) (r2 : Int) (r3 : Int) (r4 : Int) (r5 : Int) (r6 : ByteArray) (r7 : List (S161)) (r8 : Bool) (w : World) (h : impl_readBatch.f k a0 = some (r1, r2, r3, r4, r5, r6, r7, r8)) :
  Calls Try.prog 93 #[.string a0] w fun e w' => ∃ v6_ : Value, e = .returned (.tuple #[.agg #[.bool r1, .int .i64 r2, .int .i64 r3, .int .i64 r4, .int .i64 r5, .string r6, v6_], .bool r8]) ∧ Kd.R k161 161 w' w.heap.size (fun _ => True) v6_ r7 ∧ Below w.heap.size w w' := by
 have hu67 := Try.underlying67
 have hu143 := Try.underlying143
 have hu161 := Try.underlying161
 have hu36 := Try.underlying36
 have HB := am_ (Below.refl w.heap.size w)
 have H : (if a0.toList = ([0] : List UInt8) then (some (true, 0, 0, 0, 0, (⟨#[]⟩ : ByteArray), ([] : List (S161)), true)) else ((impl_reader_number.f k a0 false 1).bind fun bt1127 => (if (wrap64 (bt1127.1 - 1)) > 7 then (some (false, 0, 0, 0, 0, (⟨#[]⟩ : ByteArray), ([] : List (S161)), false)) else (impl_readBatch.l0 k (wrap64 (bt1127.1 - 1)) (mx (wrap64 (bt1127.1 - 1)) 0) 0 bt1127.2.1 bt1127.2.2 false 0 0 0 0 (⟨#[]⟩ : ByteArray) ([] : List (S161)))))) = some (r1, r2, r3, r4, r5, r6, r7, r8) := h
 clear h
 by_cases c2 : a0.toList = ([0] : List UInt8)
 ·rw [if_pos c2] at H
  have c2b0 : (a0.toList == ([0] : List UInt8)) = true := beq_iff_eq.mpr c2
  have c2b1 : (a0.toList != ([0] : List UInt8)) = false := bne_eq_false_iff_eq.mpr c2
  clear c2
  simp only [Option.some.injEq, Prod.mk.injEq] at H
  obtain ⟨rfl, rfl, rfl, rfl, rfl, rfl, rfl, rfl⟩ := H
  go_enter Try.func93, Try.ntmps93
  go_wp2_with (first | ((with_reducible refine gate_dst (N := 2) rfl ?_); refine box_event ?hg (N := 2) ?hd (cs := #[.bool false, .int .i64 0, .int .i64 0, .int .i64 0, .int .i64 0, .string (⟨#[]⟩ : ByteArray), .slice none 0 0]) (t := 67) ?hr ?_; (case hd => rfl); (case hg => rfl); (case hr => first | (go_simp; done) | (go_simp; rfl)); intro gb1125 hg w3 hbox hb; have n0_ := am_ (below_step (by repeat (first | (with_reducible first | exact HB.out | apply b1_ | apply b2_ | apply b3_) | exact HB.out)) hb); have n1_ := am_ (hbox); have n2_ := am_ ((by rw [hg]; exact (below_size (by repeat (first | (with_reducible first | exact HB.out | apply b1_ | apply b2_ | apply b3_) | exact HB.out))) : w.heap.size ≤ gb1125)); have n3_ := am_ ((by rw [hg]; exact (below_size (by repeat (first | (with_reducible first | exact HB.out | apply b1_ | apply b2_ | apply b3_) | exact HB.out))) : w.heap.size ≤ gb1125)); clear HB; have HB := n0_; have BK1125 := n1_; have GW1125 := n2_; have GE1125 := n3_; clear n0_ n1_ n2_ n3_; clear hb hbox hg; have hcz4_0 : w3.cell? ⟨gb1125, 0, none⟩ = some (.bool false) := (blk_cell BK1125.out 0).trans rfl; have hcz4_1 : w3.cell? ⟨gb1125, 1, none⟩ = some (.int .i64 0) := (blk_cell BK1125.out 1).trans rfl; have hcz4_2 : w3.cell? ⟨gb1125, 2, none⟩ = some (.int .i64 0) := (blk_cell BK1125.out 2).trans rfl; have hcz4_3 : w3.cell? ⟨gb1125, 3, none⟩ = some (.int .i64 0) := (blk_cell BK1125.out 3).trans rfl; have hcz4_4 : w3.cell? ⟨gb1125, 4, none⟩ = some (.int .i64 0) := (blk_cell BK1125.out 4).trans rfl; have hcz4_5 : w3.cell? ⟨gb1125, 5, none⟩ = some (.string (⟨#[]⟩ : ByteArray)) := (blk_cell BK1125.out 5).trans rfl; have hcz4_6 : w3.cell? ⟨gb1125, 6, none⟩ = some (.slice none 0 0) := (blk_cell BK1125.out 6).trans rfl; have hfz4_0 := blk_frozen BK1125.out 0; have hfz4_1 := blk_frozen BK1125.out 1; have hfz4_2 := blk_frozen BK1125.out 2; have hfz4_3 := blk_frozen BK1125.out 3; have hfz4_4 := blk_frozen BK1125.out 4; have hfz4_5 := blk_frozen BK1125.out 5; have hfz4_6 := blk_frozen BK1125.out 6))
  refine bodyPost_ret (results_ct rfl _ _ gb1125 67 #[.bool true, .int .i64 0, .int .i64 0, .int .i64 0, .int .i64 0, .string (⟨#[]⟩ : ByteArray), .slice none 0 0] (0, 0) _ rfl (by (with_reducible repeat (first | apply k1_ | apply k2_ | apply k3_)); refine blk_put (cs := #[.bool true, .int .i64 0, .int .i64 0, .int .i64 0, .int .i64 0, .string (⟨#[]⟩ : ByteArray), .slice none 0 0]) ?_ 6 _ rfl; (with_reducible repeat (first | apply k1_ | apply k2_ | apply k3_)); refine blk_put (cs := #[.bool true, .int .i64 0, .int .i64 0, .int .i64 0, .int .i64 0, .string (⟨#[]⟩ : ByteArray), .slice none 0 0]) ?_ 5 _ rfl; (with_reducible repeat (first | apply k1_ | apply k2_ | apply k3_)); refine blk_put (cs := #[.bool true, .int .i64 0, .int .i64 0, .int .i64 0, .int .i64 0, .string (⟨#[]⟩ : ByteArray), .slice none 0 0]) ?_ 4 _ rfl; (with_reducible repeat (first | apply k1_ | apply k2_ | apply k3_)); refine blk_put (cs := #[.bool true, .int .i64 0, .int .i64 0, .int .i64 0, .int .i64 0, .string (⟨#[]⟩ : ByteArray), .slice none 0 0]) ?_ 3 _ rfl; (with_reducible repeat (first | apply k1_ | apply k2_ | apply k3_)); refine blk_put (cs := #[.bool true, .int .i64 0, .int .i64 0, .int .i64 0, .int .i64 0, .string (⟨#[]⟩ : ByteArray), .slice none 0 0]) ?_ 2 _ rfl; (with_reducible repeat (first | apply k1_ | apply k2_ | apply k3_)); refine blk_put (cs := #[.bool true, .int .i64 0, .int .i64 0, .int .i64 0, .int .i64 0, .string (⟨#[]⟩ : ByteArray), .slice none 0 0]) ?_ 1 _ rfl; (with_reducible repeat (first | apply k1_ | apply k2_ | apply k3_)); refine blk_put (cs := #[.bool false, .int .i64 0, .int .i64 0, .int .i64 0, .int .i64 0, .string (⟨#[]⟩ : ByteArray), .slice none 0 0]) ?_ 0 _ rfl; (with_reducible repeat (first | apply k1_ | apply k2_ | apply k3_)); exact BK1125.out) Try.underlying67 rfl (by kernel_rfl)) rfl ?_
  exact ⟨_, by first | rfl | (simp [e1_, e2_] <;> rfl) | (simp [*, e1_, e2_] <;> rfl) | (simp [e3_, e4_]; done) | (simp [*, e3_, e4_]; done), by first | exact Kd.R_nil _ _ _ _ _ | exact Kd.N_nil _ _ _ _ _ | exact Kd.V_nil _ _ _ _ _ | exact Kd.Q_nil _ _ _ _ _ | exact Kd.S_nil _ _ _ _ _, by repeat (first | (with_reducible first | exact HB.out | apply b1_ | apply b2_ | apply b3_ | refine below_set ?_ GE1125.out) | exact HB.out)⟩
 ·rw [if_neg c2] at H
  have c2b0 : (a0.toList == ([0] : List UInt8)) = false := beq_eq_false_iff_ne.mpr c2
  have c2b1 : (a0.toList != ([0] : List UInt8)) = true := bne_iff_ne.mpr c2
  replace H := Option.bind_eq_some_iff.mp H
  obtain ⟨⟨t1127, t1128, t1129⟩, A50, H⟩ := H
  replace H : (if (wrap64 (t1127 - 1)) > 7 then (some (false, 0, 0, 0, 0, (⟨#[]⟩ : ByteArray), ([] : List (S161)), false)) else (impl_readBatch.l0 k (wrap64 (t1127 - 1)) (mx (wrap64 (t1127 - 1)) 0) 0 t1128 t1129 false 0 0 0 0 (⟨#[]⟩ : ByteArray) ([] : List (S161)))) = some (r1, r2, r3, r4, r5, r6, r7, r8) := H
  have A5 := am_ A50
  clear A50
  by_cases c6 : (wrap64 (t1127 - 1)) > 7
  ·rw [if_pos c6] at H
   have c6b0 : decide (7 < (wrap64 (t1127 - 1))) = true := decide_eq_true c6
   clear c6
   simp only [Option.some.injEq, Prod.mk.injEq] at H
   obtain ⟨rfl, rfl, rfl, rfl, rfl, rfl, rfl, rfl⟩ := H
   go_enter Try.func93, Try.ntmps93
   go_wp2_with (first | ((with_reducible refine gate_dst (N := 2) rfl ?_); refine box_event ?hg (N := 2) ?hd (cs := #[.bool false, .int .i64 0, .int .i64 0, .int .i64 0, .int .i64 0, .string (⟨#[]⟩ : ByteArray), .slice none 0 0]) (t := 67) ?hr ?_; (case hd => rfl); (case hg => rfl); (case hr => first | (go_simp; done) | (go_simp; rfl)); intro gb1125 hg w7 hbox hb; have n0_ := am_ (below_step (by repeat (first | (with_reducible first | exact HB.out | apply b1_ | apply b2_ | apply b3_) | exact HB.out)) hb); have n1_ := am_ (hbox); have n2_ := am_ ((by rw [hg]; exact (below_size (by repeat (first | (with_reducible first | exact HB.out | apply b1_ | apply b2_ | apply b3_) | exact HB.out))) : w.heap.size ≤ gb1125)); have n3_ := am_ ((by rw [hg]; exact (below_size (by repeat (first | (with_reducible first | exact HB.out | apply b1_ | apply b2_ | apply b3_) | exact HB.out))) : w.heap.size ≤ gb1125)); clear HB; have HB := n0_; have BK1125 := n1_; have GW1125 := n2_; have GE1125 := n3_; clear n0_ n1_ n2_ n3_; clear hb hbox hg) | ((with_reducible refine gate_dst (N := 12) rfl ?_); refine box_event ?hg (N := 12) ?hd (cs := #[.string a0, .bool false]) (t := 143) ?hr ?_; (case hd => rfl); (case hg => rfl); (case hr => first | (go_simp; done) | (go_simp; rfl)); intro g1126 hg w8 hbox hb; have n0_ := am_ (blk_below (g := gb1125) (o := .cells #[.bool false, .int .i64 0, .int .i64 0, .int .i64 0, .int .i64 0, .string (⟨#[]⟩ : ByteArray), .slice none 0 0] 67 (0, 0)) (by (with_reducible repeat (first | apply k1_ | apply k2_ | apply k3_)); exact BK1125.out) hb); have n1_ := am_ (below_step (by repeat (first | (with_reducible first | exact HB.out | apply b1_ | apply b2_ | apply b3_ | refine below_set ?_ GE1125.out) | exact HB.out)) hb); have n2_ := am_ ((show IsS143 w _ g1126 a0 false from ⟨hbox, (by rw [hg]; exact (below_size (by repeat (first | (with_reducible first | exact HB.out | apply b1_ | apply b2_ | apply b3_ | refine below_set ?_ GE1125.out) | exact HB.out))) : w.heap.size ≤ g1126)⟩)); have n3_ := am_ ((by rw [hg]; exact Nat.ne_of_gt (blk_lt (g := gb1125) (o := .cells #[.bool false, .int .i64 0, .int .i64 0, .int .i64 0, .int .i64 0, .string (⟨#[]⟩ : ByteArray), .slice none 0 0] 67 (0, 0)) (by (with_reducible repeat (first | apply k1_ | apply k2_ | apply k3_)); exact BK1125.out)) : g1126 ≠ gb1125)); have n4_ := am_ ((by rw [hg]; exact Nat.ne_of_lt (blk_lt (g := gb1125) (o := .cells #[.bool false, .int .i64 0, .int .i64 0, .int .i64 0, .int .i64 0, .string (⟨#[]⟩ : ByteArray), .slice none 0 0] 67 (0, 0)) (by (with_reducible repeat (first | apply k1_ | apply k2_ | apply k3_)); exact BK1125.out)) : gb1125 ≠ g1126)); clear BK1125; clear HB; have BK1125 := n0_; have HB := n1_; have HI1126 := n2_; have NB1126_1125 := n3_; have NB1125_1126 := n4_; clear n0_ n1_ n2_ n3_ n4_; clear hb hbox hg) | ((with_reducible refine gate_callee (f := 119) rfl ?_); refine goesL_ (some 14) rfl rfl Try.func119 (by kernel_rfl) rfl #[.pointer (some ⟨g1126, 0, none⟩), .int .i64 1] rfl (by (try simp only [m1_, m2_, m3_]); first | done | rfl | (simp only [d1_, d2_]; rfl)) ?_; (with_reducible refine (impl_reader_number.calls k g1126 a0 false 1 t1127 t1128 t1129 w _ ?side1 ?side2 A5.out).mono ?_); (case side1 => repeat (first | (with_reducible first | exact HI1126.out | apply IsS143.alloc | apply IsS143.drewN | apply IsS143.drew | apply IsS143.set_0 | apply IsS143.set_1 | refine IsS143.far ?_ NB1126_1125.out _) | exact HI1126.out)); (case side2 => repeat (first | (with_reducible first | exact HB.out | apply b1_ | apply b2_ | apply b3_ | refine below_set ?_ (IsS143.ge HI1126.out) | refine below_set ?_ GE1125.out) | exact HB.out)); rintro e w9 ⟨rfl, hi, hb, hk⟩; refine ⟨_, rfl, ?_⟩; have n0_ := am_ (KeepBut.blk hk (g' := gb1125) (o := .cells #[.bool false, .int .i64 0, .int .i64 0, .int .i64 0, .int .i64 0, .string (⟨#[]⟩ : ByteArray), .slice none 0 0] 67 (0, 0)) (by (with_reducible repeat (first | apply k1_ | apply k2_ | apply k3_)); exact BK1125.out) NB1125_1126.out (by simp)); have n1_ := am_ (hb); have n2_ := am_ (hi); clear BK1125; clear HB; clear HI1126; have BK1125 := n0_; have HB := n1_; have HI1126 := n2_; clear n0_ n1_ n2_; (try clear hb); (try clear hb2); (try clear hk); (try clear hi); have hnb10 := NB1125_1126.out; have hnc10 := NB1126_1125.out; have hcz11_0 : w9.cell? ⟨gb1125, 0, none⟩ = some (.bool false) := (blk_cell BK1125.out 0).trans rfl; have hcz11_1 : w9.cell? ⟨gb1125, 1, none⟩ = some (.int .i64 0) := (blk_cell BK1125.out 1).trans rfl; have hcz11_2 : w9.cell? ⟨gb1125, 2, none⟩ = some (.int .i64 0) := (blk_cell BK1125.out 2).trans rfl; have hcz11_3 : w9.cell? ⟨gb1125, 3, none⟩ = some (.int .i64 0) := (blk_cell BK1125.out 3).trans rfl; have hcz11_4 : w9.cell? ⟨gb1125, 4, none⟩ = some (.int .i64 0) := (blk_cell BK1125.out 4).trans rfl; have hcz11_5 : w9.cell? ⟨gb1125, 5, none⟩ = some (.string (⟨#[]⟩ : ByteArray)) := (blk_cell BK1125.out 5).trans rfl; have hcz11_6 : w9.cell? ⟨gb1125, 6, none⟩ = some (.slice none 0 0) := (blk_cell BK1125.out 6).trans rfl; have hfz11_0 := blk_frozen BK1125.out 0; have hfz11_1 := blk_frozen BK1125.out 1; have hfz11_2 := blk_frozen BK1125.out 2; have hfz11_3 := blk_frozen BK1125.out 3; have hfz11_4 := blk_frozen BK1125.out 4; have hfz11_5 := blk_frozen BK1125.out 5; have hfz11_6 := blk_frozen BK1125.out 6))
   refine bodyPost_ret (results_ct rfl _ _ gb1125 67 #[.bool false, .int .i64 0, .int .i64 0, .int .i64 0, .int .i64 0, .string (⟨#[]⟩ : ByteArray), .slice none 0 0] (0, 0) _ rfl (by (with_reducible repeat (first | apply k1_ | apply k2_ | apply k3_)); refine blk_put (cs := #[.bool false, .int .i64 0, .int .i64 0, .int .i64 0, .int .i64 0, .string (⟨#[]⟩ : ByteArray), .slice none 0 0]) ?_ 6 _ rfl; (with_reducible repeat (first | apply k1_ | apply k2_ | apply k3_)); refine blk_put (cs := #[.bool false, .int .i64 0, .int .i64 0, .int .i64 0, .int .i64 0, .string (⟨#[]⟩ : ByteArray), .slice none 0 0]) ?_ 5 _ rfl; (with_reducible repeat (first | apply k1_ | apply k2_ | apply k3_)); refine blk_put (cs := #[.bool false, .int .i64 0, .int .i64 0, .int .i64 0, .int .i64 0, .string (⟨#[]⟩ : ByteArray), .slice none 0 0]) ?_ 4 _ rfl; (with_reducible repeat (first | apply k1_ | apply k2_ | apply k3_)); refine blk_put (cs := #[.bool false, .int .i64 0, .int .i64 0, .int .i64 0, .int .i64 0, .string (⟨#[]⟩ : ByteArray), .slice none 0 0]) ?_ 3 _ rfl; (with_reducible repeat (first | apply k1_ | apply k2_ | apply k3_)); refine blk_put (cs := #[.bool false, .int .i64 0, .int .i64 0, .int .i64 0, .int .i64 0, .string (⟨#[]⟩ : ByteArray), .slice none 0 0]) ?_ 2 _ rfl; (with_reducible repeat (first | apply k1_ | apply k2_ | apply k3_)); refine blk_put (cs := #[.bool false, .int .i64 0, .int .i64 0, .int .i64 0, .int .i64 0, .string (⟨#[]⟩ : ByteArray), .slice none 0 0]) ?_ 1 _ rfl; (with_reducible repeat (first | apply k1_ | apply k2_ | apply k3_)); refine blk_put (cs := #[.bool false, .int .i64 0, .int .i64 0, .int .i64 0, .int .i64 0, .string (⟨#[]⟩ : ByteArray), .slice none 0 0]) ?_ 0 _ rfl; (with_reducible repeat (first | apply k1_ | apply k2_ | apply k3_)); exact BK1125.out) Try.underlying67 rfl (by kernel_rfl)) rfl ?_
   exact ⟨_, by first | rfl | (simp [e1_, e2_] <;> rfl) | (simp [*, e1_, e2_] <;> rfl) | (simp [e3_, e4_]; done) | (simp [*, e3_, e4_]; done), by first | exact Kd.R_nil _ _ _ _ _ | exact Kd.N_nil _ _ _ _ _ | exact Kd.V_nil _ _ _ _ _ | exact Kd.Q_nil _ _ _ _ _ | exact Kd.S_nil _ _ _ _ _, by repeat (first | (with_reducible first | exact HB.out | apply b1_ | apply b2_ | apply b3_ | refine below_set ?_ (IsS143.ge HI1126.out) | refine below_set ?_ GE1125.out) | exact HB.out)⟩
  ·rw [if_neg c6] at H
   have c6b0 : decide (7 < (wrap64 (t1127 - 1))) = false := decide_eq_false c6
   clear c6
   obtain ⟨ji12, hji12⟩ : ∃ j_ : Int, (mx (wrap64 (t1127 - 1)) 0) = j_ := ⟨_, rfl⟩
   replace H : (impl_readBatch.l0 k (wrap64 (t1127 - 1)) ji12 0 t1128 t1129 false 0 0 0 0 (⟨#[]⟩ : ByteArray) ([] : List (S161))) = some (r1, r2, r3, r4, r5, r6, r7, r8) := by first | (rw [hji12] at H; exact H) | (simp only [hji12] at H ⊢; exact H)
   (try rw [hji12] at A5)
   (try (have hji12l : 0 ≤ ji12 := by (rw [← hji12]; unfold mx; (repeat' split) <;> omega)))
   (try (have hji12m : 0 ≤ ji12 := by omega))
   have hji12_ : (if (wrap64 (t1127 - 1)) < 0 then 0 else (wrap64 (t1127 - 1))) = ji12 := hji12
   have H' := am_ H
   clear H
   go_enter Try.func93, Try.ntmps93
   go_wp2_with (first | ((with_reducible refine gate_dst (N := 2) rfl ?_); refine box_event ?hg (N := 2) ?hd (cs := #[.bool false, .int .i64 0, .int .i64 0, .int .i64 0, .int .i64 0, .string (⟨#[]⟩ : ByteArray), .slice none 0 0]) (t := 67) ?hr ?_; (case hd => rfl); (case hg => rfl); (case hr => first | (go_simp; done) | (go_simp; rfl)); intro gb1125 hg w13 hbox hb; have n0_ := am_ (below_step (by repeat (first | (with_reducible first | exact HB.out | apply b1_ | apply b2_ | apply b3_) | exact HB.out)) hb); have n1_ := am_ (hbox); have n2_ := am_ ((by rw [hg]; exact (below_size (by repeat (first | (with_reducible first | exact HB.out | apply b1_ | apply b2_ | apply b3_) | exact HB.out))) : w.heap.size ≤ gb1125)); have n3_ := am_ ((by rw [hg]; exact (below_size (by repeat (first | (with_reducible first | exact HB.out | apply b1_ | apply b2_ | apply b3_) | exact HB.out))) : w.heap.size ≤ gb1125)); clear HB; have HB := n0_; have BK1125 := n1_; have GW1125 := n2_; have GE1125 := n3_; clear n0_ n1_ n2_ n3_; clear hb hbox hg) | ((with_reducible refine gate_dst (N := 12) rfl ?_); refine box_event ?hg (N := 12) ?hd (cs := #[.string a0, .bool false]) (t := 143) ?hr ?_; (case hd => rfl); (case hg => rfl); (case hr => first | (go_simp; done) | (go_simp; rfl)); intro g1126 hg w14 hbox hb; have n0_ := am_ (blk_below (g := gb1125) (o := .cells #[.bool false, .int .i64 0, .int .i64 0, .int .i64 0, .int .i64 0, .string (⟨#[]⟩ : ByteArray), .slice none 0 0] 67 (0, 0)) (by (with_reducible repeat (first | apply k1_ | apply k2_ | apply k3_)); exact BK1125.out) hb); have n1_ := am_ (below_step (by repeat (first | (with_reducible first | exact HB.out | apply b1_ | apply b2_ | apply b3_ | refine below_set ?_ GE1125.out) | exact HB.out)) hb); have n2_ := am_ ((show IsS143 w _ g1126 a0 false from ⟨hbox, (by rw [hg]; exact (below_size (by repeat (first | (with_reducible first | exact HB.out | apply b1_ | apply b2_ | apply b3_ | refine below_set ?_ GE1125.out) | exact HB.out))) : w.heap.size ≤ g1126)⟩)); have n3_ := am_ ((by rw [hg]; exact Nat.ne_of_gt (blk_lt (g := gb1125) (o := .cells #[.bool false, .int .i64 0, .int .i64 0, .int .i64 0, .int .i64 0, .string (⟨#[]⟩ : ByteArray), .slice none 0 0] 67 (0, 0)) (by (with_reducible repeat (first | apply k1_ | apply k2_ | apply k3_)); exact BK1125.out)) : g1126 ≠ gb1125)); have n4_ := am_ ((by rw [hg]; exact Nat.ne_of_lt (blk_lt (g := gb1125) (o := .cells #[.bool false, .int .i64 0, .int .i64 0, .int .i64 0, .int .i64 0, .string (⟨#[]⟩ : ByteArray), .slice none 0 0] 67 (0, 0)) (by (with_reducible repeat (first | apply k1_ | apply k2_ | apply k3_)); exact BK1125.out)) : gb1125 ≠ g1126)); clear BK1125; clear HB; have BK1125 := n0_; have HB := n1_; have HI1126 := n2_; have NB1126_1125 := n3_; have NB1125_1126 := n4_; clear n0_ n1_ n2_ n3_ n4_; clear hb hbox hg) | ((with_reducible refine gate_callee (f := 119) rfl ?_); refine goesL_ (some 14) rfl rfl Try.func119 (by kernel_rfl) rfl #[.pointer (some ⟨g1126, 0, none⟩), .int .i64 1] rfl (by (try simp only [m1_, m2_, m3_]); first | done | rfl | (simp only [d1_, d2_]; rfl)) ?_; (with_reducible refine (impl_reader_number.calls k g1126 a0 false 1 t1127 t1128 t1129 w _ ?side1 ?side2 A5.out).mono ?_); (case side1 => repeat (first | (with_reducible first | exact HI1126.out | apply IsS143.alloc | apply IsS143.drewN | apply IsS143.drew | apply IsS143.set_0 | apply IsS143.set_1 | refine IsS143.far ?_ NB1126_1125.out _) | exact HI1126.out)); (case side2 => repeat (first | (with_reducible first | exact HB.out | apply b1_ | apply b2_ | apply b3_ | refine below_set ?_ (IsS143.ge HI1126.out) | refine below_set ?_ GE1125.out) | exact HB.out)); rintro e w15 ⟨rfl, hi, hb, hk⟩; refine ⟨_, rfl, ?_⟩; have n0_ := am_ (KeepBut.blk hk (g' := gb1125) (o := .cells #[.bool false, .int .i64 0, .int .i64 0, .int .i64 0, .int .i64 0, .string (⟨#[]⟩ : ByteArray), .slice none 0 0] 67 (0, 0)) (by (with_reducible repeat (first | apply k1_ | apply k2_ | apply k3_)); exact BK1125.out) NB1125_1126.out (by simp)); have n1_ := am_ (hb); have n2_ := am_ (hi); clear BK1125; clear HB; clear HI1126; have BK1125 := n0_; have HB := n1_; have HI1126 := n2_; clear n0_ n1_ n2_; (try clear hb); (try clear hb2); (try clear hk); (try clear hi)) | ((with_reducible refine gate_dst (N := 6) rfl ?_); refine box_event ?hg (N := 6) ?hd (cs := #[.bool false, .int .i64 0, .int .i64 0, .int .i64 0, .int .i64 0, .string (⟨#[]⟩ : ByteArray), .slice none 0 0]) (t := 67) ?hr ?_; (case hd => rfl); (case hg => rfl); (case hr => first | (go_simp; done) | (go_simp; rfl)); intro gb1130 hg w16 hbox hb; have n0_ := am_ (blk_below (g := gb1125) (o := .cells #[.bool false, .int .i64 0, .int .i64 0, .int .i64 0, .int .i64 0, .string (⟨#[]⟩ : ByteArray), .slice none 0 0] 67 (0, 0)) (by (with_reducible repeat (first | apply k1_ | apply k2_ | apply k3_)); exact BK1125.out) hb); have n1_ := am_ (IsS143.below (by repeat (first | (with_reducible first | exact HI1126.out | apply IsS143.alloc | apply IsS143.drewN | apply IsS143.drew | apply IsS143.set_0 | apply IsS143.set_1 | refine IsS143.far ?_ NB1126_1125.out _) | exact HI1126.out)) hb); have n2_ := am_ (below_step (by repeat (first | (with_reducible first | exact HB.out | apply b1_ | apply b2_ | apply b3_ | refine below_set ?_ (IsS143.ge HI1126.out) | refine below_set ?_ GE1125.out) | exact HB.out)) hb); have n3_ := am_ (hbox); have n4_ := am_ ((by rw [hg]; exact (below_size (by repeat (first | (with_reducible first | exact HB.out | apply b1_ | apply b2_ | apply b3_ | refine below_set ?_ (IsS143.ge HI1126.out) | refine below_set ?_ GE1125.out) | exact HB.out))) : w.heap.size ≤ gb1130)); have n5_ := am_ ((by rw [hg]; exact (below_size (by repeat (first | (with_reducible first | exact HB.out | apply b1_ | apply b2_ | apply b3_ | refine below_set ?_ (IsS143.ge HI1126.out) | refine below_set ?_ GE1125.out) | exact HB.out))) : w.heap.size ≤ gb1130)); have n6_ := am_ ((by rw [hg]; exact Nat.ne_of_lt (blk_lt (g := gb1125) (o := .cells #[.bool false, .int .i64 0, .int .i64 0, .int .i64 0, .int .i64 0, .string (⟨#[]⟩ : ByteArray), .slice none 0 0] 67 (0, 0)) (by (with_reducible repeat (first | apply k1_ | apply k2_ | apply k3_)); exact BK1125.out)) : gb1125 ≠ gb1130)); have n7_ := am_ ((by rw [hg]; exact Nat.ne_of_gt (blk_lt (g := gb1125) (o := .cells #[.bool false, .int .i64 0, .int .i64 0, .int .i64 0, .int .i64 0, .string (⟨#[]⟩ : ByteArray), .slice none 0 0] 67 (0, 0)) (by (with_reducible repeat (first | apply k1_ | apply k2_ | apply k3_)); exact BK1125.out)) : gb1130 ≠ gb1125)); have n8_ := am_ ((by rw [hg]; exact Nat.ne_of_lt (IsS143.lt (show IsS143 w _ g1126 t1128 t1129 from by repeat (first | (with_reducible first | exact HI1126.out | apply IsS143.alloc | apply IsS143.drewN | apply IsS143.drew | apply IsS143.set_0 | apply IsS143.set_1 | refine IsS143.far ?_ NB1126_1125.out _) | exact HI1126.out))) : g1126 ≠ gb1130)); have n9_ := am_ ((by rw [hg]; exact Nat.ne_of_gt (IsS143.lt (show IsS143 w _ g1126 t1128 t1129 from by repeat (first | (with_reducible first | exact HI1126.out | apply IsS143.alloc | apply IsS143.drewN | apply IsS143.drew | apply IsS143.set_0 | apply IsS143.set_1 | refine IsS143.far ?_ NB1126_1125.out _) | exact HI1126.out))) : gb1130 ≠ g1126)); clear BK1125; clear HI1126; clear HB; have BK1125 := n0_; have HI1126 := n1_; have HB := n2_; have BK1130 := n3_; have GW1130 := n4_; have GE1130 := n5_; have NB1125_1130 := n6_; have NB1130_1125 := n7_; have NB1126_1130 := n8_; have NB1130_1126 := n9_; clear n0_ n1_ n2_ n3_ n4_ n5_ n6_ n7_ n8_ n9_; clear hb hbox hg))
   go_loopg [21] k (fun kq v21 w' => ∃ (x21_1 : Int) (x1127000_1 : ByteArray) (x1127001_1 : Bool) (x1131006_1 : List (S161)) (u1131006 : Value), v21 = .int .i64 x21_1 ∧ Aside0 (impl_readBatch.l0 kq (wrap64 (t1127 - 1)) ji12 x21_1 x1127000_1 x1127001_1 false 0 0 0 0 (⟨#[]⟩ : ByteArray) x1131006_1 = some (r1, r2, r3, r4, r5, r6, r7, r8)) ∧ Aside0 (kq ≤ k) ∧ Aside0 (Kd.R k161 161 w' w.heap.size (fun _ => True) u1131006 x1131006_1) ∧ Aside0 (w'.heap[gb1125]? = some (.cells #[.bool false, .int .i64 0, .int .i64 0, .int .i64 0, .int .i64 0, .string (⟨#[]⟩ : ByteArray), (.slice none 0 0)] 67 (0, 0))) ∧ Aside0 (w'.heap[gb1130]? = some (.cells #[.bool false, .int .i64 0, .int .i64 0, .int .i64 0, .int .i64 0, .string (⟨#[]⟩ : ByteArray), u1131006] 67 (0, 0))) ∧ Aside0 (IsS143 w w' g1126 x1127000_1 x1127001_1) ∧ Aside0 (Below w.heap.size w w'))
   case atStart => exact ⟨(0), (t1128), (t1129), (([] : List (S161))), (.slice none 0 0), (by first | rfl | (simp; done) | (simp [*]; done)), H', ⟨Nat.le_refl _⟩, ⟨by first | exact Kd.R_nil _ _ _ _ _ | exact Kd.N_nil _ _ _ _ _ | exact Kd.V_nil _ _ _ _ _ | exact Kd.Q_nil _ _ _ _ _ | exact Kd.S_nil _ _ _ _ _⟩, ⟨by (with_reducible repeat (first | apply k1_ | apply k2_ | apply k3_)); exact BK1125.out⟩, ⟨by (with_reducible repeat (first | apply k1_ | apply k2_ | apply k3_)); exact BK1130.out⟩, ⟨by repeat (first | (with_reducible first | exact HI1126.out | apply IsS143.alloc | apply IsS143.drewN | apply IsS143.drew | apply IsS143.set_0 | apply IsS143.set_1 | refine IsS143.far ?_ NB1126_1125.out _ | refine IsS143.far ?_ NB1126_1130.out _) | exact HI1126.out)⟩, ⟨by repeat (first | (with_reducible first | exact HB.out | apply b1_ | apply b2_ | apply b3_ | refine below_set ?_ (IsS143.ge HI1126.out) | refine below_set ?_ GE1125.out | refine below_set ?_ GE1130.out) | exact HB.out)⟩⟩
   case round =>
    clear H'
    try clear c1
    try clear c2
    try clear c2b0
    try clear c2b1
    try clear p2
    try clear c6
    try clear c6b0
    try clear p6
    try clear c9
    try clear c10
    try clear c11
    try clear hcz11_0
    try clear hcz11_1
    try clear hcz11_2
    try clear hcz11_3
    try clear hcz11_4
    try clear hcz11_5
    try clear hcz11_6
    try clear hcz4_0
    try clear hcz4_1
    try clear hcz4_2
    try clear hcz4_3
    try clear hcz4_4
    try clear hcz4_5
    try clear hcz4_6
    try clear hfz11_0
    try clear hfz11_1
    try clear hfz11_2
    try clear hfz11_3
    try clear hfz11_4
    try clear hfz11_5
    try clear hfz11_6
    try clear hfz4_0
    try clear hfz4_1
    try clear hfz4_2
    try clear hfz4_3
    try clear hfz4_4
    try clear hfz4_5
    try clear hfz4_6
    obtain ⟨x21_1, x1127000_1, x1127001_1, x1131006_1, u1131006, rfl, HA, HK1, HO_1131006, BK1125, BK1130, HI1126, HB⟩ := hrel
    cases gk with
    | zero => exact absurd HA.out (by simp [impl_readBatch.l0])
    | succ k1 =>
     have H := HA.out
     clear HA
     simp only [impl_readBatch.l0] at H
     by_cases c17 : x21_1 < ji12
     ·rw [if_pos c17] at H
      have c17b0 : decide (x21_1 < ji12) = true := decide_eq_true c17
      clear c17
      replace H := Option.bind_eq_some_iff.mp H
      obtain ⟨⟨t1131, t1132, t1133⟩, A180, H⟩ := H
      replace H : ((impl_reader_number.f k1 t1132 t1133 4).bind fun bt1134 => ((impl_reader_take.f bt1134.2.1 bt1134.2.2 8).bind fun bt1137 => (if x1131006_1.length < 4398046511104 then (impl_readBatch.l0 k1 (wrap64 (t1127 - 1)) ji12 (wrap64 (x21_1 + 1)) bt1137.2.1 bt1137.2.2 false 0 0 0 0 (⟨#[]⟩ : ByteArray) (x1131006_1 ++ [(⟨t1131, bt1134.1, bt1137.1⟩ : S161)])) else (none)))) = some (r1, r2, r3, r4, r5, r6, r7, r8) := H
      have A18 := am_ A180
      clear A180
      replace H := Option.bind_eq_some_iff.mp H
      obtain ⟨⟨t1134, t1135, t1136⟩, A190, H⟩ := H
      replace H : ((impl_reader_take.f t1135 t1136 8).bind fun bt1137 => (if x1131006_1.length < 4398046511104 then (impl_readBatch.l0 k1 (wrap64 (t1127 - 1)) ji12 (wrap64 (x21_1 + 1)) bt1137.2.1 bt1137.2.2 false 0 0 0 0 (⟨#[]⟩ : ByteArray) (x1131006_1 ++ [(⟨t1131, t1134, bt1137.1⟩ : S161)])) else (none))) = some (r1, r2, r3, r4, r5, r6, r7, r8) := H
      have A19 := am_ A190
      clear A190
      replace H := Option.bind_eq_some_iff.mp H
      obtain ⟨⟨t1137, t1138, t1139⟩, A200, H⟩ := H
      replace H : (if x1131006_1.length < 4398046511104 then (impl_readBatch.l0 k1 (wrap64 (t1127 - 1)) ji12 (wrap64 (x21_1 + 1)) t1138 t1139 false 0 0 0 0 (⟨#[]⟩ : ByteArray) (x1131006_1 ++ [(⟨t1131, t1134, t1137⟩ : S161)])) else (none)) = some (r1, r2, r3, r4, r5, r6, r7, r8) := H
      have A20 := am_ A200
      clear A200
      by_cases c21 : x1131006_1.length < 4398046511104
      ·rw [if_pos c21] at H
       have LMc21 := am_ c21
       clear c21
       obtain ⟨y1140, hy1140⟩ : ∃ y_ : List (S161), y_ = (x1131006_1 ++ [(⟨t1131, t1134, t1137⟩ : S161)]) := ⟨_, rfl⟩
       replace H : (impl_readBatch.l0 k1 (wrap64 (t1127 - 1)) ji12 (wrap64 (x21_1 + 1)) t1138 t1139 false 0 0 0 0 (⟨#[]⟩ : ByteArray) y1140) = some (r1, r2, r3, r4, r5, r6, r7, r8) := by first | (rw [hy1140]; with_reducible exact H) | (have H2_ := (Option.bind_some _ _).symm.trans H; rw [hy1140]; with_reducible exact H2_) | (have H2_ := (Option.bind_some _ _).symm.trans H; with_reducible exact H2_) | with_reducible exact H | (rw [hy1140]; exact H) | exact H
       have Ny1140 := am_ hy1140
       clear hy1140
       have H' := am_ H
       clear H
       try go_wp2
       have n0_ := am_ (Kd.R_drew HO_1131006.out)
       have n1_ := am_ (blk_drew BK1125.out)
       have n2_ := am_ (blk_drew BK1130.out)
       have n3_ := am_ (IsS143.drew HI1126.out)
       have n4_ := am_ (below_drew1 HB.out)
       clear HO_1131006
       clear BK1125
       clear BK1130
       clear HI1126
       clear HB
       have HO_1131006 := n0_
       have BK1125 := n1_
       have BK1130 := n2_
       have HI1126 := n3_
       have HB := n4_
       clear n0_ n1_ n2_ n3_ n4_
       refine start_ (n := 13) (S := fun w' => w'.cell? ⟨gb1130, 0, none⟩ = some (.bool false) ∧ w'.cell? ⟨gb1130, 1, none⟩ = some (.int .i64 0) ∧ w'.cell? ⟨gb1130, 2, none⟩ = some (.int .i64 0) ∧ w'.cell? ⟨gb1130, 3, none⟩ = some (.int .i64 0) ∧ w'.cell? ⟨gb1130, 4, none⟩ = some (.int .i64 0) ∧ w'.cell? ⟨gb1130, 5, none⟩ = some (.string (⟨#[]⟩ : ByteArray)) ∧ w'.cell? ⟨gb1130, 6, none⟩ = some (u1131006)) (ds := [12]) #[false, false, false, false, false, false, false, false, false, false, false, false, false] (by kernel_rfl) rfl rfl ⟨(blk_cell BK1130.out 0).trans rfl, (blk_cell BK1130.out 1).trans rfl, (blk_cell BK1130.out 2).trans rfl, (blk_cell BK1130.out 3).trans rfl, (blk_cell BK1130.out 4).trans rfl, (blk_cell BK1130.out 5).trans rfl, (blk_cell BK1130.out 6).trans rfl⟩ (fun hHeld => ?_); refine with_tabW impl_readBatch.tab10 impl_readBatch.bits10 (fun HT_ HW_ => ?_)
       generalize wr.drew = w22 at HO_1131006 BK1125 BK1130 HI1126 HB hHeld ⊢
       refine pure_ (i := 0) (N := some 23) (v := ?_) (a' := ?_) #[true, false, false, false, false, false, false, false, false, false, false, false, false] rfl rfl (any_of HT_.out (by kernel_rfl)) (fun _ _ _ h => h) (Or.inl ⟨by rfl, ?_⟩) ?_ ?_
       rotate_left
       ·intro w'
        go_simp
        with_reducible rfl
       rotate_left
       ·simp only [Act.put, p1_, p2_, p3_, i64_w, i32_w]
        rfl
       refine pure_ (i := 2) (N := some 25) (v := ?_) (a' := ?_) #[true, false, true, false, false, false, false, false, false, false, false, false, false] rfl rfl (any_of HT_.out (by kernel_rfl)) (fun _ _ _ h => h) (Or.inl ⟨by rfl, ?_⟩) ?_ ?_
       rotate_left
       ·intro w'
        go_simp
        with_reducible rfl
       rotate_left
       ·simp only [Act.put, p1_, p2_, p3_, i64_w, i32_w]
        rfl
       refine pure_ (i := 4) (N := some 27) (v := ?_) (a' := ?_) #[true, false, true, false, true, false, false, false, false, false, false, false, false] rfl rfl (any_of HT_.out (by kernel_rfl)) (fun _ _ _ h => h) (Or.inl ⟨by rfl, ?_⟩) ?_ ?_
       rotate_left
       ·intro w'
        go_simp
        with_reducible rfl
       rotate_left
       ·simp only [Act.put, p1_, p2_, p3_, i64_w, i32_w]
        rfl
       refine pure_ (i := 6) (N := some 29) (v := ?_) (a' := ?_) #[true, false, true, false, true, false, true, false, false, false, false, false, false] rfl rfl (any_of HT_.out (by kernel_rfl)) (fun _ _ _ h => h) (Or.inl ⟨by rfl, ?_⟩) ?_ ?_
       rotate_left
       ·intro w'
        go_simp
        with_reducible rfl
       rotate_left
       ·simp only [Act.put, p1_, p2_, p3_, i64_w, i32_w]
        rfl
       refine take_ (i := 1) (N := some 24) (v := ?_) (a' := ?_) #[true, true, true, false, true, false, true, false, false, false, false, false, false] rfl rfl (take_ofW HT_.out HW_.out (by kernel_rfl)) (fun _ _ _ h => h) (Or.inl ⟨by rfl, ?_⟩) hHeld ?_ ?_
       rotate_left
       ·rintro w' ⟨s0, s1, s2, s3, s4, s5, s6⟩
        go_simp
        with_reducible rfl
       rotate_left
       ·simp only [Act.put, p1_, p2_, p3_, i64_w, i32_w]
        rfl
       refine one_ (i := 3) (N := some 26) #[true, true, true, true, true, false, true, false, false, false, false, false, false] rfl rfl (one_of HT_.out (by kernel_rfl)) (by decide) (fun K hK => ?_)
       refine goes_ Try.func119 (by kernel_rfl) rfl #[.pointer (some ⟨g1126, 0, none⟩), .int .i64 1] (by rfl) rfl rfl (by (try simp only [m1_, m2_, m3_]); first | done | rfl | (simp only [d1_, d2_]; rfl)) ?_
       with_reducible refine (impl_reader_number.calls k1 g1126 x1127000_1 x1127001_1 1 t1131 t1132 t1133 w _ ?side1 ?side2 A18.out).mono ?_
       (case side1 => repeat (first | (with_reducible first | exact HI1126.out | apply IsS143.alloc | apply IsS143.drewN | apply IsS143.drew | apply IsS143.set_0 | apply IsS143.set_1 | refine IsS143.far ?_ NB1126_1125.out _ | refine IsS143.far ?_ NB1126_1130.out _) | exact HI1126.out))
       (case side2 => repeat (first | (with_reducible first | exact HB.out | apply b1_ | apply b2_ | apply b3_ | refine below_set ?_ (IsS143.ge HI1126.out) | refine below_set ?_ GE1125.out | refine below_set ?_ GE1130.out) | exact HB.out))
       rintro e w23 ⟨rfl, hi, hb, hk⟩
       refine ⟨_, rfl, ?_⟩
       have n0_ := am_ (Kd.R_mono (Kd.R_keep (IsS143.apart (show IsS143 w _ g1126 x1127000_1 x1127001_1 from by repeat (first | (with_reducible first | exact HI1126.out | apply IsS143.alloc | apply IsS143.drewN | apply IsS143.drew | apply IsS143.set_0 | apply IsS143.set_1 | refine IsS143.far ?_ NB1126_1125.out _ | refine IsS143.far ?_ NB1126_1130.out _) | exact HI1126.out)) (by (with_reducible repeat (first | apply r1_ | apply r2_ | apply r3_)); exact HO_1131006.out) (by decide)) hk (fun _ h => h.2)) (fun _ h => h.1))
       have n1_ := am_ (KeepBut.blk hk (g' := gb1125) (o := .cells #[.bool false, .int .i64 0, .int .i64 0, .int .i64 0, .int .i64 0, .string (⟨#[]⟩ : ByteArray), .slice none 0 0] 67 (0, 0)) (by (with_reducible repeat (first | apply k1_ | apply k2_ | apply k3_)); exact BK1125.out) NB1125_1126.out (by simp))
       have n2_ := am_ (KeepBut.blk hk (g' := gb1130) (o := .cells #[.bool false, .int .i64 0, .int .i64 0, .int .i64 0, .int .i64 0, .string (⟨#[]⟩ : ByteArray), u1131006] 67 (0, 0)) (by (with_reducible repeat (first | apply k1_ | apply k2_ | apply k3_)); exact BK1130.out) NB1130_1126.out (by simp))
       have n3_ := am_ (hb)
       have n4_ := am_ (hi)
       clear HO_1131006
       clear BK1125
       clear BK1130
       clear HB
       clear HI1126
       have HO_1131006 := n0_
       have BK1125 := n1_
       have BK1130 := n2_
       have HB := n3_
       have HI1126 := n4_
       clear n0_ n1_ n2_ n3_ n4_
       (try clear hb)
       (try clear hb2)
       (try clear hk)
       (try clear hi)
       refine hK.out _ _ ⟨(blk_cell BK1130.out 0).trans rfl, (blk_cell BK1130.out 1).trans rfl, (blk_cell BK1130.out 2).trans rfl, (blk_cell BK1130.out 3).trans rfl, (blk_cell BK1130.out 4).trans rfl, (blk_cell BK1130.out 5).trans rfl, (blk_cell BK1130.out 6).trans rfl⟩ (fun hHeld => ?_)
       clear hK K
       refine norm_ (a' := ?_) ?_ ?_
       rotate_left
       ·show Act.put _ (some 26) _ = _
        simp only [Act.put, p1_, p2_, p3_, i64_w, i32_w]
        rfl
       refine one_ (i := 5) (N := some 28) #[true, true, true, true, true, true, true, false, false, false, false, false, false] rfl rfl (one_of HT_.out (by kernel_rfl)) (by decide) (fun K hK => ?_)
       refine goes_ Try.func119 (by kernel_rfl) rfl #[.pointer (some ⟨g1126, 0, none⟩), .int .i64 4] (by rfl) rfl rfl (by (try simp only [m1_, m2_, m3_]); first | done | rfl | (simp only [d1_, d2_]; rfl)) ?_
       with_reducible refine (impl_reader_number.calls k1 g1126 t1132 t1133 4 t1134 t1135 t1136 w _ ?side1 ?side2 A19.out).mono ?_
       (case side1 => repeat (first | (with_reducible first | exact HI1126.out | apply IsS143.alloc | apply IsS143.drewN | apply IsS143.drew | apply IsS143.set_0 | apply IsS143.set_1 | refine IsS143.far ?_ NB1126_1125.out _ | refine IsS143.far ?_ NB1126_1130.out _) | exact HI1126.out))
       (case side2 => repeat (first | (with_reducible first | exact HB.out | apply b1_ | apply b2_ | apply b3_ | refine below_set ?_ (IsS143.ge HI1126.out) | refine below_set ?_ GE1125.out | refine below_set ?_ GE1130.out) | exact HB.out))
       rintro e w24 ⟨rfl, hi, hb, hk⟩
       refine ⟨_, rfl, ?_⟩
       have n0_ := am_ (Kd.R_mono (Kd.R_keep (IsS143.apart (show IsS143 w _ g1126 t1132 t1133 from by repeat (first | (with_reducible first | exact HI1126.out | apply IsS143.alloc | apply IsS143.drewN | apply IsS143.drew | apply IsS143.set_0 | apply IsS143.set_1 | refine IsS143.far ?_ NB1126_1125.out _ | refine IsS143.far ?_ NB1126_1130.out _) | exact HI1126.out)) (by (with_reducible repeat (first | apply r1_ | apply r2_ | apply r3_)); exact HO_1131006.out) (by decide)) hk (fun _ h => h.2)) (fun _ h => h.1))
       have n1_ := am_ (KeepBut.blk hk (g' := gb1125) (o := .cells #[.bool false, .int .i64 0, .int .i64 0, .int .i64 0, .int .i64 0, .string (⟨#[]⟩ : ByteArray), .slice none 0 0] 67 (0, 0)) (by (with_reducible repeat (first | apply k1_ | apply k2_ | apply k3_)); exact BK1125.out) NB1125_1126.out (by simp))
       have n2_ := am_ (KeepBut.blk hk (g' := gb1130) (o := .cells #[.bool false, .int .i64 0, .int .i64 0, .int .i64 0, .int .i64 0, .string (⟨#[]⟩ : ByteArray), u1131006] 67 (0, 0)) (by (with_reducible repeat (first | apply k1_ | apply k2_ | apply k3_)); exact BK1130.out) NB1130_1126.out (by simp))
       have n3_ := am_ (hb)
       have n4_ := am_ (hi)
       clear HO_1131006
       clear BK1125
       clear BK1130
       clear HB
       clear HI1126
       have HO_1131006 := n0_
       have BK1125 := n1_
       have BK1130 := n2_
       have HB := n3_
       have HI1126 := n4_
       clear n0_ n1_ n2_ n3_ n4_
       (try clear hb)
       (try clear hb2)
       (try clear hk)
       (try clear hi)
       refine hK.out _ _ ⟨(blk_cell BK1130.out 0).trans rfl, (blk_cell BK1130.out 1).trans rfl, (blk_cell BK1130.out 2).trans rfl, (blk_cell BK1130.out 3).trans rfl, (blk_cell BK1130.out 4).trans rfl, (blk_cell BK1130.out 5).trans rfl, (blk_cell BK1130.out 6).trans rfl⟩ (fun hHeld => ?_)
       clear hK K
       refine norm_ (a' := ?_) ?_ ?_
       rotate_left
       ·show Act.put _ (some 28) _ = _
        simp only [Act.put, p1_, p2_, p3_, i64_w, i32_w]
        rfl
       refine one_ (i := 7) (N := some 30) #[true, true, true, true, true, true, true, true, false, false, false, false, false] rfl rfl (one_of HT_.out (by kernel_rfl)) (by decide) (fun K hK => ?_)
       refine goes_ Try.func132 (by kernel_rfl) rfl #[.pointer (some ⟨g1126, 0, none⟩), .int .i64 8] (by rfl) rfl rfl (by (try simp only [m1_, m2_, m3_]); first | done | rfl | (simp only [d1_, d2_]; rfl)) ?_
       with_reducible refine (impl_reader_take.calls g1126 t1135 t1136 8 t1137 t1138 t1139 w _ ?side1 ?side2 A20.out).mono ?_
       (case side1 => repeat (first | (with_reducible first | exact HI1126.out | apply IsS143.alloc | apply IsS143.drewN | apply IsS143.drew | apply IsS143.set_0 | apply IsS143.set_1 | refine IsS143.far ?_ NB1126_1125.out _ | refine IsS143.far ?_ NB1126_1130.out _) | exact HI1126.out))
       (case side2 => repeat (first | (with_reducible first | exact HB.out | apply b1_ | apply b2_ | apply b3_ | refine below_set ?_ (IsS143.ge HI1126.out) | refine below_set ?_ GE1125.out | refine below_set ?_ GE1130.out) | exact HB.out))
       rintro e w25 ⟨rfl, hi, hb, hk⟩
       refine ⟨_, rfl, ?_⟩
       have n0_ := am_ (Kd.R_mono (Kd.R_keep (IsS143.apart (show IsS143 w _ g1126 t1135 t1136 from by repeat (first | (with_reducible first | exact HI1126.out | apply IsS143.alloc | apply IsS143.drewN | apply IsS143.drew | apply IsS143.set_0 | apply IsS143.set_1 | refine IsS143.far ?_ NB1126_1125.out _ | refine IsS143.far ?_ NB1126_1130.out _) | exact HI1126.out)) (by (with_reducible repeat (first | apply r1_ | apply r2_ | apply r3_)); exact HO_1131006.out) (by decide)) hk (fun _ h => h.2)) (fun _ h => h.1))
       have n1_ := am_ (KeepBut.blk hk (g' := gb1125) (o := .cells #[.bool false, .int .i64 0, .int .i64 0, .int .i64 0, .int .i64 0, .string (⟨#[]⟩ : ByteArray), .slice none 0 0] 67 (0, 0)) (by (with_reducible repeat (first | apply k1_ | apply k2_ | apply k3_)); exact BK1125.out) NB1125_1126.out (by simp))
       have n2_ := am_ (KeepBut.blk hk (g' := gb1130) (o := .cells #[.bool false, .int .i64 0, .int .i64 0, .int .i64 0, .int .i64 0, .string (⟨#[]⟩ : ByteArray), u1131006] 67 (0, 0)) (by (with_reducible repeat (first | apply k1_ | apply k2_ | apply k3_)); exact BK1130.out) NB1130_1126.out (by simp))
       have n3_ := am_ (hb)
       have n4_ := am_ (hi)
       clear HO_1131006
       clear BK1125
       clear BK1130
       clear HB
       clear HI1126
       have HO_1131006 := n0_
       have BK1125 := n1_
       have BK1130 := n2_
       have HB := n3_
       have HI1126 := n4_
       clear n0_ n1_ n2_ n3_ n4_
       (try clear hb)
       (try clear hb2)
       (try clear hk)
       (try clear hi)
       refine hK.out _ _ ⟨(blk_cell BK1130.out 0).trans rfl, (blk_cell BK1130.out 1).trans rfl, (blk_cell BK1130.out 2).trans rfl, (blk_cell BK1130.out 3).trans rfl, (blk_cell BK1130.out 4).trans rfl, (blk_cell BK1130.out 5).trans rfl, (blk_cell BK1130.out 6).trans rfl⟩ (fun hHeld => ?_)
       clear hK K
       refine norm_ (a' := ?_) ?_ ?_
       rotate_left
       ·show Act.put _ (some 30) _ = _
        simp only [Act.put, p1_, p2_, p3_, i64_w, i32_w]
        rfl
       refine pure_ (i := 8) (N := some 31) (v := ?_) (a' := ?_) #[true, true, true, true, true, true, true, true, true, false, false, false, false] rfl rfl (any_of HT_.out (by kernel_rfl)) (fun _ _ _ h => h) (Or.inl ⟨by rfl, ?_⟩) ?_ ?_
       rotate_left
       ·intro w'
        go_simp
        with_reducible rfl
       rotate_left
       ·simp only [Act.put, p1_, p2_, p3_, i64_w, i32_w]
        rfl
       refine one_ (i := 9) (N := some 32) #[true, true, true, true, true, true, true, true, true, true, false, false, false] rfl rfl (one_of HT_.out (by kernel_rfl)) (by decide) (fun K hK => ?_)
       refine value_ (w1 := ?_) (v := ?_) (by rfl) rfl ?_ ?_
       rotate_left 2
       ·go_simp
        constructor
        ·rfl
        ·rfl
       refine hK.out _ _ ⟨(blk_cell (blk_alloc BK1130.out _) 0).trans rfl, (blk_cell (blk_alloc BK1130.out _) 1).trans rfl, (blk_cell (blk_alloc BK1130.out _) 2).trans rfl, (blk_cell (blk_alloc BK1130.out _) 3).trans rfl, (blk_cell (blk_alloc BK1130.out _) 4).trans rfl, (blk_cell (blk_alloc BK1130.out _) 5).trans rfl, (blk_cell (blk_alloc BK1130.out _) 6).trans rfl⟩ (fun hHeld => ?_)
       clear hK K
       refine norm_ (a' := ?_) ?_ ?_
       rotate_left
       ·show Act.put _ (some 32) _ = _
        simp only [Act.put, p1_, p2_, p3_, i64_w, i32_w]
        rfl
       refine one_ (i := 10) (N := some 33) #[true, true, true, true, true, true, true, true, true, true, true, false, false] rfl rfl (one_of HT_.out (by kernel_rfl)) (by decide) (fun K hK => ?_)
       refine Kd.R_append_step k161 (w0 := w) w.heap.size (by rfl) (.tmp 24) (.tmp 32) 65 161 (.agg #[(.int .i64 0), (.int .i64 0), (.string ⟨#[]⟩)]) 32 rfl Try.underlying65 info161 rfl (by decide) (by omega) u1131006 x1131006_1 (⟨t1131, t1134, t1137⟩ : S161) [.int .i64 t1131, .int .i64 t1134, .string t1137] (fun _ => True) (fun _ => False) rfl rfl ?aP (fun _ hk => hk.elim) ?aF ?aO ?aB ?aS ?aL ?_
       (case aP => exact k161_mkM _ _ _ (⟨t1131, t1134, t1137⟩ : S161))
       (case aB => exact (by repeat (first | (with_reducible first | exact HB.out | apply b1_ | apply b2_ | apply b3_ | refine below_set ?_ (IsS143.ge HI1126.out) | refine below_set ?_ GE1125.out | refine below_set ?_ GE1130.out) | exact HB.out)))
       (case aF => exact (fun _ _ => trivial))
       (case aO => exact (by (with_reducible repeat (first | apply r1_ | apply r2_ | apply r3_)); exact HO_1131006.out))
       (case aS => exact (below_size (by repeat (first | (with_reducible first | exact HB.out | apply b1_ | apply b2_ | apply b3_ | refine below_set ?_ (IsS143.ge HI1126.out) | refine below_set ?_ GE1125.out | refine below_set ?_ GE1130.out) | exact HB.out))))
       (case aL => have := LMc21.out; omega)
       intro v1141 w26 ho hb hg hat
       rw [← Ny1140.out] at ho
       have n0_ := am_ (blk_grown (g := gb1125) (o := .cells #[.bool false, .int .i64 0, .int .i64 0, .int .i64 0, .int .i64 0, .string (⟨#[]⟩ : ByteArray), .slice none 0 0] 67 (0, 0)) (by (with_reducible repeat (first | apply k1_ | apply k2_ | apply k3_)); exact BK1125.out) hg (Kd.R_ne HO_1131006.out BK1125.out (by decide)))
       have n1_ := am_ (blk_grown (g := gb1130) (o := .cells #[.bool false, .int .i64 0, .int .i64 0, .int .i64 0, .int .i64 0, .string (⟨#[]⟩ : ByteArray), u1131006] 67 (0, 0)) (by (with_reducible repeat (first | apply k1_ | apply k2_ | apply k3_)); exact BK1130.out) hg (Kd.R_ne HO_1131006.out BK1130.out (by decide)))
       have n2_ := am_ (IsS143.grown (by repeat (first | (with_reducible first | exact HI1126.out | apply IsS143.alloc | apply IsS143.drewN | apply IsS143.drew | apply IsS143.set_0 | apply IsS143.set_1 | refine IsS143.far ?_ NB1126_1125.out _ | refine IsS143.far ?_ NB1126_1130.out _) | exact HI1126.out)) hg (IsS143.own_ne HI1126.out HO_1131006.out (by decide)))
       have n3_ := am_ (hb)
       have n4_ := am_ (ho)
       clear BK1125
       clear BK1130
       clear HI1126
       clear HB
       clear HO_1131006
       have BK1125 := n0_
       have BK1130 := n1_
       have HI1126 := n2_
       have HB := n3_
       have HO1142 := n4_
       clear n0_ n1_ n2_ n3_ n4_
       clear ho hb hg hat
       obtain ⟨Ao27, co27, eo27⟩ := Kd.R_slice HO1142.out
       (first | subst eo27 | (injection eo27 with f1_ f2_ f3_; have f4_ := f1_.symm; have f5_ := f3_.symm; clear f1_ f2_ f3_; subst f4_; subst f5_))
       refine hK.out _ _ ⟨(blk_cell BK1130.out 0).trans rfl, (blk_cell BK1130.out 1).trans rfl, (blk_cell BK1130.out 2).trans rfl, (blk_cell BK1130.out 3).trans rfl, (blk_cell BK1130.out 4).trans rfl, (blk_cell BK1130.out 5).trans rfl, (blk_cell BK1130.out 6).trans rfl⟩ (fun hHeld => ?_)
       clear hK K
       refine norm_ (a' := ?_) ?_ ?_
       rotate_left
       ·show Act.put _ (some 33) _ = _
        simp only [Act.put, p1_, p2_, p3_, i64_w, i32_w]
        rfl
       refine pure_ (i := 11) (N := some 34) (v := ?_) (a' := ?_) #[true, true, true, true, true, true, true, true, true, true, true, true, false] rfl rfl (any_of HT_.out (by kernel_rfl)) (fun _ _ _ h => h) (Or.inl ⟨by rfl, ?_⟩) ?_ ?_
       rotate_left
       ·intro w'
        go_simp
        with_reducible rfl
       rotate_left
       ·simp only [Act.put, p1_, p2_, p3_, i64_w, i32_w]
        rfl
       refine last_ (i := 12) (N := none) #[true, true, true, true, true, true, true, true, true, true, true, true, true] rfl rfl (one_of HT_.out (by kernel_rfl)) (by decide) (fun K hK => ?_)
       have hs28 : w26.cell? ⟨gb1130, 6, none⟩ = some (u1131006) := (blk_cell BK1130.out 6).trans rfl
       have hfs28 := blk_frozen BK1130.out 6
       have hns28_0 := NB1125_1130.out
       have hms28_0 := NB1130_1125.out
       refine skip_ (w1 := ?_) (by rfl) rfl ?_ ?_
       rotate_left
       ·go_simp
        rfl
       refine hK.out _ _ ?_
       clear hK K
       refine done_ (done_of HT_.out (by kernel_rfl)) ?_
       try go_wp2
       go_roundg k1
       case measure => have := HK1.out; omega
       case rel => exact ⟨(wrap64 (x21_1 + 1)), (t1138), (t1139), (y1140), (.slice Ao27 y1140.length co27), (by first | rfl | (simp; done) | (simp [*]; done)), H', ⟨by have := HK1.out; omega⟩, ⟨by (with_reducible repeat (first | apply r1_ | apply r2_ | apply r3_)); exact Kd.R_mono (Kd.Rf (Kd.R_types HO1142.out BK1130.out (by decide))) (fun _ hk => trivial)⟩, ⟨by (with_reducible repeat (first | apply k1_ | apply k2_ | apply k3_)); refine blk_far ?_ NB1125_1130.out _; (with_reducible repeat (first | apply k1_ | apply k2_ | apply k3_)); exact BK1125.out⟩, ⟨by (with_reducible repeat (first | apply k1_ | apply k2_ | apply k3_)); refine blk_put (cs := #[.bool false, .int .i64 0, .int .i64 0, .int .i64 0, .int .i64 0, .string (⟨#[]⟩ : ByteArray), u1131006]) ?_ 6 _ rfl; (with_reducible repeat (first | apply k1_ | apply k2_ | apply k3_)); exact BK1130.out⟩, ⟨by repeat (first | (with_reducible first | exact HI1126.out | apply IsS143.alloc | apply IsS143.drewN | apply IsS143.drew | apply IsS143.set_0 | apply IsS143.set_1 | refine IsS143.far ?_ NB1126_1125.out _ | refine IsS143.far ?_ NB1126_1130.out _) | exact HI1126.out)⟩, ⟨by repeat (first | (with_reducible first | exact HB.out | apply b1_ | apply b2_ | apply b3_ | refine below_set ?_ (IsS143.ge HI1126.out) | refine below_set ?_ GE1125.out | refine below_set ?_ GE1130.out) | exact HB.out)⟩⟩
      ·rw [if_neg c21] at H
       exact absurd H (by simp)
     ·rw [if_neg c17] at H
      have c17b0 : decide (x21_1 < ji12) = false := decide_eq_false c17
      clear c17
      replace H := Option.bind_eq_some_iff.mp H
      obtain ⟨⟨t1143, t1144, t1145, t1146, t1147, t1148, t1149⟩, A290, H⟩ := H
      replace H : (if (wrap64 (t1127 - 1)) < 0 then (some (false, 0, 0, 0, 0, (⟨#[]⟩ : ByteArray), ([] : List (S161)), false)) else ((impl_reader_done.f t1148 t1149).bind fun bt1150 => (if bt1150.1 = true then ((impl_isBatch.f k1 false t1143 t1144 t1145 t1146 t1147 x1131006_1).bind fun t1153 => (if t1153 = true then (some (false, t1143, t1144, t1145, t1146, t1147, x1131006_1, true)) else (some (false, 0, 0, 0, 0, (⟨#[]⟩ : ByteArray), ([] : List (S161)), false)))) else (some (false, 0, 0, 0, 0, (⟨#[]⟩ : ByteArray), ([] : List (S161)), false))))) = some (r1, r2, r3, r4, r5, r6, r7, r8) := H
      have A29 := am_ A290
      clear A290
      by_cases c30 : (wrap64 (t1127 - 1)) < 0
      ·rw [if_pos c30] at H
       have c30b0 : decide ((wrap64 (t1127 - 1)) < 0) = true := decide_eq_true c30
       clear c30
       simp only [Option.some.injEq, Prod.mk.injEq] at H
       obtain ⟨rfl, rfl, rfl, rfl, rfl, rfl, rfl, rfl⟩ := H
       go_wp2_with (first | ((with_reducible refine gate_callee (f := 139) rfl ?_); refine goesL_ (some 37) rfl rfl Try.func139 (by kernel_rfl) rfl #[.pointer (some ⟨g1126, 0, none⟩)] rfl (by (try simp only [m1_, m2_, m3_]); first | done | rfl | (simp only [d1_, d2_]; rfl)) ?_; (with_reducible refine (impl_reader_request.calls k1 g1126 x1127000_1 x1127001_1 t1143 t1144 t1145 t1146 t1147 t1148 t1149 w _ ?side1 ?side2 A29.out).mono ?_); (case side1 => repeat (first | (with_reducible first | exact HI1126.out | apply IsS143.alloc | apply IsS143.drewN | apply IsS143.drew | apply IsS143.set_0 | apply IsS143.set_1 | refine IsS143.far ?_ NB1126_1125.out _ | refine IsS143.far ?_ NB1126_1130.out _) | exact HI1126.out)); (case side2 => repeat (first | (with_reducible first | exact HB.out | apply b1_ | apply b2_ | apply b3_ | refine below_set ?_ (IsS143.ge HI1126.out) | refine below_set ?_ GE1125.out | refine below_set ?_ GE1130.out) | exact HB.out)); rintro e w31 ⟨rfl, hi, hb, hk⟩; refine ⟨_, rfl, ?_⟩; have n0_ := am_ (Kd.R_mono (Kd.R_keep (IsS143.apart (show IsS143 w _ g1126 x1127000_1 x1127001_1 from by repeat (first | (with_reducible first | exact HI1126.out | apply IsS143.alloc | apply IsS143.drewN | apply IsS143.drew | apply IsS143.set_0 | apply IsS143.set_1 | refine IsS143.far ?_ NB1126_1125.out _ | refine IsS143.far ?_ NB1126_1130.out _) | exact HI1126.out)) (by (with_reducible repeat (first | apply r1_ | apply r2_ | apply r3_)); exact HO_1131006.out) (by decide)) hk (fun _ h => h.2)) (fun _ h => h.1)); have n1_ := am_ (KeepBut.blk hk (g' := gb1125) (o := .cells #[.bool false, .int .i64 0, .int .i64 0, .int .i64 0, .int .i64 0, .string (⟨#[]⟩ : ByteArray), .slice none 0 0] 67 (0, 0)) (by (with_reducible repeat (first | apply k1_ | apply k2_ | apply k3_)); exact BK1125.out) NB1125_1126.out (by simp)); have n2_ := am_ (KeepBut.blk hk (g' := gb1130) (o := .cells #[.bool false, .int .i64 0, .int .i64 0, .int .i64 0, .int .i64 0, .string (⟨#[]⟩ : ByteArray), u1131006] 67 (0, 0)) (by (with_reducible repeat (first | apply k1_ | apply k2_ | apply k3_)); exact BK1130.out) NB1130_1126.out (by simp)); have n3_ := am_ (hb); have n4_ := am_ (hi); clear HO_1131006; clear BK1125; clear BK1130; clear HB; clear HI1126; have HO_1131006 := n0_; have BK1125 := n1_; have BK1130 := n2_; have HB := n3_; have HI1126 := n4_; clear n0_ n1_ n2_ n3_ n4_; (try clear hb); (try clear hb2); (try clear hk); (try clear hi); have hnb32 := NB1130_1125.out; have hnc32 := NB1125_1130.out; have hnb33 := NB1130_1126.out; have hnc33 := NB1126_1130.out; have hcz34_0 : w31.cell? ⟨gb1130, 0, none⟩ = some (.bool false) := (blk_cell BK1130.out 0).trans rfl; have hcz34_1 : w31.cell? ⟨gb1130, 1, none⟩ = some (.int .i64 0) := (blk_cell BK1130.out 1).trans rfl; have hcz34_2 : w31.cell? ⟨gb1130, 2, none⟩ = some (.int .i64 0) := (blk_cell BK1130.out 2).trans rfl; have hcz34_3 : w31.cell? ⟨gb1130, 3, none⟩ = some (.int .i64 0) := (blk_cell BK1130.out 3).trans rfl; have hcz34_4 : w31.cell? ⟨gb1130, 4, none⟩ = some (.int .i64 0) := (blk_cell BK1130.out 4).trans rfl; have hcz34_5 : w31.cell? ⟨gb1130, 5, none⟩ = some (.string (⟨#[]⟩ : ByteArray)) := (blk_cell BK1130.out 5).trans rfl; have hcz34_6 : w31.cell? ⟨gb1130, 6, none⟩ = some (u1131006) := (blk_cell BK1130.out 6).trans rfl; have hfz34_0 := blk_frozen BK1130.out 0; have hfz34_1 := blk_frozen BK1130.out 1; have hfz34_2 := blk_frozen BK1130.out 2; have hfz34_3 := blk_frozen BK1130.out 3; have hfz34_4 := blk_frozen BK1130.out 4; have hfz34_5 := blk_frozen BK1130.out 5; have hfz34_6 := blk_frozen BK1130.out 6; have hnb35 := NB1125_1126.out; have hnc35 := NB1126_1125.out; have hcz36_0 : w31.cell? ⟨gb1125, 0, none⟩ = some (.bool false) := (blk_cell BK1125.out 0).trans rfl; have hcz36_1 : w31.cell? ⟨gb1125, 1, none⟩ = some (.int .i64 0) := (blk_cell BK1125.out 1).trans rfl; have hcz36_2 : w31.cell? ⟨gb1125, 2, none⟩ = some (.int .i64 0) := (blk_cell BK1125.out 2).trans rfl; have hcz36_3 : w31.cell? ⟨gb1125, 3, none⟩ = some (.int .i64 0) := (blk_cell BK1125.out 3).trans rfl; have hcz36_4 : w31.cell? ⟨gb1125, 4, none⟩ = some (.int .i64 0) := (blk_cell BK1125.out 4).trans rfl; have hcz36_5 : w31.cell? ⟨gb1125, 5, none⟩ = some (.string (⟨#[]⟩ : ByteArray)) := (blk_cell BK1125.out 5).trans rfl; have hcz36_6 : w31.cell? ⟨gb1125, 6, none⟩ = some (.slice none 0 0) := (blk_cell BK1125.out 6).trans rfl; have hfz36_0 := blk_frozen BK1125.out 0; have hfz36_1 := blk_frozen BK1125.out 1; have hfz36_2 := blk_frozen BK1125.out 2; have hfz36_3 := blk_frozen BK1125.out 3; have hfz36_4 := blk_frozen BK1125.out 4; have hfz36_5 := blk_frozen BK1125.out 5; have hfz36_6 := blk_frozen BK1125.out 6))
       refine bodyPost_ret (results_ct rfl _ _ gb1125 67 #[.bool false, .int .i64 0, .int .i64 0, .int .i64 0, .int .i64 0, .string (⟨#[]⟩ : ByteArray), .slice none 0 0] (0, 0) _ rfl (by (with_reducible repeat (first | apply k1_ | apply k2_ | apply k3_)); refine blk_put (cs := #[.bool false, .int .i64 0, .int .i64 0, .int .i64 0, .int .i64 0, .string (⟨#[]⟩ : ByteArray), .slice none 0 0]) ?_ 6 _ rfl; (with_reducible repeat (first | apply k1_ | apply k2_ | apply k3_)); refine blk_put (cs := #[.bool false, .int .i64 0, .int .i64 0, .int .i64 0, .int .i64 0, .string (⟨#[]⟩ : ByteArray), .slice none 0 0]) ?_ 5 _ rfl; (with_reducible repeat (first | apply k1_ | apply k2_ | apply k3_)); refine blk_put (cs := #[.bool false, .int .i64 0, .int .i64 0, .int .i64 0, .int .i64 0, .string (⟨#[]⟩ : ByteArray), .slice none 0 0]) ?_ 4 _ rfl; (with_reducible repeat (first | apply k1_ | apply k2_ | apply k3_)); refine blk_put (cs := #[.bool false, .int .i64 0, .int .i64 0, .int .i64 0, .int .i64 0, .string (⟨#[]⟩ : ByteArray), .slice none 0 0]) ?_ 3 _ rfl; (with_reducible repeat (first | apply k1_ | apply k2_ | apply k3_)); refine blk_put (cs := #[.bool false, .int .i64 0, .int .i64 0, .int .i64 0, .int .i64 0, .string (⟨#[]⟩ : ByteArray), .slice none 0 0]) ?_ 2 _ rfl; (with_reducible repeat (first | apply k1_ | apply k2_ | apply k3_)); refine blk_put (cs := #[.bool false, .int .i64 0, .int .i64 0, .int .i64 0, .int .i64 0, .string (⟨#[]⟩ : ByteArray), .slice none 0 0]) ?_ 1 _ rfl; (with_reducible repeat (first | apply k1_ | apply k2_ | apply k3_)); refine blk_put (cs := #[.bool false, .int .i64 0, .int .i64 0, .int .i64 0, .int .i64 0, .string (⟨#[]⟩ : ByteArray), .slice none 0 0]) ?_ 0 _ rfl; (with_reducible repeat (first | apply k1_ | apply k2_ | apply k3_)); refine blk_far ?_ NB1125_1130.out _; (with_reducible repeat (first | apply k1_ | apply k2_ | apply k3_)); refine blk_far ?_ NB1125_1130.out _; (with_reducible repeat (first | apply k1_ | apply k2_ | apply k3_)); refine blk_far ?_ NB1125_1130.out _; (with_reducible repeat (first | apply k1_ | apply k2_ | apply k3_)); refine blk_far ?_ NB1125_1130.out _; (with_reducible repeat (first | apply k1_ | apply k2_ | apply k3_)); refine blk_far ?_ NB1125_1130.out _; (with_reducible repeat (first | apply k1_ | apply k2_ | apply k3_)); exact BK1125.out) Try.underlying67 rfl (by kernel_rfl)) rfl ?_
       exact ⟨_, by first | rfl | (simp [e1_, e2_] <;> rfl) | (simp only [← hji12]; first | rfl | (simp [e1_, e2_] <;> rfl)) | (simp [*, e1_, e2_] <;> rfl) | (simp [e3_, e4_]; done) | (simp [*, e3_, e4_]; done), by first | exact Kd.R_nil _ _ _ _ _ | exact Kd.N_nil _ _ _ _ _ | exact Kd.V_nil _ _ _ _ _ | exact Kd.Q_nil _ _ _ _ _ | exact Kd.S_nil _ _ _ _ _, by repeat (first | (with_reducible first | exact HB.out | apply b1_ | apply b2_ | apply b3_ | refine below_set ?_ (IsS143.ge HI1126.out) | refine below_set ?_ GE1125.out | refine below_set ?_ GE1130.out) | exact HB.out)⟩
      ·rw [if_neg c30] at H
       have c30b0 : decide ((wrap64 (t1127 - 1)) < 0) = false := decide_eq_false c30
       clear c30
       replace H := Option.bind_eq_some_iff.mp H
       obtain ⟨⟨t1150, t1151, t1152⟩, A370, H⟩ := H
       replace H : (if t1150 = true then ((impl_isBatch.f k1 false t1143 t1144 t1145 t1146 t1147 x1131006_1).bind fun t1153 => (if t1153 = true then (some (false, t1143, t1144, t1145, t1146, t1147, x1131006_1, true)) else (some (false, 0, 0, 0, 0, (⟨#[]⟩ : ByteArray), ([] : List (S161)), false)))) else (some (false, 0, 0, 0, 0, (⟨#[]⟩ : ByteArray), ([] : List (S161)), false))) = some (r1, r2, r3, r4, r5, r6, r7, r8) := H
       have A37 := am_ A370
       clear A370
       by_cases c38 : t1150 = true
       ·subst c38
        have H1 : ((impl_isBatch.f k1 false t1143 t1144 t1145 t1146 t1147 x1131006_1).bind fun t1153 => (if t1153 = true then (some (false, t1143, t1144, t1145, t1146, t1147, x1131006_1, true)) else (some (false, 0, 0, 0, 0, (⟨#[]⟩ : ByteArray), ([] : List (S161)), false)))) = some (r1, r2, r3, r4, r5, r6, r7, r8) := by rw [if_pos rfl] at H; exact H
        clear H
        have H := H1
        clear H1
        replace H := Option.bind_eq_some_iff.mp H
        obtain ⟨t1153, A390, H⟩ := H
        replace H : (if t1153 = true then (some (false, t1143, t1144, t1145, t1146, t1147, x1131006_1, true)) else (some (false, 0, 0, 0, 0, (⟨#[]⟩ : ByteArray), ([] : List (S161)), false))) = some (r1, r2, r3, r4, r5, r6, r7, r8) := H
        have A39 := am_ A390
        clear A390
        by_cases c40 : t1153 = true
        ·subst c40
         have H1 : (some (false, t1143, t1144, t1145, t1146, t1147, x1131006_1, true)) = some (r1, r2, r3, r4, r5, r6, r7, r8) := by rw [if_pos rfl] at H; exact H
         clear H
         have H := H1
         clear H1
         simp only [Option.some.injEq, Prod.mk.injEq] at H
         obtain ⟨rfl, rfl, rfl, rfl, rfl, rfl, rfl, rfl⟩ := H
         go_wp2_with (first | ((with_reducible refine gate_callee (f := 139) rfl ?_); refine goesL_ (some 37) rfl rfl Try.func139 (by kernel_rfl) rfl #[.pointer (some ⟨g1126, 0, none⟩)] rfl (by (try simp only [m1_, m2_, m3_]); first | done | rfl | (simp only [d1_, d2_]; rfl)) ?_; (with_reducible refine (impl_reader_request.calls k1 g1126 x1127000_1 x1127001_1 t1143 t1144 t1145 t1146 t1147 t1148 t1149 w _ ?side1 ?side2 A29.out).mono ?_); (case side1 => repeat (first | (with_reducible first | exact HI1126.out | apply IsS143.alloc | apply IsS143.drewN | apply IsS143.drew | apply IsS143.set_0 | apply IsS143.set_1 | refine IsS143.far ?_ NB1126_1125.out _ | refine IsS143.far ?_ NB1126_1130.out _) | exact HI1126.out)); (case side2 => repeat (first | (with_reducible first | exact HB.out | apply b1_ | apply b2_ | apply b3_ | refine below_set ?_ (IsS143.ge HI1126.out) | refine below_set ?_ GE1125.out | refine below_set ?_ GE1130.out) | exact HB.out)); rintro e w41 ⟨rfl, hi, hb, hk⟩; refine ⟨_, rfl, ?_⟩; have n0_ := am_ (Kd.R_mono (Kd.R_keep (IsS143.apart (show IsS143 w _ g1126 x1127000_1 x1127001_1 from by repeat (first | (with_reducible first | exact HI1126.out | apply IsS143.alloc | apply IsS143.drewN | apply IsS143.drew | apply IsS143.set_0 | apply IsS143.set_1 | refine IsS143.far ?_ NB1126_1125.out _ | refine IsS143.far ?_ NB1126_1130.out _) | exact HI1126.out)) (by (with_reducible repeat (first | apply r1_ | apply r2_ | apply r3_)); exact HO_1131006.out) (by decide)) hk (fun _ h => h.2)) (fun _ h => h.1)); have n1_ := am_ (KeepBut.blk hk (g' := gb1125) (o := .cells #[.bool false, .int .i64 0, .int .i64 0, .int .i64 0, .int .i64 0, .string (⟨#[]⟩ : ByteArray), .slice none 0 0] 67 (0, 0)) (by (with_reducible repeat (first | apply k1_ | apply k2_ | apply k3_)); exact BK1125.out) NB1125_1126.out (by simp)); have n2_ := am_ (KeepBut.blk hk (g' := gb1130) (o := .cells #[.bool false, .int .i64 0, .int .i64 0, .int .i64 0, .int .i64 0, .string (⟨#[]⟩ : ByteArray), u1131006] 67 (0, 0)) (by (with_reducible repeat (first | apply k1_ | apply k2_ | apply k3_)); exact BK1130.out) NB1130_1126.out (by simp)); have n3_ := am_ (hb); have n4_ := am_ (hi); clear HO_1131006; clear BK1125; clear BK1130; clear HB; clear HI1126; have HO_1131006 := n0_; have BK1125 := n1_; have BK1130 := n2_; have HB := n3_; have HI1126 := n4_; clear n0_ n1_ n2_ n3_ n4_; (try clear hb); (try clear hb2); (try clear hk); (try clear hi); have hnb42 := NB1130_1125.out; have hnc42 := NB1125_1130.out; have hnb43 := NB1130_1126.out; have hnc43 := NB1126_1130.out; have hcz44_0 : w41.cell? ⟨gb1130, 0, none⟩ = some (.bool false) := (blk_cell BK1130.out 0).trans rfl; have hcz44_1 : w41.cell? ⟨gb1130, 1, none⟩ = some (.int .i64 0) := (blk_cell BK1130.out 1).trans rfl; have hcz44_2 : w41.cell? ⟨gb1130, 2, none⟩ = some (.int .i64 0) := (blk_cell BK1130.out 2).trans rfl; have hcz44_3 : w41.cell? ⟨gb1130, 3, none⟩ = some (.int .i64 0) := (blk_cell BK1130.out 3).trans rfl; have hcz44_4 : w41.cell? ⟨gb1130, 4, none⟩ = some (.int .i64 0) := (blk_cell BK1130.out 4).trans rfl; have hcz44_5 : w41.cell? ⟨gb1130, 5, none⟩ = some (.string (⟨#[]⟩ : ByteArray)) := (blk_cell BK1130.out 5).trans rfl; have hcz44_6 : w41.cell? ⟨gb1130, 6, none⟩ = some (u1131006) := (blk_cell BK1130.out 6).trans rfl; have hfz44_0 := blk_frozen BK1130.out 0; have hfz44_1 := blk_frozen BK1130.out 1; have hfz44_2 := blk_frozen BK1130.out 2; have hfz44_3 := blk_frozen BK1130.out 3; have hfz44_4 := blk_frozen BK1130.out 4; have hfz44_5 := blk_frozen BK1130.out 5; have hfz44_6 := blk_frozen BK1130.out 6) | (go_at_call 121; (with_reducible refine (impl_reader_done.calls g1126 t1148 t1149 true t1151 t1152 w _ ?side1 ?side2 A37.out).mono ?_); (case side1 => repeat (first | (with_reducible first | exact HI1126.out | apply IsS143.alloc | apply IsS143.drewN | apply IsS143.drew | apply IsS143.set_0 | apply IsS143.set_1 | refine IsS143.far ?_ NB1126_1125.out _ | refine IsS143.far ?_ NB1126_1130.out _) | exact HI1126.out)); (case side2 => repeat (first | (with_reducible first | exact HB.out | apply b1_ | apply b2_ | apply b3_ | refine below_set ?_ (IsS143.ge HI1126.out) | refine below_set ?_ GE1125.out | refine below_set ?_ GE1130.out) | exact HB.out)); rintro e w45 ⟨rfl, hi, hb, hk⟩; have n0_ := am_ (Kd.R_mono (Kd.R_keep (IsS143.apart (show IsS143 w _ g1126 t1148 t1149 from by repeat (first | (with_reducible first | exact HI1126.out | apply IsS143.alloc | apply IsS143.drewN | apply IsS143.drew | apply IsS143.set_0 | apply IsS143.set_1 | refine IsS143.far ?_ NB1126_1125.out _ | refine IsS143.far ?_ NB1126_1130.out _) | exact HI1126.out)) (by (with_reducible repeat (first | apply r1_ | apply r2_ | apply r3_)); exact (Kd.R_mono (Kd.Rf (Kd.Rf (Kd.Rf (Kd.Rf (Kd.Rf (Kd.R_types HO_1131006.out BK1130.out (by decide))))))) (fun _ h_ => h_.1))) (by decide)) hk (fun _ h => h.2)) (fun _ h => h.1)); have n1_ := am_ (KeepBut.blk hk (g' := gb1125) (o := .cells #[.bool false, .int .i64 0, .int .i64 0, .int .i64 0, .int .i64 0, .string (⟨#[]⟩ : ByteArray), .slice none 0 0] 67 (0, 0)) (by (with_reducible repeat (first | apply k1_ | apply k2_ | apply k3_)); refine blk_far ?_ NB1125_1130.out _; (with_reducible repeat (first | apply k1_ | apply k2_ | apply k3_)); refine blk_far ?_ NB1125_1130.out _; (with_reducible repeat (first | apply k1_ | apply k2_ | apply k3_)); refine blk_far ?_ NB1125_1130.out _; (with_reducible repeat (first | apply k1_ | apply k2_ | apply k3_)); refine blk_far ?_ NB1125_1130.out _; (with_reducible repeat (first | apply k1_ | apply k2_ | apply k3_)); refine blk_far ?_ NB1125_1130.out _; (with_reducible repeat (first | apply k1_ | apply k2_ | apply k3_)); exact BK1125.out) NB1125_1126.out (by simp)); have n2_ := am_ (KeepBut.blk hk (g' := gb1130) (o := .cells #[.bool false, .int .i64 t1143, .int .i64 t1144, .int .i64 t1145, .int .i64 t1146, .string t1147, u1131006] 67 (0, 0)) (by (with_reducible repeat (first | apply k1_ | apply k2_ | apply k3_)); refine blk_put (cs := #[.bool false, .int .i64 t1143, .int .i64 t1144, .int .i64 t1145, .int .i64 t1146, .string (⟨#[]⟩ : ByteArray), u1131006]) ?_ 5 _ rfl; (with_reducible repeat (first | apply k1_ | apply k2_ | apply k3_)); refine blk_put (cs := #[.bool false, .int .i64 t1143, .int .i64 t1144, .int .i64 t1145, .int .i64 0, .string (⟨#[]⟩ : ByteArray), u1131006]) ?_ 4 _ rfl; (with_reducible repeat (first | apply k1_ | apply k2_ | apply k3_)); refine blk_put (cs := #[.bool false, .int .i64 t1143, .int .i64 t1144, .int .i64 0, .int .i64 0, .string (⟨#[]⟩ : ByteArray), u1131006]) ?_ 3 _ rfl; (with_reducible repeat (first | apply k1_ | apply k2_ | apply k3_)); refine blk_put (cs := #[.bool false, .int .i64 t1143, .int .i64 0, .int .i64 0, .int .i64 0, .string (⟨#[]⟩ : ByteArray), u1131006]) ?_ 2 _ rfl; (with_reducible repeat (first | apply k1_ | apply k2_ | apply k3_)); refine blk_put (cs := #[.bool false, .int .i64 0, .int .i64 0, .int .i64 0, .int .i64 0, .string (⟨#[]⟩ : ByteArray), u1131006]) ?_ 1 _ rfl; (with_reducible repeat (first | apply k1_ | apply k2_ | apply k3_)); exact BK1130.out) NB1130_1126.out (by simp)); have n3_ := am_ (hb); have n4_ := am_ (hi); clear HO_1131006; clear BK1125; clear BK1130; clear HB; clear HI1126; have HO_1131006 := n0_; have BK1125 := n1_; have BK1130 := n2_; have HB := n3_; have HI1126 := n4_; clear n0_ n1_ n2_ n3_ n4_; (try clear hb); (try clear hb2); (try clear hk); (try clear hi); have hcz46_0 : w45.cell? ⟨gb1130, 0, none⟩ = some (.bool false) := (blk_cell BK1130.out 0).trans rfl; have hcz46_1 : w45.cell? ⟨gb1130, 1, none⟩ = some (.int .i64 t1143) := (blk_cell BK1130.out 1).trans rfl; have hcz46_2 : w45.cell? ⟨gb1130, 2, none⟩ = some (.int .i64 t1144) := (blk_cell BK1130.out 2).trans rfl; have hcz46_3 : w45.cell? ⟨gb1130, 3, none⟩ = some (.int .i64 t1145) := (blk_cell BK1130.out 3).trans rfl; have hcz46_4 : w45.cell? ⟨gb1130, 4, none⟩ = some (.int .i64 t1146) := (blk_cell BK1130.out 4).trans rfl; have hcz46_5 : w45.cell? ⟨gb1130, 5, none⟩ = some (.string t1147) := (blk_cell BK1130.out 5).trans rfl; have hcz46_6 : w45.cell? ⟨gb1130, 6, none⟩ = some (u1131006) := (blk_cell BK1130.out 6).trans rfl; have hfz46_0 := blk_frozen BK1130.out 0; have hfz46_1 := blk_frozen BK1130.out 1; have hfz46_2 := blk_frozen BK1130.out 2; have hfz46_3 := blk_frozen BK1130.out 3; have hfz46_4 := blk_frozen BK1130.out 4; have hfz46_5 := blk_frozen BK1130.out 5; have hfz46_6 := blk_frozen BK1130.out 6; obtain ⟨Ao47, co47, eo47⟩ := Kd.R_slice HO_1131006.out; subst eo47) | (go_at_call 140; (with_reducible refine (impl_isBatch.calls k1 false t1143 t1144 t1145 t1146 t1147 _ _ x1131006_1 true _ ?side1 ?side2 A39.out).mono ?_); (case side1 => repeat (first | exact (Kd.R_reads' HO_1131006.out).2.2 | (with_reducible refine Kd.C_alloc ?_ _) | (with_reducible refine Kd.C_drewN ?_ _) | (with_reducible refine Kd.C_drew ?_))); (case side2 => exact (Kd.R_reads' HO_1131006.out).2.1); rintro e w48 ⟨rfl, hb⟩; have n0_ := am_ (Kd.R_below (by (with_reducible repeat (first | apply r1_ | apply r2_ | apply r3_)); exact HO_1131006.out) hb); have n1_ := am_ (blk_below (g := gb1125) (o := .cells #[.bool false, .int .i64 0, .int .i64 0, .int .i64 0, .int .i64 0, .string (⟨#[]⟩ : ByteArray), .slice none 0 0] 67 (0, 0)) (by (with_reducible repeat (first | apply k1_ | apply k2_ | apply k3_)); exact BK1125.out) hb); have n2_ := am_ (blk_below (g := gb1130) (o := .cells #[.bool false, .int .i64 t1143, .int .i64 t1144, .int .i64 t1145, .int .i64 t1146, .string t1147, .slice Ao47 x1131006_1.length co47] 67 (0, 0)) (by (with_reducible repeat (first | apply k1_ | apply k2_ | apply k3_)); exact BK1130.out) hb); have n3_ := am_ (IsS143.below (by repeat (first | (with_reducible first | exact HI1126.out | apply IsS143.alloc | apply IsS143.drewN | apply IsS143.drew | apply IsS143.set_0 | apply IsS143.set_1 | refine IsS143.far ?_ NB1126_1125.out _ | refine IsS143.far ?_ NB1126_1130.out _) | exact HI1126.out)) hb); have n4_ := am_ (below_step (by repeat (first | (with_reducible first | exact HB.out | apply b1_ | apply b2_ | apply b3_ | refine below_set ?_ (IsS143.ge HI1126.out) | refine below_set ?_ GE1125.out | refine below_set ?_ GE1130.out) | exact HB.out)) hb); clear HO_1131006; clear BK1125; clear BK1130; clear HI1126; clear HB; have HO_1131006 := n0_; have BK1125 := n1_; have BK1130 := n2_; have HI1126 := n3_; have HB := n4_; clear n0_ n1_ n2_ n3_ n4_; (try clear hb); (try clear hb2); (try clear hk); (try clear hi); have hcz49_0 : w48.cell? ⟨gb1130, 0, none⟩ = some (.bool false) := (blk_cell BK1130.out 0).trans rfl; have hcz49_1 : w48.cell? ⟨gb1130, 1, none⟩ = some (.int .i64 t1143) := (blk_cell BK1130.out 1).trans rfl; have hcz49_2 : w48.cell? ⟨gb1130, 2, none⟩ = some (.int .i64 t1144) := (blk_cell BK1130.out 2).trans rfl; have hcz49_3 : w48.cell? ⟨gb1130, 3, none⟩ = some (.int .i64 t1145) := (blk_cell BK1130.out 3).trans rfl; have hcz49_4 : w48.cell? ⟨gb1130, 4, none⟩ = some (.int .i64 t1146) := (blk_cell BK1130.out 4).trans rfl; have hcz49_5 : w48.cell? ⟨gb1130, 5, none⟩ = some (.string t1147) := (blk_cell BK1130.out 5).trans rfl; have hcz49_6 : w48.cell? ⟨gb1130, 6, none⟩ = some (.slice Ao47 x1131006_1.length co47) := (blk_cell BK1130.out 6).trans rfl; have hfz49_0 := blk_frozen BK1130.out 0; have hfz49_1 := blk_frozen BK1130.out 1; have hfz49_2 := blk_frozen BK1130.out 2; have hfz49_3 := blk_frozen BK1130.out 3; have hfz49_4 := blk_frozen BK1130.out 4; have hfz49_5 := blk_frozen BK1130.out 5; have hfz49_6 := blk_frozen BK1130.out 6; have hnb50 := NB1125_1126.out; have hnc50 := NB1126_1125.out; have hcz51_0 : w48.cell? ⟨gb1125, 0, none⟩ = some (.bool false) := (blk_cell BK1125.out 0).trans rfl; have hcz51_1 : w48.cell? ⟨gb1125, 1, none⟩ = some (.int .i64 0) := (blk_cell BK1125.out 1).trans rfl; have hcz51_2 : w48.cell? ⟨gb1125, 2, none⟩ = some (.int .i64 0) := (blk_cell BK1125.out 2).trans rfl; have hcz51_3 : w48.cell? ⟨gb1125, 3, none⟩ = some (.int .i64 0) := (blk_cell BK1125.out 3).trans rfl; have hcz51_4 : w48.cell? ⟨gb1125, 4, none⟩ = some (.int .i64 0) := (blk_cell BK1125.out 4).trans rfl; have hcz51_5 : w48.cell? ⟨gb1125, 5, none⟩ = some (.string (⟨#[]⟩ : ByteArray)) := (blk_cell BK1125.out 5).trans rfl; have hcz51_6 : w48.cell? ⟨gb1125, 6, none⟩ = some (.slice none 0 0) := (blk_cell BK1125.out 6).trans rfl; have hfz51_0 := blk_frozen BK1125.out 0; have hfz51_1 := blk_frozen BK1125.out 1; have hfz51_2 := blk_frozen BK1125.out 2; have hfz51_3 := blk_frozen BK1125.out 3; have hfz51_4 := blk_frozen BK1125.out 4; have hfz51_5 := blk_frozen BK1125.out 5; have hfz51_6 := blk_frozen BK1125.out 6))
         refine bodyPost_ret (results_ct rfl _ _ gb1125 67 #[.bool false, .int .i64 t1143, .int .i64 t1144, .int .i64 t1145, .int .i64 t1146, .string t1147, .slice Ao47 x1131006_1.length co47] (0, 0) _ rfl (by (with_reducible repeat (first | apply k1_ | apply k2_ | apply k3_)); refine blk_put (cs := #[.bool false, .int .i64 t1143, .int .i64 t1144, .int .i64 t1145, .int .i64 t1146, .string t1147, .slice none 0 0]) ?_ 6 _ rfl; (with_reducible repeat (first | apply k1_ | apply k2_ | apply k3_)); refine blk_put (cs := #[.bool false, .int .i64 t1143, .int .i64 t1144, .int .i64 t1145, .int .i64 t1146, .string (⟨#[]⟩ : ByteArray), .slice none 0 0]) ?_ 5 _ rfl; (with_reducible repeat (first | apply k1_ | apply k2_ | apply k3_)); refine blk_put (cs := #[.bool false, .int .i64 t1143, .int .i64 t1144, .int .i64 t1145, .int .i64 0, .string (⟨#[]⟩ : ByteArray), .slice none 0 0]) ?_ 4 _ rfl; (with_reducible repeat (first | apply k1_ | apply k2_ | apply k3_)); refine blk_put (cs := #[.bool false, .int .i64 t1143, .int .i64 t1144, .int .i64 0, .int .i64 0, .string (⟨#[]⟩ : ByteArray), .slice none 0 0]) ?_ 3 _ rfl; (with_reducible repeat (first | apply k1_ | apply k2_ | apply k3_)); refine blk_put (cs := #[.bool false, .int .i64 t1143, .int .i64 0, .int .i64 0, .int .i64 0, .string (⟨#[]⟩ : ByteArray), .slice none 0 0]) ?_ 2 _ rfl; (with_reducible repeat (first | apply k1_ | apply k2_ | apply k3_)); refine blk_put (cs := #[.bool false, .int .i64 0, .int .i64 0, .int .i64 0, .int .i64 0, .string (⟨#[]⟩ : ByteArray), .slice none 0 0]) ?_ 1 _ rfl; (with_reducible repeat (first | apply k1_ | apply k2_ | apply k3_)); refine blk_put (cs := #[.bool false, .int .i64 0, .int .i64 0, .int .i64 0, .int .i64 0, .string (⟨#[]⟩ : ByteArray), .slice none 0 0]) ?_ 0 _ rfl; (with_reducible repeat (first | apply k1_ | apply k2_ | apply k3_)); exact BK1125.out) Try.underlying67 rfl (by kernel_rfl)) rfl ?_
         exact ⟨_, by first | rfl | (simp [e1_, e2_] <;> rfl) | (simp only [← hji12]; first | rfl | (simp [e1_, e2_] <;> rfl)) | (simp [*, e1_, e2_] <;> rfl) | (simp [e3_, e4_]; done) | (simp [*, e3_, e4_]; done), by (with_reducible repeat (first | apply r1_ | apply r2_ | apply r3_)); exact Kd.R_mono (Kd.Rf (Kd.Rf (Kd.Rf (Kd.Rf (Kd.Rf (Kd.Rf (Kd.Rf (Kd.R_types HO_1131006.out BK1125.out (by decide))))))))) (fun _ hk => trivial), by repeat (first | (with_reducible first | exact HB.out | apply b1_ | apply b2_ | apply b3_ | refine below_set ?_ (IsS143.ge HI1126.out) | refine below_set ?_ GE1125.out | refine below_set ?_ GE1130.out) | exact HB.out)⟩
        ·replace c40 := Bool.eq_false_iff.mpr c40
         subst c40
         have H1 : (some (false, 0, 0, 0, 0, (⟨#[]⟩ : ByteArray), ([] : List (S161)), false)) = some (r1, r2, r3, r4, r5, r6, r7, r8) := by rw [if_neg (show ¬ (false = true) by decide)] at H; exact H
         clear H
         have H := H1
         clear H1
         simp only [Option.some.injEq, Prod.mk.injEq] at H
         obtain ⟨rfl, rfl, rfl, rfl, rfl, rfl, rfl, rfl⟩ := H
         go_wp2_with (first | ((with_reducible refine gate_callee (f := 139) rfl ?_); refine goesL_ (some 37) rfl rfl Try.func139 (by kernel_rfl) rfl #[.pointer (some ⟨g1126, 0, none⟩)] rfl (by (try simp only [m1_, m2_, m3_]); first | done | rfl | (simp only [d1_, d2_]; rfl)) ?_; (with_reducible refine (impl_reader_request.calls k1 g1126 x1127000_1 x1127001_1 t1143 t1144 t1145 t1146 t1147 t1148 t1149 w _ ?side1 ?side2 A29.out).mono ?_); (case side1 => repeat (first | (with_reducible first | exact HI1126.out | apply IsS143.alloc | apply IsS143.drewN | apply IsS143.drew | apply IsS143.set_0 | apply IsS143.set_1 | refine IsS143.far ?_ NB1126_1125.out _ | refine IsS143.far ?_ NB1126_1130.out _) | exact HI1126.out)); (case side2 => repeat (first | (with_reducible first | exact HB.out | apply b1_ | apply b2_ | apply b3_ | refine below_set ?_ (IsS143.ge HI1126.out) | refine below_set ?_ GE1125.out | refine below_set ?_ GE1130.out) | exact HB.out)); rintro e w52 ⟨rfl, hi, hb, hk⟩; refine ⟨_, rfl, ?_⟩; have n0_ := am_ (Kd.R_mono (Kd.R_keep (IsS143.apart (show IsS143 w _ g1126 x1127000_1 x1127001_1 from by repeat (first | (with_reducible first | exact HI1126.out | apply IsS143.alloc | apply IsS143.drewN | apply IsS143.drew | apply IsS143.set_0 | apply IsS143.set_1 | refine IsS143.far ?_ NB1126_1125.out _ | refine IsS143.far ?_ NB1126_1130.out _) | exact HI1126.out)) (by (with_reducible repeat (first | apply r1_ | apply r2_ | apply r3_)); exact HO_1131006.out) (by decide)) hk (fun _ h => h.2)) (fun _ h => h.1)); have n1_ := am_ (KeepBut.blk hk (g' := gb1125) (o := .cells #[.bool false, .int .i64 0, .int .i64 0, .int .i64 0, .int .i64 0, .string (⟨#[]⟩ : ByteArray), .slice none 0 0] 67 (0, 0)) (by (with_reducible repeat (first | apply k1_ | apply k2_ | apply k3_)); exact BK1125.out) NB1125_1126.out (by simp)); have n2_ := am_ (KeepBut.blk hk (g' := gb1130) (o := .cells #[.bool false, .int .i64 0, .int .i64 0, .int .i64 0, .int .i64 0, .string (⟨#[]⟩ : ByteArray), u1131006] 67 (0, 0)) (by (with_reducible repeat (first | apply k1_ | apply k2_ | apply k3_)); exact BK1130.out) NB1130_1126.out (by simp)); have n3_ := am_ (hb); have n4_ := am_ (hi); clear HO_1131006; clear BK1125; clear BK1130; clear HB; clear HI1126; have HO_1131006 := n0_; have BK1125 := n1_; have BK1130 := n2_; have HB := n3_; have HI1126 := n4_; clear n0_ n1_ n2_ n3_ n4_; (try clear hb); (try clear hb2); (try clear hk); (try clear hi); have hnb53 := NB1130_1125.out; have hnc53 := NB1125_1130.out; have hnb54 := NB1130_1126.out; have hnc54 := NB1126_1130.out; have hcz55_0 : w52.cell? ⟨gb1130, 0, none⟩ = some (.bool false) := (blk_cell BK1130.out 0).trans rfl; have hcz55_1 : w52.cell? ⟨gb1130, 1, none⟩ = some (.int .i64 0) := (blk_cell BK1130.out 1).trans rfl; have hcz55_2 : w52.cell? ⟨gb1130, 2, none⟩ = some (.int .i64 0) := (blk_cell BK1130.out 2).trans rfl; have hcz55_3 : w52.cell? ⟨gb1130, 3, none⟩ = some (.int .i64 0) := (blk_cell BK1130.out 3).trans rfl; have hcz55_4 : w52.cell? ⟨gb1130, 4, none⟩ = some (.int .i64 0) := (blk_cell BK1130.out 4).trans rfl; have hcz55_5 : w52.cell? ⟨gb1130, 5, none⟩ = some (.string (⟨#[]⟩ : ByteArray)) := (blk_cell BK1130.out 5).trans rfl; have hcz55_6 : w52.cell? ⟨gb1130, 6, none⟩ = some (u1131006) := (blk_cell BK1130.out 6).trans rfl; have hfz55_0 := blk_frozen BK1130.out 0; have hfz55_1 := blk_frozen BK1130.out 1; have hfz55_2 := blk_frozen BK1130.out 2; have hfz55_3 := blk_frozen BK1130.out 3; have hfz55_4 := blk_frozen BK1130.out 4; have hfz55_5 := blk_frozen BK1130.out 5; have hfz55_6 := blk_frozen BK1130.out 6) | (go_at_call 121; (with_reducible refine (impl_reader_done.calls g1126 t1148 t1149 true t1151 t1152 w _ ?side1 ?side2 A37.out).mono ?_); (case side1 => repeat (first | (with_reducible first | exact HI1126.out | apply IsS143.alloc | apply IsS143.drewN | apply IsS143.drew | apply IsS143.set_0 | apply IsS143.set_1 | refine IsS143.far ?_ NB1126_1125.out _ | refine IsS143.far ?_ NB1126_1130.out _) | exact HI1126.out)); (case side2 => repeat (first | (with_reducible first | exact HB.out | apply b1_ | apply b2_ | apply b3_ | refine below_set ?_ (IsS143.ge HI1126.out) | refine below_set ?_ GE1125.out | refine below_set ?_ GE1130.out) | exact HB.out)); rintro e w56 ⟨rfl, hi, hb, hk⟩; have n0_ := am_ (Kd.R_mono (Kd.R_keep (IsS143.apart (show IsS143 w _ g1126 t1148 t1149 from by repeat (first | (with_reducible first | exact HI1126.out | apply IsS143.alloc | apply IsS143.drewN | apply IsS143.drew | apply IsS143.set_0 | apply IsS143.set_1 | refine IsS143.far ?_ NB1126_1125.out _ | refine IsS143.far ?_ NB1126_1130.out _) | exact HI1126.out)) (by (with_reducible repeat (first | apply r1_ | apply r2_ | apply r3_)); exact (Kd.R_mono (Kd.Rf (Kd.Rf (Kd.Rf (Kd.Rf (Kd.Rf (Kd.R_types HO_1131006.out BK1130.out (by decide))))))) (fun _ h_ => h_.1))) (by decide)) hk (fun _ h => h.2)) (fun _ h => h.1)); have n1_ := am_ (KeepBut.blk hk (g' := gb1125) (o := .cells #[.bool false, .int .i64 0, .int .i64 0, .int .i64 0, .int .i64 0, .string (⟨#[]⟩ : ByteArray), .slice none 0 0] 67 (0, 0)) (by (with_reducible repeat (first | apply k1_ | apply k2_ | apply k3_)); refine blk_far ?_ NB1125_1130.out _; (with_reducible repeat (first | apply k1_ | apply k2_ | apply k3_)); refine blk_far ?_ NB1125_1130.out _; (with_reducible repeat (first | apply k1_ | apply k2_ | apply k3_)); refine blk_far ?_ NB1125_1130.out _; (with_reducible repeat (first | apply k1_ | apply k2_ | apply k3_)); refine blk_far ?_ NB1125_1130.out _; (with_reducible repeat (first | apply k1_ | apply k2_ | apply k3_)); refine blk_far ?_ NB1125_1130.out _; (with_reducible repeat (first | apply k1_ | apply k2_ | apply k3_)); exact BK1125.out) NB1125_1126.out (by simp)); have n2_ := am_ (KeepBut.blk hk (g' := gb1130) (o := .cells #[.bool false, .int .i64 t1143, .int .i64 t1144, .int .i64 t1145, .int .i64 t1146, .string t1147, u1131006] 67 (0, 0)) (by (with_reducible repeat (first | apply k1_ | apply k2_ | apply k3_)); refine blk_put (cs := #[.bool false, .int .i64 t1143, .int .i64 t1144, .int .i64 t1145, .int .i64 t1146, .string (⟨#[]⟩ : ByteArray), u1131006]) ?_ 5 _ rfl; (with_reducible repeat (first | apply k1_ | apply k2_ | apply k3_)); refine blk_put (cs := #[.bool false, .int .i64 t1143, .int .i64 t1144, .int .i64 t1145, .int .i64 0, .string (⟨#[]⟩ : ByteArray), u1131006]) ?_ 4 _ rfl; (with_reducible repeat (first | apply k1_ | apply k2_ | apply k3_)); refine blk_put (cs := #[.bool false, .int .i64 t1143, .int .i64 t1144, .int .i64 0, .int .i64 0, .string (⟨#[]⟩ : ByteArray), u1131006]) ?_ 3 _ rfl; (with_reducible repeat (first | apply k1_ | apply k2_ | apply k3_)); refine blk_put (cs := #[.bool false, .int .i64 t1143, .int .i64 0, .int .i64 0, .int .i64 0, .string (⟨#[]⟩ : ByteArray), u1131006]) ?_ 2 _ rfl; (with_reducible repeat (first | apply k1_ | apply k2_ | apply k3_)); refine blk_put (cs := #[.bool false, .int .i64 0, .int .i64 0, .int .i64 0, .int .i64 0, .string (⟨#[]⟩ : ByteArray), u1131006]) ?_ 1 _ rfl; (with_reducible repeat (first | apply k1_ | apply k2_ | apply k3_)); exact BK1130.out) NB1130_1126.out (by simp)); have n3_ := am_ (hb); have n4_ := am_ (hi); clear HO_1131006; clear BK1125; clear BK1130; clear HB; clear HI1126; have HO_1131006 := n0_; have BK1125 := n1_; have BK1130 := n2_; have HB := n3_; have HI1126 := n4_; clear n0_ n1_ n2_ n3_ n4_; (try clear hb); (try clear hb2); (try clear hk); (try clear hi); have hcz57_0 : w56.cell? ⟨gb1130, 0, none⟩ = some (.bool false) := (blk_cell BK1130.out 0).trans rfl; have hcz57_1 : w56.cell? ⟨gb1130, 1, none⟩ = some (.int .i64 t1143) := (blk_cell BK1130.out 1).trans rfl; have hcz57_2 : w56.cell? ⟨gb1130, 2, none⟩ = some (.int .i64 t1144) := (blk_cell BK1130.out 2).trans rfl; have hcz57_3 : w56.cell? ⟨gb1130, 3, none⟩ = some (.int .i64 t1145) := (blk_cell BK1130.out 3).trans rfl; have hcz57_4 : w56.cell? ⟨gb1130, 4, none⟩ = some (.int .i64 t1146) := (blk_cell BK1130.out 4).trans rfl; have hcz57_5 : w56.cell? ⟨gb1130, 5, none⟩ = some (.string t1147) := (blk_cell BK1130.out 5).trans rfl; have hcz57_6 : w56.cell? ⟨gb1130, 6, none⟩ = some (u1131006) := (blk_cell BK1130.out 6).trans rfl; have hfz57_0 := blk_frozen BK1130.out 0; have hfz57_1 := blk_frozen BK1130.out 1; have hfz57_2 := blk_frozen BK1130.out 2; have hfz57_3 := blk_frozen BK1130.out 3; have hfz57_4 := blk_frozen BK1130.out 4; have hfz57_5 := blk_frozen BK1130.out 5; have hfz57_6 := blk_frozen BK1130.out 6; obtain ⟨Ao58, co58, eo58⟩ := Kd.R_slice HO_1131006.out; subst eo58) | (go_at_call 140; (with_reducible refine (impl_isBatch.calls k1 false t1143 t1144 t1145 t1146 t1147 _ _ x1131006_1 false _ ?side1 ?side2 A39.out).mono ?_); (case side1 => repeat (first | exact (Kd.R_reads' HO_1131006.out).2.2 | (with_reducible refine Kd.C_alloc ?_ _) | (with_reducible refine Kd.C_drewN ?_ _) | (with_reducible refine Kd.C_drew ?_))); (case side2 => exact (Kd.R_reads' HO_1131006.out).2.1); rintro e w59 ⟨rfl, hb⟩; have n0_ := am_ (Kd.R_below (by (with_reducible repeat (first | apply r1_ | apply r2_ | apply r3_)); exact HO_1131006.out) hb); have n1_ := am_ (blk_below (g := gb1125) (o := .cells #[.bool false, .int .i64 0, .int .i64 0, .int .i64 0, .int .i64 0, .string (⟨#[]⟩ : ByteArray), .slice none 0 0] 67 (0, 0)) (by (with_reducible repeat (first | apply k1_ | apply k2_ | apply k3_)); exact BK1125.out) hb); have n2_ := am_ (blk_below (g := gb1130) (o := .cells #[.bool false, .int .i64 t1143, .int .i64 t1144, .int .i64 t1145, .int .i64 t1146, .string t1147, .slice Ao58 x1131006_1.length co58] 67 (0, 0)) (by (with_reducible repeat (first | apply k1_ | apply k2_ | apply k3_)); exact BK1130.out) hb); have n3_ := am_ (IsS143.below (by repeat (first | (with_reducible first | exact HI1126.out | apply IsS143.alloc | apply IsS143.drewN | apply IsS143.drew | apply IsS143.set_0 | apply IsS143.set_1 | refine IsS143.far ?_ NB1126_1125.out _ | refine IsS143.far ?_ NB1126_1130.out _) | exact HI1126.out)) hb); have n4_ := am_ (below_step (by repeat (first | (with_reducible first | exact HB.out | apply b1_ | apply b2_ | apply b3_ | refine below_set ?_ (IsS143.ge HI1126.out) | refine below_set ?_ GE1125.out | refine below_set ?_ GE1130.out) | exact HB.out)) hb); clear HO_1131006; clear BK1125; clear BK1130; clear HI1126; clear HB; have HO_1131006 := n0_; have BK1125 := n1_; have BK1130 := n2_; have HI1126 := n3_; have HB := n4_; clear n0_ n1_ n2_ n3_ n4_; (try clear hb); (try clear hb2); (try clear hk); (try clear hi); have hnb60 := NB1125_1126.out; have hnc60 := NB1126_1125.out; have hcz61_0 : w59.cell? ⟨gb1125, 0, none⟩ = some (.bool false) := (blk_cell BK1125.out 0).trans rfl; have hcz61_1 : w59.cell? ⟨gb1125, 1, none⟩ = some (.int .i64 0) := (blk_cell BK1125.out 1).trans rfl; have hcz61_2 : w59.cell? ⟨gb1125, 2, none⟩ = some (.int .i64 0) := (blk_cell BK1125.out 2).trans rfl; have hcz61_3 : w59.cell? ⟨gb1125, 3, none⟩ = some (.int .i64 0) := (blk_cell BK1125.out 3).trans rfl; have hcz61_4 : w59.cell? ⟨gb1125, 4, none⟩ = some (.int .i64 0) := (blk_cell BK1125.out 4).trans rfl; have hcz61_5 : w59.cell? ⟨gb1125, 5, none⟩ = some (.string (⟨#[]⟩ : ByteArray)) := (blk_cell BK1125.out 5).trans rfl; have hcz61_6 : w59.cell? ⟨gb1125, 6, none⟩ = some (.slice none 0 0) := (blk_cell BK1125.out 6).trans rfl; have hfz61_0 := blk_frozen BK1125.out 0; have hfz61_1 := blk_frozen BK1125.out 1; have hfz61_2 := blk_frozen BK1125.out 2; have hfz61_3 := blk_frozen BK1125.out 3; have hfz61_4 := blk_frozen BK1125.out 4; have hfz61_5 := blk_frozen BK1125.out 5; have hfz61_6 := blk_frozen BK1125.out 6))
         refine bodyPost_ret (results_ct rfl _ _ gb1125 67 #[.bool false, .int .i64 0, .int .i64 0, .int .i64 0, .int .i64 0, .string (⟨#[]⟩ : ByteArray), .slice none 0 0] (0, 0) _ rfl (by (with_reducible repeat (first | apply k1_ | apply k2_ | apply k3_)); refine blk_put (cs := #[.bool false, .int .i64 0, .int .i64 0, .int .i64 0, .int .i64 0, .string (⟨#[]⟩ : ByteArray), .slice none 0 0]) ?_ 6 _ rfl; (with_reducible repeat (first | apply k1_ | apply k2_ | apply k3_)); refine blk_put (cs := #[.bool false, .int .i64 0, .int .i64 0, .int .i64 0, .int .i64 0, .string (⟨#[]⟩ : ByteArray), .slice none 0 0]) ?_ 5 _ rfl; (with_reducible repeat (first | apply k1_ | apply k2_ | apply k3_)); refine blk_put (cs := #[.bool false, .int .i64 0, .int .i64 0, .int .i64 0, .int .i64 0, .string (⟨#[]⟩ : ByteArray), .slice none 0 0]) ?_ 4 _ rfl; (with_reducible repeat (first | apply k1_ | apply k2_ | apply k3_)); refine blk_put (cs := #[.bool false, .int .i64 0, .int .i64 0, .int .i64 0, .int .i64 0, .string (⟨#[]⟩ : ByteArray), .slice none 0 0]) ?_ 3 _ rfl; (with_reducible repeat (first | apply k1_ | apply k2_ | apply k3_)); refine blk_put (cs := #[.bool false, .int .i64 0, .int .i64 0, .int .i64 0, .int .i64 0, .string (⟨#[]⟩ : ByteArray), .slice none 0 0]) ?_ 2 _ rfl; (with_reducible repeat (first | apply k1_ | apply k2_ | apply k3_)); refine blk_put (cs := #[.bool false, .int .i64 0, .int .i64 0, .int .i64 0, .int .i64 0, .string (⟨#[]⟩ : ByteArray), .slice none 0 0]) ?_ 1 _ rfl; (with_reducible repeat (first | apply k1_ | apply k2_ | apply k3_)); refine blk_put (cs := #[.bool false, .int .i64 0, .int .i64 0, .int .i64 0, .int .i64 0, .string (⟨#[]⟩ : ByteArray), .slice none 0 0]) ?_ 0 _ rfl; (with_reducible repeat (first | apply k1_ | apply k2_ | apply k3_)); exact BK1125.out) Try.underlying67 rfl (by kernel_rfl)) rfl ?_
         exact ⟨_, by first | rfl | (simp [e1_, e2_] <;> rfl) | (simp only [← hji12]; first | rfl | (simp [e1_, e2_] <;> rfl)) | (simp [*, e1_, e2_] <;> rfl) | (simp [e3_, e4_]; done) | (simp [*, e3_, e4_]; done), by first | exact Kd.R_nil _ _ _ _ _ | exact Kd.N_nil _ _ _ _ _ | exact Kd.V_nil _ _ _ _ _ | exact Kd.Q_nil _ _ _ _ _ | exact Kd.S_nil _ _ _ _ _, by repeat (first | (with_reducible first | exact HB.out | apply b1_ | apply b2_ | apply b3_ | refine below_set ?_ (IsS143.ge HI1126.out) | refine below_set ?_ GE1125.out | refine below_set ?_ GE1130.out) | exact HB.out)⟩
       ·replace c38 := Bool.eq_false_iff.mpr c38
        subst c38
        have H1 : (some (false, 0, 0, 0, 0, (⟨#[]⟩ : ByteArray), ([] : List (S161)), false)) = some (r1, r2, r3, r4, r5, r6, r7, r8) := by rw [if_neg (show ¬ (false = true) by decide)] at H; exact H
        clear H
        have H := H1
        clear H1
        simp only [Option.some.injEq, Prod.mk.injEq] at H
        obtain ⟨rfl, rfl, rfl, rfl, rfl, rfl, rfl, rfl⟩ := H
        go_wp2_with (first | ((with_reducible refine gate_callee (f := 139) rfl ?_); refine goesL_ (some 37) rfl rfl Try.func139 (by kernel_rfl) rfl #[.pointer (some ⟨g1126, 0, none⟩)] rfl (by (try simp only [m1_, m2_, m3_]); first | done | rfl | (simp only [d1_, d2_]; rfl)) ?_; (with_reducible refine (impl_reader_request.calls k1 g1126 x1127000_1 x1127001_1 t1143 t1144 t1145 t1146 t1147 t1148 t1149 w _ ?side1 ?side2 A29.out).mono ?_); (case side1 => repeat (first | (with_reducible first | exact HI1126.out | apply IsS143.alloc | apply IsS143.drewN | apply IsS143.drew | apply IsS143.set_0 | apply IsS143.set_1 | refine IsS143.far ?_ NB1126_1125.out _ | refine IsS143.far ?_ NB1126_1130.out _) | exact HI1126.out)); (case side2 => repeat (first | (with_reducible first | exact HB.out | apply b1_ | apply b2_ | apply b3_ | refine below_set ?_ (IsS143.ge HI1126.out) | refine below_set ?_ GE1125.out | refine below_set ?_ GE1130.out) | exact HB.out)); rintro e w62 ⟨rfl, hi, hb, hk⟩; refine ⟨_, rfl, ?_⟩; have n0_ := am_ (Kd.R_mono (Kd.R_keep (IsS143.apart (show IsS143 w _ g1126 x1127000_1 x1127001_1 from by repeat (first | (with_reducible first | exact HI1126.out | apply IsS143.alloc | apply IsS143.drewN | apply IsS143.drew | apply IsS143.set_0 | apply IsS143.set_1 | refine IsS143.far ?_ NB1126_1125.out _ | refine IsS143.far ?_ NB1126_1130.out _) | exact HI1126.out)) (by (with_reducible repeat (first | apply r1_ | apply r2_ | apply r3_)); exact HO_1131006.out) (by decide)) hk (fun _ h => h.2)) (fun _ h => h.1)); have n1_ := am_ (KeepBut.blk hk (g' := gb1125) (o := .cells #[.bool false, .int .i64 0, .int .i64 0, .int .i64 0, .int .i64 0, .string (⟨#[]⟩ : ByteArray), .slice none 0 0] 67 (0, 0)) (by (with_reducible repeat (first | apply k1_ | apply k2_ | apply k3_)); exact BK1125.out) NB1125_1126.out (by simp)); have n2_ := am_ (KeepBut.blk hk (g' := gb1130) (o := .cells #[.bool false, .int .i64 0, .int .i64 0, .int .i64 0, .int .i64 0, .string (⟨#[]⟩ : ByteArray), u1131006] 67 (0, 0)) (by (with_reducible repeat (first | apply k1_ | apply k2_ | apply k3_)); exact BK1130.out) NB1130_1126.out (by simp)); have n3_ := am_ (hb); have n4_ := am_ (hi); clear HO_1131006; clear BK1125; clear BK1130; clear HB; clear HI1126; have HO_1131006 := n0_; have BK1125 := n1_; have BK1130 := n2_; have HB := n3_; have HI1126 := n4_; clear n0_ n1_ n2_ n3_ n4_; (try clear hb); (try clear hb2); (try clear hk); (try clear hi); have hnb63 := NB1130_1125.out; have hnc63 := NB1125_1130.out; have hnb64 := NB1130_1126.out; have hnc64 := NB1126_1130.out; have hcz65_0 : w62.cell? ⟨gb1130, 0, none⟩ = some (.bool false) := (blk_cell BK1130.out 0).trans rfl; have hcz65_1 : w62.cell? ⟨gb1130, 1, none⟩ = some (.int .i64 0) := (blk_cell BK1130.out 1).trans rfl; have hcz65_2 : w62.cell? ⟨gb1130, 2, none⟩ = some (.int .i64 0) := (blk_cell BK1130.out 2).trans rfl; have hcz65_3 : w62.cell? ⟨gb1130, 3, none⟩ = some (.int .i64 0) := (blk_cell BK1130.out 3).trans rfl; have hcz65_4 : w62.cell? ⟨gb1130, 4, none⟩ = some (.int .i64 0) := (blk_cell BK1130.out 4).trans rfl; have hcz65_5 : w62.cell? ⟨gb1130, 5, none⟩ = some (.string (⟨#[]⟩ : ByteArray)) := (blk_cell BK1130.out 5).trans rfl; have hcz65_6 : w62.cell? ⟨gb1130, 6, none⟩ = some (u1131006) := (blk_cell BK1130.out 6).trans rfl; have hfz65_0 := blk_frozen BK1130.out 0; have hfz65_1 := blk_frozen BK1130.out 1; have hfz65_2 := blk_frozen BK1130.out 2; have hfz65_3 := blk_frozen BK1130.out 3; have hfz65_4 := blk_frozen BK1130.out 4; have hfz65_5 := blk_frozen BK1130.out 5; have hfz65_6 := blk_frozen BK1130.out 6) | (go_at_call 121; (with_reducible refine (impl_reader_done.calls g1126 t1148 t1149 false t1151 t1152 w _ ?side1 ?side2 A37.out).mono ?_); (case side1 => repeat (first | (with_reducible first | exact HI1126.out | apply IsS143.alloc | apply IsS143.drewN | apply IsS143.drew | apply IsS143.set_0 | apply IsS143.set_1 | refine IsS143.far ?_ NB1126_1125.out _ | refine IsS143.far ?_ NB1126_1130.out _) | exact HI1126.out)); (case side2 => repeat (first | (with_reducible first | exact HB.out | apply b1_ | apply b2_ | apply b3_ | refine below_set ?_ (IsS143.ge HI1126.out) | refine below_set ?_ GE1125.out | refine below_set ?_ GE1130.out) | exact HB.out)); rintro e w66 ⟨rfl, hi, hb, hk⟩; have n0_ := am_ (Kd.R_mono (Kd.R_keep (IsS143.apart (show IsS143 w _ g1126 t1148 t1149 from by repeat (first | (with_reducible first | exact HI1126.out | apply IsS143.alloc | apply IsS143.drewN | apply IsS143.drew | apply IsS143.set_0 | apply IsS143.set_1 | refine IsS143.far ?_ NB1126_1125.out _ | refine IsS143.far ?_ NB1126_1130.out _) | exact HI1126.out)) (by (with_reducible repeat (first | apply r1_ | apply r2_ | apply r3_)); exact (Kd.R_mono (Kd.Rf (Kd.Rf (Kd.Rf (Kd.Rf (Kd.Rf (Kd.R_types HO_1131006.out BK1130.out (by decide))))))) (fun _ h_ => h_.1))) (by decide)) hk (fun _ h => h.2)) (fun _ h => h.1)); have n1_ := am_ (KeepBut.blk hk (g' := gb1125) (o := .cells #[.bool false, .int .i64 0, .int .i64 0, .int .i64 0, .int .i64 0, .string (⟨#[]⟩ : ByteArray), .slice none 0 0] 67 (0, 0)) (by (with_reducible repeat (first | apply k1_ | apply k2_ | apply k3_)); refine blk_far ?_ NB1125_1130.out _; (with_reducible repeat (first | apply k1_ | apply k2_ | apply k3_)); refine blk_far ?_ NB1125_1130.out _; (with_reducible repeat (first | apply k1_ | apply k2_ | apply k3_)); refine blk_far ?_ NB1125_1130.out _; (with_reducible repeat (first | apply k1_ | apply k2_ | apply k3_)); refine blk_far ?_ NB1125_1130.out _; (with_reducible repeat (first | apply k1_ | apply k2_ | apply k3_)); refine blk_far ?_ NB1125_1130.out _; (with_reducible repeat (first | apply k1_ | apply k2_ | apply k3_)); exact BK1125.out) NB1125_1126.out (by simp)); have n2_ := am_ (KeepBut.blk hk (g' := gb1130) (o := .cells #[.bool false, .int .i64 t1143, .int .i64 t1144, .int .i64 t1145, .int .i64 t1146, .string t1147, u1131006] 67 (0, 0)) (by (with_reducible repeat (first | apply k1_ | apply k2_ | apply k3_)); refine blk_put (cs := #[.bool false, .int .i64 t1143, .int .i64 t1144, .int .i64 t1145, .int .i64 t1146, .string (⟨#[]⟩ : ByteArray), u1131006]) ?_ 5 _ rfl; (with_reducible repeat (first | apply k1_ | apply k2_ | apply k3_)); refine blk_put (cs := #[.bool false, .int .i64 t1143, .int .i64 t1144, .int .i64 t1145, .int .i64 0, .string (⟨#[]⟩ : ByteArray), u1131006]) ?_ 4 _ rfl; (with_reducible repeat (first | apply k1_ | apply k2_ | apply k3_)); refine blk_put (cs := #[.bool false, .int .i64 t1143, .int .i64 t1144, .int .i64 0, .int .i64 0, .string (⟨#[]⟩ : ByteArray), u1131006]) ?_ 3 _ rfl; (with_reducible repeat (first | apply k1_ | apply k2_ | apply k3_)); refine blk_put (cs := #[.bool false, .int .i64 t1143, .int .i64 0, .int .i64 0, .int .i64 0, .string (⟨#[]⟩ : ByteArray), u1131006]) ?_ 2 _ rfl; (with_reducible repeat (first | apply k1_ | apply k2_ | apply k3_)); refine blk_put (cs := #[.bool false, .int .i64 0, .int .i64 0, .int .i64 0, .int .i64 0, .string (⟨#[]⟩ : ByteArray), u1131006]) ?_ 1 _ rfl; (with_reducible repeat (first | apply k1_ | apply k2_ | apply k3_)); exact BK1130.out) NB1130_1126.out (by simp)); have n3_ := am_ (hb); have n4_ := am_ (hi); clear HO_1131006; clear BK1125; clear BK1130; clear HB; clear HI1126; have HO_1131006 := n0_; have BK1125 := n1_; have BK1130 := n2_; have HB := n3_; have HI1126 := n4_; clear n0_ n1_ n2_ n3_ n4_; (try clear hb); (try clear hb2); (try clear hk); (try clear hi); have hnb67 := NB1125_1126.out; have hnc67 := NB1126_1125.out; have hcz68_0 : w66.cell? ⟨gb1125, 0, none⟩ = some (.bool false) := (blk_cell BK1125.out 0).trans rfl; have hcz68_1 : w66.cell? ⟨gb1125, 1, none⟩ = some (.int .i64 0) := (blk_cell BK1125.out 1).trans rfl; have hcz68_2 : w66.cell? ⟨gb1125, 2, none⟩ = some (.int .i64 0) := (blk_cell BK1125.out 2).trans rfl; have hcz68_3 : w66.cell? ⟨gb1125, 3, none⟩ = some (.int .i64 0) := (blk_cell BK1125.out 3).trans rfl; have hcz68_4 : w66.cell? ⟨gb1125, 4, none⟩ = some (.int .i64 0) := (blk_cell BK1125.out 4).trans rfl; have hcz68_5 : w66.cell? ⟨gb1125, 5, none⟩ = some (.string (⟨#[]⟩ : ByteArray)) := (blk_cell BK1125.out 5).trans rfl; have hcz68_6 : w66.cell? ⟨gb1125, 6, none⟩ = some (.slice none 0 0) := (blk_cell BK1125.out 6).trans rfl; have hfz68_0 := blk_frozen BK1125.out 0; have hfz68_1 := blk_frozen BK1125.out 1; have hfz68_2 := blk_frozen BK1125.out 2; have hfz68_3 := blk_frozen BK1125.out 3; have hfz68_4 := blk_frozen BK1125.out 4; have hfz68_5 := blk_frozen BK1125.out 5; have hfz68_6 := blk_frozen BK1125.out 6))
        refine bodyPost_ret (results_ct rfl _ _ gb1125 67 #[.bool false, .int .i64 0, .int .i64 0, .int .i64 0, .int .i64 0, .string (⟨#[]⟩ : ByteArray), .slice none 0 0] (0, 0) _ rfl (by (with_reducible repeat (first | apply k1_ | apply k2_ | apply k3_)); refine blk_put (cs := #[.bool false, .int .i64 0, .int .i64 0, .int .i64 0, .int .i64 0, .string (⟨#[]⟩ : ByteArray), .slice none 0 0]) ?_ 6 _ rfl; (with_reducible repeat (first | apply k1_ | apply k2_ | apply k3_)); refine blk_put (cs := #[.bool false, .int .i64 0, .int .i64 0, .int .i64 0, .int .i64 0, .string (⟨#[]⟩ : ByteArray), .slice none 0 0]) ?_ 5 _ rfl; (with_reducible repeat (first | apply k1_ | apply k2_ | apply k3_)); refine blk_put (cs := #[.bool false, .int .i64 0, .int .i64 0, .int .i64 0, .int .i64 0, .string (⟨#[]⟩ : ByteArray), .slice none 0 0]) ?_ 4 _ rfl; (with_reducible repeat (first | apply k1_ | apply k2_ | apply k3_)); refine blk_put (cs := #[.bool false, .int .i64 0, .int .i64 0, .int .i64 0, .int .i64 0, .string (⟨#[]⟩ : ByteArray), .slice none 0 0]) ?_ 3 _ rfl; (with_reducible repeat (first | apply k1_ | apply k2_ | apply k3_)); refine blk_put (cs := #[.bool false, .int .i64 0, .int .i64 0, .int .i64 0, .int .i64 0, .string (⟨#[]⟩ : ByteArray), .slice none 0 0]) ?_ 2 _ rfl; (with_reducible repeat (first | apply k1_ | apply k2_ | apply k3_)); refine blk_put (cs := #[.bool false, .int .i64 0, .int .i64 0, .int .i64 0, .int .i64 0, .string (⟨#[]⟩ : ByteArray), .slice none 0 0]) ?_ 1 _ rfl; (with_reducible repeat (first | apply k1_ | apply k2_ | apply k3_)); refine blk_put (cs := #[.bool false, .int .i64 0, .int .i64 0, .int .i64 0, .int .i64 0, .string (⟨#[]⟩ : ByteArray), .slice none 0 0]) ?_ 0 _ rfl; (with_reducible repeat (first | apply k1_ | apply k2_ | apply k3_)); exact BK1125.out) Try.underlying67 rfl (by kernel_rfl)) rfl ?_
        exact ⟨_, by first | rfl | (simp [e1_, e2_] <;> rfl) | (simp only [← hji12]; first | rfl | (simp [e1_, e2_] <;> rfl)) | (simp [*, e1_, e2_] <;> rfl) | (simp [e3_, e4_]; done) | (simp [*, e3_, e4_]; done), by first | exact Kd.R_nil _ _ _ _ _ | exact Kd.N_nil _ _ _ _ _ | exact Kd.V_nil _ _ _ _ _ | exact Kd.Q_nil _ _ _ _ _ | exact Kd.S_nil _ _ _ _ _, by repeat (first | (with_reducible first | exact HB.out | apply b1_ | apply b2_ | apply b3_ | refine below_set ?_ (IsS143.ge HI1126.out) | refine below_set ?_ GE1125.out | refine below_set ?_ GE1130.out) | exact HB.out)⟩
set_option maxHeartbeats 8000000 in
set_option maxRecDepth 100000 in
theorem impl_ReadBatch.calls (k : Nat) (A0 : Option Addr) (c0 : Nat) (l0 : List Int) (r1 : Bool) (r2 : Int) (r3 : Int) (r4 : Int) (r5 : Int) (r6 : ByteArray) (r7 : List (S161)) (r8 : Int) (w : World) (hr0 : Kd.C (Kd.int .u8) w A0 l0.length l0) (hc0 : l0.length ≤ c0) (h : impl_ReadBatch.f k l0 = some (r1, r2, r3, r4, r5, r6, r7, r8)) :
  Calls Try.prog 45 #[.slice A0 l0.length c0] w fun e w' => ∃ v6_ : Value, e = .returned (.tuple #[.agg #[.bool r1, .int .i64 r2, .int .i64 r3, .int .i64 r4, .int .i64 r5, .string r6, v6_], .int .i64 r8]) ∧ Kd.R k161 161 w' w.heap.size (fun _ => True) v6_ r7 ∧ Below w.heap.size w w' := by
 have hu67 := Try.underlying67
 have HR0 := am_ hr0
 have HC0 := am_ hc0
 clear hr0 hc0
 have HB := am_ (Below.refl w.heap.size w)
 have H : (if (l0.length : Int) > 65536 then (some (false, 0, 0, 0, 0, (⟨#[]⟩ : ByteArray), ([] : List (S161)), 2)) else ((impl_readBatch.f k (strOfNums l0)).bind fun bt1155 => (if bt1155.2.2.2.2.2.2.2 = true then (some (bt1155.1, bt1155.2.1, bt1155.2.2.1, bt1155.2.2.2.1, bt1155.2.2.2.2.1, bt1155.2.2.2.2.2.1, bt1155.2.2.2.2.2.2.1, 0)) else (some (false, 0, 0, 0, 0, (⟨#[]⟩ : ByteArray), ([] : List (S161)), 3))))) = some (r1, r2, r3, r4, r5, r6, r7, r8) := h
 clear h
 by_cases c2 : (l0.length : Int) > 65536
 ·rw [if_pos c2] at H
  have c2b0 : decide (65536 < (l0.length : Int)) = true := decide_eq_true c2
  have c2b1 : decide (65536 < l0.length) = true := decide_eq_true (by omega)
  clear c2
  simp only [Option.some.injEq, Prod.mk.injEq] at H
  obtain ⟨rfl, rfl, rfl, rfl, rfl, rfl, rfl, rfl⟩ := H
  go_enter Try.func45, Try.ntmps45
  go_wp2_with (first | ((with_reducible refine gate_dst (N := 2) rfl ?_); refine box_event ?hg (N := 2) ?hd (cs := #[.bool false, .int .i64 0, .int .i64 0, .int .i64 0, .int .i64 0, .string (⟨#[]⟩ : ByteArray), .slice none 0 0]) (t := 67) ?hr ?_; (case hd => rfl); (case hg => rfl); (case hr => first | (go_simp; done) | (go_simp; rfl)); intro gb1154 hg w3 hbox hb; have n0_ := am_ (below_step (by repeat (first | (with_reducible first | exact HB.out | apply b1_ | apply b2_ | apply b3_) | exact HB.out)) hb); have n1_ := am_ (hbox); have n2_ := am_ ((by rw [hg]; exact (below_size (by repeat (first | (with_reducible first | exact HB.out | apply b1_ | apply b2_ | apply b3_) | exact HB.out))) : w.heap.size ≤ gb1154)); have n3_ := am_ ((by rw [hg]; exact (below_size (by repeat (first | (with_reducible first | exact HB.out | apply b1_ | apply b2_ | apply b3_) | exact HB.out))) : w.heap.size ≤ gb1154)); clear HB; have HB := n0_; have BK1154 := n1_; have GW1154 := n2_; have GE1154 := n3_; clear n0_ n1_ n2_ n3_; clear hb hbox hg; have hcz4_0 : w3.cell? ⟨gb1154, 0, none⟩ = some (.bool false) := (blk_cell BK1154.out 0).trans rfl; have hcz4_1 : w3.cell? ⟨gb1154, 1, none⟩ = some (.int .i64 0) := (blk_cell BK1154.out 1).trans rfl; have hcz4_2 : w3.cell? ⟨gb1154, 2, none⟩ = some (.int .i64 0) := (blk_cell BK1154.out 2).trans rfl; have hcz4_3 : w3.cell? ⟨gb1154, 3, none⟩ = some (.int .i64 0) := (blk_cell BK1154.out 3).trans rfl; have hcz4_4 : w3.cell? ⟨gb1154, 4, none⟩ = some (.int .i64 0) := (blk_cell BK1154.out 4).trans rfl; have hcz4_5 : w3.cell? ⟨gb1154, 5, none⟩ = some (.string (⟨#[]⟩ : ByteArray)) := (blk_cell BK1154.out 5).trans rfl; have hcz4_6 : w3.cell? ⟨gb1154, 6, none⟩ = some (.slice none 0 0) := (blk_cell BK1154.out 6).trans rfl; have hfz4_0 := blk_frozen BK1154.out 0; have hfz4_1 := blk_frozen BK1154.out 1; have hfz4_2 := blk_frozen BK1154.out 2; have hfz4_3 := blk_frozen BK1154.out 3; have hfz4_4 := blk_frozen BK1154.out 4; have hfz4_5 := blk_frozen BK1154.out 5; have hfz4_6 := blk_frozen BK1154.out 6))
  refine bodyPost_ret (results_ct rfl _ _ gb1154 67 #[.bool false, .int .i64 0, .int .i64 0, .int .i64 0, .int .i64 0, .string (⟨#[]⟩ : ByteArray), .slice none 0 0] (0, 0) _ rfl (by (with_reducible repeat (first | apply k1_ | apply k2_ | apply k3_)); refine blk_put (cs := #[.bool false, .int .i64 0, .int .i64 0, .int .i64 0, .int .i64 0, .string (⟨#[]⟩ : ByteArray), .slice none 0 0]) ?_ 6 _ rfl; (with_reducible repeat (first | apply k1_ | apply k2_ | apply k3_)); refine blk_put (cs := #[.bool false, .int .i64 0, .int .i64 0, .int .i64 0, .int .i64 0, .string (⟨#[]⟩ : ByteArray), .slice none 0 0]) ?_ 5 _ rfl; (with_reducible repeat (first | apply k1_ | apply k2_ | apply k3_)); refine blk_put (cs := #[.bool false, .int .i64 0, .int .i64 0, .int .i64 0, .int .i64 0, .string (⟨#[]⟩ : ByteArray), .slice none 0 0]) ?_ 4 _ rfl; (with_reducible repeat (first | apply k1_ | apply k2_ | apply k3_)); refine blk_put (cs := #[.bool false, .int .i64 0, .int .i64 0, .int .i64 0, .int .i64 0, .string (⟨#[]⟩ : ByteArray), .slice none 0 0]) ?_ 3 _ rfl; (with_reducible repeat (first | apply k1_ | apply k2_ | apply k3_)); refine blk_put (cs := #[.bool false, .int .i64 0, .int .i64 0, .int .i64 0, .int .i64 0, .string (⟨#[]⟩ : ByteArray), .slice none 0 0]) ?_ 2 _ rfl; (with_reducible repeat (first | apply k1_ | apply k2_ | apply k3_)); refine blk_put (cs := #[.bool false, .int .i64 0, .int .i64 0, .int .i64 0, .int .i64 0, .string (⟨#[]⟩ : ByteArray), .slice none 0 0]) ?_ 1 _ rfl; (with_reducible repeat (first | apply k1_ | apply k2_ | apply k3_)); refine blk_put (cs := #[.bool false, .int .i64 0, .int .i64 0, .int .i64 0, .int .i64 0, .string (⟨#[]⟩ : ByteArray), .slice none 0 0]) ?_ 0 _ rfl; (with_reducible repeat (first | apply k1_ | apply k2_ | apply k3_)); exact BK1154.out) Try.underlying67 rfl (by kernel_rfl)) rfl ?_
  exact ⟨_, by first | rfl | (simp [e1_, e2_] <;> rfl) | (simp [*, e1_, e2_] <;> rfl) | (simp [e3_, e4_]; done) | (simp [*, e3_, e4_]; done), by first | exact Kd.R_nil _ _ _ _ _ | exact Kd.N_nil _ _ _ _ _ | exact Kd.V_nil _ _ _ _ _ | exact Kd.Q_nil _ _ _ _ _ | exact Kd.S_nil _ _ _ _ _, by repeat (first | (with_reducible first | exact HB.out | apply b1_ | apply b2_ | apply b3_ | refine below_set ?_ GE1154.out) | exact HB.out)⟩
 ·rw [if_neg c2] at H
  have c2b0 : decide (65536 < (l0.length : Int)) = false := decide_eq_false c2
  have c2b1 : decide (65536 < l0.length) = false := decide_eq_false (by omega)
  clear c2
  replace H := Option.bind_eq_some_iff.mp H
  obtain ⟨⟨t1155, t1156, t1157, t1158, t1159, t1160, t1161, t1164⟩, A50, H⟩ := H
  replace H : (if t1164 = true then (some (t1155, t1156, t1157, t1158, t1159, t1160, t1161, 0)) else (some (false, 0, 0, 0, 0, (⟨#[]⟩ : ByteArray), ([] : List (S161)), 3))) = some (r1, r2, r3, r4, r5, r6, r7, r8) := H
  have A5 := am_ A50
  clear A50
  by_cases c6 : t1164 = true
  ·subst c6
   have H1 : (some (t1155, t1156, t1157, t1158, t1159, t1160, t1161, 0)) = some (r1, r2, r3, r4, r5, r6, r7, r8) := by rw [if_pos rfl] at H; exact H
   clear H
   have H := H1
   clear H1
   simp only [Option.some.injEq, Prod.mk.injEq] at H
   obtain ⟨rfl, rfl, rfl, rfl, rfl, rfl, rfl, rfl⟩ := H
   go_enter Try.func45, Try.ntmps45
   go_wp2_with (first | ((with_reducible refine gate_dst (N := 2) rfl ?_); refine box_event ?hg (N := 2) ?hd (cs := #[.bool false, .int .i64 0, .int .i64 0, .int .i64 0, .int .i64 0, .string (⟨#[]⟩ : ByteArray), .slice none 0 0]) (t := 67) ?hr ?_; (case hd => rfl); (case hg => rfl); (case hr => first | (go_simp; done) | (go_simp; rfl)); intro gb1154 hg w7 hbox hb; have n0_ := am_ (below_step (by repeat (first | (with_reducible first | exact HB.out | apply b1_ | apply b2_ | apply b3_) | exact HB.out)) hb); have n1_ := am_ (hbox); have n2_ := am_ ((by rw [hg]; exact (below_size (by repeat (first | (with_reducible first | exact HB.out | apply b1_ | apply b2_ | apply b3_) | exact HB.out))) : w.heap.size ≤ gb1154)); have n3_ := am_ ((by rw [hg]; exact (below_size (by repeat (first | (with_reducible first | exact HB.out | apply b1_ | apply b2_ | apply b3_) | exact HB.out))) : w.heap.size ≤ gb1154)); clear HB; have HB := n0_; have BK1154 := n1_; have GW1154 := n2_; have GE1154 := n3_; clear n0_ n1_ n2_ n3_; clear hb hbox hg; have hcv8 := Kd.C_string (P := Try.prog) (A := A0) (c := c0) Try.underlying24 Try.underlying5 Try.underlying9 (Kd.C_below HR0.out HB.out)) | ((with_reducible refine gate_callee (f := 93) rfl ?_); refine goesL_ (some 13) rfl rfl Try.func93 (by kernel_rfl) rfl #[.string (strOfNums l0)] rfl (by (try simp only [m1_, m2_, m3_]); first | done | rfl | (simp only [d1_, d2_]; rfl)) ?_; (with_reducible refine (impl_readBatch.calls k (strOfNums l0) t1155 t1156 t1157 t1158 t1159 t1160 t1161 true _ A5.out).mono ?_); rintro e w9 ⟨v1162, rfl, ho0, hb⟩; refine ⟨_, rfl, ?_⟩; have n0_ := am_ (Kd.R_lower ho0 (below_size (by repeat (first | (with_reducible first | exact HB.out | apply b1_ | apply b2_ | apply b3_ | refine below_set ?_ GE1154.out) | exact HB.out)))); have n1_ := am_ (blk_below (g := gb1154) (o := .cells #[.bool false, .int .i64 0, .int .i64 0, .int .i64 0, .int .i64 0, .string (⟨#[]⟩ : ByteArray), .slice none 0 0] 67 (0, 0)) (by (with_reducible repeat (first | apply k1_ | apply k2_ | apply k3_)); exact BK1154.out) hb); have n2_ := am_ (below_step (by repeat (first | (with_reducible first | exact HB.out | apply b1_ | apply b2_ | apply b3_ | refine below_set ?_ GE1154.out) | exact HB.out)) hb); clear BK1154; clear HB; have HO1163 := n0_; have BK1154 := n1_; have HB := n2_; clear n0_ n1_ n2_; (try clear hb); (try clear hb2); (try clear hk); (try clear hi); (try clear ho0)) | ((with_reducible refine gate_dst (N := 4) rfl ?_); refine box_event ?hg (N := 4) ?hd (cs := #[.bool false, .int .i64 0, .int .i64 0, .int .i64 0, .int .i64 0, .string (⟨#[]⟩ : ByteArray), .slice none 0 0]) (t := 67) ?hr ?_; (case hd => rfl); (case hg => rfl); (case hr => first | (go_simp; done) | (go_simp; rfl)); intro gb1165 hg w10 hbox hb; have n0_ := am_ (Kd.R_below (by (with_reducible repeat (first | apply r1_ | apply r2_ | apply r3_)); exact HO1163.out) hb); have n1_ := am_ (blk_below (g := gb1154) (o := .cells #[.bool false, .int .i64 0, .int .i64 0, .int .i64 0, .int .i64 0, .string (⟨#[]⟩ : ByteArray), .slice none 0 0] 67 (0, 0)) (by (with_reducible repeat (first | apply k1_ | apply k2_ | apply k3_)); exact BK1154.out) hb); have n2_ := am_ (below_step (by repeat (first | (with_reducible first | exact HB.out | apply b1_ | apply b2_ | apply b3_ | refine below_set ?_ GE1154.out) | exact HB.out)) hb); have n3_ := am_ (hbox); have n4_ := am_ ((by rw [hg]; exact (below_size (by repeat (first | (with_reducible first | exact HB.out | apply b1_ | apply b2_ | apply b3_ | refine below_set ?_ GE1154.out) | exact HB.out))) : w.heap.size ≤ gb1165)); have n5_ := am_ ((by rw [hg]; exact (below_size (by repeat (first | (with_reducible first | exact HB.out | apply b1_ | apply b2_ | apply b3_ | refine below_set ?_ GE1154.out) | exact HB.out))) : w.heap.size ≤ gb1165)); have n6_ := am_ ((by rw [hg]; exact Nat.ne_of_lt (blk_lt (g := gb1154) (o := .cells #[.bool false, .int .i64 0, .int .i64 0, .int .i64 0, .int .i64 0, .string (⟨#[]⟩ : ByteArray), .slice none 0 0] 67 (0, 0)) (by (with_reducible repeat (first | apply k1_ | apply k2_ | apply k3_)); exact BK1154.out)) : gb1154 ≠ gb1165)); have n7_ := am_ ((by rw [hg]; exact Nat.ne_of_gt (blk_lt (g := gb1154) (o := .cells #[.bool false, .int .i64 0, .int .i64 0, .int .i64 0, .int .i64 0, .string (⟨#[]⟩ : ByteArray), .slice none 0 0] 67 (0, 0)) (by (with_reducible repeat (first | apply k1_ | apply k2_ | apply k3_)); exact BK1154.out)) : gb1165 ≠ gb1154)); clear HO1163; clear BK1154; clear HB; have HO1163 := n0_; have BK1154 := n1_; have HB := n2_; have BK1165 := n3_; have GW1165 := n4_; have GE1165 := n5_; have NB1154_1165 := n6_; have NB1165_1154 := n7_; clear n0_ n1_ n2_ n3_ n4_ n5_ n6_ n7_; clear hb hbox hg; have hnb11 := NB1165_1154.out; have hnc11 := NB1154_1165.out; have hcz12_0 : w10.cell? ⟨gb1165, 0, none⟩ = some (.bool false) := (blk_cell BK1165.out 0).trans rfl; have hcz12_1 : w10.cell? ⟨gb1165, 1, none⟩ = some (.int .i64 0) := (blk_cell BK1165.out 1).trans rfl; have hcz12_2 : w10.cell? ⟨gb1165, 2, none⟩ = some (.int .i64 0) := (blk_cell BK1165.out 2).trans rfl; have hcz12_3 : w10.cell? ⟨gb1165, 3, none⟩ = some (.int .i64 0) := (blk_cell BK1165.out 3).trans rfl; have hcz12_4 : w10.cell? ⟨gb1165, 4, none⟩ = some (.int .i64 0) := (blk_cell BK1165.out 4).trans rfl; have hcz12_5 : w10.cell? ⟨gb1165, 5, none⟩ = some (.string (⟨#[]⟩ : ByteArray)) := (blk_cell BK1165.out 5).trans rfl; have hcz12_6 : w10.cell? ⟨gb1165, 6, none⟩ = some (.slice none 0 0) := (blk_cell BK1165.out 6).trans rfl; have hfz12_0 := blk_frozen BK1165.out 0; have hfz12_1 := blk_frozen BK1165.out 1; have hfz12_2 := blk_frozen BK1165.out 2; have hfz12_3 := blk_frozen BK1165.out 3; have hfz12_4 := blk_frozen BK1165.out 4; have hfz12_5 := blk_frozen BK1165.out 5; have hfz12_6 := blk_frozen BK1165.out 6; obtain ⟨Ao13, co13, eo13⟩ := Kd.R_slice HO1163.out; subst eo13; have hcz14_0 : w10.cell? ⟨gb1154, 0, none⟩ = some (.bool false) := (blk_cell BK1154.out 0).trans rfl; have hcz14_1 : w10.cell? ⟨gb1154, 1, none⟩ = some (.int .i64 0) := (blk_cell BK1154.out 1).trans rfl; have hcz14_2 : w10.cell? ⟨gb1154, 2, none⟩ = some (.int .i64 0) := (blk_cell BK1154.out 2).trans rfl; have hcz14_3 : w10.cell? ⟨gb1154, 3, none⟩ = some (.int .i64 0) := (blk_cell BK1154.out 3).trans rfl; have hcz14_4 : w10.cell? ⟨gb1154, 4, none⟩ = some (.int .i64 0) := (blk_cell BK1154.out 4).trans rfl; have hcz14_5 : w10.cell? ⟨gb1154, 5, none⟩ = some (.string (⟨#[]⟩ : ByteArray)) := (blk_cell BK1154.out 5).trans rfl; have hcz14_6 : w10.cell? ⟨gb1154, 6, none⟩ = some (.slice none 0 0) := (blk_cell BK1154.out 6).trans rfl; have hfz14_0 := blk_frozen BK1154.out 0; have hfz14_1 := blk_frozen BK1154.out 1; have hfz14_2 := blk_frozen BK1154.out 2; have hfz14_3 := blk_frozen BK1154.out 3; have hfz14_4 := blk_frozen BK1154.out 4; have hfz14_5 := blk_frozen BK1154.out 5; have hfz14_6 := blk_frozen BK1154.out 6))
   refine bodyPost_ret (results_ct rfl _ _ gb1154 67 #[.bool t1155, .int .i64 t1156, .int .i64 t1157, .int .i64 t1158, .int .i64 t1159, .string t1160, .slice Ao13 t1161.length co13] (0, 0) _ rfl (by (with_reducible repeat (first | apply k1_ | apply k2_ | apply k3_)); refine blk_put (cs := #[.bool t1155, .int .i64 t1156, .int .i64 t1157, .int .i64 t1158, .int .i64 t1159, .string t1160, .slice none 0 0]) ?_ 6 _ rfl; (with_reducible repeat (first | apply k1_ | apply k2_ | apply k3_)); refine blk_put (cs := #[.bool t1155, .int .i64 t1156, .int .i64 t1157, .int .i64 t1158, .int .i64 t1159, .string (⟨#[]⟩ : ByteArray), .slice none 0 0]) ?_ 5 _ rfl; (with_reducible repeat (first | apply k1_ | apply k2_ | apply k3_)); refine blk_put (cs := #[.bool t1155, .int .i64 t1156, .int .i64 t1157, .int .i64 t1158, .int .i64 0, .string (⟨#[]⟩ : ByteArray), .slice none 0 0]) ?_ 4 _ rfl; (with_reducible repeat (first | apply k1_ | apply k2_ | apply k3_)); refine blk_put (cs := #[.bool t1155, .int .i64 t1156, .int .i64 t1157, .int .i64 0, .int .i64 0, .string (⟨#[]⟩ : ByteArray), .slice none 0 0]) ?_ 3 _ rfl; (with_reducible repeat (first | apply k1_ | apply k2_ | apply k3_)); refine blk_put (cs := #[.bool t1155, .int .i64 t1156, .int .i64 0, .int .i64 0, .int .i64 0, .string (⟨#[]⟩ : ByteArray), .slice none 0 0]) ?_ 2 _ rfl; (with_reducible repeat (first | apply k1_ | apply k2_ | apply k3_)); refine blk_put (cs := #[.bool t1155, .int .i64 0, .int .i64 0, .int .i64 0, .int .i64 0, .string (⟨#[]⟩ : ByteArray), .slice none 0 0]) ?_ 1 _ rfl; (with_reducible repeat (first | apply k1_ | apply k2_ | apply k3_)); refine blk_put (cs := #[.bool false, .int .i64 0, .int .i64 0, .int .i64 0, .int .i64 0, .string (⟨#[]⟩ : ByteArray), .slice none 0 0]) ?_ 0 _ rfl; (with_reducible repeat (first | apply k1_ | apply k2_ | apply k3_)); refine blk_far ?_ NB1154_1165.out _; (with_reducible repeat (first | apply k1_ | apply k2_ | apply k3_)); refine blk_far ?_ NB1154_1165.out _; (with_reducible repeat (first | apply k1_ | apply k2_ | apply k3_)); refine blk_far ?_ NB1154_1165.out _; (with_reducible repeat (first | apply k1_ | apply k2_ | apply k3_)); refine blk_far ?_ NB1154_1165.out _; (with_reducible repeat (first | apply k1_ | apply k2_ | apply k3_)); refine blk_far ?_ NB1154_1165.out _; (with_reducible repeat (first | apply k1_ | apply k2_ | apply k3_)); refine blk_far ?_ NB1154_1165.out _; (with_reducible repeat (first | apply k1_ | apply k2_ | apply k3_)); refine blk_far ?_ NB1154_1165.out _; (with_reducible repeat (first | apply k1_ | apply k2_ | apply k3_)); exact BK1154.out) Try.underlying67 rfl (by kernel_rfl)) rfl ?_
   exact ⟨_, by first | rfl | (simp [e1_, e2_] <;> rfl) | (simp [*, e1_, e2_] <;> rfl) | (simp [e3_, e4_]; done) | (simp [*, e3_, e4_]; done), by (with_reducible repeat (first | apply r1_ | apply r2_ | apply r3_)); exact Kd.R_mono (Kd.Rf (Kd.Rf (Kd.Rf (Kd.Rf (Kd.Rf (Kd.Rf (Kd.Rf (Kd.R_far (p := ⟨gb1165, 6, none⟩) (Kd.R_far (p := ⟨gb1165, 5, none⟩) (Kd.R_far (p := ⟨gb1165, 4, none⟩) (Kd.R_far (p := ⟨gb1165, 3, none⟩) (Kd.R_far (p := ⟨gb1165, 2, none⟩) (Kd.R_far (p := ⟨gb1165, 1, none⟩) (Kd.R_far (p := ⟨gb1165, 0, none⟩) (Kd.R_types (Kd.R_types HO1163.out BK1165.out (by decide)) BK1154.out (by decide)) (fun _ hk => hk.1.2) (.bool t1155)) (fun _ hk => hk.1.2) (.int .i64 t1156)) (fun _ hk => hk.1.2) (.int .i64 t1157)) (fun _ hk => hk.1.2) (.int .i64 t1158)) (fun _ hk => hk.1.2) (.int .i64 t1159)) (fun _ hk => hk.1.2) (.string t1160)) (fun _ hk => hk.1.2) (.slice Ao13 t1161.length co13))))))))) (fun _ hk => trivial), by repeat (first | (with_reducible first | exact HB.out | apply b1_ | apply b2_ | apply b3_ | refine below_set ?_ GE1154.out | refine below_set ?_ GE1165.out) | exact HB.out)⟩
  ·replace c6 := Bool.eq_false_iff.mpr c6
   subst c6
   have H1 : (some (false, 0, 0, 0, 0, (⟨#[]⟩ : ByteArray), ([] : List (S161)), 3)) = some (r1, r2, r3, r4, r5, r6, r7, r8) := by rw [if_neg (show ¬ (false = true) by decide)] at H; exact H
   clear H
   have H := H1
   clear H1
   simp only [Option.some.injEq, Prod.mk.injEq] at H
   obtain ⟨rfl, rfl, rfl, rfl, rfl, rfl, rfl, rfl⟩ := H
   go_enter Try.func45, Try.ntmps45
   go_wp2_with (first | ((with_reducible refine gate_dst (N := 2) rfl ?_); refine box_event ?hg (N := 2) ?hd (cs := #[.bool false, .int .i64 0, .int .i64 0, .int .i64 0, .int .i64 0, .string (⟨#[]⟩ : ByteArray), .slice none 0 0]) (t := 67) ?hr ?_; (case hd => rfl); (case hg => rfl); (case hr => first | (go_simp; done) | (go_simp; rfl)); intro gb1154 hg w15 hbox hb; have n0_ := am_ (below_step (by repeat (first | (with_reducible first | exact HB.out | apply b1_ | apply b2_ | apply b3_) | exact HB.out)) hb); have n1_ := am_ (hbox); have n2_ := am_ ((by rw [hg]; exact (below_size (by repeat (first | (with_reducible first | exact HB.out | apply b1_ | apply b2_ | apply b3_) | exact HB.out))) : w.heap.size ≤ gb1154)); have n3_ := am_ ((by rw [hg]; exact (below_size (by repeat (first | (with_reducible first | exact HB.out | apply b1_ | apply b2_ | apply b3_) | exact HB.out))) : w.heap.size ≤ gb1154)); clear HB; have HB := n0_; have BK1154 := n1_; have GW1154 := n2_; have GE1154 := n3_; clear n0_ n1_ n2_ n3_; clear hb hbox hg; have hcv16 := Kd.C_string (P := Try.prog) (A := A0) (c := c0) Try.underlying24 Try.underlying5 Try.underlying9 (Kd.C_below HR0.out HB.out)) | ((with_reducible refine gate_callee (f := 93) rfl ?_); refine goesL_ (some 13) rfl rfl Try.func93 (by kernel_rfl) rfl #[.string (strOfNums l0)] rfl (by (try simp only [m1_, m2_, m3_]); first | done | rfl | (simp only [d1_, d2_]; rfl)) ?_; (with_reducible refine (impl_readBatch.calls k (strOfNums l0) t1155 t1156 t1157 t1158 t1159 t1160 t1161 false _ A5.out).mono ?_); rintro e w17 ⟨v1162, rfl, ho0, hb⟩; refine ⟨_, rfl, ?_⟩; have n0_ := am_ (Kd.R_lower ho0 (below_size (by repeat (first | (with_reducible first | exact HB.out | apply b1_ | apply b2_ | apply b3_ | refine below_set ?_ GE1154.out) | exact HB.out)))); have n1_ := am_ (blk_below (g := gb1154) (o := .cells #[.bool false, .int .i64 0, .int .i64 0, .int .i64 0, .int .i64 0, .string (⟨#[]⟩ : ByteArray), .slice none 0 0] 67 (0, 0)) (by (with_reducible repeat (first | apply k1_ | apply k2_ | apply k3_)); exact BK1154.out) hb); have n2_ := am_ (below_step (by repeat (first | (with_reducible first | exact HB.out | apply b1_ | apply b2_ | apply b3_ | refine below_set ?_ GE1154.out) | exact HB.out)) hb); clear BK1154; clear HB; have HO1163 := n0_; have BK1154 := n1_; have HB := n2_; clear n0_ n1_ n2_; (try clear hb); (try clear hb2); (try clear hk); (try clear hi); (try clear ho0)) | ((with_reducible refine gate_dst (N := 4) rfl ?_); refine box_event ?hg (N := 4) ?hd (cs := #[.bool false, .int .i64 0, .int .i64 0, .int .i64 0, .int .i64 0, .string (⟨#[]⟩ : ByteArray), .slice none 0 0]) (t := 67) ?hr ?_; (case hd => rfl); (case hg => rfl); (case hr => first | (go_simp; done) | (go_simp; rfl)); intro gb1165 hg w18 hbox hb; have n0_ := am_ (Kd.R_below (by (with_reducible repeat (first | apply r1_ | apply r2_ | apply r3_)); exact HO1163.out) hb); have n1_ := am_ (blk_below (g := gb1154) (o := .cells #[.bool false, .int .i64 0, .int .i64 0, .int .i64 0, .int .i64 0, .string (⟨#[]⟩ : ByteArray), .slice none 0 0] 67 (0, 0)) (by (with_reducible repeat (first | apply k1_ | apply k2_ | apply k3_)); exact BK1154.out) hb); have n2_ := am_ (below_step (by repeat (first | (with_reducible first | exact HB.out | apply b1_ | apply b2_ | apply b3_ | refine below_set ?_ GE1154.out) | exact HB.out)) hb); have n3_ := am_ (hbox); have n4_ := am_ ((by rw [hg]; exact (below_size (by repeat (first | (with_reducible first | exact HB.out | apply b1_ | apply b2_ | apply b3_ | refine below_set ?_ GE1154.out) | exact HB.out))) : w.heap.size ≤ gb1165)); have n5_ := am_ ((by rw [hg]; exact (below_size (by repeat (first | (with_reducible first | exact HB.out | apply b1_ | apply b2_ | apply b3_ | refine below_set ?_ GE1154.out) | exact HB.out))) : w.heap.size ≤ gb1165)); have n6_ := am_ ((by rw [hg]; exact Nat.ne_of_lt (blk_lt (g := gb1154) (o := .cells #[.bool false, .int .i64 0, .int .i64 0, .int .i64 0, .int .i64 0, .string (⟨#[]⟩ : ByteArray), .slice none 0 0] 67 (0, 0)) (by (with_reducible repeat (first | apply k1_ | apply k2_ | apply k3_)); exact BK1154.out)) : gb1154 ≠ gb1165)); have n7_ := am_ ((by rw [hg]; exact Nat.ne_of_gt (blk_lt (g := gb1154) (o := .cells #[.bool false, .int .i64 0, .int .i64 0, .int .i64 0, .int .i64 0, .string (⟨#[]⟩ : ByteArray), .slice none 0 0] 67 (0, 0)) (by (with_reducible repeat (first | apply k1_ | apply k2_ | apply k3_)); exact BK1154.out)) : gb1165 ≠ gb1154)); clear HO1163; clear BK1154; clear HB; have HO1163 := n0_; have BK1154 := n1_; have HB := n2_; have BK1165 := n3_; have GW1165 := n4_; have GE1165 := n5_; have NB1154_1165 := n6_; have NB1165_1154 := n7_; clear n0_ n1_ n2_ n3_ n4_ n5_ n6_ n7_; clear hb hbox hg; have hnb19 := NB1165_1154.out; have hnc19 := NB1154_1165.out; have hcz20_0 : w18.cell? ⟨gb1165, 0, none⟩ = some (.bool false) := (blk_cell BK1165.out 0).trans rfl; have hcz20_1 : w18.cell? ⟨gb1165, 1, none⟩ = some (.int .i64 0) := (blk_cell BK1165.out 1).trans rfl; have hcz20_2 : w18.cell? ⟨gb1165, 2, none⟩ = some (.int .i64 0) := (blk_cell BK1165.out 2).trans rfl; have hcz20_3 : w18.cell? ⟨gb1165, 3, none⟩ = some (.int .i64 0) := (blk_cell BK1165.out 3).trans rfl; have hcz20_4 : w18.cell? ⟨gb1165, 4, none⟩ = some (.int .i64 0) := (blk_cell BK1165.out 4).trans rfl; have hcz20_5 : w18.cell? ⟨gb1165, 5, none⟩ = some (.string (⟨#[]⟩ : ByteArray)) := (blk_cell BK1165.out 5).trans rfl; have hcz20_6 : w18.cell? ⟨gb1165, 6, none⟩ = some (.slice none 0 0) := (blk_cell BK1165.out 6).trans rfl; have hfz20_0 := blk_frozen BK1165.out 0; have hfz20_1 := blk_frozen BK1165.out 1; have hfz20_2 := blk_frozen BK1165.out 2; have hfz20_3 := blk_frozen BK1165.out 3; have hfz20_4 := blk_frozen BK1165.out 4; have hfz20_5 := blk_frozen BK1165.out 5; have hfz20_6 := blk_frozen BK1165.out 6; obtain ⟨Ao21, co21, eo21⟩ := Kd.R_slice HO1163.out; subst eo21; have hcz22_0 : w18.cell? ⟨gb1154, 0, none⟩ = some (.bool false) := (blk_cell BK1154.out 0).trans rfl; have hcz22_1 : w18.cell? ⟨gb1154, 1, none⟩ = some (.int .i64 0) := (blk_cell BK1154.out 1).trans rfl; have hcz22_2 : w18.cell? ⟨gb1154, 2, none⟩ = some (.int .i64 0) := (blk_cell BK1154.out 2).trans rfl; have hcz22_3 : w18.cell? ⟨gb1154, 3, none⟩ = some (.int .i64 0) := (blk_cell BK1154.out 3).trans rfl; have hcz22_4 : w18.cell? ⟨gb1154, 4, none⟩ = some (.int .i64 0) := (blk_cell BK1154.out 4).trans rfl; have hcz22_5 : w18.cell? ⟨gb1154, 5, none⟩ = some (.string (⟨#[]⟩ : ByteArray)) := (blk_cell BK1154.out 5).trans rfl; have hcz22_6 : w18.cell? ⟨gb1154, 6, none⟩ = some (.slice none 0 0) := (blk_cell BK1154.out 6).trans rfl; have hfz22_0 := blk_frozen BK1154.out 0; have hfz22_1 := blk_frozen BK1154.out 1; have hfz22_2 := blk_frozen BK1154.out 2; have hfz22_3 := blk_frozen BK1154.out 3; have hfz22_4 := blk_frozen BK1154.out 4; have hfz22_5 := blk_frozen BK1154.out 5; have hfz22_6 := blk_frozen BK1154.out 6))
   refine bodyPost_ret (results_ct rfl _ _ gb1154 67 #[.bool false, .int .i64 0, .int .i64 0, .int .i64 0, .int .i64 0, .string (⟨#[]⟩ : ByteArray), .slice none 0 0] (0, 0) _ rfl (by (with_reducible repeat (first | apply k1_ | apply k2_ | apply k3_)); refine blk_put (cs := #[.bool false, .int .i64 0, .int .i64 0, .int .i64 0, .int .i64 0, .string (⟨#[]⟩ : ByteArray), .slice none 0 0]) ?_ 6 _ rfl; (with_reducible repeat (first | apply k1_ | apply k2_ | apply k3_)); refine blk_put (cs := #[.bool false, .int .i64 0, .int .i64 0, .int .i64 0, .int .i64 0, .string (⟨#[]⟩ : ByteArray), .slice none 0 0]) ?_ 5 _ rfl; (with_reducible repeat (first | apply k1_ | apply k2_ | apply k3_)); refine blk_put (cs := #[.bool false, .int .i64 0, .int .i64 0, .int .i64 0, .int .i64 0, .string (⟨#[]⟩ : ByteArray), .slice none 0 0]) ?_ 4 _ rfl; (with_reducible repeat (first | apply k1_ | apply k2_ | apply k3_)); refine blk_put (cs := #[.bool false, .int .i64 0, .int .i64 0, .int .i64 0, .int .i64 0, .string (⟨#[]⟩ : ByteArray), .slice none 0 0]) ?_ 3 _ rfl; (with_reducible repeat (first | apply k1_ | apply k2_ | apply k3_)); refine blk_put (cs := #[.bool false, .int .i64 0, .int .i64 0, .int .i64 0, .int .i64 0, .string (⟨#[]⟩ : ByteArray), .slice none 0 0]) ?_ 2 _ rfl; (with_reducible repeat (first | apply k1_ | apply k2_ | apply k3_)); refine blk_put (cs := #[.bool false, .int .i64 0, .int .i64 0, .int .i64 0, .int .i64 0, .string (⟨#[]⟩ : ByteArray), .slice none 0 0]) ?_ 1 _ rfl; (with_reducible repeat (first | apply k1_ | apply k2_ | apply k3_)); refine blk_put (cs := #[.bool false, .int .i64 0, .int .i64 0, .int .i64 0, .int .i64 0, .string (⟨#[]⟩ : ByteArray), .slice none 0 0]) ?_ 0 _ rfl; (with_reducible repeat (first | apply k1_ | apply k2_ | apply k3_)); refine blk_far ?_ NB1154_1165.out _; (with_reducible repeat (first | apply k1_ | apply k2_ | apply k3_)); refine blk_far ?_ NB1154_1165.out _; (with_reducible repeat (first | apply k1_ | apply k2_ | apply k3_)); refine blk_far ?_ NB1154_1165.out _; (with_reducible repeat (first | apply k1_ | apply k2_ | apply k3_)); refine blk_far ?_ NB1154_1165.out _; (with_reducible repeat (first | apply k1_ | apply k2_ | apply k3_)); refine blk_far ?_ NB1154_1165.out _; (with_reducible repeat (first | apply k1_ | apply k2_ | apply k3_)); refine blk_far ?_ NB1154_1165.out _; (with_reducible repeat (first | apply k1_ | apply k2_ | apply k3_)); refine blk_far ?_ NB1154_1165.out _; (with_reducible repeat (first | apply k1_ | apply k2_ | apply k3_)); exact BK1154.out) Try.underlying67 rfl (by kernel_rfl)) rfl ?_
   exact ⟨_, by first | rfl | (simp [e1_, e2_] <;> rfl) | (simp [*, e1_, e2_] <;> rfl) | (simp [e3_, e4_]; done) | (simp [*, e3_, e4_]; done), by first | exact Kd.R_nil _ _ _ _ _ | exact Kd.N_nil _ _ _ _ _ | exact Kd.V_nil _ _ _ _ _ | exact Kd.Q_nil _ _ _ _ _ | exact Kd.S_nil _ _ _ _ _, by repeat (first | (with_reducible first | exact HB.out | apply b1_ | apply b2_ | apply b3_ | refine below_set ?_ GE1154.out | refine below_set ?_ GE1165.out) | exact HB.out)⟩
set_option maxHeartbeats 8000000 in
set_option maxRecDepth 100000 in
theorem laws_eqReading.calls (a0_0 : Int) (a0_1 : Int) (a0_2 : ByteArray) (a1_0 : Int) (a1_1 : Int) (a1_2 : ByteArray) (r : Bool) (w : World) (h : laws_eqReading.f a0_0 a0_1 a0_2 a1_0 a1_1 a1_2 = some r) :
  Calls Try.prog 141 #[.agg #[.int .i64 a0_0, .int .i64 a0_1, .string a0_2], .agg #[.int .i64 a1_0, .int .i64 a1_1, .string a1_2]] w fun e w' => e = .returned (.bool r) ∧ Below w.heap.size w w' := by
 have hu161 := Try.underlying161
 have HB := am_ (Below.refl w.heap.size w)
 have H : (if a0_0 = a1_0 then (if a0_1 = a1_1 then (if a0_2.toList = a1_2.toList then (some true) else (some false)) else (some false)) else (some false)) = some r := h
 clear h
 by_cases c3 : a0_0 = a1_0
 ·rw [if_pos c3] at H
  have c3b0 : (a0_0 == a1_0) = true := beq_iff_eq.mpr c3
  have c3b1 : (a0_0 != a1_0) = false := bne_eq_false_iff_eq.mpr c3
  clear c3
  by_cases c4 : a0_1 = a1_1
  ·rw [if_pos c4] at H
   have c4b0 : (a0_1 == a1_1) = true := beq_iff_eq.mpr c4
   have c4b1 : (a0_1 != a1_1) = false := bne_eq_false_iff_eq.mpr c4
   clear c4
   by_cases c5 : a0_2.toList = a1_2.toList
   ·rw [if_pos c5] at H
    have c5b0 : (a0_2.toList == a1_2.toList) = true := beq_iff_eq.mpr c5
    have c5b1 : (a0_2.toList != a1_2.toList) = false := bne_eq_false_iff_eq.mpr c5
    clear c5
    obtain rfl := Option.some.inj H
    go_enter Try.func141, Try.ntmps141
    go_wp2_with (first | ((with_reducible refine gate_dst (N := 2) rfl ?_); refine box_event ?hg (N := 2) ?hd (cs := #[.int .i64 a0_0, .int .i64 a0_1, .string a0_2]) (t := 161) ?hr ?_; (case hd => rfl); (case hg => rfl); (case hr => first | (go_simp; done) | (go_simp; rfl)); intro gb1166 hg w6 hbox hb; have n0_ := am_ (below_step (by repeat (first | (with_reducible first | exact HB.out | apply b1_ | apply b2_ | apply b3_) | exact HB.out)) hb); have n1_ := am_ (hbox); have n2_ := am_ ((by rw [hg]; exact (below_size (by repeat (first | (with_reducible first | exact HB.out | apply b1_ | apply b2_ | apply b3_) | exact HB.out))) : w.heap.size ≤ gb1166)); have n3_ := am_ ((by rw [hg]; exact (below_size (by repeat (first | (with_reducible first | exact HB.out | apply b1_ | apply b2_ | apply b3_) | exact HB.out))) : w.heap.size ≤ gb1166)); clear HB; have HB := n0_; have BK1166 := n1_; have GW1166 := n2_; have GE1166 := n3_; clear n0_ n1_ n2_ n3_; clear hb hbox hg) | ((with_reducible refine gate_dst (N := 3) rfl ?_); refine box_event ?hg (N := 3) ?hd (cs := #[.int .i64 a1_0, .int .i64 a1_1, .string a1_2]) (t := 161) ?hr ?_; (case hd => rfl); (case hg => rfl); (case hr => first | (go_simp; done) | (go_simp; rfl)); intro gb1167 hg w7 hbox hb; have n0_ := am_ (blk_below (g := gb1166) (o := .cells #[.int .i64 a0_0, .int .i64 a0_1, .string a0_2] 161 (0, 0)) (by (with_reducible repeat (first | apply k1_ | apply k2_ | apply k3_)); exact BK1166.out) hb); have n1_ := am_ (below_step (by repeat (first | (with_reducible first | exact HB.out | apply b1_ | apply b2_ | apply b3_ | refine below_set ?_ GE1166.out) | exact HB.out)) hb); have n2_ := am_ (hbox); have n3_ := am_ ((by rw [hg]; exact (below_size (by repeat (first | (with_reducible first | exact HB.out | apply b1_ | apply b2_ | apply b3_ | refine below_set ?_ GE1166.out) | exact HB.out))) : w.heap.size ≤ gb1167)); have n4_ := am_ ((by rw [hg]; exact (below_size (by repeat (first | (with_reducible first | exact HB.out | apply b1_ | apply b2_ | apply b3_ | refine below_set ?_ GE1166.out) | exact HB.out))) : w.heap.size ≤ gb1167)); have n5_ := am_ ((by rw [hg]; exact Nat.ne_of_lt (blk_lt (g := gb1166) (o := .cells #[.int .i64 a0_0, .int .i64 a0_1, .string a0_2] 161 (0, 0)) (by (with_reducible repeat (first | apply k1_ | apply k2_ | apply k3_)); exact BK1166.out)) : gb1166 ≠ gb1167)); have n6_ := am_ ((by rw [hg]; exact Nat.ne_of_gt (blk_lt (g := gb1166) (o := .cells #[.int .i64 a0_0, .int .i64 a0_1, .string a0_2] 161 (0, 0)) (by (with_reducible repeat (first | apply k1_ | apply k2_ | apply k3_)); exact BK1166.out)) : gb1167 ≠ gb1166)); clear BK1166; clear HB; have BK1166 := n0_; have HB := n1_; have BK1167 := n2_; have GW1167 := n3_; have GE1167 := n4_; have NB1166_1167 := n5_; have NB1167_1166 := n6_; clear n0_ n1_ n2_ n3_ n4_ n5_ n6_; clear hb hbox hg; have hnb8 := NB1166_1167.out; have hnc8 := NB1167_1166.out; have hcz9_0 : w7.cell? ⟨gb1166, 0, none⟩ = some (.int .i64 a0_0) := (blk_cell BK1166.out 0).trans rfl; have hcz9_1 : w7.cell? ⟨gb1166, 1, none⟩ = some (.int .i64 a0_1) := (blk_cell BK1166.out 1).trans rfl; have hcz9_2 : w7.cell? ⟨gb1166, 2, none⟩ = some (.string a0_2) := (blk_cell BK1166.out 2).trans rfl; have hfz9_0 := blk_frozen BK1166.out 0; have hfz9_1 := blk_frozen BK1166.out 1; have hfz9_2 := blk_frozen BK1166.out 2; have hcz10_0 : w7.cell? ⟨gb1167, 0, none⟩ = some (.int .i64 a1_0) := (blk_cell BK1167.out 0).trans rfl; have hcz10_1 : w7.cell? ⟨gb1167, 1, none⟩ = some (.int .i64 a1_1) := (blk_cell BK1167.out 1).trans rfl; have hcz10_2 : w7.cell? ⟨gb1167, 2, none⟩ = some (.string a1_2) := (blk_cell BK1167.out 2).trans rfl; have hfz10_0 := blk_frozen BK1167.out 0; have hfz10_1 := blk_frozen BK1167.out 1; have hfz10_2 := blk_frozen BK1167.out 2))
    go_ret
    exact ⟨by first | rfl | (simp [e1_, e2_] <;> rfl) | (simp [*, e1_, e2_] <;> rfl) | (simp [e3_, e4_]; done) | (simp [*, e3_, e4_]; done), by repeat (first | (with_reducible first | exact HB.out | apply b1_ | apply b2_ | apply b3_ | refine below_set ?_ GE1166.out | refine below_set ?_ GE1167.out) | exact HB.out)⟩
   ·rw [if_neg c5] at H
    have c5b0 : (a0_2.toList == a1_2.toList) = false := beq_eq_false_iff_ne.mpr c5
    have c5b1 : (a0_2.toList != a1_2.toList) = true := bne_iff_ne.mpr c5
    obtain rfl := Option.some.inj H
    go_enter Try.func141, Try.ntmps141
    go_wp2_with (first | ((with_reducible refine gate_dst (N := 2) rfl ?_); refine box_event ?hg (N := 2) ?hd (cs := #[.int .i64 a0_0, .int .i64 a0_1, .string a0_2]) (t := 161) ?hr ?_; (case hd => rfl); (case hg => rfl); (case hr => first | (go_simp; done) | (go_simp; rfl)); intro gb1166 hg w11 hbox hb; have n0_ := am_ (below_step (by repeat (first | (with_reducible first | exact HB.out | apply b1_ | apply b2_ | apply b3_) | exact HB.out)) hb); have n1_ := am_ (hbox); have n2_ := am_ ((by rw [hg]; exact (below_size (by repeat (first | (with_reducible first | exact HB.out | apply b1_ | apply b2_ | apply b3_) | exact HB.out))) : w.heap.size ≤ gb1166)); have n3_ := am_ ((by rw [hg]; exact (below_size (by repeat (first | (with_reducible first | exact HB.out | apply b1_ | apply b2_ | apply b3_) | exact HB.out))) : w.heap.size ≤ gb1166)); clear HB; have HB := n0_; have BK1166 := n1_; have GW1166 := n2_; have GE1166 := n3_; clear n0_ n1_ n2_ n3_; clear hb hbox hg) | ((with_reducible refine gate_dst (N := 3) rfl ?_); refine box_event ?hg (N := 3) ?hd (cs := #[.int .i64 a1_0, .int .i64 a1_1, .string a1_2]) (t := 161) ?hr ?_; (case hd => rfl); (case hg => rfl); (case hr => first | (go_simp; done) | (go_simp; rfl)); intro gb1167 hg w12 hbox hb; have n0_ := am_ (blk_below (g := gb1166) (o := .cells #[.int .i64 a0_0, .int .i64 a0_1, .string a0_2] 161 (0, 0)) (by (with_reducible repeat (first | apply k1_ | apply k2_ | apply k3_)); exact BK1166.out) hb); have n1_ := am_ (below_step (by repeat (first | (with_reducible first | exact HB.out | apply b1_ | apply b2_ | apply b3_ | refine below_set ?_ GE1166.out) | exact HB.out)) hb); have n2_ := am_ (hbox); have n3_ := am_ ((by rw [hg]; exact (below_size (by repeat (first | (with_reducible first | exact HB.out | apply b1_ | apply b2_ | apply b3_ | refine below_set ?_ GE1166.out) | exact HB.out))) : w.heap.size ≤ gb1167)); have n4_ := am_ ((by rw [hg]; exact (below_size (by repeat (first | (with_reducible first | exact HB.out | apply b1_ | apply b2_ | apply b3_ | refine below_set ?_ GE1166.out) | exact HB.out))) : w.heap.size ≤ gb1167)); have n5_ := am_ ((by rw [hg]; exact Nat.ne_of_lt (blk_lt (g := gb1166) (o := .cells #[.int .i64 a0_0, .int .i64 a0_1, .string a0_2] 161 (0, 0)) (by (with_reducible repeat (first | apply k1_ | apply k2_ | apply k3_)); exact BK1166.out)) : gb1166 ≠ gb1167)); have n6_ := am_ ((by rw [hg]; exact Nat.ne_of_gt (blk_lt (g := gb1166) (o := .cells #[.int .i64 a0_0, .int .i64 a0_1, .string a0_2] 161 (0, 0)) (by (with_reducible repeat (first | apply k1_ | apply k2_ | apply k3_)); exact BK1166.out)) : gb1167 ≠ gb1166)); clear BK1166; clear HB; have BK1166 := n0_; have HB := n1_; have BK1167 := n2_; have GW1167 := n3_; have GE1167 := n4_; have NB1166_1167 := n5_; have NB1167_1166 := n6_; clear n0_ n1_ n2_ n3_ n4_ n5_ n6_; clear hb hbox hg; have hnb13 := NB1166_1167.out; have hnc13 := NB1167_1166.out; have hcz14_0 : w12.cell? ⟨gb1166, 0, none⟩ = some (.int .i64 a0_0) := (blk_cell BK1166.out 0).trans rfl; have hcz14_1 : w12.cell? ⟨gb1166, 1, none⟩ = some (.int .i64 a0_1) := (blk_cell BK1166.out 1).trans rfl; have hcz14_2 : w12.cell? ⟨gb1166, 2, none⟩ = some (.string a0_2) := (blk_cell BK1166.out 2).trans rfl; have hfz14_0 := blk_frozen BK1166.out 0; have hfz14_1 := blk_frozen BK1166.out 1; have hfz14_2 := blk_frozen BK1166.out 2; have hcz15_0 : w12.cell? ⟨gb1167, 0, none⟩ = some (.int .i64 a1_0) := (blk_cell BK1167.out 0).trans rfl; have hcz15_1 : w12.cell? ⟨gb1167, 1, none⟩ = some (.int .i64 a1_1) := (blk_cell BK1167.out 1).trans rfl; have hcz15_2 : w12.cell? ⟨gb1167, 2, none⟩ = some (.string a1_2) := (blk_cell BK1167.out 2).trans rfl; have hfz15_0 := blk_frozen BK1167.out 0; have hfz15_1 := blk_frozen BK1167.out 1; have hfz15_2 := blk_frozen BK1167.out 2))
    go_ret
    exact ⟨by first | rfl | (simp [e1_, e2_] <;> rfl) | (simp [*, e1_, e2_] <;> rfl) | (simp [e3_, e4_]; done) | (simp [*, e3_, e4_]; done), by repeat (first | (with_reducible first | exact HB.out | apply b1_ | apply b2_ | apply b3_ | refine below_set ?_ GE1166.out | refine below_set ?_ GE1167.out) | exact HB.out)⟩
  ·rw [if_neg c4] at H
   have c4b0 : (a0_1 == a1_1) = false := beq_eq_false_iff_ne.mpr c4
   have c4b1 : (a0_1 != a1_1) = true := bne_iff_ne.mpr c4
   obtain rfl := Option.some.inj H
   go_enter Try.func141, Try.ntmps141
   go_wp2_with (first | ((with_reducible refine gate_dst (N := 2) rfl ?_); refine box_event ?hg (N := 2) ?hd (cs := #[.int .i64 a0_0, .int .i64 a0_1, .string a0_2]) (t := 161) ?hr ?_; (case hd => rfl); (case hg => rfl); (case hr => first | (go_simp; done) | (go_simp; rfl)); intro gb1166 hg w16 hbox hb; have n0_ := am_ (below_step (by repeat (first | (with_reducible first | exact HB.out | apply b1_ | apply b2_ | apply b3_) | exact HB.out)) hb); have n1_ := am_ (hbox); have n2_ := am_ ((by rw [hg]; exact (below_size (by repeat (first | (with_reducible first | exact HB.out | apply b1_ | apply b2_ | apply b3_) | exact HB.out))) : w.heap.size ≤ gb1166)); have n3_ := am_ ((by rw [hg]; exact (below_size (by repeat (first | (with_reducible first | exact HB.out | apply b1_ | apply b2_ | apply b3_) | exact HB.out))) : w.heap.size ≤ gb1166)); clear HB; have HB := n0_; have BK1166 := n1_; have GW1166 := n2_; have GE1166 := n3_; clear n0_ n1_ n2_ n3_; clear hb hbox hg) | ((with_reducible refine gate_dst (N := 3) rfl ?_); refine box_event ?hg (N := 3) ?hd (cs := #[.int .i64 a1_0, .int .i64 a1_1, .string a1_2]) (t := 161) ?hr ?_; (case hd => rfl); (case hg => rfl); (case hr => first | (go_simp; done) | (go_simp; rfl)); intro gb1167 hg w17 hbox hb; have n0_ := am_ (blk_below (g := gb1166) (o := .cells #[.int .i64 a0_0, .int .i64 a0_1, .string a0_2] 161 (0, 0)) (by (with_reducible repeat (first | apply k1_ | apply k2_ | apply k3_)); exact BK1166.out) hb); have n1_ := am_ (below_step (by repeat (first | (with_reducible first | exact HB.out | apply b1_ | apply b2_ | apply b3_ | refine below_set ?_ GE1166.out) | exact HB.out)) hb); have n2_ := am_ (hbox); have n3_ := am_ ((by rw [hg]; exact (below_size (by repeat (first | (with_reducible first | exact HB.out | apply b1_ | apply b2_ | apply b3_ | refine below_set ?_ GE1166.out) | exact HB.out))) : w.heap.size ≤ gb1167)); have n4_ := am_ ((by rw [hg]; exact (below_size (by repeat (first | (with_reducible first | exact HB.out | apply b1_ | apply b2_ | apply b3_ | refine below_set ?_ GE1166.out) | exact HB.out))) : w.heap.size ≤ gb1167)); have n5_ := am_ ((by rw [hg]; exact Nat.ne_of_lt (blk_lt (g := gb1166) (o := .cells #[.int .i64 a0_0, .int .i64 a0_1, .string a0_2] 161 (0, 0)) (by (with_reducible repeat (first | apply k1_ | apply k2_ | apply k3_)); exact BK1166.out)) : gb1166 ≠ gb1167)); have n6_ := am_ ((by rw [hg]; exact Nat.ne_of_gt (blk_lt (g := gb1166) (o := .cells #[.int .i64 a0_0, .int .i64 a0_1, .string a0_2] 161 (0, 0)) (by (with_reducible repeat (first | apply k1_ | apply k2_ | apply k3_)); exact BK1166.out)) : gb1167 ≠ gb1166)); clear BK1166; clear HB; have BK1166 := n0_; have HB := n1_; have BK1167 := n2_; have GW1167 := n3_; have GE1167 := n4_; have NB1166_1167 := n5_; have NB1167_1166 := n6_; clear n0_ n1_ n2_ n3_ n4_ n5_ n6_; clear hb hbox hg; have hnb18 := NB1166_1167.out; have hnc18 := NB1167_1166.out; have hcz19_0 : w17.cell? ⟨gb1166, 0, none⟩ = some (.int .i64 a0_0) := (blk_cell BK1166.out 0).trans rfl; have hcz19_1 : w17.cell? ⟨gb1166, 1, none⟩ = some (.int .i64 a0_1) := (blk_cell BK1166.out 1).trans rfl; have hcz19_2 : w17.cell? ⟨gb1166, 2, none⟩ = some (.string a0_2) := (blk_cell BK1166.out 2).trans rfl; have hfz19_0 := blk_frozen BK1166.out 0; have hfz19_1 := blk_frozen BK1166.out 1; have hfz19_2 := blk_frozen BK1166.out 2; have hcz20_0 : w17.cell? ⟨gb1167, 0, none⟩ = some (.int .i64 a1_0) := (blk_cell BK1167.out 0).trans rfl; have hcz20_1 : w17.cell? ⟨gb1167, 1, none⟩ = some (.int .i64 a1_1) := (blk_cell BK1167.out 1).trans rfl; have hcz20_2 : w17.cell? ⟨gb1167, 2, none⟩ = some (.string a1_2) := (blk_cell BK1167.out 2).trans rfl; have hfz20_0 := blk_frozen BK1167.out 0; have hfz20_1 := blk_frozen BK1167.out 1; have hfz20_2 := blk_frozen BK1167.out 2))
   go_ret
   exact ⟨by first | rfl | (simp [e1_, e2_] <;> rfl) | (simp [*, e1_, e2_] <;> rfl) | (simp [e3_, e4_]; done) | (simp [*, e3_, e4_]; done), by repeat (first | (with_reducible first | exact HB.out | apply b1_ | apply b2_ | apply b3_ | refine below_set ?_ GE1166.out | refine below_set ?_ GE1167.out) | exact HB.out)⟩
 ·rw [if_neg c3] at H
  have c3b0 : (a0_0 == a1_0) = false := beq_eq_false_iff_ne.mpr c3
  have c3b1 : (a0_0 != a1_0) = true := bne_iff_ne.mpr c3
  obtain rfl := Option.some.inj H
  go_enter Try.func141, Try.ntmps141
  go_wp2_with (first | ((with_reducible refine gate_dst (N := 2) rfl ?_); refine box_event ?hg (N := 2) ?hd (cs := #[.int .i64 a0_0, .int .i64 a0_1, .string a0_2]) (t := 161) ?hr ?_; (case hd => rfl); (case hg => rfl); (case hr => first | (go_simp; done) | (go_simp; rfl)); intro gb1166 hg w21 hbox hb; have n0_ := am_ (below_step (by repeat (first | (with_reducible first | exact HB.out | apply b1_ | apply b2_ | apply b3_) | exact HB.out)) hb); have n1_ := am_ (hbox); have n2_ := am_ ((by rw [hg]; exact (below_size (by repeat (first | (with_reducible first | exact HB.out | apply b1_ | apply b2_ | apply b3_) | exact HB.out))) : w.heap.size ≤ gb1166)); have n3_ := am_ ((by rw [hg]; exact (below_size (by repeat (first | (with_reducible first | exact HB.out | apply b1_ | apply b2_ | apply b3_) | exact HB.out))) : w.heap.size ≤ gb1166)); clear HB; have HB := n0_; have BK1166 := n1_; have GW1166 := n2_; have GE1166 := n3_; clear n0_ n1_ n2_ n3_; clear hb hbox hg) | ((with_reducible refine gate_dst (N := 3) rfl ?_); refine box_event ?hg (N := 3) ?hd (cs := #[.int .i64 a1_0, .int .i64 a1_1, .string a1_2]) (t := 161) ?hr ?_; (case hd => rfl); (case hg => rfl); (case hr => first | (go_simp; done) | (go_simp; rfl)); intro gb1167 hg w22 hbox hb; have n0_ := am_ (blk_below (g := gb1166) (o := .cells #[.int .i64 a0_0, .int .i64 a0_1, .string a0_2] 161 (0, 0)) (by (with_reducible repeat (first | apply k1_ | apply k2_ | apply k3_)); exact BK1166.out) hb); have n1_ := am_ (below_step (by repeat (first | (with_reducible first | exact HB.out | apply b1_ | apply b2_ | apply b3_ | refine below_set ?_ GE1166.out) | exact HB.out)) hb); have n2_ := am_ (hbox); have n3_ := am_ ((by rw [hg]; exact (below_size (by repeat (first | (with_reducible first | exact HB.out | apply b1_ | apply b2_ | apply b3_ | refine below_set ?_ GE1166.out) | exact HB.out))) : w.heap.size ≤ gb1167)); have n4_ := am_ ((by rw [hg]; exact (below_size (by repeat (first | (with_reducible first | exact HB.out | apply b1_ | apply b2_ | apply b3_ | refine below_set ?_ GE1166.out) | exact HB.out))) : w.heap.size ≤ gb1167)); have n5_ := am_ ((by rw [hg]; exact Nat.ne_of_lt (blk_lt (g := gb1166) (o := .cells #[.int .i64 a0_0, .int .i64 a0_1, .string a0_2] 161 (0, 0)) (by (with_reducible repeat (first | apply k1_ | apply k2_ | apply k3_)); exact BK1166.out)) : gb1166 ≠ gb1167)); have n6_ := am_ ((by rw [hg]; exact Nat.ne_of_gt (blk_lt (g := gb1166) (o := .cells #[.int .i64 a0_0, .int .i64 a0_1, .string a0_2] 161 (0, 0)) (by (with_reducible repeat (first | apply k1_ | apply k2_ | apply k3_)); exact BK1166.out)) : gb1167 ≠ gb1166)); clear BK1166; clear HB; have BK1166 := n0_; have HB := n1_; have BK1167 := n2_; have GW1167 := n3_; have GE1167 := n4_; have NB1166_1167 := n5_; have NB1167_1166 := n6_; clear n0_ n1_ n2_ n3_ n4_ n5_ n6_; clear hb hbox hg; have hnb23 := NB1166_1167.out; have hnc23 := NB1167_1166.out; have hcz24_0 : w22.cell? ⟨gb1166, 0, none⟩ = some (.int .i64 a0_0) := (blk_cell BK1166.out 0).trans rfl; have hcz24_1 : w22.cell? ⟨gb1166, 1, none⟩ = some (.int .i64 a0_1) := (blk_cell BK1166.out 1).trans rfl; have hcz24_2 : w22.cell? ⟨gb1166, 2, none⟩ = some (.string a0_2) := (blk_cell BK1166.out 2).trans rfl; have hfz24_0 := blk_frozen BK1166.out 0; have hfz24_1 := blk_frozen BK1166.out 1; have hfz24_2 := blk_frozen BK1166.out 2; have hcz25_0 : w22.cell? ⟨gb1167, 0, none⟩ = some (.int .i64 a1_0) := (blk_cell BK1167.out 0).trans rfl; have hcz25_1 : w22.cell? ⟨gb1167, 1, none⟩ = some (.int .i64 a1_1) := (blk_cell BK1167.out 1).trans rfl; have hcz25_2 : w22.cell? ⟨gb1167, 2, none⟩ = some (.string a1_2) := (blk_cell BK1167.out 2).trans rfl; have hfz25_0 := blk_frozen BK1167.out 0; have hfz25_1 := blk_frozen BK1167.out 1; have hfz25_2 := blk_frozen BK1167.out 2))
  go_ret
  exact ⟨by first | rfl | (simp [e1_, e2_] <;> rfl) | (simp [*, e1_, e2_] <;> rfl) | (simp [e3_, e4_]; done) | (simp [*, e3_, e4_]; done), by repeat (first | (with_reducible first | exact HB.out | apply b1_ | apply b2_ | apply b3_ | refine below_set ?_ GE1166.out | refine below_set ?_ GE1167.out) | exact HB.out)⟩
def laws_eqReadingS.T6 : Bool × List (List Nat × List Nat) := (true, [([], []), ([], []), ([0, 1], [0, 1]), ([2], [2]), ([], []), ([], []), ([4, 5], [4, 5]), ([6], [6]), ([3, 7], [3, 7]), ([8], [8])])
def laws_eqReadingS.B6 : List Nat := [0, 0, 3, 7, 0, 0, 48, 112, 255, 511]
theorem laws_eqReadingS.tab6 : rtab .any (opsOf Try.f94 6) = laws_eqReadingS.T6 := by kernel_rfl
theorem laws_eqReadingS.bits6 : waitsOk laws_eqReadingS.T6.2 laws_eqReadingS.B6 = true := by kernel_rfl
set_option maxHeartbeats 8000000 in
set_option maxRecDepth 100000 in
theorem laws_eqReadingS.calls (k : Nat) (A0 : Option Addr) (c0 : Nat) (l0 : List (S161)) (A1 : Option Addr) (c1 : Nat) (l1 : List (S161)) (r : Bool) (w : World) (hr0 : Kd.C k161 w A0 l0.length l0) (hc0 : l0.length ≤ c0) (hr1 : Kd.C k161 w A1 l1.length l1) (hc1 : l1.length ≤ c1) (h : laws_eqReadingS.f k l0 l1 = some r) :
  Calls Try.prog 94 #[.slice A0 l0.length c0, .slice A1 l1.length c1] w fun e w' => e = .returned (.bool r) ∧ Below w.heap.size w w' := by
 have hu161 := Try.underlying161
 have HR0 := am_ hr0
 have HC0 := am_ hc0
 clear hr0 hc0
 have HR1 := am_ hr1
 have HC1 := am_ hc1
 clear hr1 hc1
 have HB := am_ (Below.refl w.heap.size w)
 have H : (if (l0.length : Int) = (l1.length : Int) then (laws_eqReadingS.l0 k l0 l1 0) else (some false)) = some r := h
 clear h
 by_cases c3 : (l0.length : Int) = (l1.length : Int)
 ·rw [if_pos c3] at H
  have c3b0 : ((l0.length : Int) == (l1.length : Int)) = true := beq_iff_eq.mpr c3
  have c3b1 : ((l0.length : Int) != (l1.length : Int)) = false := bne_eq_false_iff_eq.mpr c3
  have c3b2 : (l0.length == l1.length) = true := by first | simpa using c3 | (simp at c3 ⊢; omega)
  clear c3
  have H' := am_ H
  clear H
  go_enter Try.func94, Try.ntmps94
  go_wp2
  go_loopg [5] k (fun kq v5 w' => ∃ (x5_1 : Int), v5 = .int .i64 x5_1 ∧ Aside0 (laws_eqReadingS.l0 kq l0 l1 x5_1 = some r) ∧ Aside0 (kq ≤ k) ∧ Aside0 (Below w.heap.size w w'))
  case atStart => exact ⟨(0), (by first | rfl | (simp; done) | (simp [*]; done)), H', ⟨Nat.le_refl _⟩, ⟨by repeat (first | (with_reducible first | exact HB.out | apply b1_ | apply b2_ | apply b3_) | exact HB.out)⟩⟩
  case round =>
   clear H'
   try clear c1
   try clear p2
   try clear c3
   try clear c3b0
   try clear c3b1
   try clear c3b2
   obtain ⟨x5_1, rfl, HA, HK1, HB⟩ := hrel
   cases gk with
   | zero => exact absurd HA.out (by simp [laws_eqReadingS.l0])
   | succ k1 =>
    have H := HA.out
    clear HA
    simp only [laws_eqReadingS.l0] at H
    by_cases c4 : x5_1 < (l0.length : Int)
    ·rw [if_pos c4] at H
     have c4b0 : decide (x5_1 < (l0.length : Int)) = true := decide_eq_true c4
     clear c4
     by_cases c5 : 0 ≤ x5_1
     ·rw [if_pos c5] at H
      have c5b0 : decide (0 ≤ x5_1) = true := decide_eq_true c5
      clear c5
      by_cases c6 : x5_1 < (l1.length : Int)
      ·rw [if_pos c6] at H
       have c6b0 : decide (x5_1 < (l1.length : Int)) = true := decide_eq_true c6
       clear c6
       replace H := Option.bind_eq_some_iff.mp H
       obtain ⟨t1170, A70, H⟩ := H
       replace H : (if t1170 = true then (laws_eqReadingS.l0 k1 l0 l1 (wrap64 (x5_1 + 1))) else (some false)) = some r := H
       have A7 := am_ A70
       clear A70
       by_cases c8 : t1170 = true
       ·subst c8
        have H1 : (laws_eqReadingS.l0 k1 l0 l1 (wrap64 (x5_1 + 1))) = some r := by rw [if_pos rfl] at H; exact H
        clear H
        have H := H1
        clear H1
        have H' := am_ H
        clear H
        try go_wp2
        have n0_ := am_ (below_drew1 HB.out)
        clear HB
        have HB := n0_
        clear n0_
        have p1168 : 0 ≤ (x5_1 : Int) := o1_ (by first | (with_reducible assumption) | assumption)
        have q1168 : x5_1 < (l0.length : Int) := o1_ (by first | (with_reducible assumption) | assumption)
        obtain ⟨ad1168, e1168, hx1168_0, hx1168_1, hx1168_2⟩ := at_T161 HR0.out x5_1 p1168 q1168
        have hw1168_2 := hx1168_2
        have hw1168_1 := hx1168_1
        have hw1168_0 := hx1168_0
        cases e1168
        replace hx1168_0 := (HB.out.cell (World.block_lt_of_cell? w _ hx1168_0)).trans hx1168_0
        replace hx1168_1 := (HB.out.cell (World.block_lt_of_cell? w _ hx1168_1)).trans hx1168_1
        replace hx1168_2 := (HB.out.cell (World.block_lt_of_cell? w _ hx1168_2)).trans hx1168_2
        replace p1168 := eq_true p1168
        replace q1168 := eq_true q1168
        have p1169 : 0 ≤ (x5_1 : Int) := o1_ (by first | (with_reducible assumption) | assumption)
        have q1169 : x5_1 < (l1.length : Int) := o1_ (by first | (with_reducible assumption) | assumption)
        obtain ⟨ad1169, e1169, hx1169_0, hx1169_1, hx1169_2⟩ := at_T161 HR1.out x5_1 p1169 q1169
        have hw1169_2 := hx1169_2
        have hw1169_1 := hx1169_1
        have hw1169_0 := hx1169_0
        cases e1169
        replace hx1169_0 := (HB.out.cell (World.block_lt_of_cell? w _ hx1169_0)).trans hx1169_0
        replace hx1169_1 := (HB.out.cell (World.block_lt_of_cell? w _ hx1169_1)).trans hx1169_1
        replace hx1169_2 := (HB.out.cell (World.block_lt_of_cell? w _ hx1169_2)).trans hx1169_2
        replace p1169 := eq_true p1169
        replace q1169 := eq_true q1169
        refine start_ (n := 10) (S := fun w' => w'.cell? (ad1168.add ((x5_1).toNat * 3)) = some (.int .i64 ((rd_T161 l0 x5_1).f0)) ∧ w'.cell? ⟨(ad1168.add ((x5_1).toNat * 3)).block, (ad1168.add ((x5_1).toNat * 3)).off + 1, none⟩ = some (.int .i64 ((rd_T161 l0 x5_1).f1)) ∧ w'.cell? ⟨(ad1168.add ((x5_1).toNat * 3)).block, (ad1168.add ((x5_1).toNat * 3)).off + 2, none⟩ = some (.string ((rd_T161 l0 x5_1).f2)) ∧ w'.cell? (ad1169.add ((x5_1).toNat * 3)) = some (.int .i64 ((rd_T161 l1 x5_1).f0)) ∧ w'.cell? ⟨(ad1169.add ((x5_1).toNat * 3)).block, (ad1169.add ((x5_1).toNat * 3)).off + 1, none⟩ = some (.int .i64 ((rd_T161 l1 x5_1).f1)) ∧ w'.cell? ⟨(ad1169.add ((x5_1).toNat * 3)).block, (ad1169.add ((x5_1).toNat * 3)).off + 2, none⟩ = some (.string ((rd_T161 l1 x5_1).f2))) (ds := []) #[false, false, false, false, false, false, false, false, false, false] (by kernel_rfl) rfl rfl ⟨((HB.out.cell (World.block_lt_of_cell? w _ hw1168_0)).trans hw1168_0), ((HB.out.cell (World.block_lt_of_cell? w _ hw1168_1)).trans hw1168_1), ((HB.out.cell (World.block_lt_of_cell? w _ hw1168_2)).trans hw1168_2), ((HB.out.cell (World.block_lt_of_cell? w _ hw1169_0)).trans hw1169_0), ((HB.out.cell (World.block_lt_of_cell? w _ hw1169_1)).trans hw1169_1), ((HB.out.cell (World.block_lt_of_cell? w _ hw1169_2)).trans hw1169_2)⟩ (fun hHeld => ?_); refine with_tabW laws_eqReadingS.tab6 laws_eqReadingS.bits6 (fun HT_ HW_ => ?_)
        generalize wr.drew = w9 at HB hx1168_0 hx1168_1 hx1168_2 hx1169_0 hx1169_1 hx1169_2 hHeld ⊢
        refine pure_ (i := 0) (N := some 17) (v := ?_) (a' := ?_) #[true, false, false, false, false, false, false, false, false, false] rfl rfl (any_of HT_.out (by kernel_rfl)) (fun _ _ _ h => h) (Or.inl ⟨by rfl, ?_⟩) ?_ ?_
        rotate_left
        ·intro w'
         go_simp
         with_reducible rfl
        rotate_left
        ·simp only [Act.put, p1_, p2_, p3_, i64_w, i32_w]
         rfl
        refine pure_ (i := 1) (N := some 18) (v := ?_) (a' := ?_) #[true, true, false, false, false, false, false, false, false, false] rfl rfl (any_of HT_.out (by kernel_rfl)) (fun _ _ _ h => h) (Or.inl ⟨by rfl, ?_⟩) ?_ ?_
        rotate_left
        ·intro w'
         go_simp
         with_reducible rfl
        rotate_left
        ·simp only [Act.put, p1_, p2_, p3_, i64_w, i32_w]
         rfl
        refine pure_ (i := 2) (N := some 19) (v := ?_) (a' := ?_) #[true, true, true, false, false, false, false, false, false, false] rfl rfl (any_of HT_.out (by kernel_rfl)) (fun _ _ _ h => h) (Or.inl ⟨by rfl, ?_⟩) ?_ ?_
        rotate_left
        ·intro w'
         go_simp
         with_reducible rfl
        rotate_left
        ·simp only [Act.put, p1_, p2_, p3_, i64_w, i32_w]
         rfl
        refine pure_ (i := 4) (N := some 21) (v := ?_) (a' := ?_) #[true, true, true, false, true, false, false, false, false, false] rfl rfl (any_of HT_.out (by kernel_rfl)) (fun _ _ _ h => h) (Or.inl ⟨by rfl, ?_⟩) ?_ ?_
        rotate_left
        ·intro w'
         go_simp
         with_reducible rfl
        rotate_left
        ·simp only [Act.put, p1_, p2_, p3_, i64_w, i32_w]
         rfl
        refine pure_ (i := 5) (N := some 22) (v := ?_) (a' := ?_) #[true, true, true, false, true, true, false, false, false, false] rfl rfl (any_of HT_.out (by kernel_rfl)) (fun _ _ _ h => h) (Or.inl ⟨by rfl, ?_⟩) ?_ ?_
        rotate_left
        ·intro w'
         go_simp
         with_reducible rfl
        rotate_left
        ·simp only [Act.put, p1_, p2_, p3_, i64_w, i32_w]
         rfl
        refine pure_ (i := 6) (N := some 23) (v := ?_) (a' := ?_) #[true, true, true, false, true, true, true, false, false, false] rfl rfl (any_of HT_.out (by kernel_rfl)) (fun _ _ _ h => h) (Or.inl ⟨by rfl, ?_⟩) ?_ ?_
        rotate_left
        ·intro w'
         go_simp
         with_reducible rfl
        rotate_left
        ·simp only [Act.put, p1_, p2_, p3_, i64_w, i32_w]
         rfl
        refine take_ (i := 3) (N := some 20) (v := ?_) (a' := ?_) #[true, true, true, true, true, true, true, false, false, false] rfl rfl (take_ofW HT_.out HW_.out (by kernel_rfl)) (fun _ _ _ h => h) (Or.inl ⟨by rfl, ?_⟩) hHeld ?_ ?_
        rotate_left
        ·rintro w' ⟨s0, s1, s2, s3, s4, s5⟩
         go_simp
         with_reducible rfl
        rotate_left
        ·simp only [Act.put, p1_, p2_, p3_, i64_w, i32_w]
         rfl
        refine take_ (i := 7) (N := some 24) (v := ?_) (a' := ?_) #[true, true, true, true, true, true, true, true, false, false] rfl rfl (take_ofW HT_.out HW_.out (by kernel_rfl)) (fun _ _ _ h => h) (Or.inl ⟨by rfl, ?_⟩) hHeld ?_ ?_
        rotate_left
        ·rintro w' ⟨s0, s1, s2, s3, s4, s5⟩
         go_simp
         with_reducible rfl
        rotate_left
        ·simp only [Act.put, p1_, p2_, p3_, i64_w, i32_w]
         rfl
        refine one_ (i := 8) (N := some 25) #[true, true, true, true, true, true, true, true, true, false] rfl rfl (one_of HT_.out (by kernel_rfl)) (by decide) (fun K hK => ?_)
        refine goes_ Try.func141 (by kernel_rfl) rfl #[.agg #[.int .i64 ((rd_T161 l0 x5_1).f0), .int .i64 ((rd_T161 l0 x5_1).f1), .string ((rd_T161 l0 x5_1).f2)], .agg #[.int .i64 ((rd_T161 l1 x5_1).f0), .int .i64 ((rd_T161 l1 x5_1).f1), .string ((rd_T161 l1 x5_1).f2)]] (by rfl) rfl rfl (by (try simp only [m1_, m2_, m3_]); first | done | rfl | (simp only [d1_, d2_]; rfl)) ?_
        with_reducible refine (laws_eqReading.calls ((rd_T161 l0 x5_1).f0) ((rd_T161 l0 x5_1).f1) ((rd_T161 l0 x5_1).f2) ((rd_T161 l1 x5_1).f0) ((rd_T161 l1 x5_1).f1) ((rd_T161 l1 x5_1).f2) true _ A7.out).mono ?_
        rintro e w10 ⟨rfl, hb⟩
        refine ⟨_, rfl, ?_⟩
        have n0_ := am_ (below_step (by repeat (first | (with_reducible first | exact HB.out | apply b1_ | apply b2_ | apply b3_) | exact HB.out)) hb)
        clear HB
        have HB := n0_
        clear n0_
        (try clear hb)
        (try clear hb2)
        (try clear hk)
        (try clear hi)
        refine hK.out _ _ ⟨((HB.out.cell (World.block_lt_of_cell? w _ hw1168_0)).trans hw1168_0), ((HB.out.cell (World.block_lt_of_cell? w _ hw1168_1)).trans hw1168_1), ((HB.out.cell (World.block_lt_of_cell? w _ hw1168_2)).trans hw1168_2), ((HB.out.cell (World.block_lt_of_cell? w _ hw1169_0)).trans hw1169_0), ((HB.out.cell (World.block_lt_of_cell? w _ hw1169_1)).trans hw1169_1), ((HB.out.cell (World.block_lt_of_cell? w _ hw1169_2)).trans hw1169_2)⟩ (fun hHeld => ?_)
        clear hK K
        refine norm_ (a' := ?_) ?_ ?_
        rotate_left
        ·show Act.put _ (some 25) _ = _
         simp only [Act.put, p1_, p2_, p3_, i64_w, i32_w]
         rfl
        refine pure_ (i := 9) (N := some 26) (v := ?_) (a' := ?_) #[true, true, true, true, true, true, true, true, true, true] rfl rfl (any_of HT_.out (by kernel_rfl)) (fun _ _ _ h => h) (Or.inl ⟨by rfl, ?_⟩) ?_ ?_
        rotate_left
        ·intro w'
         go_simp
         with_reducible rfl
        rotate_left
        ·simp only [Act.put, p1_, p2_, p3_, i64_w, i32_w]
         rfl
        refine done_ (done_of HT_.out (by kernel_rfl)) ?_
        try go_wp2
        go_roundg k1
        case measure => have := HK1.out; omega
        case rel => exact ⟨(wrap64 (x5_1 + 1)), (by first | rfl | (simp; done) | (simp [*]; done)), H', ⟨by have := HK1.out; omega⟩, ⟨by repeat (first | (with_reducible first | exact HB.out | apply b1_ | apply b2_ | apply b3_) | exact HB.out)⟩⟩
       ·replace c8 := Bool.eq_false_iff.mpr c8
        subst c8
        have H1 : (some false) = some r := by rw [if_neg (show ¬ (false = true) by decide)] at H; exact H
        clear H
        have H := H1
        clear H1
        obtain rfl := Option.some.inj H
        try go_wp2
        have n0_ := am_ (below_drew1 HB.out)
        clear HB
        have HB := n0_
        clear n0_
        have p1168 : 0 ≤ (x5_1 : Int) := o1_ (by first | (with_reducible assumption) | assumption)
        have q1168 : x5_1 < (l0.length : Int) := o1_ (by first | (with_reducible assumption) | assumption)
        obtain ⟨ad1168, e1168, hx1168_0, hx1168_1, hx1168_2⟩ := at_T161 HR0.out x5_1 p1168 q1168
        have hw1168_2 := hx1168_2
        have hw1168_1 := hx1168_1
        have hw1168_0 := hx1168_0
        cases e1168
        replace hx1168_0 := (HB.out.cell (World.block_lt_of_cell? w _ hx1168_0)).trans hx1168_0
        replace hx1168_1 := (HB.out.cell (World.block_lt_of_cell? w _ hx1168_1)).trans hx1168_1
        replace hx1168_2 := (HB.out.cell (World.block_lt_of_cell? w _ hx1168_2)).trans hx1168_2
        replace p1168 := eq_true p1168
        replace q1168 := eq_true q1168
        have p1169 : 0 ≤ (x5_1 : Int) := o1_ (by first | (with_reducible assumption) | assumption)
        have q1169 : x5_1 < (l1.length : Int) := o1_ (by first | (with_reducible assumption) | assumption)
        obtain ⟨ad1169, e1169, hx1169_0, hx1169_1, hx1169_2⟩ := at_T161 HR1.out x5_1 p1169 q1169
        have hw1169_2 := hx1169_2
        have hw1169_1 := hx1169_1
        have hw1169_0 := hx1169_0
        cases e1169
        replace hx1169_0 := (HB.out.cell (World.block_lt_of_cell? w _ hx1169_0)).trans hx1169_0
        replace hx1169_1 := (HB.out.cell (World.block_lt_of_cell? w _ hx1169_1)).trans hx1169_1
        replace hx1169_2 := (HB.out.cell (World.block_lt_of_cell? w _ hx1169_2)).trans hx1169_2
        replace p1169 := eq_true p1169
        replace q1169 := eq_true q1169
        refine start_ (n := 10) (S := fun w' => w'.cell? (ad1168.add ((x5_1).toNat * 3)) = some (.int .i64 ((rd_T161 l0 x5_1).f0)) ∧ w'.cell? ⟨(ad1168.add ((x5_1).toNat * 3)).block, (ad1168.add ((x5_1).toNat * 3)).off + 1, none⟩ = some (.int .i64 ((rd_T161 l0 x5_1).f1)) ∧ w'.cell? ⟨(ad1168.add ((x5_1).toNat * 3)).block, (ad1168.add ((x5_1).toNat * 3)).off + 2, none⟩ = some (.string ((rd_T161 l0 x5_1).f2)) ∧ w'.cell? (ad1169.add ((x5_1).toNat * 3)) = some (.int .i64 ((rd_T161 l1 x5_1).f0)) ∧ w'.cell? ⟨(ad1169.add ((x5_1).toNat * 3)).block, (ad1169.add ((x5_1).toNat * 3)).off + 1, none⟩ = some (.int .i64 ((rd_T161 l1 x5_1).f1)) ∧ w'.cell? ⟨(ad1169.add ((x5_1).toNat * 3)).block, (ad1169.add ((x5_1).toNat * 3)).off + 2, none⟩ = some (.string ((rd_T161 l1 x5_1).f2))) (ds := []) #[false, false, false, false, false, false, false, false, false, false] (by kernel_rfl) rfl rfl ⟨((HB.out.cell (World.block_lt_of_cell? w _ hw1168_0)).trans hw1168_0), ((HB.out.cell (World.block_lt_of_cell? w _ hw1168_1)).trans hw1168_1), ((HB.out.cell (World.block_lt_of_cell? w _ hw1168_2)).trans hw1168_2), ((HB.out.cell (World.block_lt_of_cell? w _ hw1169_0)).trans hw1169_0), ((HB.out.cell (World.block_lt_of_cell? w _ hw1169_1)).trans hw1169_1), ((HB.out.cell (World.block_lt_of_cell? w _ hw1169_2)).trans hw1169_2)⟩ (fun hHeld => ?_); refine with_tabW laws_eqReadingS.tab6 laws_eqReadingS.bits6 (fun HT_ HW_ => ?_)
        generalize wr.drew = w11 at HB hx1168_0 hx1168_1 hx1168_2 hx1169_0 hx1169_1 hx1169_2 hHeld ⊢
        refine pure_ (i := 0) (N := some 17) (v := ?_) (a' := ?_) #[true, false, false, false, false, false, false, false, false, false] rfl rfl (any_of HT_.out (by kernel_rfl)) (fun _ _ _ h => h) (Or.inl ⟨by rfl, ?_⟩) ?_ ?_
        rotate_left
        ·intro w'
         go_simp
         with_reducible rfl
        rotate_left
        ·simp only [Act.put, p1_, p2_, p3_, i64_w, i32_w]
         rfl
        refine pure_ (i := 1) (N := some 18) (v := ?_) (a' := ?_) #[true, true, false, false, false, false, false, false, false, false] rfl rfl (any_of HT_.out (by kernel_rfl)) (fun _ _ _ h => h) (Or.inl ⟨by rfl, ?_⟩) ?_ ?_
        rotate_left
        ·intro w'
         go_simp
         with_reducible rfl
        rotate_left
        ·simp only [Act.put, p1_, p2_, p3_, i64_w, i32_w]
         rfl
        refine pure_ (i := 2) (N := some 19) (v := ?_) (a' := ?_) #[true, true, true, false, false, false, false, false, false, false] rfl rfl (any_of HT_.out (by kernel_rfl)) (fun _ _ _ h => h) (Or.inl ⟨by rfl, ?_⟩) ?_ ?_
        rotate_left
        ·intro w'
         go_simp
         with_reducible rfl
        rotate_left
        ·simp only [Act.put, p1_, p2_, p3_, i64_w, i32_w]
         rfl
        refine pure_ (i := 4) (N := some 21) (v := ?_) (a' := ?_) #[true, true, true, false, true, false, false, false, false, false] rfl rfl (any_of HT_.out (by kernel_rfl)) (fun _ _ _ h => h) (Or.inl ⟨by rfl, ?_⟩) ?_ ?_
        rotate_left
        ·intro w'
         go_simp
         with_reducible rfl
        rotate_left
        ·simp only [Act.put, p1_, p2_, p3_, i64_w, i32_w]
         rfl
        refine pure_ (i := 5) (N := some 22) (v := ?_) (a' := ?_) #[true, true, true, false, true, true, false, false, false, false] rfl rfl (any_of HT_.out (by kernel_rfl)) (fun _ _ _ h => h) (Or.inl ⟨by rfl, ?_⟩) ?_ ?_
        rotate_left
        ·intro w'
         go_simp
         with_reducible rfl
        rotate_left
        ·simp only [Act.put, p1_, p2_, p3_, i64_w, i32_w]
         rfl
        refine pure_ (i := 6) (N := some 23) (v := ?_) (a' := ?_) #[true, true, true, false, true, true, true, false, false, false] rfl rfl (any_of HT_.out (by kernel_rfl)) (fun _ _ _ h => h) (Or.inl ⟨by rfl, ?_⟩) ?_ ?_
        rotate_left
        ·intro w'
         go_simp
         with_reducible rfl
        rotate_left
        ·simp only [Act.put, p1_, p2_, p3_, i64_w, i32_w]
         rfl
        refine take_ (i := 3) (N := some 20) (v := ?_) (a' := ?_) #[true, true, true, true, true, true, true, false, false, false] rfl rfl (take_ofW HT_.out HW_.out (by kernel_rfl)) (fun _ _ _ h => h) (Or.inl ⟨by rfl, ?_⟩) hHeld ?_ ?_
        rotate_left
        ·rintro w' ⟨s0, s1, s2, s3, s4, s5⟩
         go_simp
         with_reducible rfl
        rotate_left
        ·simp only [Act.put, p1_, p2_, p3_, i64_w, i32_w]
         rfl
        refine take_ (i := 7) (N := some 24) (v := ?_) (a' := ?_) #[true, true, true, true, true, true, true, true, false, false] rfl rfl (take_ofW HT_.out HW_.out (by kernel_rfl)) (fun _ _ _ h => h) (Or.inl ⟨by rfl, ?_⟩) hHeld ?_ ?_
        rotate_left
        ·rintro w' ⟨s0, s1, s2, s3, s4, s5⟩
         go_simp
         with_reducible rfl
        rotate_left
        ·simp only [Act.put, p1_, p2_, p3_, i64_w, i32_w]
         rfl
        refine one_ (i := 8) (N := some 25) #[true, true, true, true, true, true, true, true, true, false] rfl rfl (one_of HT_.out (by kernel_rfl)) (by decide) (fun K hK => ?_)
        refine goes_ Try.func141 (by kernel_rfl) rfl #[.agg #[.int .i64 ((rd_T161 l0 x5_1).f0), .int .i64 ((rd_T161 l0 x5_1).f1), .string ((rd_T161 l0 x5_1).f2)], .agg #[.int .i64 ((rd_T161 l1 x5_1).f0), .int .i64 ((rd_T161 l1 x5_1).f1), .string ((rd_T161 l1 x5_1).f2)]] (by rfl) rfl rfl (by (try simp only [m1_, m2_, m3_]); first | done | rfl | (simp only [d1_, d2_]; rfl)) ?_
        with_reducible refine (laws_eqReading.calls ((rd_T161 l0 x5_1).f0) ((rd_T161 l0 x5_1).f1) ((rd_T161 l0 x5_1).f2) ((rd_T161 l1 x5_1).f0) ((rd_T161 l1 x5_1).f1) ((rd_T161 l1 x5_1).f2) false _ A7.out).mono ?_
        rintro e w12 ⟨rfl, hb⟩
        refine ⟨_, rfl, ?_⟩
        have n0_ := am_ (below_step (by repeat (first | (with_reducible first | exact HB.out | apply b1_ | apply b2_ | apply b3_) | exact HB.out)) hb)
        clear HB
        have HB := n0_
        clear n0_
        (try clear hb)
        (try clear hb2)
        (try clear hk)
        (try clear hi)
        refine hK.out _ _ ⟨((HB.out.cell (World.block_lt_of_cell? w _ hw1168_0)).trans hw1168_0), ((HB.out.cell (World.block_lt_of_cell? w _ hw1168_1)).trans hw1168_1), ((HB.out.cell (World.block_lt_of_cell? w _ hw1168_2)).trans hw1168_2), ((HB.out.cell (World.block_lt_of_cell? w _ hw1169_0)).trans hw1169_0), ((HB.out.cell (World.block_lt_of_cell? w _ hw1169_1)).trans hw1169_1), ((HB.out.cell (World.block_lt_of_cell? w _ hw1169_2)).trans hw1169_2)⟩ (fun hHeld => ?_)
        clear hK K
        refine norm_ (a' := ?_) ?_ ?_
        rotate_left
        ·show Act.put _ (some 25) _ = _
         simp only [Act.put, p1_, p2_, p3_, i64_w, i32_w]
         rfl
        refine pure_ (i := 9) (N := some 26) (v := ?_) (a' := ?_) #[true, true, true, true, true, true, true, true, true, true] rfl rfl (any_of HT_.out (by kernel_rfl)) (fun _ _ _ h => h) (Or.inl ⟨by rfl, ?_⟩) ?_ ?_
        rotate_left
        ·intro w'
         go_simp
         with_reducible rfl
        rotate_left
        ·simp only [Act.put, p1_, p2_, p3_, i64_w, i32_w]
         rfl
        refine done_ (done_of HT_.out (by kernel_rfl)) ?_
        try go_wp2
        go_ret
        exact ⟨by first | rfl | (simp [e1_, e2_] <;> rfl) | (simp [*, e1_, e2_] <;> rfl) | (simp [e3_, e4_]; done) | (simp [*, e3_, e4_]; done), by repeat (first | (with_reducible first | exact HB.out | apply b1_ | apply b2_ | apply b3_) | exact HB.out)⟩
      ·rw [if_neg c6] at H
       exact absurd H (by simp)
     ·rw [if_neg c5] at H
      exact absurd H (by simp)
    ·rw [if_neg c4] at H
     have c4b0 : decide (x5_1 < (l0.length : Int)) = false := decide_eq_false c4
     clear c4
     obtain rfl := Option.some.inj H
     go_wp2
     go_ret
     exact ⟨by first | rfl | (simp [e1_, e2_] <;> rfl) | (simp [*, e1_, e2_] <;> rfl) | (simp [e3_, e4_]; done) | (simp [*, e3_, e4_]; done), by repeat (first | (with_reducible first | exact HB.out | apply b1_ | apply b2_ | apply b3_) | exact HB.out)⟩
 ·rw [if_neg c3] at H
  have c3b0 : ((l0.length : Int) == (l1.length : Int)) = false := beq_eq_false_iff_ne.mpr c3
  have c3b1 : ((l0.length : Int) != (l1.length : Int)) = true := bne_iff_ne.mpr c3
  have c3b2 : (l0.length == l1.length) = false := by first | simpa using c3 | (simp at c3 ⊢; omega)
  obtain rfl := Option.some.inj H
  go_enter Try.func94, Try.ntmps94
  go_wp2
  go_ret
  exact ⟨by first | rfl | (simp [e1_, e2_] <;> rfl) | (simp [*, e1_, e2_] <;> rfl) | (simp [e3_, e4_]; done) | (simp [*, e3_, e4_]; done), by repeat (first | (with_reducible first | exact HB.out | apply b1_ | apply b2_ | apply b3_) | exact HB.out)⟩
set_option maxHeartbeats 8000000 in
set_option maxRecDepth 100000 in
theorem laws_eqRequest.calls (a0_0 : Int) (a0_1 : Int) (a0_2 : Int) (a0_3 : Int) (a0_4 : ByteArray) (a1_0 : Int) (a1_1 : Int) (a1_2 : Int) (a1_3 : Int) (a1_4 : ByteArray) (r : Bool) (w : World) (h : laws_eqRequest.f a0_0 a0_1 a0_2 a0_3 a0_4 a1_0 a1_1 a1_2 a1_3 a1_4 = some r) :
  Calls Try.prog 72 #[.agg #[.int .i64 a0_0, .int .i64 a0_1, .int .i64 a0_2, .int .i64 a0_3, .string a0_4], .agg #[.int .i64 a1_0, .int .i64 a1_1, .int .i64 a1_2, .int .i64 a1_3, .string a1_4]] w fun e w' => e = .returned (.bool r) ∧ Below w.heap.size w w' := by
 have hu36 := Try.underlying36
 have HB := am_ (Below.refl w.heap.size w)
 have H : (if a0_0 = a1_0 then (if a0_1 = a1_1 then (if a0_2 = a1_2 then (if a0_3 = a1_3 then (if a0_4.toList = a1_4.toList then (some true) else (some false)) else (some false)) else (some false)) else (some false)) else (some false)) = some r := h
 clear h
 by_cases c3 : a0_0 = a1_0
 ·rw [if_pos c3] at H
  have c3b0 : (a0_0 == a1_0) = true := beq_iff_eq.mpr c3
  have c3b1 : (a0_0 != a1_0) = false := bne_eq_false_iff_eq.mpr c3
  clear c3
  by_cases c4 : a0_1 = a1_1
  ·rw [if_pos c4] at H
   have c4b0 : (a0_1 == a1_1) = true := beq_iff_eq.mpr c4
   have c4b1 : (a0_1 != a1_1) = false := bne_eq_false_iff_eq.mpr c4
   clear c4
   by_cases c5 : a0_2 = a1_2
   ·rw [if_pos c5] at H
    have c5b0 : (a0_2 == a1_2) = true := beq_iff_eq.mpr c5
    have c5b1 : (a0_2 != a1_2) = false := bne_eq_false_iff_eq.mpr c5
    clear c5
    by_cases c6 : a0_3 = a1_3
    ·rw [if_pos c6] at H
     have c6b0 : (a0_3 == a1_3) = true := beq_iff_eq.mpr c6
     have c6b1 : (a0_3 != a1_3) = false := bne_eq_false_iff_eq.mpr c6
     clear c6
     by_cases c7 : a0_4.toList = a1_4.toList
     ·rw [if_pos c7] at H
      have c7b0 : (a0_4.toList == a1_4.toList) = true := beq_iff_eq.mpr c7
      have c7b1 : (a0_4.toList != a1_4.toList) = false := bne_eq_false_iff_eq.mpr c7
      clear c7
      obtain rfl := Option.some.inj H
      go_enter Try.func72, Try.ntmps72
      go_wp2_with (first | ((with_reducible refine gate_dst (N := 2) rfl ?_); refine box_event ?hg (N := 2) ?hd (cs := #[.int .i64 a0_0, .int .i64 a0_1, .int .i64 a0_2, .int .i64 a0_3, .string a0_4]) (t := 36) ?hr ?_; (case hd => rfl); (case hg => rfl); (case hr => first | (go_simp; done) | (go_simp; rfl)); intro gb364 hg w8 hbox hb; have n0_ := am_ (below_step (by repeat (first | (with_reducible first | exact HB.out | apply b1_ | apply b2_ | apply b3_) | exact HB.out)) hb); have n1_ := am_ (hbox); have n2_ := am_ ((by rw [hg]; exact (below_size (by repeat (first | (with_reducible first | exact HB.out | apply b1_ | apply b2_ | apply b3_) | exact HB.out))) : w.heap.size ≤ gb364)); have n3_ := am_ ((by rw [hg]; exact (below_size (by repeat (first | (with_reducible first | exact HB.out | apply b1_ | apply b2_ | apply b3_) | exact HB.out))) : w.heap.size ≤ gb364)); clear HB; have HB := n0_; have BK364 := n1_; have GW364 := n2_; have GE364 := n3_; clear n0_ n1_ n2_ n3_; clear hb hbox hg) | ((with_reducible refine gate_dst (N := 3) rfl ?_); refine box_event ?hg (N := 3) ?hd (cs := #[.int .i64 a1_0, .int .i64 a1_1, .int .i64 a1_2, .int .i64 a1_3, .string a1_4]) (t := 36) ?hr ?_; (case hd => rfl); (case hg => rfl); (case hr => first | (go_simp; done) | (go_simp; rfl)); intro gb365 hg w9 hbox hb; have n0_ := am_ (blk_below (g := gb364) (o := .cells #[.int .i64 a0_0, .int .i64 a0_1, .int .i64 a0_2, .int .i64 a0_3, .string a0_4] 36 (0, 0)) (by (with_reducible repeat (first | apply k1_ | apply k2_ | apply k3_)); exact BK364.out) hb); have n1_ := am_ (below_step (by repeat (first | (with_reducible first | exact HB.out | apply b1_ | apply b2_ | apply b3_ | refine below_set ?_ GE364.out) | exact HB.out)) hb); have n2_ := am_ (hbox); have n3_ := am_ ((by rw [hg]; exact (below_size (by repeat (first | (with_reducible first | exact HB.out | apply b1_ | apply b2_ | apply b3_ | refine below_set ?_ GE364.out) | exact HB.out))) : w.heap.size ≤ gb365)); have n4_ := am_ ((by rw [hg]; exact (below_size (by repeat (first | (with_reducible first | exact HB.out | apply b1_ | apply b2_ | apply b3_ | refine below_set ?_ GE364.out) | exact HB.out))) : w.heap.size ≤ gb365)); have n5_ := am_ ((by rw [hg]; exact Nat.ne_of_lt (blk_lt (g := gb364) (o := .cells #[.int .i64 a0_0, .int .i64 a0_1, .int .i64 a0_2, .int .i64 a0_3, .string a0_4] 36 (0, 0)) (by (with_reducible repeat (first | apply k1_ | apply k2_ | apply k3_)); exact BK364.out)) : gb364 ≠ gb365)); have n6_ := am_ ((by rw [hg]; exact Nat.ne_of_gt (blk_lt (g := gb364) (o := .cells #[.int .i64 a0_0, .int .i64 a0_1, .int .i64 a0_2, .int .i64 a0_3, .string a0_4] 36 (0, 0)) (by (with_reducible repeat (first | apply k1_ | apply k2_ | apply k3_)); exact BK364.out)) : gb365 ≠ gb364)); clear BK364; clear HB; have BK364 := n0_; have HB := n1_; have BK365 := n2_; have GW365 := n3_; have GE365 := n4_; have NB364_365 := n5_; have NB365_364 := n6_; clear n0_ n1_ n2_ n3_ n4_ n5_ n6_; clear hb hbox hg; have hnb10 := NB364_365.out; have hnc10 := NB365_364.out; have hcz11_0 : w9.cell? ⟨gb364, 0, none⟩ = some (.int .i64 a0_0) := (blk_cell BK364.out 0).trans rfl; have hcz11_1 : w9.cell? ⟨gb364, 1, none⟩ = some (.int .i64 a0_1) := (blk_cell BK364.out 1).trans rfl; have hcz11_2 : w9.cell? ⟨gb364, 2, none⟩ = some (.int .i64 a0_2) := (blk_cell BK364.out 2).trans rfl; have hcz11_3 : w9.cell? ⟨gb364, 3, none⟩ = some (.int .i64 a0_3) := (blk_cell BK364.out 3).trans rfl; have hcz11_4 : w9.cell? ⟨gb364, 4, none⟩ = some (.string a0_4) := (blk_cell BK364.out 4).trans rfl; have hfz11_0 := blk_frozen BK364.out 0; have hfz11_1 := blk_frozen BK364.out 1; have hfz11_2 := blk_frozen BK364.out 2; have hfz11_3 := blk_frozen BK364.out 3; have hfz11_4 := blk_frozen BK364.out 4; have hcz12_0 : w9.cell? ⟨gb365, 0, none⟩ = some (.int .i64 a1_0) := (blk_cell BK365.out 0).trans rfl; have hcz12_1 : w9.cell? ⟨gb365, 1, none⟩ = some (.int .i64 a1_1) := (blk_cell BK365.out 1).trans rfl; have hcz12_2 : w9.cell? ⟨gb365, 2, none⟩ = some (.int .i64 a1_2) := (blk_cell BK365.out 2).trans rfl; have hcz12_3 : w9.cell? ⟨gb365, 3, none⟩ = some (.int .i64 a1_3) := (blk_cell BK365.out 3).trans rfl; have hcz12_4 : w9.cell? ⟨gb365, 4, none⟩ = some (.string a1_4) := (blk_cell BK365.out 4).trans rfl; have hfz12_0 := blk_frozen BK365.out 0; have hfz12_1 := blk_frozen BK365.out 1; have hfz12_2 := blk_frozen BK365.out 2; have hfz12_3 := blk_frozen BK365.out 3; have hfz12_4 := blk_frozen BK365.out 4))
      go_ret
      exact ⟨by first | rfl | (simp [e1_, e2_] <;> rfl) | (simp [*, e1_, e2_] <;> rfl) | (simp [e3_, e4_]; done) | (simp [*, e3_, e4_]; done), by repeat (first | (with_reducible first | exact HB.out | apply b1_ | apply b2_ | apply b3_ | refine below_set ?_ GE364.out | refine below_set ?_ GE365.out) | exact HB.out)⟩
     ·rw [if_neg c7] at H
      have c7b0 : (a0_4.toList == a1_4.toList) = false := beq_eq_false_iff_ne.mpr c7
      have c7b1 : (a0_4.toList != a1_4.toList) = true := bne_iff_ne.mpr c7
      obtain rfl := Option.some.inj H
      go_enter Try.func72, Try.ntmps72
      go_wp2_with (first | ((with_reducible refine gate_dst (N := 2) rfl ?_); refine box_event ?hg (N := 2) ?hd (cs := #[.int .i64 a0_0, .int .i64 a0_1, .int .i64 a0_2, .int .i64 a0_3, .string a0_4]) (t := 36) ?hr ?_; (case hd => rfl); (case hg => rfl); (case hr => first | (go_simp; done) | (go_simp; rfl)); intro gb364 hg w13 hbox hb; have n0_ := am_ (below_step (by repeat (first | (with_reducible first | exact HB.out | apply b1_ | apply b2_ | apply b3_) | exact HB.out)) hb); have n1_ := am_ (hbox); have n2_ := am_ ((by rw [hg]; exact (below_size (by repeat (first | (with_reducible first | exact HB.out | apply b1_ | apply b2_ | apply b3_) | exact HB.out))) : w.heap.size ≤ gb364)); have n3_ := am_ ((by rw [hg]; exact (below_size (by repeat (first | (with_reducible first | exact HB.out | apply b1_ | apply b2_ | apply b3_) | exact HB.out))) : w.heap.size ≤ gb364)); clear HB; have HB := n0_; have BK364 := n1_; have GW364 := n2_; have GE364 := n3_; clear n0_ n1_ n2_ n3_; clear hb hbox hg) | ((with_reducible refine gate_dst (N := 3) rfl ?_); refine box_event ?hg (N := 3) ?hd (cs := #[.int .i64 a1_0, .int .i64 a1_1, .int .i64 a1_2, .int .i64 a1_3, .string a1_4]) (t := 36) ?hr ?_; (case hd => rfl); (case hg => rfl); (case hr => first | (go_simp; done) | (go_simp; rfl)); intro gb365 hg w14 hbox hb; have n0_ := am_ (blk_below (g := gb364) (o := .cells #[.int .i64 a0_0, .int .i64 a0_1, .int .i64 a0_2, .int .i64 a0_3, .string a0_4] 36 (0, 0)) (by (with_reducible repeat (first | apply k1_ | apply k2_ | apply k3_)); exact BK364.out) hb); have n1_ := am_ (below_step (by repeat (first | (with_reducible first | exact HB.out | apply b1_ | apply b2_ | apply b3_ | refine below_set ?_ GE364.out) | exact HB.out)) hb); have n2_ := am_ (hbox); have n3_ := am_ ((by rw [hg]; exact (below_size (by repeat (first | (with_reducible first | exact HB.out | apply b1_ | apply b2_ | apply b3_ | refine below_set ?_ GE364.out) | exact HB.out))) : w.heap.size ≤ gb365)); have n4_ := am_ ((by rw [hg]; exact (below_size (by repeat (first | (with_reducible first | exact HB.out | apply b1_ | apply b2_ | apply b3_ | refine below_set ?_ GE364.out) | exact HB.out))) : w.heap.size ≤ gb365)); have n5_ := am_ ((by rw [hg]; exact Nat.ne_of_lt (blk_lt (g := gb364) (o := .cells #[.int .i64 a0_0, .int .i64 a0_1, .int .i64 a0_2, .int .i64 a0_3, .string a0_4] 36 (0, 0)) (by (with_reducible repeat (first | apply k1_ | apply k2_ | apply k3_)); exact BK364.out)) : gb364 ≠ gb365)); have n6_ := am_ ((by rw [hg]; exact Nat.ne_of_gt (blk_lt (g := gb364) (o := .cells #[.int .i64 a0_0, .int .i64 a0_1, .int .i64 a0_2, .int .i64 a0_3, .string a0_4] 36 (0, 0)) (by (with_reducible repeat (first | apply k1_ | apply k2_ | apply k3_)); exact BK364.out)) : gb365 ≠ gb364)); clear BK364; clear HB; have BK364 := n0_; have HB := n1_; have BK365 := n2_; have GW365 := n3_; have GE365 := n4_; have NB364_365 := n5_; have NB365_364 := n6_; clear n0_ n1_ n2_ n3_ n4_ n5_ n6_; clear hb hbox hg; have hnb15 := NB364_365.out; have hnc15 := NB365_364.out; have hcz16_0 : w14.cell? ⟨gb364, 0, none⟩ = some (.int .i64 a0_0) := (blk_cell BK364.out 0).trans rfl; have hcz16_1 : w14.cell? ⟨gb364, 1, none⟩ = some (.int .i64 a0_1) := (blk_cell BK364.out 1).trans rfl; have hcz16_2 : w14.cell? ⟨gb364, 2, none⟩ = some (.int .i64 a0_2) := (blk_cell BK364.out 2).trans rfl; have hcz16_3 : w14.cell? ⟨gb364, 3, none⟩ = some (.int .i64 a0_3) := (blk_cell BK364.out 3).trans rfl; have hcz16_4 : w14.cell? ⟨gb364, 4, none⟩ = some (.string a0_4) := (blk_cell BK364.out 4).trans rfl; have hfz16_0 := blk_frozen BK364.out 0; have hfz16_1 := blk_frozen BK364.out 1; have hfz16_2 := blk_frozen BK364.out 2; have hfz16_3 := blk_frozen BK364.out 3; have hfz16_4 := blk_frozen BK364.out 4; have hcz17_0 : w14.cell? ⟨gb365, 0, none⟩ = some (.int .i64 a1_0) := (blk_cell BK365.out 0).trans rfl; have hcz17_1 : w14.cell? ⟨gb365, 1, none⟩ = some (.int .i64 a1_1) := (blk_cell BK365.out 1).trans rfl; have hcz17_2 : w14.cell? ⟨gb365, 2, none⟩ = some (.int .i64 a1_2) := (blk_cell BK365.out 2).trans rfl; have hcz17_3 : w14.cell? ⟨gb365, 3, none⟩ = some (.int .i64 a1_3) := (blk_cell BK365.out 3).trans rfl; have hcz17_4 : w14.cell? ⟨gb365, 4, none⟩ = some (.string a1_4) := (blk_cell BK365.out 4).trans rfl; have hfz17_0 := blk_frozen BK365.out 0; have hfz17_1 := blk_frozen BK365.out 1; have hfz17_2 := blk_frozen BK365.out 2; have hfz17_3 := blk_frozen BK365.out 3; have hfz17_4 := blk_frozen BK365.out 4))
      go_ret
      exact ⟨by first | rfl | (simp [e1_, e2_] <;> rfl) | (simp [*, e1_, e2_] <;> rfl) | (simp [e3_, e4_]; done) | (simp [*, e3_, e4_]; done), by repeat (first | (with_reducible first | exact HB.out | apply b1_ | apply b2_ | apply b3_ | refine below_set ?_ GE364.out | refine below_set ?_ GE365.out) | exact HB.out)⟩
    ·rw [if_neg c6] at H
     have c6b0 : (a0_3 == a1_3) = false := beq_eq_false_iff_ne.mpr c6
     have c6b1 : (a0_3 != a1_3) = true := bne_iff_ne.mpr c6
     obtain rfl := Option.some.inj H
     go_enter Try.func72, Try.ntmps72
     go_wp2_with (first | ((with_reducible refine gate_dst (N := 2) rfl ?_); refine box_event ?hg (N := 2) ?hd (cs := #[.int .i64 a0_0, .int .i64 a0_1, .int .i64 a0_2, .int .i64 a0_3, .string a0_4]) (t := 36) ?hr ?_; (case hd => rfl); (case hg => rfl); (case hr => first | (go_simp; done) | (go_simp; rfl)); intro gb364 hg w18 hbox hb; have n0_ := am_ (below_step (by repeat (first | (with_reducible first | exact HB.out | apply b1_ | apply b2_ | apply b3_) | exact HB.out)) hb); have n1_ := am_ (hbox); have n2_ := am_ ((by rw [hg]; exact (below_size (by repeat (first | (with_reducible first | exact HB.out | apply b1_ | apply b2_ | apply b3_) | exact HB.out))) : w.heap.size ≤ gb364)); have n3_ := am_ ((by rw [hg]; exact (below_size (by repeat (first | (with_reducible first | exact HB.out | apply b1_ | apply b2_ | apply b3_) | exact HB.out))) : w.heap.size ≤ gb364)); clear HB; have HB := n0_; have BK364 := n1_; have GW364 := n2_; have GE364 := n3_; clear n0_ n1_ n2_ n3_; clear hb hbox hg) | ((with_reducible refine gate_dst (N := 3) rfl ?_); refine box_event ?hg (N := 3) ?hd (cs := #[.int .i64 a1_0, .int .i64 a1_1, .int .i64 a1_2, .int .i64 a1_3, .string a1_4]) (t := 36) ?hr ?_; (case hd => rfl); (case hg => rfl); (case hr => first | (go_simp; done) | (go_simp; rfl)); intro gb365 hg w19 hbox hb; have n0_ := am_ (blk_below (g := gb364) (o := .cells #[.int .i64 a0_0, .int .i64 a0_1, .int .i64 a0_2, .int .i64 a0_3, .string a0_4] 36 (0, 0)) (by (with_reducible repeat (first | apply k1_ | apply k2_ | apply k3_)); exact BK364.out) hb); have n1_ := am_ (below_step (by repeat (first | (with_reducible first | exact HB.out | apply b1_ | apply b2_ | apply b3_ | refine below_set ?_ GE364.out) | exact HB.out)) hb); have n2_ := am_ (hbox); have n3_ := am_ ((by rw [hg]; exact (below_size (by repeat (first | (with_reducible first | exact HB.out | apply b1_ | apply b2_ | apply b3_ | refine below_set ?_ GE364.out) | exact HB.out))) : w.heap.size ≤ gb365)); have n4_ := am_ ((by rw [hg]; exact (below_size (by repeat (first | (with_reducible first | exact HB.out | apply b1_ | apply b2_ | apply b3_ | refine below_set ?_ GE364.out) | exact HB.out))) : w.heap.size ≤ gb365)); have n5_ := am_ ((by rw [hg]; exact Nat.ne_of_lt (blk_lt (g := gb364) (o := .cells #[.int .i64 a0_0, .int .i64 a0_1, .int .i64 a0_2, .int .i64 a0_3, .string a0_4] 36 (0, 0)) (by (with_reducible repeat (first | apply k1_ | apply k2_ | apply k3_)); exact BK364.out)) : gb364 ≠ gb365)); have n6_ := am_ ((by rw [hg]; exact Nat.ne_of_gt (blk_lt (g := gb364) (o := .cells #[.int .i64 a0_0, .int .i64 a0_1, .int .i64 a0_2, .int .i64 a0_3, .string a0_4] 36 (0, 0)) (by (with_reducible repeat (first | apply k1_ | apply k2_ | apply k3_)); exact BK364.out)) : gb365 ≠ gb364)); clear BK364; clear HB; have BK364 := n0_; have HB := n1_; have BK365 := n2_; have GW365 := n3_; have GE365 := n4_; have NB364_365 := n5_; have NB365_364 := n6_; clear n0_ n1_ n2_ n3_ n4_ n5_ n6_; clear hb hbox hg; have hnb20 := NB364_365.out; have hnc20 := NB365_364.out; have hcz21_0 : w19.cell? ⟨gb364, 0, none⟩ = some (.int .i64 a0_0) := (blk_cell BK364.out 0).trans rfl; have hcz21_1 : w19.cell? ⟨gb364, 1, none⟩ = some (.int .i64 a0_1) := (blk_cell BK364.out 1).trans rfl; have hcz21_2 : w19.cell? ⟨gb364, 2, none⟩ = some (.int .i64 a0_2) := (blk_cell BK364.out 2).trans rfl; have hcz21_3 : w19.cell? ⟨gb364, 3, none⟩ = some (.int .i64 a0_3) := (blk_cell BK364.out 3).trans rfl; have hcz21_4 : w19.cell? ⟨gb364, 4, none⟩ = some (.string a0_4) := (blk_cell BK364.out 4).trans rfl; have hfz21_0 := blk_frozen BK364.out 0; have hfz21_1 := blk_frozen BK364.out 1; have hfz21_2 := blk_frozen BK364.out 2; have hfz21_3 := blk_frozen BK364.out 3; have hfz21_4 := blk_frozen BK364.out 4; have hcz22_0 : w19.cell? ⟨gb365, 0, none⟩ = some (.int .i64 a1_0) := (blk_cell BK365.out 0).trans rfl; have hcz22_1 : w19.cell? ⟨gb365, 1, none⟩ = some (.int .i64 a1_1) := (blk_cell BK365.out 1).trans rfl; have hcz22_2 : w19.cell? ⟨gb365, 2, none⟩ = some (.int .i64 a1_2) := (blk_cell BK365.out 2).trans rfl; have hcz22_3 : w19.cell? ⟨gb365, 3, none⟩ = some (.int .i64 a1_3) := (blk_cell BK365.out 3).trans rfl; have hcz22_4 : w19.cell? ⟨gb365, 4, none⟩ = some (.string a1_4) := (blk_cell BK365.out 4).trans rfl; have hfz22_0 := blk_frozen BK365.out 0; have hfz22_1 := blk_frozen BK365.out 1; have hfz22_2 := blk_frozen BK365.out 2; have hfz22_3 := blk_frozen BK365.out 3; have hfz22_4 := blk_frozen BK365.out 4))
     go_ret
     exact ⟨by first | rfl | (simp [e1_, e2_] <;> rfl) | (simp [*, e1_, e2_] <;> rfl) | (simp [e3_, e4_]; done) | (simp [*, e3_, e4_]; done), by repeat (first | (with_reducible first | exact HB.out | apply b1_ | apply b2_ | apply b3_ | refine below_set ?_ GE364.out | refine below_set ?_ GE365.out) | exact HB.out)⟩
   ·rw [if_neg c5] at H
    have c5b0 : (a0_2 == a1_2) = false := beq_eq_false_iff_ne.mpr c5
    have c5b1 : (a0_2 != a1_2) = true := bne_iff_ne.mpr c5
    obtain rfl := Option.some.inj H
    go_enter Try.func72, Try.ntmps72
    go_wp2_with (first | ((with_reducible refine gate_dst (N := 2) rfl ?_); refine box_event ?hg (N := 2) ?hd (cs := #[.int .i64 a0_0, .int .i64 a0_1, .int .i64 a0_2, .int .i64 a0_3, .string a0_4]) (t := 36) ?hr ?_; (case hd => rfl); (case hg => rfl); (case hr => first | (go_simp; done) | (go_simp; rfl)); intro gb364 hg w23 hbox hb; have n0_ := am_ (below_step (by repeat (first | (with_reducible first | exact HB.out | apply b1_ | apply b2_ | apply b3_) | exact HB.out)) hb); have n1_ := am_ (hbox); have n2_ := am_ ((by rw [hg]; exact (below_size (by repeat (first | (with_reducible first | exact HB.out | apply b1_ | apply b2_ | apply b3_) | exact HB.out))) : w.heap.size ≤ gb364)); have n3_ := am_ ((by rw [hg]; exact (below_size (by repeat (first | (with_reducible first | exact HB.out | apply b1_ | apply b2_ | apply b3_) | exact HB.out))) : w.heap.size ≤ gb364)); clear HB; have HB := n0_; have BK364 := n1_; have GW364 := n2_; have GE364 := n3_; clear n0_ n1_ n2_ n3_; clear hb hbox hg) | ((with_reducible refine gate_dst (N := 3) rfl ?_); refine box_event ?hg (N := 3) ?hd (cs := #[.int .i64 a1_0, .int .i64 a1_1, .int .i64 a1_2, .int .i64 a1_3, .string a1_4]) (t := 36) ?hr ?_; (case hd => rfl); (case hg => rfl); (case hr => first | (go_simp; done) | (go_simp; rfl)); intro gb365 hg w24 hbox hb; have n0_ := am_ (blk_below (g := gb364) (o := .cells #[.int .i64 a0_0, .int .i64 a0_1, .int .i64 a0_2, .int .i64 a0_3, .string a0_4] 36 (0, 0)) (by (with_reducible repeat (first | apply k1_ | apply k2_ | apply k3_)); exact BK364.out) hb); have n1_ := am_ (below_step (by repeat (first | (with_reducible first | exact HB.out | apply b1_ | apply b2_ | apply b3_ | refine below_set ?_ GE364.out) | exact HB.out)) hb); have n2_ := am_ (hbox); have n3_ := am_ ((by rw [hg]; exact (below_size (by repeat (first | (with_reducible first | exact HB.out | apply b1_ | apply b2_ | apply b3_ | refine below_set ?_ GE364.out) | exact HB.out))) : w.heap.size ≤ gb365)); have n4_ := am_ ((by rw [hg]; exact (below_size (by repeat (first | (with_reducible first | exact HB.out | apply b1_ | apply b2_ | apply b3_ | refine below_set ?_ GE364.out) | exact HB.out))) : w.heap.size ≤ gb365)); have n5_ := am_ ((by rw [hg]; exact Nat.ne_of_lt (blk_lt (g := gb364) (o := .cells #[.int .i64 a0_0, .int .i64 a0_1, .int .i64 a0_2, .int .i64 a0_3, .string a0_4] 36 (0, 0)) (by (with_reducible repeat (first | apply k1_ | apply k2_ | apply k3_)); exact BK364.out)) : gb364 ≠ gb365)); have n6_ := am_ ((by rw [hg]; exact Nat.ne_of_gt (blk_lt (g := gb364) (o := .cells #[.int .i64 a0_0, .int .i64 a0_1, .int .i64 a0_2, .int .i64 a0_3, .string a0_4] 36 (0, 0)) (by (with_reducible repeat (first | apply k1_ | apply k2_ | apply k3_)); exact BK364.out)) : gb365 ≠ gb364)); clear BK364; clear HB; have BK364 := n0_; have HB := n1_; have BK365 := n2_; have GW365 := n3_; have GE365 := n4_; have NB364_365 := n5_; have NB365_364 := n6_; clear n0_ n1_ n2_ n3_ n4_ n5_ n6_; clear hb hbox hg; have hnb25 := NB364_365.out; have hnc25 := NB365_364.out; have hcz26_0 : w24.cell? ⟨gb364, 0, none⟩ = some (.int .i64 a0_0) := (blk_cell BK364.out 0).trans rfl; have hcz26_1 : w24.cell? ⟨gb364, 1, none⟩ = some (.int .i64 a0_1) := (blk_cell BK364.out 1).trans rfl; have hcz26_2 : w24.cell? ⟨gb364, 2, none⟩ = some (.int .i64 a0_2) := (blk_cell BK364.out 2).trans rfl; have hcz26_3 : w24.cell? ⟨gb364, 3, none⟩ = some (.int .i64 a0_3) := (blk_cell BK364.out 3).trans rfl; have hcz26_4 : w24.cell? ⟨gb364, 4, none⟩ = some (.string a0_4) := (blk_cell BK364.out 4).trans rfl; have hfz26_0 := blk_frozen BK364.out 0; have hfz26_1 := blk_frozen BK364.out 1; have hfz26_2 := blk_frozen BK364.out 2; have hfz26_3 := blk_frozen BK364.out 3; have hfz26_4 := blk_frozen BK364.out 4; have hcz27_0 : w24.cell? ⟨gb365, 0, none⟩ = some (.int .i64 a1_0) := (blk_cell BK365.out 0).trans rfl; have hcz27_1 : w24.cell? ⟨gb365, 1, none⟩ = some (.int .i64 a1_1) := (blk_cell BK365.out 1).trans rfl; have hcz27_2 : w24.cell? ⟨gb365, 2, none⟩ = some (.int .i64 a1_2) := (blk_cell BK365.out 2).trans rfl; have hcz27_3 : w24.cell? ⟨gb365, 3, none⟩ = some (.int .i64 a1_3) := (blk_cell BK365.out 3).trans rfl; have hcz27_4 : w24.cell? ⟨gb365, 4, none⟩ = some (.string a1_4) := (blk_cell BK365.out 4).trans rfl; have hfz27_0 := blk_frozen BK365.out 0; have hfz27_1 := blk_frozen BK365.out 1; have hfz27_2 := blk_frozen BK365.out 2; have hfz27_3 := blk_frozen BK365.out 3; have hfz27_4 := blk_frozen BK365.out 4))
    go_ret
    exact ⟨by first | rfl | (simp [e1_, e2_] <;> rfl) | (simp [*, e1_, e2_] <;> rfl) | (simp [e3_, e4_]; done) | (simp [*, e3_, e4_]; done), by repeat (first | (with_reducible first | exact HB.out | apply b1_ | apply b2_ | apply b3_ | refine below_set ?_ GE364.out | refine below_set ?_ GE365.out) | exact HB.out)⟩
  ·rw [if_neg c4] at H
   have c4b0 : (a0_1 == a1_1) = false := beq_eq_false_iff_ne.mpr c4
   have c4b1 : (a0_1 != a1_1) = true := bne_iff_ne.mpr c4
   obtain rfl := Option.some.inj H
   go_enter Try.func72, Try.ntmps72
   go_wp2_with (first | ((with_reducible refine gate_dst (N := 2) rfl ?_); refine box_event ?hg (N := 2) ?hd (cs := #[.int .i64 a0_0, .int .i64 a0_1, .int .i64 a0_2, .int .i64 a0_3, .string a0_4]) (t := 36) ?hr ?_; (case hd => rfl); (case hg => rfl); (case hr => first | (go_simp; done) | (go_simp; rfl)); intro gb364 hg w28 hbox hb; have n0_ := am_ (below_step (by repeat (first | (with_reducible first | exact HB.out | apply b1_ | apply b2_ | apply b3_) | exact HB.out)) hb); have n1_ := am_ (hbox); have n2_ := am_ ((by rw [hg]; exact (below_size (by repeat (first | (with_reducible first | exact HB.out | apply b1_ | apply b2_ | apply b3_) | exact HB.out))) : w.heap.size ≤ gb364)); have n3_ := am_ ((by rw [hg]; exact (below_size (by repeat (first | (with_reducible first | exact HB.out | apply b1_ | apply b2_ | apply b3_) | exact HB.out))) : w.heap.size ≤ gb364)); clear HB; have HB := n0_; have BK364 := n1_; have GW364 := n2_; have GE364 := n3_; clear n0_ n1_ n2_ n3_; clear hb hbox hg) | ((with_reducible refine gate_dst (N := 3) rfl ?_); refine box_event ?hg (N := 3) ?hd (cs := #[.int .i64 a1_0, .int .i64 a1_1, .int .i64 a1_2, .int .i64 a1_3, .string a1_4]) (t := 36) ?hr ?_; (case hd => rfl); (case hg => rfl); (case hr => first | (go_simp; done) | (go_simp; rfl)); intro gb365 hg w29 hbox hb; have n0_ := am_ (blk_below (g := gb364) (o := .cells #[.int .i64 a0_0, .int .i64 a0_1, .int .i64 a0_2, .int .i64 a0_3, .string a0_4] 36 (0, 0)) (by (with_reducible repeat (first | apply k1_ | apply k2_ | apply k3_)); exact BK364.out) hb); have n1_ := am_ (below_step (by repeat (first | (with_reducible first | exact HB.out | apply b1_ | apply b2_ | apply b3_ | refine below_set ?_ GE364.out) | exact HB.out)) hb); have n2_ := am_ (hbox); have n3_ := am_ ((by rw [hg]; exact (below_size (by repeat (first | (with_reducible first | exact HB.out | apply b1_ | apply b2_ | apply b3_ | refine below_set ?_ GE364.out) | exact HB.out))) : w.heap.size ≤ gb365)); have n4_ := am_ ((by rw [hg]; exact (below_size (by repeat (first | (with_reducible first | exact HB.out | apply b1_ | apply b2_ | apply b3_ | refine below_set ?_ GE364.out) | exact HB.out))) : w.heap.size ≤ gb365)); have n5_ := am_ ((by rw [hg]; exact Nat.ne_of_lt (blk_lt (g := gb364) (o := .cells #[.int .i64 a0_0, .int .i64 a0_1, .int .i64 a0_2, .int .i64 a0_3, .string a0_4] 36 (0, 0)) (by (with_reducible repeat (first | apply k1_ | apply k2_ | apply k3_)); exact BK364.out)) : gb364 ≠ gb365)); have n6_ := am_ ((by rw [hg]; exact Nat.ne_of_gt (blk_lt (g := gb364) (o := .cells #[.int .i64 a0_0, .int .i64 a0_1, .int .i64 a0_2, .int .i64 a0_3, .string a0_4] 36 (0, 0)) (by (with_reducible repeat (first | apply k1_ | apply k2_ | apply k3_)); exact BK364.out)) : gb365 ≠ gb364)); clear BK364; clear HB; have BK364 := n0_; have HB := n1_; have BK365 := n2_; have GW365 := n3_; have GE365 := n4_; have NB364_365 := n5_; have NB365_364 := n6_; clear n0_ n1_ n2_ n3_ n4_ n5_ n6_; clear hb hbox hg; have hnb30 := NB364_365.out; have hnc30 := NB365_364.out; have hcz31_0 : w29.cell? ⟨gb364, 0, none⟩ = some (.int .i64 a0_0) := (blk_cell BK364.out 0).trans rfl; have hcz31_1 : w29.cell? ⟨gb364, 1, none⟩ = some (.int .i64 a0_1) := (blk_cell BK364.out 1).trans rfl; have hcz31_2 : w29.cell? ⟨gb364, 2, none⟩ = some (.int .i64 a0_2) := (blk_cell BK364.out 2).trans rfl; have hcz31_3 : w29.cell? ⟨gb364, 3, none⟩ = some (.int .i64 a0_3) := (blk_cell BK364.out 3).trans rfl; have hcz31_4 : w29.cell? ⟨gb364, 4, none⟩ = some (.string a0_4) := (blk_cell BK364.out 4).trans rfl; have hfz31_0 := blk_frozen BK364.out 0; have hfz31_1 := blk_frozen BK364.out 1; have hfz31_2 := blk_frozen BK364.out 2; have hfz31_3 := blk_frozen BK364.out 3; have hfz31_4 := blk_frozen BK364.out 4; have hcz32_0 : w29.cell? ⟨gb365, 0, none⟩ = some (.int .i64 a1_0) := (blk_cell BK365.out 0).trans rfl; have hcz32_1 : w29.cell? ⟨gb365, 1, none⟩ = some (.int .i64 a1_1) := (blk_cell BK365.out 1).trans rfl; have hcz32_2 : w29.cell? ⟨gb365, 2, none⟩ = some (.int .i64 a1_2) := (blk_cell BK365.out 2).trans rfl; have hcz32_3 : w29.cell? ⟨gb365, 3, none⟩ = some (.int .i64 a1_3) := (blk_cell BK365.out 3).trans rfl; have hcz32_4 : w29.cell? ⟨gb365, 4, none⟩ = some (.string a1_4) := (blk_cell BK365.out 4).trans rfl; have hfz32_0 := blk_frozen BK365.out 0; have hfz32_1 := blk_frozen BK365.out 1; have hfz32_2 := blk_frozen BK365.out 2; have hfz32_3 := blk_frozen BK365.out 3; have hfz32_4 := blk_frozen BK365.out 4))
   go_ret
   exact ⟨by first | rfl | (simp [e1_, e2_] <;> rfl) | (simp [*, e1_, e2_] <;> rfl) | (simp [e3_, e4_]; done) | (simp [*, e3_, e4_]; done), by repeat (first | (with_reducible first | exact HB.out | apply b1_ | apply b2_ | apply b3_ | refine below_set ?_ GE364.out | refine below_set ?_ GE365.out) | exact HB.out)⟩
 ·rw [if_neg c3] at H
  have c3b0 : (a0_0 == a1_0) = false := beq_eq_false_iff_ne.mpr c3
  have c3b1 : (a0_0 != a1_0) = true := bne_iff_ne.mpr c3
  obtain rfl := Option.some.inj H
  go_enter Try.func72, Try.ntmps72
  go_wp2_with (first | ((with_reducible refine gate_dst (N := 2) rfl ?_); refine box_event ?hg (N := 2) ?hd (cs := #[.int .i64 a0_0, .int .i64 a0_1, .int .i64 a0_2, .int .i64 a0_3, .string a0_4]) (t := 36) ?hr ?_; (case hd => rfl); (case hg => rfl); (case hr => first | (go_simp; done) | (go_simp; rfl)); intro gb364 hg w33 hbox hb; have n0_ := am_ (below_step (by repeat (first | (with_reducible first | exact HB.out | apply b1_ | apply b2_ | apply b3_) | exact HB.out)) hb); have n1_ := am_ (hbox); have n2_ := am_ ((by rw [hg]; exact (below_size (by repeat (first | (with_reducible first | exact HB.out | apply b1_ | apply b2_ | apply b3_) | exact HB.out))) : w.heap.size ≤ gb364)); have n3_ := am_ ((by rw [hg]; exact (below_size (by repeat (first | (with_reducible first | exact HB.out | apply b1_ | apply b2_ | apply b3_) | exact HB.out))) : w.heap.size ≤ gb364)); clear HB; have HB := n0_; have BK364 := n1_; have GW364 := n2_; have GE364 := n3_; clear n0_ n1_ n2_ n3_; clear hb hbox hg) | ((with_reducible refine gate_dst (N := 3) rfl ?_); refine box_event ?hg (N := 3) ?hd (cs := #[.int .i64 a1_0, .int .i64 a1_1, .int .i64 a1_2, .int .i64 a1_3, .string a1_4]) (t := 36) ?hr ?_; (case hd => rfl); (case hg => rfl); (case hr => first | (go_simp; done) | (go_simp; rfl)); intro gb365 hg w34 hbox hb; have n0_ := am_ (blk_below (g := gb364) (o := .cells #[.int .i64 a0_0, .int .i64 a0_1, .int .i64 a0_2, .int .i64 a0_3, .string a0_4] 36 (0, 0)) (by (with_reducible repeat (first | apply k1_ | apply k2_ | apply k3_)); exact BK364.out) hb); have n1_ := am_ (below_step (by repeat (first | (with_reducible first | exact HB.out | apply b1_ | apply b2_ | apply b3_ | refine below_set ?_ GE364.out) | exact HB.out)) hb); have n2_ := am_ (hbox); have n3_ := am_ ((by rw [hg]; exact (below_size (by repeat (first | (with_reducible first | exact HB.out | apply b1_ | apply b2_ | apply b3_ | refine below_set ?_ GE364.out) | exact HB.out))) : w.heap.size ≤ gb365)); have n4_ := am_ ((by rw [hg]; exact (below_size (by repeat (first | (with_reducible first | exact HB.out | apply b1_ | apply b2_ | apply b3_ | refine below_set ?_ GE364.out) | exact HB.out))) : w.heap.size ≤ gb365)); have n5_ := am_ ((by rw [hg]; exact Nat.ne_of_lt (blk_lt (g := gb364) (o := .cells #[.int .i64 a0_0, .int .i64 a0_1, .int .i64 a0_2, .int .i64 a0_3, .string a0_4] 36 (0, 0)) (by (with_reducible repeat (first | apply k1_ | apply k2_ | apply k3_)); exact BK364.out)) : gb364 ≠ gb365)); have n6_ := am_ ((by rw [hg]; exact Nat.ne_of_gt (blk_lt (g := gb364) (o := .cells #[.int .i64 a0_0, .int .i64 a0_1, .int .i64 a0_2, .int .i64 a0_3, .string a0_4] 36 (0, 0)) (by (with_reducible repeat (first | apply k1_ | apply k2_ | apply k3_)); exact BK364.out)) : gb365 ≠ gb364)); clear BK364; clear HB; have BK364 := n0_; have HB := n1_; have BK365 := n2_; have GW365 := n3_; have GE365 := n4_; have NB364_365 := n5_; have NB365_364 := n6_; clear n0_ n1_ n2_ n3_ n4_ n5_ n6_; clear hb hbox hg; have hnb35 := NB364_365.out; have hnc35 := NB365_364.out; have hcz36_0 : w34.cell? ⟨gb364, 0, none⟩ = some (.int .i64 a0_0) := (blk_cell BK364.out 0).trans rfl; have hcz36_1 : w34.cell? ⟨gb364, 1, none⟩ = some (.int .i64 a0_1) := (blk_cell BK364.out 1).trans rfl; have hcz36_2 : w34.cell? ⟨gb364, 2, none⟩ = some (.int .i64 a0_2) := (blk_cell BK364.out 2).trans rfl; have hcz36_3 : w34.cell? ⟨gb364, 3, none⟩ = some (.int .i64 a0_3) := (blk_cell BK364.out 3).trans rfl; have hcz36_4 : w34.cell? ⟨gb364, 4, none⟩ = some (.string a0_4) := (blk_cell BK364.out 4).trans rfl; have hfz36_0 := blk_frozen BK364.out 0; have hfz36_1 := blk_frozen BK364.out 1; have hfz36_2 := blk_frozen BK364.out 2; have hfz36_3 := blk_frozen BK364.out 3; have hfz36_4 := blk_frozen BK364.out 4; have hcz37_0 : w34.cell? ⟨gb365, 0, none⟩ = some (.int .i64 a1_0) := (blk_cell BK365.out 0).trans rfl; have hcz37_1 : w34.cell? ⟨gb365, 1, none⟩ = some (.int .i64 a1_1) := (blk_cell BK365.out 1).trans rfl; have hcz37_2 : w34.cell? ⟨gb365, 2, none⟩ = some (.int .i64 a1_2) := (blk_cell BK365.out 2).trans rfl; have hcz37_3 : w34.cell? ⟨gb365, 3, none⟩ = some (.int .i64 a1_3) := (blk_cell BK365.out 3).trans rfl; have hcz37_4 : w34.cell? ⟨gb365, 4, none⟩ = some (.string a1_4) := (blk_cell BK365.out 4).trans rfl; have hfz37_0 := blk_frozen BK365.out 0; have hfz37_1 := blk_frozen BK365.out 1; have hfz37_2 := blk_frozen BK365.out 2; have hfz37_3 := blk_frozen BK365.out 3; have hfz37_4 := blk_frozen BK365.out 4))
  go_ret
  exact ⟨by first | rfl | (simp [e1_, e2_] <;> rfl) | (simp [*, e1_, e2_] <;> rfl) | (simp [e3_, e4_]; done) | (simp [*, e3_, e4_]; done), by repeat (first | (with_reducible first | exact HB.out | apply b1_ | apply b2_ | apply b3_ | refine below_set ?_ GE364.out | refine below_set ?_ GE365.out) | exact HB.out)⟩
set_option maxHeartbeats 8000000 in
set_option maxRecDepth 100000 in
theorem laws_eqBatch.calls (k : Nat) (a0_0 : Bool) (a0_1 : Int) (a0_2 : Int) (a0_3 : Int) (a0_4 : Int) (a0_5 : ByteArray) (A0_6 : Option Addr) (c0_6 : Nat) (l0_6 : List (S161)) (a1_0 : Bool) (a1_1 : Int) (a1_2 : Int) (a1_3 : Int) (a1_4 : Int) (a1_5 : ByteArray) (A1_6 : Option Addr) (c1_6 : Nat) (l1_6 : List (S161)) (r : Bool) (w : World) (hr0_6 : Kd.C k161 w A0_6 l0_6.length l0_6) (hc0_6 : l0_6.length ≤ c0_6) (hr1_6 : Kd.C k161 w A1_6 l1_6.length l1_6) (hc1_6 : l1_6.length ≤ c1_6) (h : laws_eqBatch.f k a0_0 a0_1 a0_2 a0_3 a0_4 a0_5 l0_6 a1_0 a1_1 a1_2 a1_3 a1_4 a1_5 l1_6 = some r) :
  Calls Try.prog 46 #[.agg #[.bool a0_0, .int .i64 a0_1, .int .i64 a0_2, .int .i64 a0_3, .int .i64 a0_4, .string a0_5, .slice A0_6 l0_6.length c0_6], .agg #[.bool a1_0, .int .i64 a1_1, .int .i64 a1_2, .int .i64 a1_3, .int .i64 a1_4, .string a1_5, .slice A1_6 l1_6.length c1_6]] w fun e w' => e = .returned (.bool r) ∧ Below w.heap.size w w' := by
 have hu67 := Try.underlying67
 have hu36 := Try.underlying36
 have HR0_6 := am_ hr0_6
 have HC0_6 := am_ hc0_6
 clear hr0_6 hc0_6
 have HR1_6 := am_ hr1_6
 have HC1_6 := am_ hc1_6
 clear hr1_6 hc1_6
 have HB := am_ (Below.refl w.heap.size w)
 have H : (if (a0_0 != a1_0) = true then (some false) else ((laws_eqRequest.f a0_1 a0_2 a0_3 a0_4 a0_5 a1_1 a1_2 a1_3 a1_4 a1_5).bind fun t1173 => (if t1173 = true then ((laws_eqReadingS.f k l0_6 l1_6).bind fun t1174 => (if t1174 = true then (some true) else (some false))) else (some false)))) = some r := h
 clear h
 by_cases c3 : (a0_0 != a1_0) = true
 ·rw [if_pos c3] at H
  have c3b0 : (a0_0 != a1_0) = true := c3
  (try (have c3b1 : decide (a0_0 = a1_0) = false := by simpa using c3))
  (try (have c3b2 : (a0_0 == a1_0) = false := by simpa using c3))
  (try (have c3b3 : ¬ (a0_0 = a1_0) := by simpa using c3))
  clear c3
  obtain rfl := Option.some.inj H
  go_enter Try.func46, Try.ntmps46
  go_wp2_with (first | ((with_reducible refine gate_dst (N := 2) rfl ?_); refine box_event ?hg (N := 2) ?hd (cs := #[.bool a0_0, .int .i64 a0_1, .int .i64 a0_2, .int .i64 a0_3, .int .i64 a0_4, .string a0_5, .slice A0_6 l0_6.length c0_6]) (t := 67) ?hr ?_; (case hd => rfl); (case hg => rfl); (case hr => first | (go_simp; done) | (go_simp; rfl)); intro gb1171 hg w4 hbox hb; have n0_ := am_ (below_step (by repeat (first | (with_reducible first | exact HB.out | apply b1_ | apply b2_ | apply b3_) | exact HB.out)) hb); have n1_ := am_ (hbox); have n2_ := am_ ((by rw [hg]; exact (below_size (by repeat (first | (with_reducible first | exact HB.out | apply b1_ | apply b2_ | apply b3_) | exact HB.out))) : w.heap.size ≤ gb1171)); have n3_ := am_ ((by rw [hg]; exact (below_size (by repeat (first | (with_reducible first | exact HB.out | apply b1_ | apply b2_ | apply b3_) | exact HB.out))) : w.heap.size ≤ gb1171)); clear HB; have HB := n0_; have BK1171 := n1_; have GW1171 := n2_; have GE1171 := n3_; clear n0_ n1_ n2_ n3_; clear hb hbox hg) | ((with_reducible refine gate_dst (N := 3) rfl ?_); refine box_event ?hg (N := 3) ?hd (cs := #[.bool a1_0, .int .i64 a1_1, .int .i64 a1_2, .int .i64 a1_3, .int .i64 a1_4, .string a1_5, .slice A1_6 l1_6.length c1_6]) (t := 67) ?hr ?_; (case hd => rfl); (case hg => rfl); (case hr => first | (go_simp; done) | (go_simp; rfl)); intro gb1172 hg w5 hbox hb; have n0_ := am_ (blk_below (g := gb1171) (o := .cells #[.bool a0_0, .int .i64 a0_1, .int .i64 a0_2, .int .i64 a0_3, .int .i64 a0_4, .string a0_5, .slice A0_6 l0_6.length c0_6] 67 (0, 0)) (by (with_reducible repeat (first | apply k1_ | apply k2_ | apply k3_)); exact BK1171.out) hb); have n1_ := am_ (below_step (by repeat (first | (with_reducible first | exact HB.out | apply b1_ | apply b2_ | apply b3_ | refine below_set ?_ GE1171.out) | exact HB.out)) hb); have n2_ := am_ (hbox); have n3_ := am_ ((by rw [hg]; exact (below_size (by repeat (first | (with_reducible first | exact HB.out | apply b1_ | apply b2_ | apply b3_ | refine below_set ?_ GE1171.out) | exact HB.out))) : w.heap.size ≤ gb1172)); have n4_ := am_ ((by rw [hg]; exact (below_size (by repeat (first | (with_reducible first | exact HB.out | apply b1_ | apply b2_ | apply b3_ | refine below_set ?_ GE1171.out) | exact HB.out))) : w.heap.size ≤ gb1172)); have n5_ := am_ ((by rw [hg]; exact Nat.ne_of_lt (blk_lt (g := gb1171) (o := .cells #[.bool a0_0, .int .i64 a0_1, .int .i64 a0_2, .int .i64 a0_3, .int .i64 a0_4, .string a0_5, .slice A0_6 l0_6.length c0_6] 67 (0, 0)) (by (with_reducible repeat (first | apply k1_ | apply k2_ | apply k3_)); exact BK1171.out)) : gb1171 ≠ gb1172)); have n6_ := am_ ((by rw [hg]; exact Nat.ne_of_gt (blk_lt (g := gb1171) (o := .cells #[.bool a0_0, .int .i64 a0_1, .int .i64 a0_2, .int .i64 a0_3, .int .i64 a0_4, .string a0_5, .slice A0_6 l0_6.length c0_6] 67 (0, 0)) (by (with_reducible repeat (first | apply k1_ | apply k2_ | apply k3_)); exact BK1171.out)) : gb1172 ≠ gb1171)); clear BK1171; clear HB; have BK1171 := n0_; have HB := n1_; have BK1172 := n2_; have GW1172 := n3_; have GE1172 := n4_; have NB1171_1172 := n5_; have NB1172_1171 := n6_; clear n0_ n1_ n2_ n3_ n4_ n5_ n6_; clear hb hbox hg; have hnb6 := NB1171_1172.out; have hnc6 := NB1172_1171.out; have hcz7_0 : w5.cell? ⟨gb1171, 0, none⟩ = some (.bool a0_0) := (blk_cell BK1171.out 0).trans rfl; have hcz7_1 : w5.cell? ⟨gb1171, 1, none⟩ = some (.int .i64 a0_1) := (blk_cell BK1171.out 1).trans rfl; have hcz7_2 : w5.cell? ⟨gb1171, 2, none⟩ = some (.int .i64 a0_2) := (blk_cell BK1171.out 2).trans rfl; have hcz7_3 : w5.cell? ⟨gb1171, 3, none⟩ = some (.int .i64 a0_3) := (blk_cell BK1171.out 3).trans rfl; have hcz7_4 : w5.cell? ⟨gb1171, 4, none⟩ = some (.int .i64 a0_4) := (blk_cell BK1171.out 4).trans rfl; have hcz7_5 : w5.cell? ⟨gb1171, 5, none⟩ = some (.string a0_5) := (blk_cell BK1171.out 5).trans rfl; have hcz7_6 : w5.cell? ⟨gb1171, 6, none⟩ = some (.slice A0_6 l0_6.length c0_6) := (blk_cell BK1171.out 6).trans rfl; have hfz7_0 := blk_frozen BK1171.out 0; have hfz7_1 := blk_frozen BK1171.out 1; have hfz7_2 := blk_frozen BK1171.out 2; have hfz7_3 := blk_frozen BK1171.out 3; have hfz7_4 := blk_frozen BK1171.out 4; have hfz7_5 := blk_frozen BK1171.out 5; have hfz7_6 := blk_frozen BK1171.out 6; have hcz8_0 : w5.cell? ⟨gb1172, 0, none⟩ = some (.bool a1_0) := (blk_cell BK1172.out 0).trans rfl; have hcz8_1 : w5.cell? ⟨gb1172, 1, none⟩ = some (.int .i64 a1_1) := (blk_cell BK1172.out 1).trans rfl; have hcz8_2 : w5.cell? ⟨gb1172, 2, none⟩ = some (.int .i64 a1_2) := (blk_cell BK1172.out 2).trans rfl; have hcz8_3 : w5.cell? ⟨gb1172, 3, none⟩ = some (.int .i64 a1_3) := (blk_cell BK1172.out 3).trans rfl; have hcz8_4 : w5.cell? ⟨gb1172, 4, none⟩ = some (.int .i64 a1_4) := (blk_cell BK1172.out 4).trans rfl; have hcz8_5 : w5.cell? ⟨gb1172, 5, none⟩ = some (.string a1_5) := (blk_cell BK1172.out 5).trans rfl; have hcz8_6 : w5.cell? ⟨gb1172, 6, none⟩ = some (.slice A1_6 l1_6.length c1_6) := (blk_cell BK1172.out 6).trans rfl; have hfz8_0 := blk_frozen BK1172.out 0; have hfz8_1 := blk_frozen BK1172.out 1; have hfz8_2 := blk_frozen BK1172.out 2; have hfz8_3 := blk_frozen BK1172.out 3; have hfz8_4 := blk_frozen BK1172.out 4; have hfz8_5 := blk_frozen BK1172.out 5; have hfz8_6 := blk_frozen BK1172.out 6))
  go_ret
  exact ⟨by first | rfl | (simp [e1_, e2_] <;> rfl) | (simp [*, e1_, e2_] <;> rfl) | (simp [e3_, e4_]; done) | (simp [*, e3_, e4_]; done), by repeat (first | (with_reducible first | exact HB.out | apply b1_ | apply b2_ | apply b3_ | refine below_set ?_ GE1171.out | refine below_set ?_ GE1172.out) | exact HB.out)⟩
 ·rw [if_neg c3] at H
  have c3b0 : (a0_0 != a1_0) = false := by simpa using c3
  (try (have c3b1 : decide (a0_0 = a1_0) = true := by simpa using c3))
  (try (have c3b2 : (a0_0 == a1_0) = true := by simpa using c3))
  clear c3
  replace H := Option.bind_eq_some_iff.mp H
  obtain ⟨t1173, A90, H⟩ := H
  replace H : (if t1173 = true then ((laws_eqReadingS.f k l0_6 l1_6).bind fun t1174 => (if t1174 = true then (some true) else (some false))) else (some false)) = some r := H
  have A9 := am_ A90
  clear A90
  by_cases c10 : t1173 = true
  ·subst c10
   have H1 : ((laws_eqReadingS.f k l0_6 l1_6).bind fun t1174 => (if t1174 = true then (some true) else (some false))) = some r := by rw [if_pos rfl] at H; exact H
   clear H
   have H := H1
   clear H1
   replace H := Option.bind_eq_some_iff.mp H
   obtain ⟨t1174, A110, H⟩ := H
   replace H : (if t1174 = true then (some true) else (some false)) = some r := H
   have A11 := am_ A110
   clear A110
   by_cases c12 : t1174 = true
   ·subst c12
    have H1 : (some true) = some r := by rw [if_pos rfl] at H; exact H
    clear H
    have H := H1
    clear H1
    obtain rfl := Option.some.inj H
    go_enter Try.func46, Try.ntmps46
    go_wp2_with (first | ((with_reducible refine gate_dst (N := 2) rfl ?_); refine box_event ?hg (N := 2) ?hd (cs := #[.bool a0_0, .int .i64 a0_1, .int .i64 a0_2, .int .i64 a0_3, .int .i64 a0_4, .string a0_5, .slice A0_6 l0_6.length c0_6]) (t := 67) ?hr ?_; (case hd => rfl); (case hg => rfl); (case hr => first | (go_simp; done) | (go_simp; rfl)); intro gb1171 hg w13 hbox hb; have n0_ := am_ (below_step (by repeat (first | (with_reducible first | exact HB.out | apply b1_ | apply b2_ | apply b3_) | exact HB.out)) hb); have n1_ := am_ (hbox); have n2_ := am_ ((by rw [hg]; exact (below_size (by repeat (first | (with_reducible first | exact HB.out | apply b1_ | apply b2_ | apply b3_) | exact HB.out))) : w.heap.size ≤ gb1171)); have n3_ := am_ ((by rw [hg]; exact (below_size (by repeat (first | (with_reducible first | exact HB.out | apply b1_ | apply b2_ | apply b3_) | exact HB.out))) : w.heap.size ≤ gb1171)); clear HB; have HB := n0_; have BK1171 := n1_; have GW1171 := n2_; have GE1171 := n3_; clear n0_ n1_ n2_ n3_; clear hb hbox hg) | ((with_reducible refine gate_dst (N := 3) rfl ?_); refine box_event ?hg (N := 3) ?hd (cs := #[.bool a1_0, .int .i64 a1_1, .int .i64 a1_2, .int .i64 a1_3, .int .i64 a1_4, .string a1_5, .slice A1_6 l1_6.length c1_6]) (t := 67) ?hr ?_; (case hd => rfl); (case hg => rfl); (case hr => first | (go_simp; done) | (go_simp; rfl)); intro gb1172 hg w14 hbox hb; have n0_ := am_ (blk_below (g := gb1171) (o := .cells #[.bool a0_0, .int .i64 a0_1, .int .i64 a0_2, .int .i64 a0_3, .int .i64 a0_4, .string a0_5, .slice A0_6 l0_6.length c0_6] 67 (0, 0)) (by (with_reducible repeat (first | apply k1_ | apply k2_ | apply k3_)); exact BK1171.out) hb); have n1_ := am_ (below_step (by repeat (first | (with_reducible first | exact HB.out | apply b1_ | apply b2_ | apply b3_ | refine below_set ?_ GE1171.out) | exact HB.out)) hb); have n2_ := am_ (hbox); have n3_ := am_ ((by rw [hg]; exact (below_size (by repeat (first | (with_reducible first | exact HB.out | apply b1_ | apply b2_ | apply b3_ | refine below_set ?_ GE1171.out) | exact HB.out))) : w.heap.size ≤ gb1172)); have n4_ := am_ ((by rw [hg]; exact (below_size (by repeat (first | (with_reducible first | exact HB.out | apply b1_ | apply b2_ | apply b3_ | refine below_set ?_ GE1171.out) | exact HB.out))) : w.heap.size ≤ gb1172)); have n5_ := am_ ((by rw [hg]; exact Nat.ne_of_lt (blk_lt (g := gb1171) (o := .cells #[.bool a0_0, .int .i64 a0_1, .int .i64 a0_2, .int .i64 a0_3, .int .i64 a0_4, .string a0_5, .slice A0_6 l0_6.length c0_6] 67 (0, 0)) (by (with_reducible repeat (first | apply k1_ | apply k2_ | apply k3_)); exact BK1171.out)) : gb1171 ≠ gb1172)); have n6_ := am_ ((by rw [hg]; exact Nat.ne_of_gt (blk_lt (g := gb1171) (o := .cells #[.bool a0_0, .int .i64 a0_1, .int .i64 a0_2, .int .i64 a0_3, .int .i64 a0_4, .string a0_5, .slice A0_6 l0_6.length c0_6] 67 (0, 0)) (by (with_reducible repeat (first | apply k1_ | apply k2_ | apply k3_)); exact BK1171.out)) : gb1172 ≠ gb1171)); clear BK1171; clear HB; have BK1171 := n0_; have HB := n1_; have BK1172 := n2_; have GW1172 := n3_; have GE1172 := n4_; have NB1171_1172 := n5_; have NB1172_1171 := n6_; clear n0_ n1_ n2_ n3_ n4_ n5_ n6_; clear hb hbox hg; have hnb15 := NB1171_1172.out; have hnc15 := NB1172_1171.out; have hcz16_0 : w14.cell? ⟨gb1171, 0, none⟩ = some (.bool a0_0) := (blk_cell BK1171.out 0).trans rfl; have hcz16_1 : w14.cell? ⟨gb1171, 1, none⟩ = some (.int .i64 a0_1) := (blk_cell BK1171.out 1).trans rfl; have hcz16_2 : w14.cell? ⟨gb1171, 2, none⟩ = some (.int .i64 a0_2) := (blk_cell BK1171.out 2).trans rfl; have hcz16_3 : w14.cell? ⟨gb1171, 3, none⟩ = some (.int .i64 a0_3) := (blk_cell BK1171.out 3).trans rfl; have hcz16_4 : w14.cell? ⟨gb1171, 4, none⟩ = some (.int .i64 a0_4) := (blk_cell BK1171.out 4).trans rfl; have hcz16_5 : w14.cell? ⟨gb1171, 5, none⟩ = some (.string a0_5) := (blk_cell BK1171.out 5).trans rfl; have hcz16_6 : w14.cell? ⟨gb1171, 6, none⟩ = some (.slice A0_6 l0_6.length c0_6) := (blk_cell BK1171.out 6).trans rfl; have hfz16_0 := blk_frozen BK1171.out 0; have hfz16_1 := blk_frozen BK1171.out 1; have hfz16_2 := blk_frozen BK1171.out 2; have hfz16_3 := blk_frozen BK1171.out 3; have hfz16_4 := blk_frozen BK1171.out 4; have hfz16_5 := blk_frozen BK1171.out 5; have hfz16_6 := blk_frozen BK1171.out 6; have hcz17_0 : w14.cell? ⟨gb1172, 0, none⟩ = some (.bool a1_0) := (blk_cell BK1172.out 0).trans rfl; have hcz17_1 : w14.cell? ⟨gb1172, 1, none⟩ = some (.int .i64 a1_1) := (blk_cell BK1172.out 1).trans rfl; have hcz17_2 : w14.cell? ⟨gb1172, 2, none⟩ = some (.int .i64 a1_2) := (blk_cell BK1172.out 2).trans rfl; have hcz17_3 : w14.cell? ⟨gb1172, 3, none⟩ = some (.int .i64 a1_3) := (blk_cell BK1172.out 3).trans rfl; have hcz17_4 : w14.cell? ⟨gb1172, 4, none⟩ = some (.int .i64 a1_4) := (blk_cell BK1172.out 4).trans rfl; have hcz17_5 : w14.cell? ⟨gb1172, 5, none⟩ = some (.string a1_5) := (blk_cell BK1172.out 5).trans rfl; have hcz17_6 : w14.cell? ⟨gb1172, 6, none⟩ = some (.slice A1_6 l1_6.length c1_6) := (blk_cell BK1172.out 6).trans rfl; have hfz17_0 := blk_frozen BK1172.out 0; have hfz17_1 := blk_frozen BK1172.out 1; have hfz17_2 := blk_frozen BK1172.out 2; have hfz17_3 := blk_frozen BK1172.out 3; have hfz17_4 := blk_frozen BK1172.out 4; have hfz17_5 := blk_frozen BK1172.out 5; have hfz17_6 := blk_frozen BK1172.out 6) | ((with_reducible refine gate_callee (f := 72) rfl ?_); refine goesL_ (some 14) rfl rfl Try.func72 (by kernel_rfl) rfl #[.agg #[.int .i64 a0_1, .int .i64 a0_2, .int .i64 a0_3, .int .i64 a0_4, .string a0_5], .agg #[.int .i64 a1_1, .int .i64 a1_2, .int .i64 a1_3, .int .i64 a1_4, .string a1_5]] rfl (by (try simp only [m1_, m2_, m3_]); first | done | rfl | (simp only [d1_, d2_]; rfl)) ?_; (with_reducible refine (laws_eqRequest.calls a0_1 a0_2 a0_3 a0_4 a0_5 a1_1 a1_2 a1_3 a1_4 a1_5 true _ A9.out).mono ?_); rintro e w18 ⟨rfl, hb⟩; refine ⟨_, rfl, ?_⟩; have n0_ := am_ (blk_below (g := gb1171) (o := .cells #[.bool a0_0, .int .i64 a0_1, .int .i64 a0_2, .int .i64 a0_3, .int .i64 a0_4, .string a0_5, .slice A0_6 l0_6.length c0_6] 67 (0, 0)) (by (with_reducible repeat (first | apply k1_ | apply k2_ | apply k3_)); exact BK1171.out) hb); have n1_ := am_ (blk_below (g := gb1172) (o := .cells #[.bool a1_0, .int .i64 a1_1, .int .i64 a1_2, .int .i64 a1_3, .int .i64 a1_4, .string a1_5, .slice A1_6 l1_6.length c1_6] 67 (0, 0)) (by (with_reducible repeat (first | apply k1_ | apply k2_ | apply k3_)); exact BK1172.out) hb); have n2_ := am_ (below_step (by repeat (first | (with_reducible first | exact HB.out | apply b1_ | apply b2_ | apply b3_ | refine below_set ?_ GE1171.out | refine below_set ?_ GE1172.out) | exact HB.out)) hb); clear BK1171; clear BK1172; clear HB; have BK1171 := n0_; have BK1172 := n1_; have HB := n2_; clear n0_ n1_ n2_; (try clear hb); (try clear hb2); (try clear hk); (try clear hi); have hcz19_0 : w18.cell? ⟨gb1171, 0, none⟩ = some (.bool a0_0) := (blk_cell BK1171.out 0).trans rfl; have hcz19_1 : w18.cell? ⟨gb1171, 1, none⟩ = some (.int .i64 a0_1) := (blk_cell BK1171.out 1).trans rfl; have hcz19_2 : w18.cell? ⟨gb1171, 2, none⟩ = some (.int .i64 a0_2) := (blk_cell BK1171.out 2).trans rfl; have hcz19_3 : w18.cell? ⟨gb1171, 3, none⟩ = some (.int .i64 a0_3) := (blk_cell BK1171.out 3).trans rfl; have hcz19_4 : w18.cell? ⟨gb1171, 4, none⟩ = some (.int .i64 a0_4) := (blk_cell BK1171.out 4).trans rfl; have hcz19_5 : w18.cell? ⟨gb1171, 5, none⟩ = some (.string a0_5) := (blk_cell BK1171.out 5).trans rfl; have hcz19_6 : w18.cell? ⟨gb1171, 6, none⟩ = some (.slice A0_6 l0_6.length c0_6) := (blk_cell BK1171.out 6).trans rfl; have hfz19_0 := blk_frozen BK1171.out 0; have hfz19_1 := blk_frozen BK1171.out 1; have hfz19_2 := blk_frozen BK1171.out 2; have hfz19_3 := blk_frozen BK1171.out 3; have hfz19_4 := blk_frozen BK1171.out 4; have hfz19_5 := blk_frozen BK1171.out 5; have hfz19_6 := blk_frozen BK1171.out 6; have hcz20_0 : w18.cell? ⟨gb1172, 0, none⟩ = some (.bool a1_0) := (blk_cell BK1172.out 0).trans rfl; have hcz20_1 : w18.cell? ⟨gb1172, 1, none⟩ = some (.int .i64 a1_1) := (blk_cell BK1172.out 1).trans rfl; have hcz20_2 : w18.cell? ⟨gb1172, 2, none⟩ = some (.int .i64 a1_2) := (blk_cell BK1172.out 2).trans rfl; have hcz20_3 : w18.cell? ⟨gb1172, 3, none⟩ = some (.int .i64 a1_3) := (blk_cell BK1172.out 3).trans rfl; have hcz20_4 : w18.cell? ⟨gb1172, 4, none⟩ = some (.int .i64 a1_4) := (blk_cell BK1172.out 4).trans rfl; have hcz20_5 : w18.cell? ⟨gb1172, 5, none⟩ = some (.string a1_5) := (blk_cell BK1172.out 5).trans rfl; have hcz20_6 : w18.cell? ⟨gb1172, 6, none⟩ = some (.slice A1_6 l1_6.length c1_6) := (blk_cell BK1172.out 6).trans rfl; have hfz20_0 := blk_frozen BK1172.out 0; have hfz20_1 := blk_frozen BK1172.out 1; have hfz20_2 := blk_frozen BK1172.out 2; have hfz20_3 := blk_frozen BK1172.out 3; have hfz20_4 := blk_frozen BK1172.out 4; have hfz20_5 := blk_frozen BK1172.out 5; have hfz20_6 := blk_frozen BK1172.out 6) | ((with_reducible refine gate_callee (f := 94) rfl ?_); refine goesL_ (some 20) rfl rfl Try.func94 (by kernel_rfl) rfl #[.slice A0_6 l0_6.length c0_6, .slice A1_6 l1_6.length c1_6] rfl (by (try simp only [m1_, m2_, m3_]); first | done | rfl | (simp only [d1_, d2_]; rfl)) ?_; (with_reducible refine (laws_eqReadingS.calls k _ _ l0_6 _ _ l1_6 true _ ?side1 ?side2 ?side3 ?side4 A11.out).mono ?_); (case side1 => repeat (first | exact (Kd.C_below HR0_6.out HB.out) | (with_reducible refine Kd.C_alloc ?_ _) | (with_reducible refine Kd.C_drewN ?_ _) | (with_reducible refine Kd.C_drew ?_))); (case side2 => exact HC0_6.out); (case side3 => repeat (first | exact (Kd.C_below HR1_6.out HB.out) | (with_reducible refine Kd.C_alloc ?_ _) | (with_reducible refine Kd.C_drewN ?_ _) | (with_reducible refine Kd.C_drew ?_))); (case side4 => exact HC1_6.out); rintro e w21 ⟨rfl, hb⟩; refine ⟨_, rfl, ?_⟩; have n0_ := am_ (blk_below (g := gb1171) (o := .cells #[.bool a0_0, .int .i64 a0_1, .int .i64 a0_2, .int .i64 a0_3, .int .i64 a0_4, .string a0_5, .slice A0_6 l0_6.length c0_6] 67 (0, 0)) (by (with_reducible repeat (first | apply k1_ | apply k2_ | apply k3_)); exact BK1171.out) hb); have n1_ := am_ (blk_below (g := gb1172) (o := .cells #[.bool a1_0, .int .i64 a1_1, .int .i64 a1_2, .int .i64 a1_3, .int .i64 a1_4, .string a1_5, .slice A1_6 l1_6.length c1_6] 67 (0, 0)) (by (with_reducible repeat (first | apply k1_ | apply k2_ | apply k3_)); exact BK1172.out) hb); have n2_ := am_ (below_step (by repeat (first | (with_reducible first | exact HB.out | apply b1_ | apply b2_ | apply b3_ | refine below_set ?_ GE1171.out | refine below_set ?_ GE1172.out) | exact HB.out)) hb); clear BK1171; clear BK1172; clear HB; have BK1171 := n0_; have BK1172 := n1_; have HB := n2_; clear n0_ n1_ n2_; (try clear hb); (try clear hb2); (try clear hk); (try clear hi)))
    go_ret
    exact ⟨by first | rfl | (simp [e1_, e2_] <;> rfl) | (simp [*, e1_, e2_] <;> rfl) | (simp [e3_, e4_]; done) | (simp [*, e3_, e4_]; done), by repeat (first | (with_reducible first | exact HB.out | apply b1_ | apply b2_ | apply b3_ | refine below_set ?_ GE1171.out | refine below_set ?_ GE1172.out) | exact HB.out)⟩
   ·replace c12 := Bool.eq_false_iff.mpr c12
    subst c12
    have H1 : (some false) = some r := by rw [if_neg (show ¬ (false = true) by decide)] at H; exact H
    clear H
    have H := H1
    clear H1
    obtain rfl := Option.some.inj H
    go_enter Try.func46, Try.ntmps46
    go_wp2_with (first | ((with_reducible refine gate_dst (N := 2) rfl ?_); refine box_event ?hg (N := 2) ?hd (cs := #[.bool a0_0, .int .i64 a0_1, .int .i64 a0_2, .int .i64 a0_3, .int .i64 a0_4, .string a0_5, .slice A0_6 l0_6.length c0_6]) (t := 67) ?hr ?_; (case hd => rfl); (case hg => rfl); (case hr => first | (go_simp; done) | (go_simp; rfl)); intro gb1171 hg w22 hbox hb; have n0_ := am_ (below_step (by repeat (first | (with_reducible first | exact HB.out | apply b1_ | apply b2_ | apply b3_) | exact HB.out)) hb); have n1_ := am_ (hbox); have n2_ := am_ ((by rw [hg]; exact (below_size (by repeat (first | (with_reducible first | exact HB.out | apply b1_ | apply b2_ | apply b3_) | exact HB.out))) : w.heap.size ≤ gb1171)); have n3_ := am_ ((by rw [hg]; exact (below_size (by repeat (first | (with_reducible first | exact HB.out | apply b1_ | apply b2_ | apply b3_) | exact HB.out))) : w.heap.size ≤ gb1171)); clear HB; have HB := n0_; have BK1171 := n1_; have GW1171 := n2_; have GE1171 := n3_; clear n0_ n1_ n2_ n3_; clear hb hbox hg) | ((with_reducible refine gate_dst (N := 3) rfl ?_); refine box_event ?hg (N := 3) ?hd (cs := #[.bool a1_0, .int .i64 a1_1, .int .i64 a1_2, .int .i64 a1_3, .int .i64 a1_4, .string a1_5, .slice A1_6 l1_6.length c1_6]) (t := 67) ?hr ?_; (case hd => rfl); (case hg => rfl); (case hr => first | (go_simp; done) | (go_simp; rfl)); intro gb1172 hg w23 hbox hb; have n0_ := am_ (blk_below (g := gb1171) (o := .cells #[.bool a0_0, .int .i64 a0_1, .int .i64 a0_2, .int .i64 a0_3, .int .i64 a0_4, .string a0_5, .slice A0_6 l0_6.length c0_6] 67 (0, 0)) (by (with_reducible repeat (first | apply k1_ | apply k2_ | apply k3_)); exact BK1171.out) hb); have n1_ := am_ (below_step (by repeat (first | (with_reducible first | exact HB.out | apply b1_ | apply b2_ | apply b3_ | refine below_set ?_ GE1171.out) | exact HB.out)) hb); have n2_ := am_ (hbox); have n3_ := am_ ((by rw [hg]; exact (below_size (by repeat (first | (with_reducible first | exact HB.out | apply b1_ | apply b2_ | apply b3_ | refine below_set ?_ GE1171.out) | exact HB.out))) : w.heap.size ≤ gb1172)); have n4_ := am_ ((by rw [hg]; exact (below_size (by repeat (first | (with_reducible first | exact HB.out | apply b1_ | apply b2_ | apply b3_ | refine below_set ?_ GE1171.out) | exact HB.out))) : w.heap.size ≤ gb1172)); have n5_ := am_ ((by rw [hg]; exact Nat.ne_of_lt (blk_lt (g := gb1171) (o := .cells #[.bool a0_0, .int .i64 a0_1, .int .i64 a0_2, .int .i64 a0_3, .int .i64 a0_4, .string a0_5, .slice A0_6 l0_6.length c0_6] 67 (0, 0)) (by (with_reducible repeat (first | apply k1_ | apply k2_ | apply k3_)); exact BK1171.out)) : gb1171 ≠ gb1172)); have n6_ := am_ ((by rw [hg]; exact Nat.ne_of_gt (blk_lt (g := gb1171) (o := .cells #[.bool a0_0, .int .i64 a0_1, .int .i64 a0_2, .int .i64 a0_3, .int .i64 a0_4, .string a0_5, .slice A0_6 l0_6.length c0_6] 67 (0, 0)) (by (with_reducible repeat (first | apply k1_ | apply k2_ | apply k3_)); exact BK1171.out)) : gb1172 ≠ gb1171)); clear BK1171; clear HB; have BK1171 := n0_; have HB := n1_; have BK1172 := n2_; have GW1172 := n3_; have GE1172 := n4_; have NB1171_1172 := n5_; have NB1172_1171 := n6_; clear n0_ n1_ n2_ n3_ n4_ n5_ n6_; clear hb hbox hg; have hnb24 := NB1171_1172.out; have hnc24 := NB1172_1171.out; have hcz25_0 : w23.cell? ⟨gb1171, 0, none⟩ = some (.bool a0_0) := (blk_cell BK1171.out 0).trans rfl; have hcz25_1 : w23.cell? ⟨gb1171, 1, none⟩ = some (.int .i64 a0_1) := (blk_cell BK1171.out 1).trans rfl; have hcz25_2 : w23.cell? ⟨gb1171, 2, none⟩ = some (.int .i64 a0_2) := (blk_cell BK1171.out 2).trans rfl; have hcz25_3 : w23.cell? ⟨gb1171, 3, none⟩ = some (.int .i64 a0_3) := (blk_cell BK1171.out 3).trans rfl; have hcz25_4 : w23.cell? ⟨gb1171, 4, none⟩ = some (.int .i64 a0_4) := (blk_cell BK1171.out 4).trans rfl; have hcz25_5 : w23.cell? ⟨gb1171, 5, none⟩ = some (.string a0_5) := (blk_cell BK1171.out 5).trans rfl; have hcz25_6 : w23.cell? ⟨gb1171, 6, none⟩ = some (.slice A0_6 l0_6.length c0_6) := (blk_cell BK1171.out 6).trans rfl; have hfz25_0 := blk_frozen BK1171.out 0; have hfz25_1 := blk_frozen BK1171.out 1; have hfz25_2 := blk_frozen BK1171.out 2; have hfz25_3 := blk_frozen BK1171.out 3; have hfz25_4 := blk_frozen BK1171.out 4; have hfz25_5 := blk_frozen BK1171.out 5; have hfz25_6 := blk_frozen BK1171.out 6; have hcz26_0 : w23.cell? ⟨gb1172, 0, none⟩ = some (.bool a1_0) := (blk_cell BK1172.out 0).trans rfl; have hcz26_1 : w23.cell? ⟨gb1172, 1, none⟩ = some (.int .i64 a1_1) := (blk_cell BK1172.out 1).trans rfl; have hcz26_2 : w23.cell? ⟨gb1172, 2, none⟩ = some (.int .i64 a1_2) := (blk_cell BK1172.out 2).trans rfl; have hcz26_3 : w23.cell? ⟨gb1172, 3, none⟩ = some (.int .i64 a1_3) := (blk_cell BK1172.out 3).trans rfl; have hcz26_4 : w23.cell? ⟨gb1172, 4, none⟩ = some (.int .i64 a1_4) := (blk_cell BK1172.out 4).trans rfl; have hcz26_5 : w23.cell? ⟨gb1172, 5, none⟩ = some (.string a1_5) := (blk_cell BK1172.out 5).trans rfl; have hcz26_6 : w23.cell? ⟨gb1172, 6, none⟩ = some (.slice A1_6 l1_6.length c1_6) := (blk_cell BK1172.out 6).trans rfl; have hfz26_0 := blk_frozen BK1172.out 0; have hfz26_1 := blk_frozen BK1172.out 1; have hfz26_2 := blk_frozen BK1172.out 2; have hfz26_3 := blk_frozen BK1172.out 3; have hfz26_4 := blk_frozen BK1172.out 4; have hfz26_5 := blk_frozen BK1172.out 5; have hfz26_6 := blk_frozen BK1172.out 6) | ((with_reducible refine gate_callee (f := 72) rfl ?_); refine goesL_ (some 14) rfl rfl Try.func72 (by kernel_rfl) rfl #[.agg #[.int .i64 a0_1, .int .i64 a0_2, .int .i64 a0_3, .int .i64 a0_4, .string a0_5], .agg #[.int .i64 a1_1, .int .i64 a1_2, .int .i64 a1_3, .int .i64 a1_4, .string a1_5]] rfl (by (try simp only [m1_, m2_, m3_]); first | done | rfl | (simp only [d1_, d2_]; rfl)) ?_; (with_reducible refine (laws_eqRequest.calls a0_1 a0_2 a0_3 a0_4 a0_5 a1_1 a1_2 a1_3 a1_4 a1_5 true _ A9.out).mono ?_); rintro e w27 ⟨rfl, hb⟩; refine ⟨_, rfl, ?_⟩; have n0_ := am_ (blk_below (g := gb1171) (o := .cells #[.bool a0_0, .int .i64 a0_1, .int .i64 a0_2, .int .i64 a0_3, .int .i64 a0_4, .string a0_5, .slice A0_6 l0_6.length c0_6] 67 (0, 0)) (by (with_reducible repeat (first | apply k1_ | apply k2_ | apply k3_)); exact BK1171.out) hb); have n1_ := am_ (blk_below (g := gb1172) (o := .cells #[.bool a1_0, .int .i64 a1_1, .int .i64 a1_2, .int .i64 a1_3, .int .i64 a1_4, .string a1_5, .slice A1_6 l1_6.length c1_6] 67 (0, 0)) (by (with_reducible repeat (first | apply k1_ | apply k2_ | apply k3_)); exact BK1172.out) hb); have n2_ := am_ (below_step (by repeat (first | (with_reducible first | exact HB.out | apply b1_ | apply b2_ | apply b3_ | refine below_set ?_ GE1171.out | refine below_set ?_ GE1172.out) | exact HB.out)) hb); clear BK1171; clear BK1172; clear HB; have BK1171 := n0_; have BK1172 := n1_; have HB := n2_; clear n0_ n1_ n2_; (try clear hb); (try clear hb2); (try clear hk); (try clear hi); have hcz28_0 : w27.cell? ⟨gb1171, 0, none⟩ = some (.bool a0_0) := (blk_cell BK1171.out 0).trans rfl; have hcz28_1 : w27.cell? ⟨gb1171, 1, none⟩ = some (.int .i64 a0_1) := (blk_cell BK1171.out 1).trans rfl; have hcz28_2 : w27.cell? ⟨gb1171, 2, none⟩ = some (.int .i64 a0_2) := (blk_cell BK1171.out 2).trans rfl; have hcz28_3 : w27.cell? ⟨gb1171, 3, none⟩ = some (.int .i64 a0_3) := (blk_cell BK1171.out 3).trans rfl; have hcz28_4 : w27.cell? ⟨gb1171, 4, none⟩ = some (.int .i64 a0_4) := (blk_cell BK1171.out 4).trans rfl; have hcz28_5 : w27.cell? ⟨gb1171, 5, none⟩ = some (.string a0_5) := (blk_cell BK1171.out 5).trans rfl; have hcz28_6 : w27.cell? ⟨gb1171, 6, none⟩ = some (.slice A0_6 l0_6.length c0_6) := (blk_cell BK1171.out 6).trans rfl; have hfz28_0 := blk_frozen BK1171.out 0; have hfz28_1 := blk_frozen BK1171.out 1; have hfz28_2 := blk_frozen BK1171.out 2; have hfz28_3 := blk_frozen BK1171.out 3; have hfz28_4 := blk_frozen BK1171.out 4; have hfz28_5 := blk_frozen BK1171.out 5; have hfz28_6 := blk_frozen BK1171.out 6; have hcz29_0 : w27.cell? ⟨gb1172, 0, none⟩ = some (.bool a1_0) := (blk_cell BK1172.out 0).trans rfl; have hcz29_1 : w27.cell? ⟨gb1172, 1, none⟩ = some (.int .i64 a1_1) := (blk_cell BK1172.out 1).trans rfl; have hcz29_2 : w27.cell? ⟨gb1172, 2, none⟩ = some (.int .i64 a1_2) := (blk_cell BK1172.out 2).trans rfl; have hcz29_3 : w27.cell? ⟨gb1172, 3, none⟩ = some (.int .i64 a1_3) := (blk_cell BK1172.out 3).trans rfl; have hcz29_4 : w27.cell? ⟨gb1172, 4, none⟩ = some (.int .i64 a1_4) := (blk_cell BK1172.out 4).trans rfl; have hcz29_5 : w27.cell? ⟨gb1172, 5, none⟩ = some (.string a1_5) := (blk_cell BK1172.out 5).trans rfl; have hcz29_6 : w27.cell? ⟨gb1172, 6, none⟩ = some (.slice A1_6 l1_6.length c1_6) := (blk_cell BK1172.out 6).trans rfl; have hfz29_0 := blk_frozen BK1172.out 0; have hfz29_1 := blk_frozen BK1172.out 1; have hfz29_2 := blk_frozen BK1172.out 2; have hfz29_3 := blk_frozen BK1172.out 3; have hfz29_4 := blk_frozen BK1172.out 4; have hfz29_5 := blk_frozen BK1172.out 5; have hfz29_6 := blk_frozen BK1172.out 6) | ((with_reducible refine gate_callee (f := 94) rfl ?_); refine goesL_ (some 20) rfl rfl Try.func94 (by kernel_rfl) rfl #[.slice A0_6 l0_6.length c0_6, .slice A1_6 l1_6.length c1_6] rfl (by (try simp only [m1_, m2_, m3_]); first | done | rfl | (simp only [d1_, d2_]; rfl)) ?_; (with_reducible refine (laws_eqReadingS.calls k _ _ l0_6 _ _ l1_6 false _ ?side1 ?side2 ?side3 ?side4 A11.out).mono ?_); (case side1 => repeat (first | exact (Kd.C_below HR0_6.out HB.out) | (with_reducible refine Kd.C_alloc ?_ _) | (with_reducible refine Kd.C_drewN ?_ _) | (with_reducible refine Kd.C_drew ?_))); (case side2 => exact HC0_6.out); (case side3 => repeat (first | exact (Kd.C_below HR1_6.out HB.out) | (with_reducible refine Kd.C_alloc ?_ _) | (with_reducible refine Kd.C_drewN ?_ _) | (with_reducible refine Kd.C_drew ?_))); (case side4 => exact HC1_6.out); rintro e w30 ⟨rfl, hb⟩; refine ⟨_, rfl, ?_⟩; have n0_ := am_ (blk_below (g := gb1171) (o := .cells #[.bool a0_0, .int .i64 a0_1, .int .i64 a0_2, .int .i64 a0_3, .int .i64 a0_4, .string a0_5, .slice A0_6 l0_6.length c0_6] 67 (0, 0)) (by (with_reducible repeat (first | apply k1_ | apply k2_ | apply k3_)); exact BK1171.out) hb); have n1_ := am_ (blk_below (g := gb1172) (o := .cells #[.bool a1_0, .int .i64 a1_1, .int .i64 a1_2, .int .i64 a1_3, .int .i64 a1_4, .string a1_5, .slice A1_6 l1_6.length c1_6] 67 (0, 0)) (by (with_reducible repeat (first | apply k1_ | apply k2_ | apply k3_)); exact BK1172.out) hb); have n2_ := am_ (below_step (by repeat (first | (with_reducible first | exact HB.out | apply b1_ | apply b2_ | apply b3_ | refine below_set ?_ GE1171.out | refine below_set ?_ GE1172.out) | exact HB.out)) hb); clear BK1171; clear BK1172; clear HB; have BK1171 := n0_; have BK1172 := n1_; have HB := n2_; clear n0_ n1_ n2_; (try clear hb); (try clear hb2); (try clear hk); (try clear hi)))
    go_ret
    exact ⟨by first | rfl | (simp [e1_, e2_] <;> rfl) | (simp [*, e1_, e2_] <;> rfl) | (simp [e3_, e4_]; done) | (simp [*, e3_, e4_]; done), by repeat (first | (with_reducible first | exact HB.out | apply b1_ | apply b2_ | apply b3_ | refine below_set ?_ GE1171.out | refine below_set ?_ GE1172.out) | exact HB.out)⟩
  ·replace c10 := Bool.eq_false_iff.mpr c10
   subst c10
   have H1 : (some false) = some r := by rw [if_neg (show ¬ (false = true) by decide)] at H; exact H
   clear H
   have H := H1
   clear H1
   obtain rfl := Option.some.inj H
   go_enter Try.func46, Try.ntmps46
   go_wp2_with (first | ((with_reducible refine gate_dst (N := 2) rfl ?_); refine box_event ?hg (N := 2) ?hd (cs := #[.bool a0_0, .int .i64 a0_1, .int .i64 a0_2, .int .i64 a0_3, .int .i64 a0_4, .string a0_5, .slice A0_6 l0_6.length c0_6]) (t := 67) ?hr ?_; (case hd => rfl); (case hg => rfl); (case hr => first | (go_simp; done) | (go_simp; rfl)); intro gb1171 hg w31 hbox hb; have n0_ := am_ (below_step (by repeat (first | (with_reducible first | exact HB.out | apply b1_ | apply b2_ | apply b3_) | exact HB.out)) hb); have n1_ := am_ (hbox); have n2_ := am_ ((by rw [hg]; exact (below_size (by repeat (first | (with_reducible first | exact HB.out | apply b1_ | apply b2_ | apply b3_) | exact HB.out))) : w.heap.size ≤ gb1171)); have n3_ := am_ ((by rw [hg]; exact (below_size (by repeat (first | (with_reducible first | exact HB.out | apply b1_ | apply b2_ | apply b3_) | exact HB.out))) : w.heap.size ≤ gb1171)); clear HB; have HB := n0_; have BK1171 := n1_; have GW1171 := n2_; have GE1171 := n3_; clear n0_ n1_ n2_ n3_; clear hb hbox hg) | ((with_reducible refine gate_dst (N := 3) rfl ?_); refine box_event ?hg (N := 3) ?hd (cs := #[.bool a1_0, .int .i64 a1_1, .int .i64 a1_2, .int .i64 a1_3, .int .i64 a1_4, .string a1_5, .slice A1_6 l1_6.length c1_6]) (t := 67) ?hr ?_; (case hd => rfl); (case hg => rfl); (case hr => first | (go_simp; done) | (go_simp; rfl)); intro gb1172 hg w32 hbox hb; have n0_ := am_ (blk_below (g := gb1171) (o := .cells #[.bool a0_0, .int .i64 a0_1, .int .i64 a0_2, .int .i64 a0_3, .int .i64 a0_4, .string a0_5, .slice A0_6 l0_6.length c0_6] 67 (0, 0)) (by (with_reducible repeat (first | apply k1_ | apply k2_ | apply k3_)); exact BK1171.out) hb); have n1_ := am_ (below_step (by repeat (first | (with_reducible first | exact HB.out | apply b1_ | apply b2_ | apply b3_ | refine below_set ?_ GE1171.out) | exact HB.out)) hb); have n2_ := am_ (hbox); have n3_ := am_ ((by rw [hg]; exact (below_size (by repeat (first | (with_reducible first | exact HB.out | apply b1_ | apply b2_ | apply b3_ | refine below_set ?_ GE1171.out) | exact HB.out))) : w.heap.size ≤ gb1172)); have n4_ := am_ ((by rw [hg]; exact (below_size (by repeat (first | (with_reducible first | exact HB.out | apply b1_ | apply b2_ | apply b3_ | refine below_set ?_ GE1171.out) | exact HB.out))) : w.heap.size ≤ gb1172)); have n5_ := am_ ((by rw [hg]; exact Nat.ne_of_lt (blk_lt (g := gb1171) (o := .cells #[.bool a0_0, .int .i64 a0_1, .int .i64 a0_2, .int .i64 a0_3, .int .i64 a0_4, .string a0_5, .slice A0_6 l0_6.length c0_6] 67 (0, 0)) (by (with_reducible repeat (first | apply k1_ | apply k2_ | apply k3_)); exact BK1171.out)) : gb1171 ≠ gb1172)); have n6_ := am_ ((by rw [hg]; exact Nat.ne_of_gt (blk_lt (g := gb1171) (o := .cells #[.bool a0_0, .int .i64 a0_1, .int .i64 a0_2, .int .i64 a0_3, .int .i64 a0_4, .string a0_5, .slice A0_6 l0_6.length c0_6] 67 (0, 0)) (by (with_reducible repeat (first | apply k1_ | apply k2_ | apply k3_)); exact BK1171.out)) : gb1172 ≠ gb1171)); clear BK1171; clear HB; have BK1171 := n0_; have HB := n1_; have BK1172 := n2_; have GW1172 := n3_; have GE1172 := n4_; have NB1171_1172 := n5_; have NB1172_1171 := n6_; clear n0_ n1_ n2_ n3_ n4_ n5_ n6_; clear hb hbox hg; have hnb33 := NB1171_1172.out; have hnc33 := NB1172_1171.out; have hcz34_0 : w32.cell? ⟨gb1171, 0, none⟩ = some (.bool a0_0) := (blk_cell BK1171.out 0).trans rfl; have hcz34_1 : w32.cell? ⟨gb1171, 1, none⟩ = some (.int .i64 a0_1) := (blk_cell BK1171.out 1).trans rfl; have hcz34_2 : w32.cell? ⟨gb1171, 2, none⟩ = some (.int .i64 a0_2) := (blk_cell BK1171.out 2).trans rfl; have hcz34_3 : w32.cell? ⟨gb1171, 3, none⟩ = some (.int .i64 a0_3) := (blk_cell BK1171.out 3).trans rfl; have hcz34_4 : w32.cell? ⟨gb1171, 4, none⟩ = some (.int .i64 a0_4) := (blk_cell BK1171.out 4).trans rfl; have hcz34_5 : w32.cell? ⟨gb1171, 5, none⟩ = some (.string a0_5) := (blk_cell BK1171.out 5).trans rfl; have hcz34_6 : w32.cell? ⟨gb1171, 6, none⟩ = some (.slice A0_6 l0_6.length c0_6) := (blk_cell BK1171.out 6).trans rfl; have hfz34_0 := blk_frozen BK1171.out 0; have hfz34_1 := blk_frozen BK1171.out 1; have hfz34_2 := blk_frozen BK1171.out 2; have hfz34_3 := blk_frozen BK1171.out 3; have hfz34_4 := blk_frozen BK1171.out 4; have hfz34_5 := blk_frozen BK1171.out 5; have hfz34_6 := blk_frozen BK1171.out 6; have hcz35_0 : w32.cell? ⟨gb1172, 0, none⟩ = some (.bool a1_0) := (blk_cell BK1172.out 0).trans rfl; have hcz35_1 : w32.cell? ⟨gb1172, 1, none⟩ = some (.int .i64 a1_1) := (blk_cell BK1172.out 1).trans rfl; have hcz35_2 : w32.cell? ⟨gb1172, 2, none⟩ = some (.int .i64 a1_2) := (blk_cell BK1172.out 2).trans rfl; have hcz35_3 : w32.cell? ⟨gb1172, 3, none⟩ = some (.int .i64 a1_3) := (blk_cell BK1172.out 3).trans rfl; have hcz35_4 : w32.cell? ⟨gb1172, 4, none⟩ = some (.int .i64 a1_4) := (blk_cell BK1172.out 4).trans rfl; have hcz35_5 : w32.cell? ⟨gb1172, 5, none⟩ = some (.string a1_5) := (blk_cell BK1172.out 5).trans rfl; have hcz35_6 : w32.cell? ⟨gb1172, 6, none⟩ = some (.slice A1_6 l1_6.length c1_6) := (blk_cell BK1172.out 6).trans rfl; have hfz35_0 := blk_frozen BK1172.out 0; have hfz35_1 := blk_frozen BK1172.out 1; have hfz35_2 := blk_frozen BK1172.out 2; have hfz35_3 := blk_frozen BK1172.out 3; have hfz35_4 := blk_frozen BK1172.out 4; have hfz35_5 := blk_frozen BK1172.out 5; have hfz35_6 := blk_frozen BK1172.out 6) | ((with_reducible refine gate_callee (f := 72) rfl ?_); refine goesL_ (some 14) rfl rfl Try.func72 (by kernel_rfl) rfl #[.agg #[.int .i64 a0_1, .int .i64 a0_2, .int .i64 a0_3, .int .i64 a0_4, .string a0_5], .agg #[.int .i64 a1_1, .int .i64 a1_2, .int .i64 a1_3, .int .i64 a1_4, .string a1_5]] rfl (by (try simp only [m1_, m2_, m3_]); first | done | rfl | (simp only [d1_, d2_]; rfl)) ?_; (with_reducible refine (laws_eqRequest.calls a0_1 a0_2 a0_3 a0_4 a0_5 a1_1 a1_2 a1_3 a1_4 a1_5 false _ A9.out).mono ?_); rintro e w36 ⟨rfl, hb⟩; refine ⟨_, rfl, ?_⟩; have n0_ := am_ (blk_below (g := gb1171) (o := .cells #[.bool a0_0, .int .i64 a0_1, .int .i64 a0_2, .int .i64 a0_3, .int .i64 a0_4, .string a0_5, .slice A0_6 l0_6.length c0_6] 67 (0, 0)) (by (with_reducible repeat (first | apply k1_ | apply k2_ | apply k3_)); exact BK1171.out) hb); have n1_ := am_ (blk_below (g := gb1172) (o := .cells #[.bool a1_0, .int .i64 a1_1, .int .i64 a1_2, .int .i64 a1_3, .int .i64 a1_4, .string a1_5, .slice A1_6 l1_6.length c1_6] 67 (0, 0)) (by (with_reducible repeat (first | apply k1_ | apply k2_ | apply k3_)); exact BK1172.out) hb); have n2_ := am_ (below_step (by repeat (first | (with_reducible first | exact HB.out | apply b1_ | apply b2_ | apply b3_ | refine below_set ?_ GE1171.out | refine below_set ?_ GE1172.out) | exact HB.out)) hb); clear BK1171; clear BK1172; clear HB; have BK1171 := n0_; have BK1172 := n1_; have HB := n2_; clear n0_ n1_ n2_; (try clear hb); (try clear hb2); (try clear hk); (try clear hi)))
   go_ret
   exact ⟨by first | rfl | (simp [e1_, e2_] <;> rfl) | (simp [*, e1_, e2_] <;> rfl) | (simp [e3_, e4_]; done) | (simp [*, e3_, e4_]; done), by repeat (first | (with_reducible first | exact HB.out | apply b1_ | apply b2_ | apply b3_ | refine below_set ?_ GE1171.out | refine below_set ?_ GE1172.out) | exact HB.out)⟩
set_option maxHeartbeats 8000000 in
set_option maxRecDepth 100000 in
theorem laws_eqByteS.calls (k : Nat) (A0 : Option Addr) (c0 : Nat) (l0 : List Int) (A1 : Option Addr) (c1 : Nat) (l1 : List Int) (r : Bool) (w : World) (hr0 : Kd.C (Kd.int .u8) w A0 l0.length l0) (hc0 : l0.length ≤ c0) (hr1 : Kd.C (Kd.int .u8) w A1 l1.length l1) (hc1 : l1.length ≤ c1) (h : laws_eqByteS.f k l0 l1 = some r) :
  Calls Try.prog 15 #[.slice A0 l0.length c0, .slice A1 l1.length c1] w fun e w' => e = .returned (.bool r) ∧ Drawn0 w w' := by
 have HR0 := am_ hr0
 have HC0 := am_ hc0
 clear hr0 hc0
 have HR1 := am_ hr1
 have HC1 := am_ hc1
 clear hr1 hc1
 have H : (if (l0.length : Int) = (l1.length : Int) then (laws_eqByteS.l0 k l0 l1 0) else (some false)) = some r := h
 clear h
 by_cases c3 : (l0.length : Int) = (l1.length : Int)
 ·rw [if_pos c3] at H
  have c3b0 : ((l0.length : Int) == (l1.length : Int)) = true := beq_iff_eq.mpr c3
  have c3b1 : ((l0.length : Int) != (l1.length : Int)) = false := bne_eq_false_iff_eq.mpr c3
  have c3b2 : (l0.length == l1.length) = true := by first | simpa using c3 | (simp at c3 ⊢; omega)
  clear c3
  have H' := am_ H
  clear H
  go_enter Try.func15, Try.ntmps15
  go_wp2
  repeat (go_quiet (fail); try go_wp2)
  go_loopg [5] k (fun kq v5 w' => ∃ (x5_1 : Int), v5 = .int .i64 x5_1 ∧ Aside0 (laws_eqByteS.l0 kq l0 l1 x5_1 = some r) ∧ Aside0 (kq ≤ k) ∧ Drawn0 w w')
  case atStart => exact ⟨(0), (by first | rfl | (simp; done) | (simp [*]; done)), H', ⟨Nat.le_refl _⟩, by repeat (first | exact Drawn0.refl _ | apply Drawn0.step)⟩
  case round =>
   clear H'
   try clear c1
   try clear p2
   try clear c3
   try clear c3b0
   try clear c3b1
   try clear c3b2
   obtain ⟨x5_1, rfl, HA, HK1, ⟨m1, rfl⟩⟩ := hrel
   cases gk with
   | zero => exact absurd HA.out (by simp [laws_eqByteS.l0])
   | succ k1 =>
    have H := HA.out
    clear HA
    simp only [laws_eqByteS.l0] at H
    by_cases c4 : x5_1 < (l0.length : Int)
    ·rw [if_pos c4] at H
     have c4b0 : decide (x5_1 < (l0.length : Int)) = true := decide_eq_true c4
     clear c4
     by_cases c5 : 0 ≤ x5_1
     ·rw [if_pos c5] at H
      have c5b0 : decide (0 ≤ x5_1) = true := decide_eq_true c5
      clear c5
      by_cases c6 : x5_1 < (l1.length : Int)
      ·rw [if_pos c6] at H
       have c6b0 : decide (x5_1 < (l1.length : Int)) = true := decide_eq_true c6
       clear c6
       by_cases c7 : (rd l0 x5_1) = (rd l1 x5_1)
       ·rw [if_pos c7] at H
        have c7b0 : ((rd l0 x5_1) == (rd l1 x5_1)) = true := beq_iff_eq.mpr c7
        have c7b1 : ((rd l0 x5_1) != (rd l1 x5_1)) = false := bne_eq_false_iff_eq.mpr c7
        clear c7
        have H' := am_ H
        clear H
        have p134 : 0 ≤ (x5_1 : Int) := o1_ (by first | (with_reducible assumption) | assumption)
        have q134 : x5_1 < (l0.length : Int) := o1_ (by first | (with_reducible assumption) | assumption)
        obtain ⟨ad134, e134, hx134_0⟩ := Kd.at_int HR0.out x5_1 p134 q134
        cases e134
        replace p134 := eq_true p134
        replace q134 := eq_true q134
        have p135 : 0 ≤ (x5_1 : Int) := o1_ (by first | (with_reducible assumption) | assumption)
        have q135 : x5_1 < (l1.length : Int) := o1_ (by first | (with_reducible assumption) | assumption)
        obtain ⟨ad135, e135, hx135_0⟩ := Kd.at_int HR1.out x5_1 p135 q135
        cases e135
        replace p135 := eq_true p135
        replace q135 := eq_true q135
        go_wp2
        repeat (go_quiet (fail); try go_wp2)
        go_roundg k1
        case measure => have := HK1.out; omega
        case rel => exact ⟨(wrap64 (x5_1 + 1)), (by first | rfl | (simp; done) | (simp [*]; done)), H', ⟨by have := HK1.out; omega⟩, by repeat (first | exact Drawn0.refl _ | apply Drawn0.step)⟩
       ·rw [if_neg c7] at H
        have c7b0 : ((rd l0 x5_1) == (rd l1 x5_1)) = false := beq_eq_false_iff_ne.mpr c7
        have c7b1 : ((rd l0 x5_1) != (rd l1 x5_1)) = true := bne_iff_ne.mpr c7
        obtain rfl := Option.some.inj H
        have p134 : 0 ≤ (x5_1 : Int) := o1_ (by first | (with_reducible assumption) | assumption)
        have q134 : x5_1 < (l0.length : Int) := o1_ (by first | (with_reducible assumption) | assumption)
        obtain ⟨ad134, e134, hx134_0⟩ := Kd.at_int HR0.out x5_1 p134 q134
        cases e134
        replace p134 := eq_true p134
        replace q134 := eq_true q134
        have p135 : 0 ≤ (x5_1 : Int) := o1_ (by first | (with_reducible assumption) | assumption)
        have q135 : x5_1 < (l1.length : Int) := o1_ (by first | (with_reducible assumption) | assumption)
        obtain ⟨ad135, e135, hx135_0⟩ := Kd.at_int HR1.out x5_1 p135 q135
        cases e135
        replace p135 := eq_true p135
        replace q135 := eq_true q135
        go_wp2
        repeat (go_quiet (fail); try go_wp2)
        go_ret
        exact ⟨by first | rfl | (simp; done) | (simp [*]; done), by repeat (first | exact Drawn0.refl _ | apply Drawn0.step)⟩
      ·rw [if_neg c6] at H
       exact absurd H (by simp)
     ·rw [if_neg c5] at H
      exact absurd H (by simp)
    ·rw [if_neg c4] at H
     have c4b0 : decide (x5_1 < (l0.length : Int)) = false := decide_eq_false c4
     clear c4
     obtain rfl := Option.some.inj H
     go_wp2
     repeat (go_quiet (fail); try go_wp2)
     go_ret
     exact ⟨by first | rfl | (simp; done) | (simp [*]; done), by repeat (first | exact Drawn0.refl _ | apply Drawn0.step)⟩
 ·rw [if_neg c3] at H
  have c3b0 : ((l0.length : Int) == (l1.length : Int)) = false := beq_eq_false_iff_ne.mpr c3
  have c3b1 : ((l0.length : Int) != (l1.length : Int)) = true := bne_iff_ne.mpr c3
  have c3b2 : (l0.length == l1.length) = false := by first | simpa using c3 | (simp at c3 ⊢; omega)
  obtain rfl := Option.some.inj H
  go_enter Try.func15, Try.ntmps15
  go_wp2
  repeat (go_quiet (fail); try go_wp2)
  go_ret
  exact ⟨by first | rfl | (simp; done) | (simp [*]; done), by repeat (first | exact Drawn0.refl _ | apply Drawn0.step)⟩
set_option maxHeartbeats 8000000 in
set_option maxRecDepth 100000 in
theorem laws_markText.calls (k : Nat) (a0 : Int) (r : ByteArray) (w : World) (h : laws_markText.f k a0 = some r) :
  Calls Try.prog 62 #[.int .i64 a0] w fun e w' => e = .returned (.string r) ∧ Below w.heap.size w w' := by
 have HB := am_ (Below.refl w.heap.size w)
 have H : (if a0 ≤ 0 then (some (⟨#[109, 48]⟩ : ByteArray)) else (laws_markText.l0 k a0 (⟨#[]⟩ : ByteArray))) = some r := h
 clear h
 by_cases c2 : a0 ≤ 0
 ·rw [if_pos c2] at H
  have c2b0 : decide (a0 ≤ 0) = true := decide_eq_true c2
  clear c2
  obtain rfl := Option.some.inj H
  go_enter Try.func62, Try.ntmps62
  go_wp2
  go_ret
  exact ⟨by first | rfl | (simp [e1_, e2_] <;> rfl) | (simp [*, e1_, e2_] <;> rfl) | (simp [e3_, e4_]; done) | (simp [*, e3_, e4_]; done), by repeat (first | (with_reducible first | exact HB.out | apply b1_ | apply b2_ | apply b3_) | exact HB.out)⟩
 ·rw [if_neg c2] at H
  have c2b0 : decide (a0 ≤ 0) = false := decide_eq_false c2
  clear c2
  have H' := am_ H
  clear H
  go_enter Try.func62, Try.ntmps62
  go_wp2
  go_loopg [0, 3] k (fun kq v0 v3 w' => ∃ (x0_1 : Int) (x3_1 : ByteArray), v0 = .int .i64 x0_1 ∧ v3 = .string x3_1 ∧ Aside0 (laws_markText.l0 kq x0_1 x3_1 = some r) ∧ Aside0 (kq ≤ k) ∧ Aside0 (Below w.heap.size w w'))
  case atStart => exact ⟨(a0), ((⟨#[]⟩ : ByteArray)), (by first | rfl | (simp; done) | (simp [*]; done)), (by first | rfl | (simp; done) | (simp [*]; done)), H', ⟨Nat.le_refl _⟩, ⟨by repeat (first | (with_reducible first | exact HB.out | apply b1_ | apply b2_ | apply b3_) | exact HB.out)⟩⟩
  case round =>
   clear H'
   try clear c2
   try clear c2b0
   try clear p2
   obtain ⟨x0_1, x3_1, rfl, rfl, HA, HK1, HB⟩ := hrel
   cases gk with
   | zero => exact absurd HA.out (by simp [laws_markText.l0])
   | succ k1 =>
    have H := HA.out
    clear HA
    simp only [laws_markText.l0] at H
    by_cases c3 : x0_1 > 0
    ·rw [if_pos c3] at H
     have c3b0 : decide (0 < x0_1) = true := decide_eq_true c3
     clear c3
     obtain ⟨y138, hy138⟩ : ∃ y_ : List Int, y_ = (([(wrap64 (48 + (Int.tmod x0_1 10))) % 256] : List Int)) := ⟨_, rfl⟩
     replace H : (if (strOfNums y138).size + x3_1.size ≤ 9223372036854775807 then (laws_markText.l0 k1 (wrap64 (Int.tdiv x0_1 10)) ((strOfNums y138) ++ x3_1)) else (none)) = some r := by first | (rw [hy138]; with_reducible exact H) | (have H2_ := (Option.bind_some _ _).symm.trans H; rw [hy138]; with_reducible exact H2_) | (have H2_ := (Option.bind_some _ _).symm.trans H; with_reducible exact H2_) | with_reducible exact H | (rw [hy138]; exact H) | exact H
     have Ny138 := am_ hy138
     clear hy138
     by_cases c4 : (strOfNums y138).size + x3_1.size ≤ 9223372036854775807
     ·rw [if_pos c4] at H
      have c4b0 := eq_true c4
      have c4b1 : decide ((strOfNums y138).size + x3_1.size ≤ 9223372036854775807) = true := decide_eq_true c4
      try have c4b2 : (9223372036854775807 < (strOfNums y138).size + x3_1.size) = False := eq_false (Nat.not_lt.2 c4)
      have H' := am_ H
      clear H
      go_wp2_with (first | ((with_reducible refine gate_dst (N := 12) rfl ?_); refine Kd.R_lit (Kd.int .u8) _ 5 ?hg (N := 12) ?hd (xs := ([(wrap64 (48 + (Int.tmod x0_1 10))) % 256] : List Int)) (inner := [.int .u8 ((wrap64 (48 + (Int.tmod x0_1 10))) % 256)]) (ok := fun _ => True) (okp := fun _ => True) ?hr ?hp (fun _ hk => hk) trivial (Below.refl _ _) (Nat.le_refl _) (by simp) ?_; (case hd => rfl); (case hg => rfl); (case hr => first | (go_simp; done) | (go_simp; rfl)); (case hp => exact (Reps.one (show Kd.M (Kd.int .u8) _ _ _ ((wrap64 (48 + (Int.tmod x0_1 10))) % 256) [.int .u8 ((wrap64 (48 + (Int.tmod x0_1 10))) % 256)] from rfl) (Reps.none _ _))); intro v139 w5 ho6 hb hg_ hnew_; clear hg_ hnew_; (first | rw [← Ny138.out] at ho6 | (simp only [Int.reduceToNat] at ho6; rw [← Ny138.out] at ho6)); have n0_ := am_ (Kd.R_lower ho6 (below_size (by repeat (first | (with_reducible first | exact HB.out | apply b1_ | apply b2_ | apply b3_) | exact HB.out)))); have n1_ := am_ (below_step (by repeat (first | (with_reducible first | exact HB.out | apply b1_ | apply b2_ | apply b3_) | exact HB.out)) hb); clear HB; have HO140 := n0_; have HB := n1_; clear n0_ n1_; clear hb ho6; have hcv7 := own_string (P := Try.prog) Try.underlying24 Try.underlying5 Try.underlying9 (Kd.own_of_R HO140.out)))
      go_roundg k1
      case measure => have := HK1.out; omega
      case rel => exact ⟨(wrap64 (Int.tdiv x0_1 10)), ((strOfNums y138) ++ x3_1), (by first | rfl | (simp; done) | (simp [*]; done)), (by first | rfl | (simp; done) | (simp [*]; done)), H', ⟨by have := HK1.out; omega⟩, ⟨by repeat (first | (with_reducible first | exact HB.out | apply b1_ | apply b2_ | apply b3_) | exact HB.out)⟩⟩
     ·rw [if_neg c4] at H
      exact absurd H (by simp)
    ·rw [if_neg c3] at H
     have c3b0 : decide (0 < x0_1) = false := decide_eq_false c3
     clear c3
     by_cases c8 : 1 + x3_1.size ≤ 9223372036854775807
     ·rw [if_pos c8] at H
      have c8b0 := eq_true c8
      have c8b1 : decide (1 + x3_1.size ≤ 9223372036854775807) = true := decide_eq_true c8
      try have c8b2 : (9223372036854775807 < 1 + x3_1.size) = False := eq_false (Nat.not_lt.2 c8)
      obtain rfl := Option.some.inj H
      go_wp2
      go_ret
      exact ⟨by first | rfl | (simp [e1_, e2_] <;> rfl) | (simp [*, e1_, e2_] <;> rfl) | (simp [e3_, e4_]; done) | (simp [*, e3_, e4_]; done), by repeat (first | (with_reducible first | exact HB.out | apply b1_ | apply b2_ | apply b3_) | exact HB.out)⟩
     ·rw [if_neg c8] at H
      exact absurd H (by simp)
end Go.Proofs.Ytofkobbiomhblaa.A
end
