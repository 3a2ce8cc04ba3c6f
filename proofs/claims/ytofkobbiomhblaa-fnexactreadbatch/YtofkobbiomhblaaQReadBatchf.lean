/- A part of the proof that FnExactReadBatch returns true at every input: plain functions, contracts and lemmas. No conditions. -/
import Derived.Test.YtofkobbiomhblaaQReadBatche
set_option linter.unusedVariables false
set_option linter.unusedSimpArgs false
set_option linter.unusedSectionVars false
section
namespace Go.Proofs.Ytofkobbiomhblaa.A
open Go.RowKit Go.Proofs.YtofkobbiomhblaaW.PrintWords Go.Proofs.YtofkobbiomhblaaW.PrintLast Go.Proofs.YtofkobbiomhblaaW.PrintMore
attribute [local go_sem] max2_int min2_int max_two min_two max_three min_three max_four min_four
def spec_l02ReadRequest.T3 : Bool × List (List Nat × List Nat) := (true, [([], []), ([0], [0]), ([1], [1]), ([], []), ([3], [3]), ([4], [4]), ([], []), ([6], [6]), ([7], [7]), ([], []), ([9], [9]), ([10, 5], [10]), ([], []), ([12], [12]), ([2, 5, 8, 11, 13], [2, 5, 8, 11, 13]), ([], []), ([15, 14, 11, 0, 1, 2, 3, 4, 5, 6, 7, 8, 9, 10, 11, 12, 13, 14, 15], [14, 15])])
def spec_l02ReadRequest.B3 : List Nat := [0, 1, 3, 0, 8, 24, 0, 64, 192, 0, 512, 1592, 0, 4096, 16383, 0, 65535]
theorem spec_l02ReadRequest.tab3 : rtab .any (opsOf Try.f137 3) = spec_l02ReadRequest.T3 := by kernel_rfl
theorem spec_l02ReadRequest.bits3 : waitsOk spec_l02ReadRequest.T3.2 spec_l02ReadRequest.B3 = true := by kernel_rfl
set_option maxHeartbeats 8000000 in
set_option maxRecDepth 100000 in
theorem spec_l02ReadRequest.calls (k : Nat) (a0 : ByteArray) (r1 : Int) (r2 : Int) (r3 : Int) (r4 : Int) (r5 : ByteArray) (r6 : Bool) (w : World) (h : spec_l02ReadRequest.f k a0 = some (r1, r2, r3, r4, r5, r6)) :
  Calls Try.prog 137 #[.string a0] w fun e w' => e = .returned (.tuple #[.agg #[.int .i64 r1, .int .i64 r2, .int .i64 r3, .int .i64 r4, .string r5], .bool r6]) ∧ Below w.heap.size w w' := by
 have hu36 := Try.underlying36
 have HB := am_ (Below.refl w.heap.size w)
 have H : (if (a0.size : Int) < 7 then (spec_l02ReadRequest.j0 k a0 true) else (if 6 < (a0.size : Int) then (spec_l02ReadRequest.j0 k a0 ((a0.size : Int) != (wrap64 (7 + (wrap64 (bt a0 6)))))) else (none))) = some (r1, r2, r3, r4, r5, r6) := h
 clear h
 have HC2 := am_ H
 clear H
 go_enter Try.func137, Try.ntmps137
 go_upto_region 1 with (first | ((with_reducible refine gate_dst (N := 2) rfl ?_); (try (refine gate_guard (by rfl) ?_; dsimp only)); refine box_event ?hg (N := 2) ?hd (cs := #[.int .i64 0, .int .i64 0, .int .i64 0, .int .i64 0, .string (⟨#[]⟩ : ByteArray)]) (t := 36) ?hr ?_; (case hd => rfl); (case hg => rfl); (case hr => first | (go_simp; done) | (go_simp; rfl)); intro gb1040 hg w3 hbox hb; have n0_ := am_ (below_step (by repeat (first | (with_reducible first | exact HB.out | apply b1_ | apply b2_ | apply b3_) | exact HB.out)) hb); have n1_ := am_ (hbox); have n2_ := am_ ((by rw [hg]; exact (below_size (by repeat (first | (with_reducible first | exact HB.out | apply b1_ | apply b2_ | apply b3_) | exact HB.out))) : w.heap.size ≤ gb1040)); have n3_ := am_ ((by rw [hg]; exact (below_size (by repeat (first | (with_reducible first | exact HB.out | apply b1_ | apply b2_ | apply b3_) | exact HB.out))) : w.heap.size ≤ gb1040)); clear HB; have HB := n0_; have BK1040 := n1_; have GW1040 := n2_; have GE1040 := n3_; clear n0_ n1_ n2_ n3_; clear hb hbox hg))
 (try simp only [Act.put, p1_, p2_, p3_])
 go_cut [16] (fun v16 wc => ∃ (kq : Nat) (x16_1 : Bool), v16 = .bool x16_1 ∧ Aside0 (spec_l02ReadRequest.j0 kq a0 x16_1 = some (r1, r2, r3, r4, r5, r6)) ∧ Aside0 (kq ≤ k) ∧ Aside0 (wc.heap[gb1040]? = some (.cells #[.int .i64 0, .int .i64 0, .int .i64 0, .int .i64 0, .string (⟨#[]⟩ : ByteArray)] 36 (0, 0))) ∧ Aside0 (Below w.heap.size w wc))
 case first =>
  have H := HC2.out
  clear HC2
  by_cases c4 : (a0.size : Int) < 7
  ·rw [if_pos c4] at H
   have c4b0 : decide ((a0.size : Int) < 7) = true := decide_eq_true c4
   have c4b1 : decide (a0.size < 7) = true := decide_eq_true (by omega)
   clear c4
   (first | rw [c4b0] | (simp only [i64_w, i32_w]; rw [c4b0]) | skip)
   have H' := am_ H
   clear H
   go_wp2
   go_meet
   case rel => exact ⟨_, (true), (by first | rfl | (simp; done) | (simp [*]; done)), H', ⟨by first | omega | exact Nat.le_refl _⟩, ⟨by (with_reducible repeat (first | apply k1_ | apply k2_ | apply k3_)); exact BK1040.out⟩, ⟨by repeat (first | (with_reducible first | exact HB.out | apply b1_ | apply b2_ | apply b3_ | refine below_set ?_ GE1040.out) | exact HB.out)⟩⟩
  ·rw [if_neg c4] at H
   have c4b0 : decide ((a0.size : Int) < 7) = false := decide_eq_false c4
   have c4b1 : decide (a0.size < 7) = false := decide_eq_false (by omega)
   clear c4
   (first | rw [c4b0] | (simp only [i64_w, i32_w]; rw [c4b0]) | skip)
   by_cases c5 : 6 < (a0.size : Int)
   ·rw [if_pos c5] at H
    have c5b0 : decide (6 < (a0.size : Int)) = true := decide_eq_true c5
    have c5b1 : decide (6 < a0.size) = true := decide_eq_true (by omega)
    clear c5
    have H' := am_ H
    clear H
    have p6 : 0 ≤ (6 : Int) := (by omega)
    have q6 : 6 < a0.size := (by have : (6 : Int) < (a0.size : Int) := o1_ (by first | (with_reducible assumption) | assumption); omega)
    have hx6 : ∀ h : 6 < a0.size, ((a0[6]'h).toNat : Int) = bt a0 6 := bt_at a0 6
    clear p6
    have qi6 : (6 < (a0.size : Int)) = True := eq_true (o1_ (by first | (with_reducible assumption) | assumption))
    replace q6 := eq_true q6
    go_wp2
    go_meet
    case rel => exact ⟨_, (((a0.size : Int) != (wrap64 (7 + (wrap64 (bt a0 6)))))), (by first | rfl | (simp; done) | (simp [*]; done)), H', ⟨by first | omega | exact Nat.le_refl _⟩, ⟨by (with_reducible repeat (first | apply k1_ | apply k2_ | apply k3_)); exact BK1040.out⟩, ⟨by repeat (first | (with_reducible first | exact HB.out | apply b1_ | apply b2_ | apply b3_ | refine below_set ?_ GE1040.out) | exact HB.out)⟩⟩
   ·rw [if_neg c5] at H
    exact absurd H (by simp)
 case rest =>
  clear HC2
  try clear c1
  try clear p2
  try clear c4
  try clear c4b0
  try clear c4b1
  try clear c5
  try clear c5b0
  try clear c5b1
  try clear p6
  try clear q6
  try clear hx6
  try clear qi6
  try clear p6
  try clear q6
  obtain ⟨kq, x16_1, rfl, HA, HJ1, BK1040, HB⟩ := hcut
  cases kq with
  | zero => exact absurd HA.out (by simp [spec_l02ReadRequest.j0])
  | succ kj1 =>
   have H := HA.out
   clear HA
   simp only [spec_l02ReadRequest.j0] at H
   by_cases c7 : x16_1 = true
   ·subst c7
    have H1 : (some (0, 0, 0, 0, (⟨#[]⟩ : ByteArray), false)) = some (r1, r2, r3, r4, r5, r6) := by rw [if_pos rfl] at H; exact H
    clear H
    have H := H1
    clear H1
    simp only [Option.some.injEq, Prod.mk.injEq] at H
    obtain ⟨rfl, rfl, rfl, rfl, rfl, rfl⟩ := H
    have hcz8_0 : wc.cell? ⟨gb1040, 0, none⟩ = some (.int .i64 0) := (blk_cell BK1040.out 0).trans rfl
    have hcz8_1 : wc.cell? ⟨gb1040, 1, none⟩ = some (.int .i64 0) := (blk_cell BK1040.out 1).trans rfl
    have hcz8_2 : wc.cell? ⟨gb1040, 2, none⟩ = some (.int .i64 0) := (blk_cell BK1040.out 2).trans rfl
    have hcz8_3 : wc.cell? ⟨gb1040, 3, none⟩ = some (.int .i64 0) := (blk_cell BK1040.out 3).trans rfl
    have hcz8_4 : wc.cell? ⟨gb1040, 4, none⟩ = some (.string (⟨#[]⟩ : ByteArray)) := (blk_cell BK1040.out 4).trans rfl
    have hfz8_0 := blk_frozen BK1040.out 0
    have hfz8_1 := blk_frozen BK1040.out 1
    have hfz8_2 := blk_frozen BK1040.out 2
    have hfz8_3 := blk_frozen BK1040.out 3
    have hfz8_4 := blk_frozen BK1040.out 4
    go_wp2
    refine bodyPost_ret (results_ct rfl _ _ gb1040 36 #[.int .i64 0, .int .i64 0, .int .i64 0, .int .i64 0, .string (⟨#[]⟩ : ByteArray)] (0, 0) _ rfl (by (with_reducible repeat (first | apply k1_ | apply k2_ | apply k3_)); refine blk_put (cs := #[.int .i64 0, .int .i64 0, .int .i64 0, .int .i64 0, .string (⟨#[]⟩ : ByteArray)]) ?_ 4 _ rfl; (with_reducible repeat (first | apply k1_ | apply k2_ | apply k3_)); refine blk_put (cs := #[.int .i64 0, .int .i64 0, .int .i64 0, .int .i64 0, .string (⟨#[]⟩ : ByteArray)]) ?_ 3 _ rfl; (with_reducible repeat (first | apply k1_ | apply k2_ | apply k3_)); refine blk_put (cs := #[.int .i64 0, .int .i64 0, .int .i64 0, .int .i64 0, .string (⟨#[]⟩ : ByteArray)]) ?_ 2 _ rfl; (with_reducible repeat (first | apply k1_ | apply k2_ | apply k3_)); refine blk_put (cs := #[.int .i64 0, .int .i64 0, .int .i64 0, .int .i64 0, .string (⟨#[]⟩ : ByteArray)]) ?_ 1 _ rfl; (with_reducible repeat (first | apply k1_ | apply k2_ | apply k3_)); refine blk_put (cs := #[.int .i64 0, .int .i64 0, .int .i64 0, .int .i64 0, .string (⟨#[]⟩ : ByteArray)]) ?_ 0 _ rfl; (with_reducible repeat (first | apply k1_ | apply k2_ | apply k3_)); exact BK1040.out) Try.underlying36 rfl (by kernel_rfl)) rfl ?_
    exact ⟨by first | rfl | (simp [e1_, e2_] <;> rfl) | (simp [*, e1_, e2_] <;> rfl) | (simp [e3_, e4_]; done) | (simp [*, e3_, e4_]; done), by repeat (first | (with_reducible first | exact HB.out | apply b1_ | apply b2_ | apply b3_ | refine below_set ?_ GE1040.out) | exact HB.out)⟩
   ·replace c7 := Bool.eq_false_iff.mpr c7
    subst c7
    have H1 : (if 0 < (a0.size : Int) then (if 1 ≤ 3 then (if 3 ≤ (a0.size : Int) then ((spec_l02Of.f kj1 (a0.extract 1 3)).bind fun t1041 => (if 3 < (a0.size : Int) then (if 4 ≤ 6 then (if 6 ≤ (a0.size : Int) then ((spec_l02Of.f kj1 (a0.extract 4 6)).bind fun t1042 => (if 7 ≤ (a0.size : Int) then ((spec_RequestOK.f kj1 (wrap64 (bt a0 0)) t1041 (wrap64 (bt a0 3)) t1042 (a0.extract 7 a0.size)).bind fun t1044 => (some (wrap64 (bt a0 0), t1041, wrap64 (bt a0 3), t1042, a0.extract 7 a0.size, t1044))) else (none))) else (none)) else (none)) else (none))) else (none)) else (none)) else (none)) = some (r1, r2, r3, r4, r5, r6) := by rw [if_neg (show ¬ (false = true) by decide)] at H; exact H
    clear H
    have H := H1
    clear H1
    by_cases c9 : 0 < (a0.size : Int)
    ·rw [if_pos c9] at H
     have c9b0 : decide (0 < (a0.size : Int)) = true := decide_eq_true c9
     have c9b1 : decide (0 < a0.size) = true := decide_eq_true (by omega)
     clear c9
     by_cases c11 : 1 ≤ 3
     ·rw [if_pos c11] at H
      have c11b0 := eq_true c11
      have c11b1 : decide (1 ≤ 3) = true := decide_eq_true c11
      clear c11
      by_cases c12 : 3 ≤ (a0.size : Int)
      ·rw [if_pos c12] at H
       have c12b0 := eq_true c12
       have c12b1 : decide (3 ≤ (a0.size : Int)) = true := decide_eq_true c12
       clear c12
       replace H := Option.bind_eq_some_iff.mp H
       obtain ⟨t1041, A130, H⟩ := H
       replace H : (if 3 < (a0.size : Int) then (if 4 ≤ 6 then (if 6 ≤ (a0.size : Int) then ((spec_l02Of.f kj1 (a0.extract 4 6)).bind fun t1042 => (if 7 ≤ (a0.size : Int) then ((spec_RequestOK.f kj1 (wrap64 (bt a0 0)) t1041 (wrap64 (bt a0 3)) t1042 (a0.extract 7 a0.size)).bind fun t1044 => (some (wrap64 (bt a0 0), t1041, wrap64 (bt a0 3), t1042, a0.extract 7 a0.size, t1044))) else (none))) else (none)) else (none)) else (none)) = some (r1, r2, r3, r4, r5, r6) := H
       have A13 := am_ A130
       clear A130
       by_cases c14 : 3 < (a0.size : Int)
       ·rw [if_pos c14] at H
        have c14b0 : decide (3 < (a0.size : Int)) = true := decide_eq_true c14
        have c14b1 : decide (3 < a0.size) = true := decide_eq_true (by omega)
        clear c14
        by_cases c16 : 4 ≤ 6
        ·rw [if_pos c16] at H
         have c16b0 := eq_true c16
         have c16b1 : decide (4 ≤ 6) = true := decide_eq_true c16
         clear c16
         by_cases c17 : 6 ≤ (a0.size : Int)
         ·rw [if_pos c17] at H
          have c17b0 := eq_true c17
          have c17b1 : decide (6 ≤ (a0.size : Int)) = true := decide_eq_true c17
          clear c17
          replace H := Option.bind_eq_some_iff.mp H
          obtain ⟨t1042, A180, H⟩ := H
          replace H : (if 7 ≤ (a0.size : Int) then ((spec_RequestOK.f kj1 (wrap64 (bt a0 0)) t1041 (wrap64 (bt a0 3)) t1042 (a0.extract 7 a0.size)).bind fun t1044 => (some (wrap64 (bt a0 0), t1041, wrap64 (bt a0 3), t1042, a0.extract 7 a0.size, t1044))) else (none)) = some (r1, r2, r3, r4, r5, r6) := H
          have A18 := am_ A180
          clear A180
          by_cases c19 : 7 ≤ (a0.size : Int)
          ·rw [if_pos c19] at H
           have c19b0 := eq_true c19
           have c19b1 : decide (7 ≤ (a0.size : Int)) = true := decide_eq_true c19
           clear c19
           replace H := Option.bind_eq_some_iff.mp H
           obtain ⟨t1044, A200, H⟩ := H
           replace H : (some (wrap64 (bt a0 0), t1041, wrap64 (bt a0 3), t1042, a0.extract 7 a0.size, t1044)) = some (r1, r2, r3, r4, r5, r6) := H
           have A20 := am_ A200
           clear A200
           simp only [Option.some.injEq, Prod.mk.injEq] at H
           obtain ⟨rfl, rfl, rfl, rfl, rfl, rfl⟩ := H
           try go_wp2
           have n0_ := am_ (blk_drew BK1040.out)
           have n1_ := am_ (below_drew1 HB.out)
           clear BK1040
           clear HB
           have BK1040 := n0_
           have HB := n1_
           clear n0_ n1_
           have p10 : 0 ≤ (0 : Int) := (by omega)
           have q10 : 0 < a0.size := (by have : (0 : Int) < (a0.size : Int) := o1_ (by first | (with_reducible assumption) | assumption); omega)
           have hx10 : ∀ h : 0 < a0.size, ((a0[0]'h).toNat : Int) = bt a0 0 := bt_at a0 0
           clear p10
           have qi10 : (0 < (a0.size : Int)) = True := eq_true (o1_ (by first | (with_reducible assumption) | assumption))
           replace q10 := eq_true q10
           have p15 : 0 ≤ (3 : Int) := (by omega)
           have q15 : 3 < a0.size := (by have : (3 : Int) < (a0.size : Int) := o1_ (by first | (with_reducible assumption) | assumption); omega)
           have hx15 : ∀ h : 3 < a0.size, ((a0[3]'h).toNat : Int) = bt a0 3 := bt_at a0 3
           clear p15
           have qi15 : (3 < (a0.size : Int)) = True := eq_true (o1_ (by first | (with_reducible assumption) | assumption))
           replace q15 := eq_true q15
           refine start_ (n := 17) (S := fun w' => True) (ds := []) #[false, false, false, false, false, false, false, false, false, false, false, false, false, false, false, false, false] (by kernel_rfl) rfl rfl trivial (fun hHeld => ?_); refine with_tabW spec_l02ReadRequest.tab3 spec_l02ReadRequest.bits3 (fun HT_ HW_ => ?_)
           generalize wc.drew = w21 at BK1040 HB hHeld ⊢
           refine pure_ (i := 0) (N := some 18) (v := ?_) (a' := ?_) #[true, false, false, false, false, false, false, false, false, false, false, false, false, false, false, false, false] rfl rfl (any_of HT_.out (by kernel_rfl)) (fun _ _ _ h => h) (Or.inl ⟨by rfl, ?_⟩) ?_ ?_
           rotate_left
           ·intro w'
            go_simp
            with_reducible rfl
           rotate_left
           ·simp only [Act.put, p1_, p2_, p3_, i64_w, i32_w]
            rfl
           refine pure_ (i := 3) (N := some 21) (v := ?_) (a' := ?_) #[true, false, false, true, false, false, false, false, false, false, false, false, false, false, false, false, false] rfl rfl (any_of HT_.out (by kernel_rfl)) (fun _ _ _ h => h) (Or.inl ⟨by rfl, ?_⟩) ?_ ?_
           rotate_left
           ·intro w'
            go_simp
            with_reducible rfl
           rotate_left
           ·simp only [Act.put, p1_, p2_, p3_, i64_w, i32_w]
            rfl
           refine pure_ (i := 4) (N := some 22) (v := ?_) (a' := ?_) #[true, false, false, true, true, false, false, false, false, false, false, false, false, false, false, false, false] rfl rfl (any_of HT_.out (by kernel_rfl)) (fun _ _ _ h => h) (Or.inl ⟨by rfl, ?_⟩) ?_ ?_
           rotate_left
           ·intro w'
            go_simp
            with_reducible rfl
           rotate_left
           ·simp only [Act.put, p1_, p2_, p3_, i64_w, i32_w]
            rfl
           refine pure_ (i := 6) (N := some 24) (v := ?_) (a' := ?_) #[true, false, false, true, true, false, true, false, false, false, false, false, false, false, false, false, false] rfl rfl (any_of HT_.out (by kernel_rfl)) (fun _ _ _ h => h) (Or.inl ⟨by rfl, ?_⟩) ?_ ?_
           rotate_left
           ·intro w'
            go_simp
            with_reducible rfl
           rotate_left
           ·simp only [Act.put, p1_, p2_, p3_, i64_w, i32_w]
            rfl
           refine pure_ (i := 9) (N := some 27) (v := ?_) (a' := ?_) #[true, false, false, true, true, false, true, false, false, true, false, false, false, false, false, false, false] rfl rfl (any_of HT_.out (by kernel_rfl)) (fun _ _ _ h => h) (Or.inl ⟨by rfl, ?_⟩) ?_ ?_
           rotate_left
           ·intro w'
            go_simp
            with_reducible rfl
           rotate_left
           ·simp only [Act.put, p1_, p2_, p3_, i64_w, i32_w]
            rfl
           refine pure_ (i := 10) (N := some 28) (v := ?_) (a' := ?_) #[true, false, false, true, true, false, true, false, false, true, true, false, false, false, false, false, false] rfl rfl (any_of HT_.out (by kernel_rfl)) (fun _ _ _ h => h) (Or.inl ⟨by rfl, ?_⟩) ?_ ?_
           rotate_left
           ·intro w'
            go_simp
            with_reducible rfl
           rotate_left
           ·simp only [Act.put, p1_, p2_, p3_, i64_w, i32_w]
            rfl
           refine pure_ (i := 12) (N := some 30) (v := ?_) (a' := ?_) #[true, false, false, true, true, false, true, false, false, true, true, false, true, false, false, false, false] rfl rfl (any_of HT_.out (by kernel_rfl)) (fun _ _ _ h => h) (Or.inl ⟨by rfl, ?_⟩) ?_ ?_
           rotate_left
           ·intro w'
            go_simp
            with_reducible rfl
           rotate_left
           ·simp only [Act.put, p1_, p2_, p3_, i64_w, i32_w]
            rfl
           refine pure_ (i := 13) (N := some 31) (v := ?_) (a' := ?_) #[true, false, false, true, true, false, true, false, false, true, true, false, true, true, false, false, false] rfl rfl (any_of HT_.out (by kernel_rfl)) (fun _ _ _ h => h) (Or.inl ⟨by rfl, ?_⟩) ?_ ?_
           rotate_left
           ·intro w'
            go_simp
            with_reducible rfl
           rotate_left
           ·simp only [Act.put, p1_, p2_, p3_, i64_w, i32_w]
            rfl
           refine take_ (i := 1) (N := some 19) (v := ?_) (a' := ?_) #[true, true, false, true, true, false, true, false, false, true, true, false, true, true, false, false, false] rfl rfl (take_ofW HT_.out HW_.out (by kernel_rfl)) (fun _ _ _ h => h) (Or.inl ⟨by rfl, ?_⟩) hHeld ?_ ?_
           rotate_left
           ·intro w' _
            go_simp
            with_reducible rfl
           rotate_left
           ·simp only [Act.put, p1_, p2_, p3_, i64_w, i32_w]
            rfl
           refine pure_ (i := 2) (N := some 20) (v := ?_) (a' := ?_) #[true, true, true, true, true, false, true, false, false, true, true, false, true, true, false, false, false] rfl rfl (any_of HT_.out (by kernel_rfl)) (fun _ _ _ h => h) (Or.inl ⟨by rfl, ?_⟩) ?_ ?_
           rotate_left
           ·intro w'
            go_simp
            with_reducible rfl
           rotate_left
           ·simp only [Act.put, p1_, p2_, p3_, i64_w, i32_w]
            rfl
           refine take_ (i := 7) (N := some 25) (v := ?_) (a' := ?_) #[true, true, true, true, true, false, true, true, false, true, true, false, true, true, false, false, false] rfl rfl (take_ofW HT_.out HW_.out (by kernel_rfl)) (fun _ _ _ h => h) (Or.inl ⟨by rfl, ?_⟩) hHeld ?_ ?_
           rotate_left
           ·intro w' _
            go_simp
            with_reducible rfl
           rotate_left
           ·simp only [Act.put, p1_, p2_, p3_, i64_w, i32_w]
            rfl
           refine pure_ (i := 8) (N := some 26) (v := ?_) (a' := ?_) #[true, true, true, true, true, false, true, true, true, true, true, false, true, true, false, false, false] rfl rfl (any_of HT_.out (by kernel_rfl)) (fun _ _ _ h => h) (Or.inl ⟨by rfl, ?_⟩) ?_ ?_
           rotate_left
           ·intro w'
            go_simp
            with_reducible rfl
           rotate_left
           ·simp only [Act.put, p1_, p2_, p3_, i64_w, i32_w]
            rfl
           refine join_ (σ := Nat) 1 #[true, true, true, true, true, true, true, true, true, true, true, true, true, true, true, true, false] (fun s_ => [(23, .int .i64 t1041), (29, .int .i64 t1042), (4, .pointer (some ⟨s_, 0, none⟩)), (32, .agg #[.int .i64 (wrap64 (bt a0 0)), .int .i64 t1041, .int .i64 (wrap64 (bt a0 3)), .int .i64 t1042, .string (a0.extract 7 a0.size)])]) (fun s_ w' => (w'.heap[gb1040]? = some (.cells #[.int .i64 0, .int .i64 0, .int .i64 0, .int .i64 0, .string (⟨#[]⟩ : ByteArray)] 36 (0, 0))) ∧ (w'.heap[s_]? = some (.cells #[.int .i64 0, .int .i64 0, .int .i64 0, .int .i64 0, .string (⟨#[]⟩ : ByteArray)] 36 (0, 0))) ∧ (w.heap.size ≤ s_) ∧ (w.heap.size ≤ s_) ∧ (gb1040 ≠ s_) ∧ (s_ ≠ gb1040) ∧ (Below w.heap.size w w')) ?_ ?_
           rotate_left
           ·intro hCont
            refine two_ (i := 5) (j := 15) (Ni := some 23) (Nj := some 4) #[true, true, true, true, true, true, true, true, true, true, true, false, true, true, false, false, false] #[true, true, true, true, true, false, true, true, true, true, true, false, true, true, false, true, false] rfl rfl rfl rfl (two_of HT_.out (by kernel_rfl)) (by decide) (by decide) (fun K hK => ?_) (fun K hK => ?_)
            ·skip
             refine goes_ Try.func124 (by kernel_rfl) rfl #[.string (a0.extract 1 3)] (by rfl) rfl rfl (by (try simp only [m1_, m2_, m3_]); first | done | rfl | (simp only [d1_, d2_]; rfl)) ?_
             with_reducible refine (spec_l02Of.calls kj1 (a0.extract 1 3) t1041 _ A13.out).mono ?_
             rintro e w' ⟨rfl, ⟨nd, rfl⟩⟩
             refine ⟨_, rfl, ?_⟩
             refine hK.out _ _ trivial (fun hHeld => ?_)
             clear hK K
             refine norm_ (a' := ?_) ?_ ?_
             rotate_left
             ·show Act.put _ (some 23) _ = _
              simp only [Act.put, p1_, p2_, p3_, i64_w, i32_w]
              rfl
             refine two_ (i := 11) (j := 15) (Ni := some 29) (Nj := some 4) #[true, true, true, true, true, true, true, true, true, true, true, true, true, true, false, false, false] #[true, true, true, true, true, true, true, true, true, true, true, false, true, true, false, true, false] rfl rfl rfl rfl (two_of HT_.out (by kernel_rfl)) (by decide) (by decide) (fun K hK => ?_) (fun K hK => ?_)
             ·skip
              refine goes_ Try.func124 (by kernel_rfl) rfl #[.string (a0.extract 4 6)] (by rfl) rfl rfl (by (try simp only [m1_, m2_, m3_]); first | done | rfl | (simp only [d1_, d2_]; rfl)) ?_
              with_reducible refine (spec_l02Of.calls kj1 (a0.extract 4 6) t1042 _ A18.out).mono ?_
              rintro e w' ⟨rfl, ⟨nd, rfl⟩⟩
              refine ⟨_, rfl, ?_⟩
              refine hK.out _ _ trivial (fun hHeld => ?_)
              clear hK K
              refine norm_ (a' := ?_) ?_ ?_
              rotate_left
              ·show Act.put _ (some 29) _ = _
               simp only [Act.put, p1_, p2_, p3_, i64_w, i32_w]
               rfl
              refine pure_ (i := 14) (N := some 32) (v := ?_) (a' := ?_) #[true, true, true, true, true, true, true, true, true, true, true, true, true, true, true, false, false] rfl rfl (any_of HT_.out (by kernel_rfl)) (fun _ _ _ h => h) (Or.inl ⟨by rfl, ?_⟩) ?_ ?_
              rotate_left
              ·intro w'
               go_simp
               with_reducible rfl
              rotate_left
              ·simp only [Act.put, p1_, p2_, p3_, i64_w, i32_w]
               rfl
              refine one_ (i := 15) (N := some 4) #[true, true, true, true, true, true, true, true, true, true, true, true, true, true, true, true, false] rfl rfl (one_of HT_.out (by kernel_rfl)) (by decide) (fun K hK => ?_)
              refine box_step ?hg (N := 4) ?hd (cs := #[.int .i64 0, .int .i64 0, .int .i64 0, .int .i64 0, .string (⟨#[]⟩ : ByteArray)]) (t := 36) ?hr ?_; (case hd => rfl); (case hg => rfl); (case hr => first | (go_simp; done) | (go_simp; rfl))
              intro gb1043 hg w22 hbox hb
              have n0_ := am_ (blk_below (g := gb1040) (o := .cells #[.int .i64 0, .int .i64 0, .int .i64 0, .int .i64 0, .string (⟨#[]⟩ : ByteArray)] 36 (0, 0)) (by (with_reducible repeat (first | apply k1_ | apply k2_ | apply k3_)); exact BK1040.out) hb)
              have n1_ := am_ (below_step (by repeat (first | (with_reducible first | exact HB.out | apply b1_ | apply b2_ | apply b3_ | refine below_set ?_ GE1040.out) | exact HB.out)) hb)
              have n2_ := am_ (hbox)
              have n3_ := am_ ((by rw [hg]; exact (below_size (by repeat (first | (with_reducible first | exact HB.out | apply b1_ | apply b2_ | apply b3_ | refine below_set ?_ GE1040.out) | exact HB.out))) : w.heap.size ≤ gb1043))
              have n4_ := am_ ((by rw [hg]; exact (below_size (by repeat (first | (with_reducible first | exact HB.out | apply b1_ | apply b2_ | apply b3_ | refine below_set ?_ GE1040.out) | exact HB.out))) : w.heap.size ≤ gb1043))
              have n5_ := am_ ((by rw [hg]; exact Nat.ne_of_lt (blk_lt (g := gb1040) (o := .cells #[.int .i64 0, .int .i64 0, .int .i64 0, .int .i64 0, .string (⟨#[]⟩ : ByteArray)] 36 (0, 0)) (by (with_reducible repeat (first | apply k1_ | apply k2_ | apply k3_)); exact BK1040.out)) : gb1040 ≠ gb1043))
              have n6_ := am_ ((by rw [hg]; exact Nat.ne_of_gt (blk_lt (g := gb1040) (o := .cells #[.int .i64 0, .int .i64 0, .int .i64 0, .int .i64 0, .string (⟨#[]⟩ : ByteArray)] 36 (0, 0)) (by (with_reducible repeat (first | apply k1_ | apply k2_ | apply k3_)); exact BK1040.out)) : gb1043 ≠ gb1040))
              clear BK1040
              clear HB
              have BK1040 := n0_
              have HB := n1_
              have BK1043 := n2_
              have GW1043 := n3_
              have GE1043 := n4_
              have NB1040_1043 := n5_
              have NB1043_1040 := n6_
              clear n0_ n1_ n2_ n3_ n4_ n5_ n6_
              clear hb hbox hg
              refine hK.out _ _ trivial (fun hHeld => ?_)
              clear hK K
              refine norm_ (a' := ?_) ?_ ?_
              rotate_left
              ·show Act.put _ (some 4) _ = _
               simp only [Act.put, p1_, p2_, p3_, i64_w, i32_w]
               rfl
              exact norm_ (by simp only [putAll, Act.put, p1_, p2_, p3_]) (hCont (gb1043) _ ⟨(by (with_reducible repeat (first | apply k1_ | apply k2_ | apply k3_)); exact BK1040.out), (by (with_reducible repeat (first | apply k1_ | apply k2_ | apply k3_)); exact BK1043.out), GW1043.out, GE1043.out, NB1040_1043.out, NB1043_1040.out, (by repeat (first | (with_reducible first | exact HB.out | apply b1_ | apply b2_ | apply b3_ | refine below_set ?_ GE1040.out | refine below_set ?_ GE1043.out) | exact HB.out))⟩)
             ·skip
              refine box_step ?hg (N := 4) ?hd (cs := #[.int .i64 0, .int .i64 0, .int .i64 0, .int .i64 0, .string (⟨#[]⟩ : ByteArray)]) (t := 36) ?hr ?_; (case hd => rfl); (case hg => rfl); (case hr => first | (go_simp; done) | (go_simp; rfl))
              intro gb1043 hg w22 hbox hb
              have n0_ := am_ (blk_below (g := gb1040) (o := .cells #[.int .i64 0, .int .i64 0, .int .i64 0, .int .i64 0, .string (⟨#[]⟩ : ByteArray)] 36 (0, 0)) (by (with_reducible repeat (first | apply k1_ | apply k2_ | apply k3_)); exact BK1040.out) hb)
              have n1_ := am_ (below_step (by repeat (first | (with_reducible first | exact HB.out | apply b1_ | apply b2_ | apply b3_ | refine below_set ?_ GE1040.out) | exact HB.out)) hb)
              have n2_ := am_ (hbox)
              have n3_ := am_ ((by rw [hg]; exact (below_size (by repeat (first | (with_reducible first | exact HB.out | apply b1_ | apply b2_ | apply b3_ | refine below_set ?_ GE1040.out) | exact HB.out))) : w.heap.size ≤ gb1043))
              have n4_ := am_ ((by rw [hg]; exact (below_size (by repeat (first | (with_reducible first | exact HB.out | apply b1_ | apply b2_ | apply b3_ | refine below_set ?_ GE1040.out) | exact HB.out))) : w.heap.size ≤ gb1043))
              have n5_ := am_ ((by rw [hg]; exact Nat.ne_of_lt (blk_lt (g := gb1040) (o := .cells #[.int .i64 0, .int .i64 0, .int .i64 0, .int .i64 0, .string (⟨#[]⟩ : ByteArray)] 36 (0, 0)) (by (with_reducible repeat (first | apply k1_ | apply k2_ | apply k3_)); exact BK1040.out)) : gb1040 ≠ gb1043))
              have n6_ := am_ ((by rw [hg]; exact Nat.ne_of_gt (blk_lt (g := gb1040) (o := .cells #[.int .i64 0, .int .i64 0, .int .i64 0, .int .i64 0, .string (⟨#[]⟩ : ByteArray)] 36 (0, 0)) (by (with_reducible repeat (first | apply k1_ | apply k2_ | apply k3_)); exact BK1040.out)) : gb1043 ≠ gb1040))
              clear BK1040
              clear HB
              have BK1040 := n0_
              have HB := n1_
              have BK1043 := n2_
              have GW1043 := n3_
              have GE1043 := n4_
              have NB1040_1043 := n5_
              have NB1043_1040 := n6_
              clear n0_ n1_ n2_ n3_ n4_ n5_ n6_
              clear hb hbox hg
              refine hK.out _ _ trivial (fun hHeld => ?_)
              clear hK K
              refine norm_ (a' := ?_) ?_ ?_
              rotate_left
              ·show Act.put _ (some 4) _ = _
               simp only [Act.put, p1_, p2_, p3_, i64_w, i32_w]
               rfl
              refine one_ (i := 11) (N := some 29) #[true, true, true, true, true, true, true, true, true, true, true, true, true, true, false, true, false] rfl rfl (one_of HT_.out (by kernel_rfl)) (by decide) (fun K hK => ?_)
              refine goes_ Try.func124 (by kernel_rfl) rfl #[.string (a0.extract 4 6)] (by rfl) rfl rfl (by (try simp only [m1_, m2_, m3_]); first | done | rfl | (simp only [d1_, d2_]; rfl)) ?_
              with_reducible refine (spec_l02Of.calls kj1 (a0.extract 4 6) t1042 _ A18.out).mono ?_
              rintro e w' ⟨rfl, ⟨nd, rfl⟩⟩
              refine ⟨_, rfl, ?_⟩
              refine hK.out _ _ trivial (fun hHeld => ?_)
              clear hK K
              refine norm_ (a' := ?_) ?_ ?_
              rotate_left
              ·show Act.put _ (some 29) _ = _
               simp only [Act.put, p1_, p2_, p3_, i64_w, i32_w]
               rfl
              refine pure_ (i := 14) (N := some 32) (v := ?_) (a' := ?_) #[true, true, true, true, true, true, true, true, true, true, true, true, true, true, true, true, false] rfl rfl (any_of HT_.out (by kernel_rfl)) (fun _ _ _ h => h) (Or.inl ⟨by rfl, ?_⟩) ?_ ?_
              rotate_left
              ·intro w'
               go_simp
               with_reducible rfl
              rotate_left
              ·simp only [Act.put, p1_, p2_, p3_, i64_w, i32_w]
               rfl
              exact norm_ (by simp only [putAll, Act.put, p1_, p2_, p3_]) (hCont (gb1043) _ ⟨(by (with_reducible repeat (first | apply k1_ | apply k2_ | apply k3_)); exact BK1040.out), (by (with_reducible repeat (first | apply k1_ | apply k2_ | apply k3_)); exact BK1043.out), GW1043.out, GE1043.out, NB1040_1043.out, NB1043_1040.out, (by repeat (first | (with_reducible first | exact HB.out | apply b1_ | apply b2_ | apply b3_ | refine below_set ?_ GE1040.out | refine below_set ?_ GE1043.out) | exact HB.out))⟩)
            ·skip
             refine box_step ?hg (N := 4) ?hd (cs := #[.int .i64 0, .int .i64 0, .int .i64 0, .int .i64 0, .string (⟨#[]⟩ : ByteArray)]) (t := 36) ?hr ?_; (case hd => rfl); (case hg => rfl); (case hr => first | (go_simp; done) | (go_simp; rfl))
             intro gb1043 hg w22 hbox hb
             have n0_ := am_ (blk_below (g := gb1040) (o := .cells #[.int .i64 0, .int .i64 0, .int .i64 0, .int .i64 0, .string (⟨#[]⟩ : ByteArray)] 36 (0, 0)) (by (with_reducible repeat (first | apply k1_ | apply k2_ | apply k3_)); exact BK1040.out) hb)
             have n1_ := am_ (below_step (by repeat (first | (with_reducible first | exact HB.out | apply b1_ | apply b2_ | apply b3_ | refine below_set ?_ GE1040.out) | exact HB.out)) hb)
             have n2_ := am_ (hbox)
             have n3_ := am_ ((by rw [hg]; exact (below_size (by repeat (first | (with_reducible first | exact HB.out | apply b1_ | apply b2_ | apply b3_ | refine below_set ?_ GE1040.out) | exact HB.out))) : w.heap.size ≤ gb1043))
             have n4_ := am_ ((by rw [hg]; exact (below_size (by repeat (first | (with_reducible first | exact HB.out | apply b1_ | apply b2_ | apply b3_ | refine below_set ?_ GE1040.out) | exact HB.out))) : w.heap.size ≤ gb1043))
             have n5_ := am_ ((by rw [hg]; exact Nat.ne_of_lt (blk_lt (g := gb1040) (o := .cells #[.int .i64 0, .int .i64 0, .int .i64 0, .int .i64 0, .string (⟨#[]⟩ : ByteArray)] 36 (0, 0)) (by (with_reducible repeat (first | apply k1_ | apply k2_ | apply k3_)); exact BK1040.out)) : gb1040 ≠ gb1043))
             have n6_ := am_ ((by rw [hg]; exact Nat.ne_of_gt (blk_lt (g := gb1040) (o := .cells #[.int .i64 0, .int .i64 0, .int .i64 0, .int .i64 0, .string (⟨#[]⟩ : ByteArray)] 36 (0, 0)) (by (with_reducible repeat (first | apply k1_ | apply k2_ | apply k3_)); exact BK1040.out)) : gb1043 ≠ gb1040))
             clear BK1040
             clear HB
             have BK1040 := n0_
             have HB := n1_
             have BK1043 := n2_
             have GW1043 := n3_
             have GE1043 := n4_
             have NB1040_1043 := n5_
             have NB1043_1040 := n6_
             clear n0_ n1_ n2_ n3_ n4_ n5_ n6_
             clear hb hbox hg
             refine hK.out _ _ trivial (fun hHeld => ?_)
             clear hK K
             refine norm_ (a' := ?_) ?_ ?_
             rotate_left
             ·show Act.put _ (some 4) _ = _
              simp only [Act.put, p1_, p2_, p3_, i64_w, i32_w]
              rfl
             refine one_ (i := 5) (N := some 23) #[true, true, true, true, true, true, true, true, true, true, true, false, true, true, false, true, false] rfl rfl (one_of HT_.out (by kernel_rfl)) (by decide) (fun K hK => ?_)
             refine goes_ Try.func124 (by kernel_rfl) rfl #[.string (a0.extract 1 3)] (by rfl) rfl rfl (by (try simp only [m1_, m2_, m3_]); first | done | rfl | (simp only [d1_, d2_]; rfl)) ?_
             with_reducible refine (spec_l02Of.calls kj1 (a0.extract 1 3) t1041 _ A13.out).mono ?_
             rintro e w' ⟨rfl, ⟨nd, rfl⟩⟩
             refine ⟨_, rfl, ?_⟩
             refine hK.out _ _ trivial (fun hHeld => ?_)
             clear hK K
             refine norm_ (a' := ?_) ?_ ?_
             rotate_left
             ·show Act.put _ (some 23) _ = _
              simp only [Act.put, p1_, p2_, p3_, i64_w, i32_w]
              rfl
             refine one_ (i := 11) (N := some 29) #[true, true, true, true, true, true, true, true, true, true, true, true, true, true, false, true, false] rfl rfl (one_of HT_.out (by kernel_rfl)) (by decide) (fun K hK => ?_)
             refine goes_ Try.func124 (by kernel_rfl) rfl #[.string (a0.extract 4 6)] (by rfl) rfl rfl (by (try simp only [m1_, m2_, m3_]); first | done | rfl | (simp only [d1_, d2_]; rfl)) ?_
             with_reducible refine (spec_l02Of.calls kj1 (a0.extract 4 6) t1042 _ A18.out).mono ?_
             rintro e w' ⟨rfl, ⟨nd, rfl⟩⟩
             refine ⟨_, rfl, ?_⟩
             refine hK.out _ _ trivial (fun hHeld => ?_)
             clear hK K
             refine norm_ (a' := ?_) ?_ ?_
             rotate_left
             ·show Act.put _ (some 29) _ = _
              simp only [Act.put, p1_, p2_, p3_, i64_w, i32_w]
              rfl
             refine pure_ (i := 14) (N := some 32) (v := ?_) (a' := ?_) #[true, true, true, true, true, true, true, true, true, true, true, true, true, true, true, true, false] rfl rfl (any_of HT_.out (by kernel_rfl)) (fun _ _ _ h => h) (Or.inl ⟨by rfl, ?_⟩) ?_ ?_
             rotate_left
             ·intro w'
              go_simp
              with_reducible rfl
             rotate_left
             ·simp only [Act.put, p1_, p2_, p3_, i64_w, i32_w]
              rfl
             exact norm_ (by simp only [putAll, Act.put, p1_, p2_, p3_]) (hCont (gb1043) _ ⟨(by (with_reducible repeat (first | apply k1_ | apply k2_ | apply k3_)); exact BK1040.out), (by (with_reducible repeat (first | apply k1_ | apply k2_ | apply k3_)); exact BK1043.out), GW1043.out, GE1043.out, NB1040_1043.out, NB1043_1040.out, (by repeat (first | (with_reducible first | exact HB.out | apply b1_ | apply b2_ | apply b3_ | refine below_set ?_ GE1040.out | refine below_set ?_ GE1043.out) | exact HB.out))⟩)
           rintro gb1043 w23 ⟨h0_, h1_, h2_, h3_, h4_, h5_, h6_⟩
           have n0_ : Aside0 (w23.heap[gb1040]? = some (.cells #[.int .i64 0, .int .i64 0, .int .i64 0, .int .i64 0, .string (⟨#[]⟩ : ByteArray)] 36 (0, 0))) := ⟨h0_⟩
           have n1_ : Aside0 (w23.heap[gb1043]? = some (.cells #[.int .i64 0, .int .i64 0, .int .i64 0, .int .i64 0, .string (⟨#[]⟩ : ByteArray)] 36 (0, 0))) := ⟨h1_⟩
           have n2_ : Aside0 (w.heap.size ≤ gb1043) := ⟨h2_⟩
           have n3_ : Aside0 (w.heap.size ≤ gb1043) := ⟨h3_⟩
           have n4_ : Aside0 (gb1040 ≠ gb1043) := ⟨h4_⟩
           have n5_ : Aside0 (gb1043 ≠ gb1040) := ⟨h5_⟩
           have n6_ : Aside0 (Below w.heap.size w w23) := ⟨h6_⟩
           clear BK1040
           clear HB
           clear h0_ h1_ h2_ h3_ h4_ h5_ h6_
           have BK1040 := n0_
           have BK1043 := n1_
           have GW1043 := n2_
           have GE1043 := n3_
           have NB1040_1043 := n4_
           have NB1043_1040 := n5_
           have HB := n6_
           clear n0_ n1_ n2_ n3_ n4_ n5_ n6_
           have hHeld := trivial
           refine norm_ (a' := ?_) ?_ ?_
           rotate_left
           ·simp only [putAll, Act.put, p1_, p2_, p3_]
            rfl
           refine one_ (i := 16) (N := none) #[true, true, true, true, true, true, true, true, true, true, true, true, true, true, true, true, true] rfl rfl (one_of HT_.out (by kernel_rfl)) (by decide) (fun K hK => ?_)
           have hs24 : w23.cell? ⟨gb1043, 0, none⟩ = some (.int .i64 0) := (blk_cell BK1043.out 0).trans rfl
           have hfs24 := blk_frozen BK1043.out 0
           have hns24_0 := NB1040_1043.out
           have hms24_0 := NB1043_1040.out
           have hs25 : w23.cell? ⟨gb1043, 1, none⟩ = some (.int .i64 0) := (blk_cell BK1043.out 1).trans rfl
           have hfs25 := blk_frozen BK1043.out 1
           have hns25_0 := NB1040_1043.out
           have hms25_0 := NB1043_1040.out
           have hs26 : w23.cell? ⟨gb1043, 2, none⟩ = some (.int .i64 0) := (blk_cell BK1043.out 2).trans rfl
           have hfs26 := blk_frozen BK1043.out 2
           have hns26_0 := NB1040_1043.out
           have hms26_0 := NB1043_1040.out
           have hs27 : w23.cell? ⟨gb1043, 3, none⟩ = some (.int .i64 0) := (blk_cell BK1043.out 3).trans rfl
           have hfs27 := blk_frozen BK1043.out 3
           have hns27_0 := NB1040_1043.out
           have hms27_0 := NB1043_1040.out
           have hs28 : w23.cell? ⟨gb1043, 4, none⟩ = some (.string (⟨#[]⟩ : ByteArray)) := (blk_cell BK1043.out 4).trans rfl
           have hfs28 := blk_frozen BK1043.out 4
           have hns28_0 := NB1040_1043.out
           have hms28_0 := NB1043_1040.out
           refine skip_ (w1 := ?_) (by rfl) rfl ?_ ?_
           rotate_left
           ·go_simp
            rfl
           refine hK.out _ _ trivial (fun hHeld => ?_)
           clear hK K
           refine done_ (done_of HT_.out (by kernel_rfl)) ?_
           try go_wp2
           have n0_ : Aside0 ((((((w23.setCell ⟨gb1043, 0, none⟩ (.int .i64 (wrap64 (bt a0 0)))).setCell ⟨gb1043, 1, none⟩ (.int .i64 t1041)).setCell ⟨gb1043, 2, none⟩ (.int .i64 (wrap64 (bt a0 3)))).setCell ⟨gb1043, 3, none⟩ (.int .i64 t1042)).setCell ⟨gb1043, 4, none⟩ (.string (a0.extract 7 a0.size))).heap[gb1040]? = some (.cells #[.int .i64 0, .int .i64 0, .int .i64 0, .int .i64 0, .string (⟨#[]⟩ : ByteArray)] 36 (0, 0))) := ⟨by (with_reducible repeat (first | apply k1_ | apply k2_ | apply k3_)); refine blk_far ?_ NB1040_1043.out _; (with_reducible repeat (first | apply k1_ | apply k2_ | apply k3_)); refine blk_far ?_ NB1040_1043.out _; (with_reducible repeat (first | apply k1_ | apply k2_ | apply k3_)); refine blk_far ?_ NB1040_1043.out _; (with_reducible repeat (first | apply k1_ | apply k2_ | apply k3_)); refine blk_far ?_ NB1040_1043.out _; (with_reducible repeat (first | apply k1_ | apply k2_ | apply k3_)); refine blk_far ?_ NB1040_1043.out _; (with_reducible repeat (first | apply k1_ | apply k2_ | apply k3_)); exact BK1040.out⟩
           have n1_ : Aside0 ((((((w23.setCell ⟨gb1043, 0, none⟩ (.int .i64 (wrap64 (bt a0 0)))).setCell ⟨gb1043, 1, none⟩ (.int .i64 t1041)).setCell ⟨gb1043, 2, none⟩ (.int .i64 (wrap64 (bt a0 3)))).setCell ⟨gb1043, 3, none⟩ (.int .i64 t1042)).setCell ⟨gb1043, 4, none⟩ (.string (a0.extract 7 a0.size))).heap[gb1043]? = some (.cells #[.int .i64 (wrap64 (bt a0 0)), .int .i64 t1041, .int .i64 (wrap64 (bt a0 3)), .int .i64 t1042, .string (a0.extract 7 a0.size)] 36 (0, 0))) := ⟨by (with_reducible repeat (first | apply k1_ | apply k2_ | apply k3_)); refine blk_put (cs := #[.int .i64 (wrap64 (bt a0 0)), .int .i64 t1041, .int .i64 (wrap64 (bt a0 3)), .int .i64 t1042, .string (⟨#[]⟩ : ByteArray)]) ?_ 4 _ rfl; (with_reducible repeat (first | apply k1_ | apply k2_ | apply k3_)); refine blk_put (cs := #[.int .i64 (wrap64 (bt a0 0)), .int .i64 t1041, .int .i64 (wrap64 (bt a0 3)), .int .i64 0, .string (⟨#[]⟩ : ByteArray)]) ?_ 3 _ rfl; (with_reducible repeat (first | apply k1_ | apply k2_ | apply k3_)); refine blk_put (cs := #[.int .i64 (wrap64 (bt a0 0)), .int .i64 t1041, .int .i64 0, .int .i64 0, .string (⟨#[]⟩ : ByteArray)]) ?_ 2 _ rfl; (with_reducible repeat (first | apply k1_ | apply k2_ | apply k3_)); refine blk_put (cs := #[.int .i64 (wrap64 (bt a0 0)), .int .i64 0, .int .i64 0, .int .i64 0, .string (⟨#[]⟩ : ByteArray)]) ?_ 1 _ rfl; (with_reducible repeat (first | apply k1_ | apply k2_ | apply k3_)); refine blk_put (cs := #[.int .i64 0, .int .i64 0, .int .i64 0, .int .i64 0, .string (⟨#[]⟩ : ByteArray)]) ?_ 0 _ rfl; (with_reducible repeat (first | apply k1_ | apply k2_ | apply k3_)); exact BK1043.out⟩
           have n2_ : Aside0 (Below w.heap.size w (((((w23.setCell ⟨gb1043, 0, none⟩ (.int .i64 (wrap64 (bt a0 0)))).setCell ⟨gb1043, 1, none⟩ (.int .i64 t1041)).setCell ⟨gb1043, 2, none⟩ (.int .i64 (wrap64 (bt a0 3)))).setCell ⟨gb1043, 3, none⟩ (.int .i64 t1042)).setCell ⟨gb1043, 4, none⟩ (.string (a0.extract 7 a0.size)))) := ⟨by repeat (first | (with_reducible first | exact HB.out | apply b1_ | apply b2_ | apply b3_ | refine below_set ?_ GE1040.out | refine below_set ?_ GE1043.out) | exact HB.out)⟩
           (try clear BK1040)
           (try clear BK1043)
           (try clear HB)
           generalize (((((w23.setCell ⟨gb1043, 0, none⟩ (.int .i64 (wrap64 (bt a0 0)))).setCell ⟨gb1043, 1, none⟩ (.int .i64 t1041)).setCell ⟨gb1043, 2, none⟩ (.int .i64 (wrap64 (bt a0 3)))).setCell ⟨gb1043, 3, none⟩ (.int .i64 t1042)).setCell ⟨gb1043, 4, none⟩ (.string (a0.extract 7 a0.size))) = w29 at n0_ n1_ n2_ ⊢
           have BK1040 := n0_
           have BK1043 := n1_
           have HB := n2_
           clear n0_ n1_ n2_
           have n0_ := am_ (blk_drew BK1040.out)
           have n1_ := am_ (blk_drew BK1043.out)
           have n2_ := am_ (below_drew1 HB.out)
           clear BK1040
           clear BK1043
           clear HB
           have BK1040 := n0_
           have BK1043 := n1_
           have HB := n2_
           clear n0_ n1_ n2_
           refine start_ (n := 5) (S := fun w' => w'.cell? ⟨gb1043, 0, none⟩ = some (.int .i64 (wrap64 (bt a0 0))) ∧ w'.cell? ⟨gb1043, 1, none⟩ = some (.int .i64 t1041) ∧ w'.cell? ⟨gb1043, 2, none⟩ = some (.int .i64 (wrap64 (bt a0 3))) ∧ w'.cell? ⟨gb1043, 3, none⟩ = some (.int .i64 t1042) ∧ w'.cell? ⟨gb1043, 4, none⟩ = some (.string (a0.extract 7 a0.size))) (ds := []) #[false, false, false, false, false] (by kernel_rfl) rfl rfl ⟨(blk_cell BK1043.out 0).trans rfl, (blk_cell BK1043.out 1).trans rfl, (blk_cell BK1043.out 2).trans rfl, (blk_cell BK1043.out 3).trans rfl, (blk_cell BK1043.out 4).trans rfl⟩ (fun hHeld => ?_)
           generalize w29.drew = w30 at BK1040 BK1043 HB hHeld ⊢
           refine take_ (i := 0) (N := some 33) (v := ?_) (a' := ?_) #[true, false, false, false, false] rfl rfl (by kernel_rfl) (fun _ _ _ h => h) (Or.inl ⟨by rfl, ?_⟩) hHeld ?_ ?_
           rotate_left
           ·rintro w' ⟨s0, s1, s2, s3, s4⟩
            go_simp
            with_reducible rfl
           rotate_left
           ·simp only [Act.put, p1_, p2_, p3_, i64_w, i32_w]
            rfl
           refine take_ (i := 1) (N := some 34) (v := ?_) (a' := ?_) #[true, true, false, false, false] rfl rfl (by kernel_rfl) (fun _ _ _ h => h) (Or.inl ⟨by rfl, ?_⟩) hHeld ?_ ?_
           rotate_left
           ·rintro w' ⟨s0, s1, s2, s3, s4⟩
            go_simp
            with_reducible rfl
           rotate_left
           ·simp only [Act.put, p1_, p2_, p3_, i64_w, i32_w]
            rfl
           refine one_ (i := 2) (N := some 35) #[true, true, true, false, false] rfl rfl (by kernel_rfl) (by decide) (fun K hK => ?_)
           refine goes_ Try.func154 (by kernel_rfl) rfl #[.agg #[.int .i64 (wrap64 (bt a0 0)), .int .i64 t1041, .int .i64 (wrap64 (bt a0 3)), .int .i64 t1042, .string (a0.extract 7 a0.size)]] (by rfl) rfl rfl (by (try simp only [m1_, m2_, m3_]); first | done | rfl | (simp only [d1_, d2_]; rfl)) ?_
           with_reducible refine (spec_RequestOK.calls kj1 (wrap64 (bt a0 0)) t1041 (wrap64 (bt a0 3)) t1042 (a0.extract 7 a0.size) t1044 _ A20.out).mono ?_
           rintro e w31 ⟨rfl, hb⟩
           refine ⟨_, rfl, ?_⟩
           have n0_ := am_ (blk_below (g := gb1040) (o := .cells #[.int .i64 0, .int .i64 0, .int .i64 0, .int .i64 0, .string (⟨#[]⟩ : ByteArray)] 36 (0, 0)) (by (with_reducible repeat (first | apply k1_ | apply k2_ | apply k3_)); exact BK1040.out) hb)
           have n1_ := am_ (blk_below (g := gb1043) (o := .cells #[.int .i64 (wrap64 (bt a0 0)), .int .i64 t1041, .int .i64 (wrap64 (bt a0 3)), .int .i64 t1042, .string (a0.extract 7 a0.size)] 36 (0, 0)) (by (with_reducible repeat (first | apply k1_ | apply k2_ | apply k3_)); exact BK1043.out) hb)
           have n2_ := am_ (below_step (by repeat (first | (with_reducible first | exact HB.out | apply b1_ | apply b2_ | apply b3_ | refine below_set ?_ GE1040.out | refine below_set ?_ GE1043.out) | exact HB.out)) hb)
           clear BK1040
           clear BK1043
           clear HB
           have BK1040 := n0_
           have BK1043 := n1_
           have HB := n2_
           clear n0_ n1_ n2_
           (try clear hb)
           (try clear hb2)
           (try clear hk)
           (try clear hi)
           refine hK.out _ _ ⟨(blk_cell BK1043.out 0).trans rfl, (blk_cell BK1043.out 1).trans rfl, (blk_cell BK1043.out 2).trans rfl, (blk_cell BK1043.out 3).trans rfl, (blk_cell BK1043.out 4).trans rfl⟩ (fun hHeld => ?_)
           clear hK K
           refine norm_ (a' := ?_) ?_ ?_
           rotate_left
           ·show Act.put _ (some 35) _ = _
            simp only [Act.put, p1_, p2_, p3_, i64_w, i32_w]
            rfl
           refine one_ (i := 3) (N := none) #[true, true, true, true, false] rfl rfl (by kernel_rfl) (by decide) (fun K hK => ?_)
           have hs32 : w31.cell? ⟨gb1040, 0, none⟩ = some (.int .i64 0) := (blk_cell BK1040.out 0).trans rfl
           have hfs32 := blk_frozen BK1040.out 0
           have hns32_1 := NB1043_1040.out
           have hms32_1 := NB1040_1043.out
           have hs33 : w31.cell? ⟨gb1040, 1, none⟩ = some (.int .i64 0) := (blk_cell BK1040.out 1).trans rfl
           have hfs33 := blk_frozen BK1040.out 1
           have hns33_1 := NB1043_1040.out
           have hms33_1 := NB1040_1043.out
           have hs34 : w31.cell? ⟨gb1040, 2, none⟩ = some (.int .i64 0) := (blk_cell BK1040.out 2).trans rfl
           have hfs34 := blk_frozen BK1040.out 2
           have hns34_1 := NB1043_1040.out
           have hms34_1 := NB1040_1043.out
           have hs35 : w31.cell? ⟨gb1040, 3, none⟩ = some (.int .i64 0) := (blk_cell BK1040.out 3).trans rfl
           have hfs35 := blk_frozen BK1040.out 3
           have hns35_1 := NB1043_1040.out
           have hms35_1 := NB1040_1043.out
           have hs36 : w31.cell? ⟨gb1040, 4, none⟩ = some (.string (⟨#[]⟩ : ByteArray)) := (blk_cell BK1040.out 4).trans rfl
           have hfs36 := blk_frozen BK1040.out 4
           have hns36_1 := NB1043_1040.out
           have hms36_1 := NB1040_1043.out
           refine skip_ (w1 := ?_) (by rfl) rfl ?_ ?_
           rotate_left
           ·go_simp
            rfl
           refine hK.out _ _ ⟨((cell_far (p := ⟨gb1040, _, none⟩) NB1043_1040.out _).trans (((cell_far (p := ⟨gb1040, _, none⟩) NB1043_1040.out _).trans (((cell_far (p := ⟨gb1040, _, none⟩) NB1043_1040.out _).trans (((cell_far (p := ⟨gb1040, _, none⟩) NB1043_1040.out _).trans (((cell_far (p := ⟨gb1040, _, none⟩) NB1043_1040.out _).trans (hHeld.1)))))))))), ((cell_far (p := ⟨gb1040, _, none⟩) NB1043_1040.out _).trans (((cell_far (p := ⟨gb1040, _, none⟩) NB1043_1040.out _).trans (((cell_far (p := ⟨gb1040, _, none⟩) NB1043_1040.out _).trans (((cell_far (p := ⟨gb1040, _, none⟩) NB1043_1040.out _).trans (((cell_far (p := ⟨gb1040, _, none⟩) NB1043_1040.out _).trans (hHeld.2.1)))))))))), ((cell_far (p := ⟨gb1040, _, none⟩) NB1043_1040.out _).trans (((cell_far (p := ⟨gb1040, _, none⟩) NB1043_1040.out _).trans (((cell_far (p := ⟨gb1040, _, none⟩) NB1043_1040.out _).trans (((cell_far (p := ⟨gb1040, _, none⟩) NB1043_1040.out _).trans (((cell_far (p := ⟨gb1040, _, none⟩) NB1043_1040.out _).trans (hHeld.2.2.1)))))))))), ((cell_far (p := ⟨gb1040, _, none⟩) NB1043_1040.out _).trans (((cell_far (p := ⟨gb1040, _, none⟩) NB1043_1040.out _).trans (((cell_far (p := ⟨gb1040, _, none⟩) NB1043_1040.out _).trans (((cell_far (p := ⟨gb1040, _, none⟩) NB1043_1040.out _).trans (((cell_far (p := ⟨gb1040, _, none⟩) NB1043_1040.out _).trans (hHeld.2.2.2.1)))))))))), ((cell_far (p := ⟨gb1040, _, none⟩) NB1043_1040.out _).trans (((cell_far (p := ⟨gb1040, _, none⟩) NB1043_1040.out _).trans (((cell_far (p := ⟨gb1040, _, none⟩) NB1043_1040.out _).trans (((cell_far (p := ⟨gb1040, _, none⟩) NB1043_1040.out _).trans (((cell_far (p := ⟨gb1040, _, none⟩) NB1043_1040.out _).trans (hHeld.2.2.2.2))))))))))⟩ (fun hHeld => ?_)
           clear hK K
           refine pure_ (i := 4) (N := some 3) (v := ?_) (a' := ?_) #[true, true, true, true, true] rfl rfl (by kernel_rfl) (fun _ _ _ h => h) (Or.inl ⟨by rfl, ?_⟩) ?_ ?_
           rotate_left
           ·intro w'
            go_simp
            with_reducible rfl
           rotate_left
           ·simp only [Act.put, p1_, p2_, p3_, i64_w, i32_w]
            rfl
           refine done_ (by kernel_rfl) ?_
           try go_wp2
           refine bodyPost_ret (results_ct rfl _ _ gb1040 36 #[.int .i64 (wrap64 (bt a0 0)), .int .i64 t1041, .int .i64 (wrap64 (bt a0 3)), .int .i64 t1042, .string (a0.extract 7 a0.size)] (0, 0) _ rfl (by (with_reducible repeat (first | apply k1_ | apply k2_ | apply k3_)); refine blk_put (cs := #[.int .i64 (wrap64 (bt a0 0)), .int .i64 t1041, .int .i64 (wrap64 (bt a0 3)), .int .i64 t1042, .string (⟨#[]⟩ : ByteArray)]) ?_ 4 _ rfl; (with_reducible repeat (first | apply k1_ | apply k2_ | apply k3_)); refine blk_put (cs := #[.int .i64 (wrap64 (bt a0 0)), .int .i64 t1041, .int .i64 (wrap64 (bt a0 3)), .int .i64 0, .string (⟨#[]⟩ : ByteArray)]) ?_ 3 _ rfl; (with_reducible repeat (first | apply k1_ | apply k2_ | apply k3_)); refine blk_put (cs := #[.int .i64 (wrap64 (bt a0 0)), .int .i64 t1041, .int .i64 0, .int .i64 0, .string (⟨#[]⟩ : ByteArray)]) ?_ 2 _ rfl; (with_reducible repeat (first | apply k1_ | apply k2_ | apply k3_)); refine blk_put (cs := #[.int .i64 (wrap64 (bt a0 0)), .int .i64 0, .int .i64 0, .int .i64 0, .string (⟨#[]⟩ : ByteArray)]) ?_ 1 _ rfl; (with_reducible repeat (first | apply k1_ | apply k2_ | apply k3_)); refine blk_put (cs := #[.int .i64 0, .int .i64 0, .int .i64 0, .int .i64 0, .string (⟨#[]⟩ : ByteArray)]) ?_ 0 _ rfl; (with_reducible repeat (first | apply k1_ | apply k2_ | apply k3_)); exact BK1040.out) Try.underlying36 rfl (by kernel_rfl)) rfl ?_
           exact ⟨by first | rfl | (simp [e1_, e2_] <;> rfl) | (simp [*, e1_, e2_] <;> rfl) | (simp [e3_, e4_]; done) | (simp [*, e3_, e4_]; done), by repeat (first | (with_reducible first | exact HB.out | apply b1_ | apply b2_ | apply b3_ | refine below_set ?_ GE1040.out | refine below_set ?_ GE1043.out) | exact HB.out)⟩
          ·rw [if_neg c19] at H
           exact absurd H (by simp)
         ·rw [if_neg c17] at H
          exact absurd H (by simp)
        ·rw [if_neg c16] at H
         exact absurd H (by simp)
       ·rw [if_neg c14] at H
        exact absurd H (by simp)
      ·rw [if_neg c12] at H
       exact absurd H (by simp)
     ·rw [if_neg c11] at H
      exact absurd H (by simp)
    ·rw [if_neg c9] at H
     exact absurd H (by simp)
def spec_l02ReadBatch.T13 : Bool × List (List Nat × List Nat) := (true, [([], []), ([0], [0]), ([], []), ([2], [2]), ([3], [3]), ([], []), ([5], [5]), ([6], [6]), ([], []), ([8], [8]), ([4, 7, 9], [4, 7, 9]), ([10], [10]), ([1, 11, 7], [1, 11]), ([0, 1, 2, 3, 4, 5, 6, 7, 8, 9, 10, 11, 12], []), ([13, 12, 12, 0, 1, 2, 3, 4, 5, 6, 7, 8, 9, 10, 11, 12], [12, 13])])
def spec_l02ReadBatch.B13 : List Nat := [0, 1, 0, 4, 12, 0, 32, 96, 0, 256, 1020, 2044, 4095, 8191, 16383]
theorem spec_l02ReadBatch.tab13 : rtab .any (opsOf Try.f92 13) = spec_l02ReadBatch.T13 := by kernel_rfl
theorem spec_l02ReadBatch.bits13 : waitsOk spec_l02ReadBatch.T13.2 spec_l02ReadBatch.B13 = true := by kernel_rfl
def spec_l02ReadBatch.T16 : Bool × List (List Nat × List Nat) := (true, [([], []), ([], []), ([1], [1]), ([2], [2]), ([3, 2, 2], [2, 3]), ([2, 4], [2, 4]), ([0, 4, 0], [0]), ([5, 6, 0, 1, 2, 3, 4, 5, 6], [5])])
def spec_l02ReadBatch.B16 : List Nat := [0, 0, 2, 6, 14, 30, 31, 127]
theorem spec_l02ReadBatch.tab16 : rtab .any (opsOf Try.f92 16) = spec_l02ReadBatch.T16 := by kernel_rfl
theorem spec_l02ReadBatch.bits16 : waitsOk spec_l02ReadBatch.T16.2 spec_l02ReadBatch.B16 = true := by kernel_rfl
set_option maxHeartbeats 8000000 in
set_option maxRecDepth 100000 in
theorem spec_l02ReadBatch.calls (k : Nat) (a0 : ByteArray) (r1 : Bool) (r2 : Int) (r3 : Int) (r4 : Int) (r5 : Int) (r6 : ByteArray) (r7 : List (S161)) (r8 : Bool) (w : World) (h : spec_l02ReadBatch.f k a0 = some (r1, r2, r3, r4, r5, r6, r7, r8)) :
  Calls Try.prog 92 #[.string a0] w fun e w' => ∃ v6_ : Value, e = .returned (.tuple #[.agg #[.bool r1, .int .i64 r2, .int .i64 r3, .int .i64 r4, .int .i64 r5, .string r6, v6_], .bool r8]) ∧ Kd.R k161 161 w' w.heap.size (fun _ => True) v6_ r7 ∧ Below w.heap.size w w' := by
 have hu67 := Try.underlying67
 have hu161 := Try.underlying161
 have hu36 := Try.underlying36
 have HB := am_ (Below.refl w.heap.size w)
 have H : (if a0.toList = ([] : List UInt8) then (some (false, 0, 0, 0, 0, (⟨#[]⟩ : ByteArray), ([] : List (S161)), false)) else (if 0 < (a0.size : Int) then (if (wrap64 (bt a0 0)) = 0 then (some (true, 0, 0, 0, 0, (⟨#[]⟩ : ByteArray), (([] : List (S161))), ((a0.size : Int) == 1))) else (if (a0.size : Int) < (wrap64 (1 + (wrap64 (13 * (wrap64 ((wrap64 (bt a0 0)) - 1)))))) then (some (false, 0, 0, 0, 0, (⟨#[]⟩ : ByteArray), ([] : List (S161)), false)) else (spec_l02ReadBatch.l0 k a0 (wrap64 (bt a0 0)) 0 false 0 0 0 0 (⟨#[]⟩ : ByteArray) (([] : List (S161)))))) else (none))) = some (r1, r2, r3, r4, r5, r6, r7, r8) := h
 clear h
 by_cases c2 : a0.toList = ([] : List UInt8)
 ·rw [if_pos c2] at H
  have c2b0 : (a0.toList == ([] : List UInt8)) = true := beq_iff_eq.mpr c2
  have c2b1 : (a0.toList != ([] : List UInt8)) = false := bne_eq_false_iff_eq.mpr c2
  (try have c2e0 := c2b0; simp only [e3_, e4_] at c2e0)
  (try have c2e1 := c2b1; simp only [e3_, e4_] at c2e1)
  clear c2
  simp only [Option.some.injEq, Prod.mk.injEq] at H
  obtain ⟨rfl, rfl, rfl, rfl, rfl, rfl, rfl, rfl⟩ := H
  go_enter Try.func92, Try.ntmps92
  go_wp2_with (first | ((with_reducible refine gate_dst (N := 2) rfl ?_); refine box_event ?hg (N := 2) ?hd (cs := #[.bool false, .int .i64 0, .int .i64 0, .int .i64 0, .int .i64 0, .string (⟨#[]⟩ : ByteArray), .slice none 0 0]) (t := 67) ?hr ?_; (case hd => rfl); (case hg => rfl); (case hr => first | (go_simp; done) | (go_simp; rfl)); intro gb1054 hg w3 hbox hb; have n0_ := am_ (below_step (by repeat (first | (with_reducible first | exact HB.out | apply b1_ | apply b2_ | apply b3_) | exact HB.out)) hb); have n1_ := am_ (hbox); have n2_ := am_ ((by rw [hg]; exact (below_size (by repeat (first | (with_reducible first | exact HB.out | apply b1_ | apply b2_ | apply b3_) | exact HB.out))) : w.heap.size ≤ gb1054)); have n3_ := am_ ((by rw [hg]; exact (below_size (by repeat (first | (with_reducible first | exact HB.out | apply b1_ | apply b2_ | apply b3_) | exact HB.out))) : w.heap.size ≤ gb1054)); clear HB; have HB := n0_; have BK1054 := n1_; have GW1054 := n2_; have GE1054 := n3_; clear n0_ n1_ n2_ n3_; clear hb hbox hg; have hcz4_0 : w3.cell? ⟨gb1054, 0, none⟩ = some (.bool false) := (blk_cell BK1054.out 0).trans rfl; have hcz4_1 : w3.cell? ⟨gb1054, 1, none⟩ = some (.int .i64 0) := (blk_cell BK1054.out 1).trans rfl; have hcz4_2 : w3.cell? ⟨gb1054, 2, none⟩ = some (.int .i64 0) := (blk_cell BK1054.out 2).trans rfl; have hcz4_3 : w3.cell? ⟨gb1054, 3, none⟩ = some (.int .i64 0) := (blk_cell BK1054.out 3).trans rfl; have hcz4_4 : w3.cell? ⟨gb1054, 4, none⟩ = some (.int .i64 0) := (blk_cell BK1054.out 4).trans rfl; have hcz4_5 : w3.cell? ⟨gb1054, 5, none⟩ = some (.string (⟨#[]⟩ : ByteArray)) := (blk_cell BK1054.out 5).trans rfl; have hcz4_6 : w3.cell? ⟨gb1054, 6, none⟩ = some (.slice none 0 0) := (blk_cell BK1054.out 6).trans rfl; have hfz4_0 := blk_frozen BK1054.out 0; have hfz4_1 := blk_frozen BK1054.out 1; have hfz4_2 := blk_frozen BK1054.out 2; have hfz4_3 := blk_frozen BK1054.out 3; have hfz4_4 := blk_frozen BK1054.out 4; have hfz4_5 := blk_frozen BK1054.out 5; have hfz4_6 := blk_frozen BK1054.out 6))
  refine bodyPost_ret (results_ct rfl _ _ gb1054 67 #[.bool false, .int .i64 0, .int .i64 0, .int .i64 0, .int .i64 0, .string (⟨#[]⟩ : ByteArray), .slice none 0 0] (0, 0) _ rfl (by (with_reducible repeat (first | apply k1_ | apply k2_ | apply k3_)); refine blk_put (cs := #[.bool false, .int .i64 0, .int .i64 0, .int .i64 0, .int .i64 0, .string (⟨#[]⟩ : ByteArray), .slice none 0 0]) ?_ 6 _ rfl; (with_reducible repeat (first | apply k1_ | apply k2_ | apply k3_)); refine blk_put (cs := #[.bool false, .int .i64 0, .int .i64 0, .int .i64 0, .int .i64 0, .string (⟨#[]⟩ : ByteArray), .slice none 0 0]) ?_ 5 _ rfl; (with_reducible repeat (first | apply k1_ | apply k2_ | apply k3_)); refine blk_put (cs := #[.bool false, .int .i64 0, .int .i64 0, .int .i64 0, .int .i64 0, .string (⟨#[]⟩ : ByteArray), .slice none 0 0]) ?_ 4 _ rfl; (with_reducible repeat (first | apply k1_ | apply k2_ | apply k3_)); refine blk_put (cs := #[.bool false, .int .i64 0, .int .i64 0, .int .i64 0, .int .i64 0, .string (⟨#[]⟩ : ByteArray), .slice none 0 0]) ?_ 3 _ rfl; (with_reducible repeat (first | apply k1_ | apply k2_ | apply k3_)); refine blk_put (cs := #[.bool false, .int .i64 0, .int .i64 0, .int .i64 0, .int .i64 0, .string (⟨#[]⟩ : ByteArray), .slice none 0 0]) ?_ 2 _ rfl; (with_reducible repeat (first | apply k1_ | apply k2_ | apply k3_)); refine blk_put (cs := #[.bool false, .int .i64 0, .int .i64 0, .int .i64 0, .int .i64 0, .string (⟨#[]⟩ : ByteArray), .slice none 0 0]) ?_ 1 _ rfl; (with_reducible repeat (first | apply k1_ | apply k2_ | apply k3_)); refine blk_put (cs := #[.bool false, .int .i64 0, .int .i64 0, .int .i64 0, .int .i64 0, .string (⟨#[]⟩ : ByteArray), .slice none 0 0]) ?_ 0 _ rfl; (with_reducible repeat (first | apply k1_ | apply k2_ | apply k3_)); exact BK1054.out) Try.underlying67 rfl (by kernel_rfl)) rfl ?_
  exact ⟨_, by first | rfl | (simp [e1_, e2_] <;> rfl) | (simp [*, e1_, e2_] <;> rfl) | (simp [e3_, e4_]; done) | (simp [*, e3_, e4_]; done), by first | exact Kd.R_nil _ _ _ _ _ | exact Kd.N_nil _ _ _ _ _ | exact Kd.V_nil _ _ _ _ _ | exact Kd.Q_nil _ _ _ _ _ | exact Kd.S_nil _ _ _ _ _, by repeat (first | (with_reducible first | exact HB.out | apply b1_ | apply b2_ | apply b3_ | refine below_set ?_ GE1054.out) | exact HB.out)⟩
 ·rw [if_neg c2] at H
  have c2b0 : (a0.toList == ([] : List UInt8)) = false := beq_eq_false_iff_ne.mpr c2
  have c2b1 : (a0.toList != ([] : List UInt8)) = true := bne_iff_ne.mpr c2
  (try have c2e0 := c2b0; simp only [e3_, e4_] at c2e0)
  (try have c2e1 := c2b1; simp only [e3_, e4_] at c2e1)
  by_cases c5 : 0 < (a0.size : Int)
  ·rw [if_pos c5] at H
   have c5b0 : decide (0 < (a0.size : Int)) = true := decide_eq_true c5
   have c5b1 : decide (0 < a0.size) = true := decide_eq_true (by omega)
   clear c5
   by_cases c7 : (wrap64 (bt a0 0)) = 0
   ·rw [if_pos c7] at H
    have c7b0 : ((wrap64 (bt a0 0)) == 0) = true := beq_iff_eq.mpr c7
    have c7b1 : ((wrap64 (bt a0 0)) != 0) = false := bne_eq_false_iff_eq.mpr c7
    clear c7
    obtain ⟨y1055, hy1055⟩ : ∃ y_ : List (S161), y_ = (([] : List (S161))) := ⟨_, rfl⟩
    replace H : (some (true, 0, 0, 0, 0, (⟨#[]⟩ : ByteArray), y1055, ((a0.size : Int) == 1))) = some (r1, r2, r3, r4, r5, r6, r7, r8) := by first | (rw [hy1055]; with_reducible exact H) | (have H2_ := (Option.bind_some _ _).symm.trans H; rw [hy1055]; with_reducible exact H2_) | (have H2_ := (Option.bind_some _ _).symm.trans H; with_reducible exact H2_) | with_reducible exact H | (rw [hy1055]; exact H) | exact H
    have Ny1055 := am_ hy1055
    clear hy1055
    simp only [Option.some.injEq, Prod.mk.injEq] at H
    obtain ⟨rfl, rfl, rfl, rfl, rfl, rfl, rfl, rfl⟩ := H
    go_enter Try.func92, Try.ntmps92
    go_wp2_with (first | ((with_reducible refine gate_dst (N := 2) rfl ?_); refine box_event ?hg (N := 2) ?hd (cs := #[.bool false, .int .i64 0, .int .i64 0, .int .i64 0, .int .i64 0, .string (⟨#[]⟩ : ByteArray), .slice none 0 0]) (t := 67) ?hr ?_; (case hd => rfl); (case hg => rfl); (case hr => first | (go_simp; done) | (go_simp; rfl)); intro gb1054 hg w8 hbox hb; have n0_ := am_ (below_step (by repeat (first | (with_reducible first | exact HB.out | apply b1_ | apply b2_ | apply b3_) | exact HB.out)) hb); have n1_ := am_ (hbox); have n2_ := am_ ((by rw [hg]; exact (below_size (by repeat (first | (with_reducible first | exact HB.out | apply b1_ | apply b2_ | apply b3_) | exact HB.out))) : w.heap.size ≤ gb1054)); have n3_ := am_ ((by rw [hg]; exact (below_size (by repeat (first | (with_reducible first | exact HB.out | apply b1_ | apply b2_ | apply b3_) | exact HB.out))) : w.heap.size ≤ gb1054)); clear HB; have HB := n0_; have BK1054 := n1_; have GW1054 := n2_; have GE1054 := n3_; clear n0_ n1_ n2_ n3_; clear hb hbox hg; have p6 : 0 ≤ (0 : Int) := (by omega); have q6 : 0 < a0.size := (by have : (0 : Int) < (a0.size : Int) := o1_ (by first | (with_reducible assumption) | assumption); omega); have hx6 : ∀ h : 0 < a0.size, ((a0[0]'h).toNat : Int) = bt a0 0 := bt_at a0 0; clear p6; have qi6 : (0 < (a0.size : Int)) = True := eq_true (o1_ (by first | (with_reducible assumption) | assumption)); replace q6 := eq_true q6) | ((with_reducible refine gate_dst (N := 18) rfl ?_); refine Kd.R_lit k161 _ 161 ?hg (N := 18) ?hd (xs := ([] : List (S161))) (inner := []) (ok := fun _ => True) (okp := fun _ => True) ?hr ?hp (fun _ hk => hk) trivial (Below.refl _ _) (Nat.le_refl _) (by simp) ?_; (case hd => rfl); (case hg => rfl); (case hr => first | (go_simp; done) | (go_simp; rfl)); (case hp => exact (Reps.none _ _)); intro v1056 w9 ho10 hb hg_ hnew_; clear hg_ hnew_; (first | rw [← Ny1055.out] at ho10 | (simp only [Int.reduceToNat] at ho10; rw [← Ny1055.out] at ho10)); have n0_ := am_ (Kd.R_lower ho10 (below_size (by repeat (first | (with_reducible first | exact HB.out | apply b1_ | apply b2_ | apply b3_ | refine below_set ?_ GE1054.out) | exact HB.out)))); have n1_ := am_ (blk_below (g := gb1054) (o := .cells #[.bool false, .int .i64 0, .int .i64 0, .int .i64 0, .int .i64 0, .string (⟨#[]⟩ : ByteArray), .slice none 0 0] 67 (0, 0)) (by (with_reducible repeat (first | apply k1_ | apply k2_ | apply k3_)); exact BK1054.out) hb); have n2_ := am_ (below_step (by repeat (first | (with_reducible first | exact HB.out | apply b1_ | apply b2_ | apply b3_ | refine below_set ?_ GE1054.out) | exact HB.out)) hb); clear BK1054; clear HB; have HO1057 := n0_; have BK1054 := n1_; have HB := n2_; clear n0_ n1_ n2_; clear hb ho10; obtain ⟨Ao11, co11, eo11⟩ := Kd.R_slice HO1057.out; subst eo11; have hcz12_0 : w9.cell? ⟨gb1054, 0, none⟩ = some (.bool false) := (blk_cell BK1054.out 0).trans rfl; have hcz12_1 : w9.cell? ⟨gb1054, 1, none⟩ = some (.int .i64 0) := (blk_cell BK1054.out 1).trans rfl; have hcz12_2 : w9.cell? ⟨gb1054, 2, none⟩ = some (.int .i64 0) := (blk_cell BK1054.out 2).trans rfl; have hcz12_3 : w9.cell? ⟨gb1054, 3, none⟩ = some (.int .i64 0) := (blk_cell BK1054.out 3).trans rfl; have hcz12_4 : w9.cell? ⟨gb1054, 4, none⟩ = some (.int .i64 0) := (blk_cell BK1054.out 4).trans rfl; have hcz12_5 : w9.cell? ⟨gb1054, 5, none⟩ = some (.string (⟨#[]⟩ : ByteArray)) := (blk_cell BK1054.out 5).trans rfl; have hcz12_6 : w9.cell? ⟨gb1054, 6, none⟩ = some (.slice none 0 0) := (blk_cell BK1054.out 6).trans rfl; have hfz12_0 := blk_frozen BK1054.out 0; have hfz12_1 := blk_frozen BK1054.out 1; have hfz12_2 := blk_frozen BK1054.out 2; have hfz12_3 := blk_frozen BK1054.out 3; have hfz12_4 := blk_frozen BK1054.out 4; have hfz12_5 := blk_frozen BK1054.out 5; have hfz12_6 := blk_frozen BK1054.out 6))
    refine bodyPost_ret (results_ct rfl _ _ gb1054 67 #[.bool true, .int .i64 0, .int .i64 0, .int .i64 0, .int .i64 0, .string (⟨#[]⟩ : ByteArray), .slice Ao11 y1055.length co11] (0, 0) _ rfl (by (with_reducible repeat (first | apply k1_ | apply k2_ | apply k3_)); refine blk_put (cs := #[.bool true, .int .i64 0, .int .i64 0, .int .i64 0, .int .i64 0, .string (⟨#[]⟩ : ByteArray), .slice none 0 0]) ?_ 6 _ rfl; (with_reducible repeat (first | apply k1_ | apply k2_ | apply k3_)); refine blk_put (cs := #[.bool true, .int .i64 0, .int .i64 0, .int .i64 0, .int .i64 0, .string (⟨#[]⟩ : ByteArray), .slice none 0 0]) ?_ 5 _ rfl; (with_reducible repeat (first | apply k1_ | apply k2_ | apply k3_)); refine blk_put (cs := #[.bool true, .int .i64 0, .int .i64 0, .int .i64 0, .int .i64 0, .string (⟨#[]⟩ : ByteArray), .slice none 0 0]) ?_ 4 _ rfl; (with_reducible repeat (first | apply k1_ | apply k2_ | apply k3_)); refine blk_put (cs := #[.bool true, .int .i64 0, .int .i64 0, .int .i64 0, .int .i64 0, .string (⟨#[]⟩ : ByteArray), .slice none 0 0]) ?_ 3 _ rfl; (with_reducible repeat (first | apply k1_ | apply k2_ | apply k3_)); refine blk_put (cs := #[.bool true, .int .i64 0, .int .i64 0, .int .i64 0, .int .i64 0, .string (⟨#[]⟩ : ByteArray), .slice none 0 0]) ?_ 2 _ rfl; (with_reducible repeat (first | apply k1_ | apply k2_ | apply k3_)); refine blk_put (cs := #[.bool true, .int .i64 0, .int .i64 0, .int .i64 0, .int .i64 0, .string (⟨#[]⟩ : ByteArray), .slice none 0 0]) ?_ 1 _ rfl; (with_reducible repeat (first | apply k1_ | apply k2_ | apply k3_)); refine blk_put (cs := #[.bool false, .int .i64 0, .int .i64 0, .int .i64 0, .int .i64 0, .string (⟨#[]⟩ : ByteArray), .slice none 0 0]) ?_ 0 _ rfl; (with_reducible repeat (first | apply k1_ | apply k2_ | apply k3_)); exact BK1054.out) Try.underlying67 rfl (by kernel_rfl)) rfl ?_
    exact ⟨_, by first | rfl | (simp [e1_, e2_] <;> rfl) | (simp [*, e1_, e2_] <;> rfl) | (simp [e3_, e4_]; done) | (simp [*, e3_, e4_]; done), by (with_reducible repeat (first | apply r1_ | apply r2_ | apply r3_)); exact Kd.R_mono (Kd.Rf (Kd.Rf (Kd.Rf (Kd.Rf (Kd.Rf (Kd.Rf (Kd.Rf (Kd.R_types HO1057.out BK1054.out (by decide))))))))) (fun _ hk => trivial), by repeat (first | (with_reducible first | exact HB.out | apply b1_ | apply b2_ | apply b3_ | refine below_set ?_ GE1054.out) | exact HB.out)⟩
   ·rw [if_neg c7] at H
    have c7b0 : ((wrap64 (bt a0 0)) == 0) = false := beq_eq_false_iff_ne.mpr c7
    have c7b1 : ((wrap64 (bt a0 0)) != 0) = true := bne_iff_ne.mpr c7
    by_cases c13 : (a0.size : Int) < (wrap64 (1 + (wrap64 (13 * (wrap64 ((wrap64 (bt a0 0)) - 1))))))
    ·rw [if_pos c13] at H
     have c13b0 : decide ((a0.size : Int) < (wrap64 (1 + (wrap64 (13 * (wrap64 ((wrap64 (bt a0 0)) - 1))))))) = true := decide_eq_true c13
     clear c13
     simp only [Option.some.injEq, Prod.mk.injEq] at H
     obtain ⟨rfl, rfl, rfl, rfl, rfl, rfl, rfl, rfl⟩ := H
     go_enter Try.func92, Try.ntmps92
     go_wp2_with (first | ((with_reducible refine gate_dst (N := 2) rfl ?_); refine box_event ?hg (N := 2) ?hd (cs := #[.bool false, .int .i64 0, .int .i64 0, .int .i64 0, .int .i64 0, .string (⟨#[]⟩ : ByteArray), .slice none 0 0]) (t := 67) ?hr ?_; (case hd => rfl); (case hg => rfl); (case hr => first | (go_simp; done) | (go_simp; rfl)); intro gb1054 hg w14 hbox hb; have n0_ := am_ (below_step (by repeat (first | (with_reducible first | exact HB.out | apply b1_ | apply b2_ | apply b3_) | exact HB.out)) hb); have n1_ := am_ (hbox); have n2_ := am_ ((by rw [hg]; exact (below_size (by repeat (first | (with_reducible first | exact HB.out | apply b1_ | apply b2_ | apply b3_) | exact HB.out))) : w.heap.size ≤ gb1054)); have n3_ := am_ ((by rw [hg]; exact (below_size (by repeat (first | (with_reducible first | exact HB.out | apply b1_ | apply b2_ | apply b3_) | exact HB.out))) : w.heap.size ≤ gb1054)); clear HB; have HB := n0_; have BK1054 := n1_; have GW1054 := n2_; have GE1054 := n3_; clear n0_ n1_ n2_ n3_; clear hb hbox hg; have p6 : 0 ≤ (0 : Int) := (by omega); have q6 : 0 < a0.size := (by have : (0 : Int) < (a0.size : Int) := o1_ (by first | (with_reducible assumption) | assumption); omega); have hx6 : ∀ h : 0 < a0.size, ((a0[0]'h).toNat : Int) = bt a0 0 := bt_at a0 0; clear p6; have qi6 : (0 < (a0.size : Int)) = True := eq_true (o1_ (by first | (with_reducible assumption) | assumption)); replace q6 := eq_true q6; have hcz15_0 : w14.cell? ⟨gb1054, 0, none⟩ = some (.bool false) := (blk_cell BK1054.out 0).trans rfl; have hcz15_1 : w14.cell? ⟨gb1054, 1, none⟩ = some (.int .i64 0) := (blk_cell BK1054.out 1).trans rfl; have hcz15_2 : w14.cell? ⟨gb1054, 2, none⟩ = some (.int .i64 0) := (blk_cell BK1054.out 2).trans rfl; have hcz15_3 : w14.cell? ⟨gb1054, 3, none⟩ = some (.int .i64 0) := (blk_cell BK1054.out 3).trans rfl; have hcz15_4 : w14.cell? ⟨gb1054, 4, none⟩ = some (.int .i64 0) := (blk_cell BK1054.out 4).trans rfl; have hcz15_5 : w14.cell? ⟨gb1054, 5, none⟩ = some (.string (⟨#[]⟩ : ByteArray)) := (blk_cell BK1054.out 5).trans rfl; have hcz15_6 : w14.cell? ⟨gb1054, 6, none⟩ = some (.slice none 0 0) := (blk_cell BK1054.out 6).trans rfl; have hfz15_0 := blk_frozen BK1054.out 0; have hfz15_1 := blk_frozen BK1054.out 1; have hfz15_2 := blk_frozen BK1054.out 2; have hfz15_3 := blk_frozen BK1054.out 3; have hfz15_4 := blk_frozen BK1054.out 4; have hfz15_5 := blk_frozen BK1054.out 5; have hfz15_6 := blk_frozen BK1054.out 6))
     refine bodyPost_ret (results_ct rfl _ _ gb1054 67 #[.bool false, .int .i64 0, .int .i64 0, .int .i64 0, .int .i64 0, .string (⟨#[]⟩ : ByteArray), .slice none 0 0] (0, 0) _ rfl (by (with_reducible repeat (first | apply k1_ | apply k2_ | apply k3_)); refine blk_put (cs := #[.bool false, .int .i64 0, .int .i64 0, .int .i64 0, .int .i64 0, .string (⟨#[]⟩ : ByteArray), .slice none 0 0]) ?_ 6 _ rfl; (with_reducible repeat (first | apply k1_ | apply k2_ | apply k3_)); refine blk_put (cs := #[.bool false, .int .i64 0, .int .i64 0, .int .i64 0, .int .i64 0, .string (⟨#[]⟩ : ByteArray), .slice none 0 0]) ?_ 5 _ rfl; (with_reducible repeat (first | apply k1_ | apply k2_ | apply k3_)); refine blk_put (cs := #[.bool false, .int .i64 0, .int .i64 0, .int .i64 0, .int .i64 0, .string (⟨#[]⟩ : ByteArray), .slice none 0 0]) ?_ 4 _ rfl; (with_reducible repeat (first | apply k1_ | apply k2_ | apply k3_)); refine blk_put (cs := #[.bool false, .int .i64 0, .int .i64 0, .int .i64 0, .int .i64 0, .string (⟨#[]⟩ : ByteArray), .slice none 0 0]) ?_ 3 _ rfl; (with_reducible repeat (first | apply k1_ | apply k2_ | apply k3_)); refine blk_put (cs := #[.bool false, .int .i64 0, .int .i64 0, .int .i64 0, .int .i64 0, .string (⟨#[]⟩ : ByteArray), .slice none 0 0]) ?_ 2 _ rfl; (with_reducible repeat (first | apply k1_ | apply k2_ | apply k3_)); refine blk_put (cs := #[.bool false, .int .i64 0, .int .i64 0, .int .i64 0, .int .i64 0, .string (⟨#[]⟩ : ByteArray), .slice none 0 0]) ?_ 1 _ rfl; (with_reducible repeat (first | apply k1_ | apply k2_ | apply k3_)); refine blk_put (cs := #[.bool false, .int .i64 0, .int .i64 0, .int .i64 0, .int .i64 0, .string (⟨#[]⟩ : ByteArray), .slice none 0 0]) ?_ 0 _ rfl; (with_reducible repeat (first | apply k1_ | apply k2_ | apply k3_)); exact BK1054.out) Try.underlying67 rfl (by kernel_rfl)) rfl ?_
     exact ⟨_, by first | rfl | (simp [e1_, e2_] <;> rfl) | (simp [*, e1_, e2_] <;> rfl) | (simp [e3_, e4_]; done) | (simp [*, e3_, e4_]; done), by first | exact Kd.R_nil _ _ _ _ _ | exact Kd.N_nil _ _ _ _ _ | exact Kd.V_nil _ _ _ _ _ | exact Kd.Q_nil _ _ _ _ _ | exact Kd.S_nil _ _ _ _ _, by repeat (first | (with_reducible first | exact HB.out | apply b1_ | apply b2_ | apply b3_ | refine below_set ?_ GE1054.out) | exact HB.out)⟩
    ·rw [if_neg c13] at H
     have c13b0 : decide ((a0.size : Int) < (wrap64 (1 + (wrap64 (13 * (wrap64 ((wrap64 (bt a0 0)) - 1))))))) = false := decide_eq_false c13
     clear c13
     obtain ⟨y1058, hy1058⟩ : ∃ y_ : List (S161), y_ = (([] : List (S161))) := ⟨_, rfl⟩
     replace H : (spec_l02ReadBatch.l0 k a0 (wrap64 (bt a0 0)) 0 false 0 0 0 0 (⟨#[]⟩ : ByteArray) y1058) = some (r1, r2, r3, r4, r5, r6, r7, r8) := by first | (rw [hy1058]; with_reducible exact H) | (have H2_ := (Option.bind_some _ _).symm.trans H; rw [hy1058]; with_reducible exact H2_) | (have H2_ := (Option.bind_some _ _).symm.trans H; with_reducible exact H2_) | with_reducible exact H | (rw [hy1058]; exact H) | exact H
     have Ny1058 := am_ hy1058
     clear hy1058
     have H' := am_ H
     clear H
     go_enter Try.func92, Try.ntmps92
     go_wp2_with (first | ((with_reducible refine gate_dst (N := 2) rfl ?_); refine box_event ?hg (N := 2) ?hd (cs := #[.bool false, .int .i64 0, .int .i64 0, .int .i64 0, .int .i64 0, .string (⟨#[]⟩ : ByteArray), .slice none 0 0]) (t := 67) ?hr ?_; (case hd => rfl); (case hg => rfl); (case hr => first | (go_simp; done) | (go_simp; rfl)); intro gb1054 hg w16 hbox hb; have n0_ := am_ (below_step (by repeat (first | (with_reducible first | exact HB.out | apply b1_ | apply b2_ | apply b3_) | exact HB.out)) hb); have n1_ := am_ (hbox); have n2_ := am_ ((by rw [hg]; exact (below_size (by repeat (first | (with_reducible first | exact HB.out | apply b1_ | apply b2_ | apply b3_) | exact HB.out))) : w.heap.size ≤ gb1054)); have n3_ := am_ ((by rw [hg]; exact (below_size (by repeat (first | (with_reducible first | exact HB.out | apply b1_ | apply b2_ | apply b3_) | exact HB.out))) : w.heap.size ≤ gb1054)); clear HB; have HB := n0_; have BK1054 := n1_; have GW1054 := n2_; have GE1054 := n3_; clear n0_ n1_ n2_ n3_; clear hb hbox hg; have p6 : 0 ≤ (0 : Int) := (by omega); have q6 : 0 < a0.size := (by have : (0 : Int) < (a0.size : Int) := o1_ (by first | (with_reducible assumption) | assumption); omega); have hx6 : ∀ h : 0 < a0.size, ((a0[0]'h).toNat : Int) = bt a0 0 := bt_at a0 0; clear p6; have qi6 : (0 < (a0.size : Int)) = True := eq_true (o1_ (by first | (with_reducible assumption) | assumption)); replace q6 := eq_true q6) | ((with_reducible refine gate_dst (N := 31) rfl ?_); refine Kd.R_lit k161 _ 161 ?hg (N := 31) ?hd (xs := ([] : List (S161))) (inner := []) (ok := fun _ => True) (okp := fun _ => True) ?hr ?hp (fun _ hk => hk) trivial (Below.refl _ _) (Nat.le_refl _) (by simp) ?_; (case hd => rfl); (case hg => rfl); (case hr => first | (go_simp; done) | (go_simp; rfl)); (case hp => exact (Reps.none _ _)); intro v1059 w17 ho18 hb hg_ hnew_; clear hg_ hnew_; (first | rw [← Ny1058.out] at ho18 | (simp only [Int.reduceToNat] at ho18; rw [← Ny1058.out] at ho18)); have n0_ := am_ (Kd.R_lower ho18 (below_size (by repeat (first | (with_reducible first | exact HB.out | apply b1_ | apply b2_ | apply b3_ | refine below_set ?_ GE1054.out) | exact HB.out)))); have n1_ := am_ (blk_below (g := gb1054) (o := .cells #[.bool false, .int .i64 0, .int .i64 0, .int .i64 0, .int .i64 0, .string (⟨#[]⟩ : ByteArray), .slice none 0 0] 67 (0, 0)) (by (with_reducible repeat (first | apply k1_ | apply k2_ | apply k3_)); exact BK1054.out) hb); have n2_ := am_ (below_step (by repeat (first | (with_reducible first | exact HB.out | apply b1_ | apply b2_ | apply b3_ | refine below_set ?_ GE1054.out) | exact HB.out)) hb); clear BK1054; clear HB; have HO1060 := n0_; have BK1054 := n1_; have HB := n2_; clear n0_ n1_ n2_; clear hb ho18; obtain ⟨Ao19, co19, eo19⟩ := Kd.R_slice HO1060.out; subst eo19) | ((with_reducible refine gate_dst (N := 5) rfl ?_); refine box_event ?hg (N := 5) ?hd (cs := #[.bool false, .int .i64 0, .int .i64 0, .int .i64 0, .int .i64 0, .string (⟨#[]⟩ : ByteArray), .slice none 0 0]) (t := 67) ?hr ?_; (case hd => rfl); (case hg => rfl); (case hr => first | (go_simp; done) | (go_simp; rfl)); intro gb1061 hg w20 hbox hb; have n0_ := am_ (Kd.R_below (by (with_reducible repeat (first | apply r1_ | apply r2_ | apply r3_)); exact HO1060.out) hb); have n1_ := am_ (blk_below (g := gb1054) (o := .cells #[.bool false, .int .i64 0, .int .i64 0, .int .i64 0, .int .i64 0, .string (⟨#[]⟩ : ByteArray), .slice none 0 0] 67 (0, 0)) (by (with_reducible repeat (first | apply k1_ | apply k2_ | apply k3_)); exact BK1054.out) hb); have n2_ := am_ (below_step (by repeat (first | (with_reducible first | exact HB.out | apply b1_ | apply b2_ | apply b3_ | refine below_set ?_ GE1054.out) | exact HB.out)) hb); have n3_ := am_ (hbox); have n4_ := am_ ((by rw [hg]; exact (below_size (by repeat (first | (with_reducible first | exact HB.out | apply b1_ | apply b2_ | apply b3_ | refine below_set ?_ GE1054.out) | exact HB.out))) : w.heap.size ≤ gb1061)); have n5_ := am_ ((by rw [hg]; exact (below_size (by repeat (first | (with_reducible first | exact HB.out | apply b1_ | apply b2_ | apply b3_ | refine below_set ?_ GE1054.out) | exact HB.out))) : w.heap.size ≤ gb1061)); have n6_ := am_ ((by rw [hg]; exact Nat.ne_of_lt (blk_lt (g := gb1054) (o := .cells #[.bool false, .int .i64 0, .int .i64 0, .int .i64 0, .int .i64 0, .string (⟨#[]⟩ : ByteArray), .slice none 0 0] 67 (0, 0)) (by (with_reducible repeat (first | apply k1_ | apply k2_ | apply k3_)); exact BK1054.out)) : gb1054 ≠ gb1061)); have n7_ := am_ ((by rw [hg]; exact Nat.ne_of_gt (blk_lt (g := gb1054) (o := .cells #[.bool false, .int .i64 0, .int .i64 0, .int .i64 0, .int .i64 0, .string (⟨#[]⟩ : ByteArray), .slice none 0 0] 67 (0, 0)) (by (with_reducible repeat (first | apply k1_ | apply k2_ | apply k3_)); exact BK1054.out)) : gb1061 ≠ gb1054)); clear HO1060; clear BK1054; clear HB; have HO1060 := n0_; have BK1054 := n1_; have HB := n2_; have BK1061 := n3_; have GW1061 := n4_; have GE1061 := n5_; have NB1054_1061 := n6_; have NB1061_1054 := n7_; clear n0_ n1_ n2_ n3_ n4_ n5_ n6_ n7_; clear hb hbox hg; have hnb21 := NB1061_1054.out; have hnc21 := NB1054_1061.out; have hcz22_0 : w20.cell? ⟨gb1061, 0, none⟩ = some (.bool false) := (blk_cell BK1061.out 0).trans rfl; have hcz22_1 : w20.cell? ⟨gb1061, 1, none⟩ = some (.int .i64 0) := (blk_cell BK1061.out 1).trans rfl; have hcz22_2 : w20.cell? ⟨gb1061, 2, none⟩ = some (.int .i64 0) := (blk_cell BK1061.out 2).trans rfl; have hcz22_3 : w20.cell? ⟨gb1061, 3, none⟩ = some (.int .i64 0) := (blk_cell BK1061.out 3).trans rfl; have hcz22_4 : w20.cell? ⟨gb1061, 4, none⟩ = some (.int .i64 0) := (blk_cell BK1061.out 4).trans rfl; have hcz22_5 : w20.cell? ⟨gb1061, 5, none⟩ = some (.string (⟨#[]⟩ : ByteArray)) := (blk_cell BK1061.out 5).trans rfl; have hcz22_6 : w20.cell? ⟨gb1061, 6, none⟩ = some (.slice none 0 0) := (blk_cell BK1061.out 6).trans rfl; have hfz22_0 := blk_frozen BK1061.out 0; have hfz22_1 := blk_frozen BK1061.out 1; have hfz22_2 := blk_frozen BK1061.out 2; have hfz22_3 := blk_frozen BK1061.out 3; have hfz22_4 := blk_frozen BK1061.out 4; have hfz22_5 := blk_frozen BK1061.out 5; have hfz22_6 := blk_frozen BK1061.out 6))
     go_loopg [6] k (fun kq v6 w' => ∃ (x6_1 : Int) (x1062006_1 : List (S161)) (u1062006 : Value), v6 = .int .i64 x6_1 ∧ Aside0 (spec_l02ReadBatch.l0 kq a0 (wrap64 (bt a0 0)) x6_1 false 0 0 0 0 (⟨#[]⟩ : ByteArray) x1062006_1 = some (r1, r2, r3, r4, r5, r6, r7, r8)) ∧ Aside0 (kq ≤ k) ∧ Aside0 (Kd.R k161 161 w' w.heap.size (fun _ => True) u1062006 x1062006_1) ∧ Aside0 (w'.heap[gb1054]? = some (.cells #[.bool false, .int .i64 0, .int .i64 0, .int .i64 0, .int .i64 0, .string (⟨#[]⟩ : ByteArray), (.slice none 0 0)] 67 (0, 0))) ∧ Aside0 (w'.heap[gb1061]? = some (.cells #[.bool false, .int .i64 0, .int .i64 0, .int .i64 0, .int .i64 0, .string (⟨#[]⟩ : ByteArray), u1062006] 67 (0, 0))) ∧ Aside0 (Below w.heap.size w w'))
     case atStart => exact ⟨(0), (y1058), (.slice Ao19 y1058.length co19), (by first | rfl | (simp; done) | (simp [*]; done)), H', ⟨Nat.le_refl _⟩, ⟨by (with_reducible repeat (first | apply r1_ | apply r2_ | apply r3_)); exact Kd.R_mono (Kd.Rf (Kd.Rf (Kd.Rf (Kd.Rf (Kd.Rf (Kd.Rf (Kd.Rf (Kd.R_types HO1060.out BK1061.out (by decide))))))))) (fun _ hk => trivial)⟩, ⟨by (with_reducible repeat (first | apply k1_ | apply k2_ | apply k3_)); refine blk_far ?_ NB1054_1061.out _; (with_reducible repeat (first | apply k1_ | apply k2_ | apply k3_)); refine blk_far ?_ NB1054_1061.out _; (with_reducible repeat (first | apply k1_ | apply k2_ | apply k3_)); refine blk_far ?_ NB1054_1061.out _; (with_reducible repeat (first | apply k1_ | apply k2_ | apply k3_)); refine blk_far ?_ NB1054_1061.out _; (with_reducible repeat (first | apply k1_ | apply k2_ | apply k3_)); refine blk_far ?_ NB1054_1061.out _; (with_reducible repeat (first | apply k1_ | apply k2_ | apply k3_)); refine blk_far ?_ NB1054_1061.out _; (with_reducible repeat (first | apply k1_ | apply k2_ | apply k3_)); refine blk_far ?_ NB1054_1061.out _; (with_reducible repeat (first | apply k1_ | apply k2_ | apply k3_)); exact BK1054.out⟩, ⟨by (with_reducible repeat (first | apply k1_ | apply k2_ | apply k3_)); refine blk_put (cs := #[.bool false, .int .i64 0, .int .i64 0, .int .i64 0, .int .i64 0, .string (⟨#[]⟩ : ByteArray), .slice none 0 0]) ?_ 6 _ rfl; (with_reducible repeat (first | apply k1_ | apply k2_ | apply k3_)); refine blk_put (cs := #[.bool false, .int .i64 0, .int .i64 0, .int .i64 0, .int .i64 0, .string (⟨#[]⟩ : ByteArray), .slice none 0 0]) ?_ 5 _ rfl; (with_reducible repeat (first | apply k1_ | apply k2_ | apply k3_)); refine blk_put (cs := #[.bool false, .int .i64 0, .int .i64 0, .int .i64 0, .int .i64 0, .string (⟨#[]⟩ : ByteArray), .slice none 0 0]) ?_ 4 _ rfl; (with_reducible repeat (first | apply k1_ | apply k2_ | apply k3_)); refine blk_put (cs := #[.bool false, .int .i64 0, .int .i64 0, .int .i64 0, .int .i64 0, .string (⟨#[]⟩ : ByteArray), .slice none 0 0]) ?_ 3 _ rfl; (with_reducible repeat (first | apply k1_ | apply k2_ | apply k3_)); refine blk_put (cs := #[.bool false, .int .i64 0, .int .i64 0, .int .i64 0, .int .i64 0, .string (⟨#[]⟩ : ByteArray), .slice none 0 0]) ?_ 2 _ rfl; (with_reducible repeat (first | apply k1_ | apply k2_ | apply k3_)); refine blk_put (cs := #[.bool false, .int .i64 0, .int .i64 0, .int .i64 0, .int .i64 0, .string (⟨#[]⟩ : ByteArray), .slice none 0 0]) ?_ 1 _ rfl; (with_reducible repeat (first | apply k1_ | apply k2_ | apply k3_)); refine blk_put (cs := #[.bool false, .int .i64 0, .int .i64 0, .int .i64 0, .int .i64 0, .string (⟨#[]⟩ : ByteArray), .slice none 0 0]) ?_ 0 _ rfl; (with_reducible repeat (first | apply k1_ | apply k2_ | apply k3_)); exact BK1061.out⟩, ⟨by repeat (first | (with_reducible first | exact HB.out | apply b1_ | apply b2_ | apply b3_ | refine below_set ?_ GE1054.out | refine below_set ?_ GE1061.out) | exact HB.out)⟩⟩
     case round =>
      clear H'
      try clear c1
      try clear c2
      try clear c2b0
      try clear c2b1
      try clear p2
      try clear c5
      try clear c5b0
      try clear c5b1
      try clear p6
      try clear q6
      try clear hx6
      try clear qi6
      try clear c7
      try clear c7b0
      try clear c7b1
      try clear c9
      try clear c13
      try clear c13b0
      try clear c21
      try clear hcz12_0
      try clear hcz12_1
      try clear hcz12_2
      try clear hcz12_3
      try clear hcz12_4
      try clear hcz12_5
      try clear hcz12_6
      try clear hcz15_0
      try clear hcz15_1
      try clear hcz15_2
      try clear hcz15_3
      try clear hcz15_4
      try clear hcz15_5
      try clear hcz15_6
      try clear hcz22_0
      try clear hcz22_1
      try clear hcz22_2
      try clear hcz22_3
      try clear hcz22_4
      try clear hcz22_5
      try clear hcz22_6
      try clear hcz4_0
      try clear hcz4_1
      try clear hcz4_2
      try clear hcz4_3
      try clear hcz4_4
      try clear hcz4_5
      try clear hcz4_6
      try clear hfz12_0
      try clear hfz12_1
      try clear hfz12_2
      try clear hfz12_3
      try clear hfz12_4
      try clear hfz12_5
      try clear hfz12_6
      try clear hfz15_0
      try clear hfz15_1
      try clear hfz15_2
      try clear hfz15_3
      try clear hfz15_4
      try clear hfz15_5
      try clear hfz15_6
      try clear hfz22_0
      try clear hfz22_1
      try clear hfz22_2
      try clear hfz22_3
      try clear hfz22_4
      try clear hfz22_5
      try clear hfz22_6
      try clear hfz4_0
      try clear hfz4_1
      try clear hfz4_2
      try clear hfz4_3
      try clear hfz4_4
      try clear hfz4_5
      try clear hfz4_6
      try clear p6
      try clear q6
      obtain ⟨x6_1, x1062006_1, u1062006, rfl, HA, HK1, HO_1062006, BK1054, BK1061, HB⟩ := hrel
      cases gk with
      | zero => exact absurd HA.out (by simp [spec_l02ReadBatch.l0])
      | succ k1 =>
       have H := HA.out
       clear HA
       simp only [spec_l02ReadBatch.l0] at H
       by_cases c23 : x6_1 < (wrap64 ((wrap64 (bt a0 0)) - 1))
       ·rw [if_pos c23] at H
        have c23b0 : decide (x6_1 < (wrap64 ((wrap64 (bt a0 0)) - 1))) = true := decide_eq_true c23
        clear c23
        obtain ⟨ji24, hji24⟩ : ∃ j_ : Int, (wrap64 (1 + (wrap64 (13 * x6_1)))) = j_ := ⟨_, rfl⟩
        replace H : (if 0 ≤ (ji24) then (if (ji24) ≤ (wrap64 (14 + (wrap64 (13 * x6_1)))) then (if (wrap64 (14 + (wrap64 (13 * x6_1)))) ≤ (a0.size : Int) then (if 0 < ((a0.extract ((ji24) : Int).toNat ((wrap64 (14 + (wrap64 (13 * x6_1)))) : Int).toNat).size : Int) then (if 1 ≤ 5 then (if 5 ≤ ((a0.extract ((ji24) : Int).toNat ((wrap64 (14 + (wrap64 (13 * x6_1)))) : Int).toNat).size : Int) then ((spec_l02Of.f k1 ((a0.extract ((ji24) : Int).toNat ((wrap64 (14 + (wrap64 (13 * x6_1)))) : Int).toNat).extract 1 5)).bind fun t1062 => (if x1062006_1.length < 4398046511104 then (spec_l02ReadBatch.l0 k1 a0 (wrap64 (bt a0 0)) (wrap64 (x6_1 + 1)) false 0 0 0 0 (⟨#[]⟩ : ByteArray) (x1062006_1 ++ [(⟨wrap64 (bt (a0.extract ((ji24) : Int).toNat ((wrap64 (14 + (wrap64 (13 * x6_1)))) : Int).toNat) 0), t1062, (a0.extract ((ji24) : Int).toNat ((wrap64 (14 + (wrap64 (13 * x6_1)))) : Int).toNat).extract 5 (((wrap64 (14 + (wrap64 (13 * x6_1)))) : Int).toNat - ((ji24) : Int).toNat)⟩ : S161)])) else (none))) else (none)) else (none)) else (none)) else (none)) else (none)) else (none)) = some (r1, r2, r3, r4, r5, r6, r7, r8) := by first | (rw [hji24] at H; exact H) | (simp only [hji24] at H ⊢; exact H)
        have hji24w : (IntKind.i64.wrap (1 + (wrap64 (13 * x6_1)))) = ji24 := (i64_w _).trans hji24
        by_cases c25 : 0 ≤ (ji24)
        ·rw [if_pos c25] at H
         have c25b0 := eq_true c25
         have c25b1 : decide (0 ≤ (ji24)) = true := decide_eq_true c25
         clear c25
         by_cases c26 : (ji24) ≤ (wrap64 (14 + (wrap64 (13 * x6_1))))
         ·rw [if_pos c26] at H
          have c26b0 := eq_true c26
          have c26b1 : decide ((ji24) ≤ (wrap64 (14 + (wrap64 (13 * x6_1))))) = true := decide_eq_true c26
          by_cases c27 : (wrap64 (14 + (wrap64 (13 * x6_1)))) ≤ (a0.size : Int)
          ·rw [if_pos c27] at H
           have c27b0 := eq_true c27
           have c27b1 : decide ((wrap64 (14 + (wrap64 (13 * x6_1)))) ≤ (a0.size : Int)) = true := decide_eq_true c27
           by_cases c28 : 0 < ((a0.extract ((ji24) : Int).toNat ((wrap64 (14 + (wrap64 (13 * x6_1)))) : Int).toNat).size : Int)
           ·rw [if_pos c28] at H
            have c28b0 : decide (0 < ((a0.extract ((ji24) : Int).toNat ((wrap64 (14 + (wrap64 (13 * x6_1)))) : Int).toNat).size : Int)) = true := decide_eq_true c28
            (try (have c28x0 := c28b0; simp only [ByteArray.size_extract] at c28x0; rw [Nat.min_eq_left (by first | omega | (have h_ := o1_ (by first | (with_reducible assumption) | assumption : decide ((wrap64 (14 + (wrap64 (13 * x6_1)))) ≤ (a0.size : Int)) = true); omega))] at c28x0))
            (try (have c28y0 := eq_true (o1_ c28x0)))
            have c28b1 : decide (0 < (a0.extract ((ji24) : Int).toNat ((wrap64 (14 + (wrap64 (13 * x6_1)))) : Int).toNat).size) = true := decide_eq_true (by omega)
            (try (have c28x1 := c28b1; simp only [ByteArray.size_extract] at c28x1; rw [Nat.min_eq_left (by first | omega | (have h_ := o1_ (by first | (with_reducible assumption) | assumption : decide ((wrap64 (14 + (wrap64 (13 * x6_1)))) ≤ (a0.size : Int)) = true); omega))] at c28x1))
            (try (have c28y1 := eq_true (o1_ c28x1)))
            clear c28
            by_cases c30 : 1 ≤ 5
            ·rw [if_pos c30] at H
             have c30b0 := eq_true c30
             have c30b1 : decide (1 ≤ 5) = true := decide_eq_true c30
             clear c30
             by_cases c31 : 5 ≤ ((a0.extract ((ji24) : Int).toNat ((wrap64 (14 + (wrap64 (13 * x6_1)))) : Int).toNat).size : Int)
             ·rw [if_pos c31] at H
              have c31b0 := eq_true c31
              (try (have c31x0 := c31b0; simp only [ByteArray.size_extract] at c31x0; rw [Nat.min_eq_left (by first | omega | (have h_ := o1_ (by first | (with_reducible assumption) | assumption : decide ((wrap64 (14 + (wrap64 (13 * x6_1)))) ≤ (a0.size : Int)) = true); omega))] at c31x0))
              (try (have c31y0 := eq_true (o1_ c31x0)))
              have c31b1 : decide (5 ≤ ((a0.extract ((ji24) : Int).toNat ((wrap64 (14 + (wrap64 (13 * x6_1)))) : Int).toNat).size : Int)) = true := decide_eq_true c31
              (try (have c31x1 := c31b1; simp only [ByteArray.size_extract] at c31x1; rw [Nat.min_eq_left (by first | omega | (have h_ := o1_ (by first | (with_reducible assumption) | assumption : decide ((wrap64 (14 + (wrap64 (13 * x6_1)))) ≤ (a0.size : Int)) = true); omega))] at c31x1))
              (try (have c31y1 := eq_true (o1_ c31x1)))
              replace H := Option.bind_eq_some_iff.mp H
              obtain ⟨t1062, A320, H⟩ := H
              replace H : (if x1062006_1.length < 4398046511104 then (spec_l02ReadBatch.l0 k1 a0 (wrap64 (bt a0 0)) (wrap64 (x6_1 + 1)) false 0 0 0 0 (⟨#[]⟩ : ByteArray) (x1062006_1 ++ [(⟨wrap64 (bt (a0.extract ((ji24) : Int).toNat ((wrap64 (14 + (wrap64 (13 * x6_1)))) : Int).toNat) 0), t1062, (a0.extract ((ji24) : Int).toNat ((wrap64 (14 + (wrap64 (13 * x6_1)))) : Int).toNat).extract 5 (((wrap64 (14 + (wrap64 (13 * x6_1)))) : Int).toNat - ((ji24) : Int).toNat)⟩ : S161)])) else (none)) = some (r1, r2, r3, r4, r5, r6, r7, r8) := H
              have A32 := am_ A320
              clear A320
              have c33b0 := eq_true (o1_ (by first | (with_reducible assumption) | assumption) : 5 ≤ ((a0.extract ((ji24) : Int).toNat ((wrap64 (14 + (wrap64 (13 * x6_1)))) : Int).toNat).size : Int))
              (try (have c33x0 := c33b0; simp only [ByteArray.size_extract] at c33x0; rw [Nat.min_eq_left (by first | omega | (have h_ := o1_ (by first | (with_reducible assumption) | assumption : decide ((wrap64 (14 + (wrap64 (13 * x6_1)))) ≤ (a0.size : Int)) = true); omega))] at c33x0))
              (try (have c33y0 := eq_true (o1_ c33x0)))
              by_cases c34 : x1062006_1.length < 4398046511104
              ·rw [if_pos c34] at H
               have LMc34 := am_ c34
               clear c34
               obtain ⟨y1063, hy1063⟩ : ∃ y_ : List (S161), y_ = (x1062006_1 ++ [(⟨wrap64 (bt (a0.extract ((ji24) : Int).toNat ((wrap64 (14 + (wrap64 (13 * x6_1)))) : Int).toNat) 0), t1062, (a0.extract ((ji24) : Int).toNat ((wrap64 (14 + (wrap64 (13 * x6_1)))) : Int).toNat).extract 5 (((wrap64 (14 + (wrap64 (13 * x6_1)))) : Int).toNat - ((ji24) : Int).toNat)⟩ : S161)]) := ⟨_, rfl⟩
               replace H : (spec_l02ReadBatch.l0 k1 a0 (wrap64 (bt a0 0)) (wrap64 (x6_1 + 1)) false 0 0 0 0 (⟨#[]⟩ : ByteArray) y1063) = some (r1, r2, r3, r4, r5, r6, r7, r8) := by first | (rw [hy1063]; with_reducible exact H) | (have H2_ := (Option.bind_some _ _).symm.trans H; rw [hy1063]; with_reducible exact H2_) | (have H2_ := (Option.bind_some _ _).symm.trans H; with_reducible exact H2_) | with_reducible exact H | (rw [hy1063]; exact H) | exact H
               have Ny1063 := am_ hy1063
               clear hy1063
               have H' := am_ H
               clear H
               try go_wp2
               have n0_ := am_ (Kd.R_drew HO_1062006.out)
               have n1_ := am_ (blk_drew BK1054.out)
               have n2_ := am_ (blk_drew BK1061.out)
               have n3_ := am_ (below_drew1 HB.out)
               clear HO_1062006
               clear BK1054
               clear BK1061
               clear HB
               have HO_1062006 := n0_
               have BK1054 := n1_
               have BK1061 := n2_
               have HB := n3_
               clear n0_ n1_ n2_ n3_
               have p29 : 0 ≤ (0 : Int) := (by omega)
               have q29 : 0 < (a0.extract ((ji24) : Int).toNat ((wrap64 (14 + (wrap64 (13 * x6_1)))) : Int).toNat).size := (by have : (0 : Int) < ((a0.extract ((ji24) : Int).toNat ((wrap64 (14 + (wrap64 (13 * x6_1)))) : Int).toNat).size : Int) := o1_ (by first | (with_reducible assumption) | assumption); omega)
               have hx29 : ∀ h : 0 < (a0.extract ((ji24) : Int).toNat ((wrap64 (14 + (wrap64 (13 * x6_1)))) : Int).toNat).size, (((a0.extract ((ji24) : Int).toNat ((wrap64 (14 + (wrap64 (13 * x6_1)))) : Int).toNat)[0]'h).toNat : Int) = bt (a0.extract ((ji24) : Int).toNat ((wrap64 (14 + (wrap64 (13 * x6_1)))) : Int).toNat) 0 := bt_at (a0.extract ((ji24) : Int).toNat ((wrap64 (14 + (wrap64 (13 * x6_1)))) : Int).toNat) 0
               clear p29
               have qi29 : (0 < ((a0.extract ((ji24) : Int).toNat ((wrap64 (14 + (wrap64 (13 * x6_1)))) : Int).toNat).size : Int)) = True := eq_true (o1_ (by first | (with_reducible assumption) | assumption))
               replace q29 := eq_true q29
               refine start_ (n := 15) (S := fun w' => w'.cell? ⟨gb1061, 0, none⟩ = some (.bool false) ∧ w'.cell? ⟨gb1061, 1, none⟩ = some (.int .i64 0) ∧ w'.cell? ⟨gb1061, 2, none⟩ = some (.int .i64 0) ∧ w'.cell? ⟨gb1061, 3, none⟩ = some (.int .i64 0) ∧ w'.cell? ⟨gb1061, 4, none⟩ = some (.int .i64 0) ∧ w'.cell? ⟨gb1061, 5, none⟩ = some (.string (⟨#[]⟩ : ByteArray)) ∧ w'.cell? ⟨gb1061, 6, none⟩ = some (u1062006)) (ds := [14]) #[false, false, false, false, false, false, false, false, false, false, false, false, false, false, false] (by kernel_rfl) rfl rfl ⟨(blk_cell BK1061.out 0).trans rfl, (blk_cell BK1061.out 1).trans rfl, (blk_cell BK1061.out 2).trans rfl, (blk_cell BK1061.out 3).trans rfl, (blk_cell BK1061.out 4).trans rfl, (blk_cell BK1061.out 5).trans rfl, (blk_cell BK1061.out 6).trans rfl⟩ (fun hHeld => ?_); refine with_tabW spec_l02ReadBatch.tab13 spec_l02ReadBatch.bits13 (fun HT_ HW_ => ?_)
               generalize wr.drew = w35 at HO_1062006 BK1054 BK1061 HB hHeld ⊢
               refine pure_ (i := 0) (N := some 47) (v := ?_) (a' := ?_) #[true, false, false, false, false, false, false, false, false, false, false, false, false, false, false] rfl rfl (any_of HT_.out (by kernel_rfl)) (fun _ _ _ h => h) (Or.inl ⟨by rfl, ?_⟩) ?_ ?_
               rotate_left
               ·intro w'
                go_simp
                with_reducible rfl
               rotate_left
               ·simp only [Act.put, p1_, p2_, p3_, i64_w, i32_w]
                rfl
               refine pure_ (i := 2) (N := some 49) (v := ?_) (a' := ?_) #[true, false, true, false, false, false, false, false, false, false, false, false, false, false, false] rfl rfl (any_of HT_.out (by kernel_rfl)) (fun _ _ _ h => h) (Or.inl ⟨by rfl, ?_⟩) ?_ ?_
               rotate_left
               ·intro w'
                go_simp
                with_reducible rfl
               rotate_left
               ·simp only [Act.put, p1_, p2_, p3_, i64_w, i32_w]
                rfl
               refine pure_ (i := 5) (N := some 52) (v := ?_) (a' := ?_) #[true, false, true, false, false, true, false, false, false, false, false, false, false, false, false] rfl rfl (any_of HT_.out (by kernel_rfl)) (fun _ _ _ h => h) (Or.inl ⟨by rfl, ?_⟩) ?_ ?_
               rotate_left
               ·intro w'
                go_simp
                with_reducible rfl
               rotate_left
               ·simp only [Act.put, p1_, p2_, p3_, i64_w, i32_w]
                rfl
               refine pure_ (i := 6) (N := some 53) (v := ?_) (a' := ?_) #[true, false, true, false, false, true, true, false, false, false, false, false, false, false, false] rfl rfl (any_of HT_.out (by kernel_rfl)) (fun _ _ _ h => h) (Or.inl ⟨by rfl, ?_⟩) ?_ ?_
               rotate_left
               ·intro w'
                go_simp
                with_reducible rfl
               rotate_left
               ·simp only [Act.put, p1_, p2_, p3_, i64_w, i32_w]
                rfl
               refine pure_ (i := 8) (N := some 55) (v := ?_) (a' := ?_) #[true, false, true, false, false, true, true, false, true, false, false, false, false, false, false] rfl rfl (any_of HT_.out (by kernel_rfl)) (fun _ _ _ h => h) (Or.inl ⟨by rfl, ?_⟩) ?_ ?_
               rotate_left
               ·intro w'
                go_simp
                with_reducible rfl
               rotate_left
               ·simp only [Act.put, p1_, p2_, p3_, i64_w, i32_w]
                rfl
               refine pure_ (i := 9) (N := some 56) (v := ?_) (a' := ?_) #[true, false, true, false, false, true, true, false, true, true, false, false, false, false, false] rfl rfl (any_of HT_.out (by kernel_rfl)) (fun _ _ _ h => h) (Or.inl ⟨by rfl, ?_⟩) ?_ ?_
               rotate_left
               ·intro w'
                go_simp
                with_reducible rfl
               rotate_left
               ·simp only [Act.put, p1_, p2_, p3_, i64_w, i32_w]
                rfl
               refine take_ (i := 1) (N := some 48) (v := ?_) (a' := ?_) #[true, true, true, false, false, true, true, false, true, true, false, false, false, false, false] rfl rfl (take_ofW HT_.out HW_.out (by kernel_rfl)) (fun _ _ _ h => h) (Or.inl ⟨by rfl, ?_⟩) hHeld ?_ ?_
               rotate_left
               ·rintro w' ⟨s0, s1, s2, s3, s4, s5, s6⟩
                go_simp
                with_reducible rfl
               rotate_left
               ·simp only [Act.put, p1_, p2_, p3_, i64_w, i32_w]
                rfl
               refine take_ (i := 3) (N := some 50) (v := ?_) (a' := ?_) #[true, true, true, true, false, true, true, false, true, true, false, false, false, false, false] rfl rfl (take_ofW HT_.out HW_.out (by kernel_rfl)) (fun _ _ _ h => h) (Or.inl ⟨by rfl, ?_⟩) hHeld ?_ ?_
               rotate_left
               ·rintro w' ⟨s0, s1, s2, s3, s4, s5, s6⟩
                go_simp
                with_reducible rfl
               rotate_left
               ·simp only [Act.put, p1_, p2_, p3_, i64_w, i32_w]
                rfl
               refine pure_ (i := 4) (N := some 51) (v := ?_) (a' := ?_) #[true, true, true, true, true, true, true, false, true, true, false, false, false, false, false] rfl rfl (any_of HT_.out (by kernel_rfl)) (fun _ _ _ h => h) (Or.inl ⟨by rfl, ?_⟩) ?_ ?_
               rotate_left
               ·intro w'
                go_simp
                with_reducible rfl
               rotate_left
               ·simp only [Act.put, p1_, p2_, p3_, i64_w, i32_w]
                rfl
               refine one_ (i := 7) (N := some 54) #[true, true, true, true, true, true, true, true, true, true, false, false, false, false, false] rfl rfl (one_of HT_.out (by kernel_rfl)) (by decide) (fun K hK => ?_)
               refine goes_ Try.func124 (by kernel_rfl) rfl #[.string ((a0.extract ((ji24) : Int).toNat ((wrap64 (14 + (wrap64 (13 * x6_1)))) : Int).toNat).extract 1 5)] (by rfl) rfl rfl (by (try simp only [m1_, m2_, m3_]); first | done | (simp only [hji24]; rfl) | rfl | (simp only [d1_, d2_]; rfl)) ?_
               with_reducible refine (spec_l02Of.calls k1 ((a0.extract ((ji24) : Int).toNat ((wrap64 (14 + (wrap64 (13 * x6_1)))) : Int).toNat).extract 1 5) t1062 _ A32.out).mono ?_
               rintro e w' ⟨rfl, ⟨nd, rfl⟩⟩
               refine ⟨_, rfl, ?_⟩
               refine hK.out _ _ ⟨(blk_cell BK1061.out 0).trans rfl, (blk_cell BK1061.out 1).trans rfl, (blk_cell BK1061.out 2).trans rfl, (blk_cell BK1061.out 3).trans rfl, (blk_cell BK1061.out 4).trans rfl, (blk_cell BK1061.out 5).trans rfl, (blk_cell BK1061.out 6).trans rfl⟩ (fun hHeld => ?_)
               clear hK K
               refine norm_ (a' := ?_) ?_ ?_
               rotate_left
               ·show Act.put _ (some 54) _ = _
                simp only [Act.put, p1_, p2_, p3_, i64_w, i32_w]
                rfl
               refine pure_ (i := 10) (N := some 57) (v := ?_) (a' := ?_) #[true, true, true, true, true, true, true, true, true, true, true, false, false, false, false] rfl rfl (any_of HT_.out (by kernel_rfl)) (fun _ _ _ h => h) (Or.inl ⟨by rfl, ?_⟩) ?_ ?_
               rotate_left
               ·intro w'
                go_simp
                with_reducible rfl
               rotate_left
               ·simp only [Act.put, p1_, p2_, p3_, i64_w, i32_w]
                rfl
               refine one_ (i := 11) (N := some 58) #[true, true, true, true, true, true, true, true, true, true, true, true, false, false, false] rfl rfl (one_of HT_.out (by kernel_rfl)) (by decide) (fun K hK => ?_)
               refine value_ (w1 := ?_) (v := ?_) (by rfl) rfl ?_ ?_
               rotate_left 2
               ·go_simp
                constructor
                ·rfl
                ·rfl
               refine hK.out _ _ ⟨(blk_cell (blk_alloc BK1061.out _) 0).trans rfl, (blk_cell (blk_alloc BK1061.out _) 1).trans rfl, (blk_cell (blk_alloc BK1061.out _) 2).trans rfl, (blk_cell (blk_alloc BK1061.out _) 3).trans rfl, (blk_cell (blk_alloc BK1061.out _) 4).trans rfl, (blk_cell (blk_alloc BK1061.out _) 5).trans rfl, (blk_cell (blk_alloc BK1061.out _) 6).trans rfl⟩ (fun hHeld => ?_)
               clear hK K
               refine norm_ (a' := ?_) ?_ ?_
               rotate_left
               ·show Act.put _ (some 58) _ = _
                simp only [Act.put, p1_, p2_, p3_, i64_w, i32_w]
                rfl
               refine one_ (i := 12) (N := some 59) #[true, true, true, true, true, true, true, true, true, true, true, true, true, false, false] rfl rfl (one_of HT_.out (by kernel_rfl)) (by decide) (fun K hK => ?_)
               refine Kd.R_append_step k161 (w0 := w) w.heap.size (by rfl) (.tmp 48) (.tmp 58) 65 161 (.agg #[(.int .i64 0), (.int .i64 0), (.string ⟨#[]⟩)]) 32 rfl Try.underlying65 info161 rfl (by decide) (by omega) u1062006 x1062006_1 (⟨wrap64 (bt (a0.extract ((ji24) : Int).toNat ((wrap64 (14 + (wrap64 (13 * x6_1)))) : Int).toNat) 0), t1062, (a0.extract ((ji24) : Int).toNat ((wrap64 (14 + (wrap64 (13 * x6_1)))) : Int).toNat).extract 5 (((wrap64 (14 + (wrap64 (13 * x6_1)))) : Int).toNat - ((ji24) : Int).toNat)⟩ : S161) [.int .i64 (wrap64 (bt (a0.extract ((ji24) : Int).toNat ((wrap64 (14 + (wrap64 (13 * x6_1)))) : Int).toNat) 0)), .int .i64 t1062, .string ((a0.extract ((ji24) : Int).toNat ((wrap64 (14 + (wrap64 (13 * x6_1)))) : Int).toNat).extract 5 (((wrap64 (14 + (wrap64 (13 * x6_1)))) : Int).toNat - ((ji24) : Int).toNat))] (fun _ => True) (fun _ => False) rfl rfl ?aP (fun _ hk => hk.elim) ?aF ?aO ?aB ?aS ?aL ?_
               (case aP => exact k161_mkM _ _ _ (⟨wrap64 (bt (a0.extract ((ji24) : Int).toNat ((wrap64 (14 + (wrap64 (13 * x6_1)))) : Int).toNat) 0), t1062, (a0.extract ((ji24) : Int).toNat ((wrap64 (14 + (wrap64 (13 * x6_1)))) : Int).toNat).extract 5 (((wrap64 (14 + (wrap64 (13 * x6_1)))) : Int).toNat - ((ji24) : Int).toNat)⟩ : S161))
               (case aB => exact (by repeat (first | (with_reducible first | exact HB.out | apply b1_ | apply b2_ | apply b3_ | refine below_set ?_ GE1054.out | refine below_set ?_ GE1061.out) | exact HB.out)))
               (case aF => exact (fun _ _ => trivial))
               (case aO => exact (by (with_reducible repeat (first | apply r1_ | apply r2_ | apply r3_)); exact HO_1062006.out))
               (case aS => exact (below_size (by repeat (first | (with_reducible first | exact HB.out | apply b1_ | apply b2_ | apply b3_ | refine below_set ?_ GE1054.out | refine below_set ?_ GE1061.out) | exact HB.out))))
               (case aL => have := LMc34.out; omega)
               intro v1064 w36 ho hb hg hat
               rw [← Ny1063.out] at ho
               have n0_ := am_ (blk_grown (g := gb1054) (o := .cells #[.bool false, .int .i64 0, .int .i64 0, .int .i64 0, .int .i64 0, .string (⟨#[]⟩ : ByteArray), .slice none 0 0] 67 (0, 0)) (by (with_reducible repeat (first | apply k1_ | apply k2_ | apply k3_)); exact BK1054.out) hg (Kd.R_ne HO_1062006.out BK1054.out (by decide)))
               have n1_ := am_ (blk_grown (g := gb1061) (o := .cells #[.bool false, .int .i64 0, .int .i64 0, .int .i64 0, .int .i64 0, .string (⟨#[]⟩ : ByteArray), u1062006] 67 (0, 0)) (by (with_reducible repeat (first | apply k1_ | apply k2_ | apply k3_)); exact BK1061.out) hg (Kd.R_ne HO_1062006.out BK1061.out (by decide)))
               have n2_ := am_ (hb)
               have n3_ := am_ (ho)
               clear BK1054
               clear BK1061
               clear HB
               clear HO_1062006
               have BK1054 := n0_
               have BK1061 := n1_
               have HB := n2_
               have HO1065 := n3_
               clear n0_ n1_ n2_ n3_
               clear ho hb hg hat
               obtain ⟨Ao37, co37, eo37⟩ := Kd.R_slice HO1065.out
               (first | subst eo37 | (injection eo37 with f1_ f2_ f3_; have f4_ := f1_.symm; have f5_ := f3_.symm; clear f1_ f2_ f3_; subst f4_; subst f5_))
               refine hK.out _ _ ⟨(blk_cell BK1061.out 0).trans rfl, (blk_cell BK1061.out 1).trans rfl, (blk_cell BK1061.out 2).trans rfl, (blk_cell BK1061.out 3).trans rfl, (blk_cell BK1061.out 4).trans rfl, (blk_cell BK1061.out 5).trans rfl, (blk_cell BK1061.out 6).trans rfl⟩ (fun hHeld => ?_)
               clear hK K
               refine norm_ (a' := ?_) ?_ ?_
               rotate_left
               ·show Act.put _ (some 59) _ = _
                simp only [Act.put, p1_, p2_, p3_, i64_w, i32_w]
                rfl
               refine pure_ (i := 13) (N := some 60) (v := ?_) (a' := ?_) #[true, true, true, true, true, true, true, true, true, true, true, true, true, true, false] rfl rfl (any_of HT_.out (by kernel_rfl)) (fun _ _ _ h => h) (Or.inl ⟨by rfl, ?_⟩) ?_ ?_
               rotate_left
               ·intro w'
                go_simp
                with_reducible rfl
               rotate_left
               ·simp only [Act.put, p1_, p2_, p3_, i64_w, i32_w]
                rfl
               refine last_ (i := 14) (N := none) #[true, true, true, true, true, true, true, true, true, true, true, true, true, true, true] rfl rfl (one_of HT_.out (by kernel_rfl)) (by decide) (fun K hK => ?_)
               have hs38 : w36.cell? ⟨gb1061, 6, none⟩ = some (u1062006) := (blk_cell BK1061.out 6).trans rfl
               have hfs38 := blk_frozen BK1061.out 6
               have hns38_0 := NB1054_1061.out
               have hms38_0 := NB1061_1054.out
               refine skip_ (w1 := ?_) (by rfl) rfl ?_ ?_
               rotate_left
               ·go_simp
                rfl
               refine hK.out _ _ ?_
               clear hK K
               refine done_ (done_of HT_.out (by kernel_rfl)) ?_
               try go_wp2
               go_roundg k1
               case measure => have := HK1.out; omega
               case rel => exact ⟨(wrap64 (x6_1 + 1)), (y1063), (.slice Ao37 y1063.length co37), (by first | rfl | (simp; done) | (simp [*]; done)), H', ⟨by have := HK1.out; omega⟩, ⟨by (with_reducible repeat (first | apply r1_ | apply r2_ | apply r3_)); exact Kd.R_mono (Kd.Rf (Kd.R_types HO1065.out BK1061.out (by decide))) (fun _ hk => trivial)⟩, ⟨by (with_reducible repeat (first | apply k1_ | apply k2_ | apply k3_)); refine blk_far ?_ NB1054_1061.out _; (with_reducible repeat (first | apply k1_ | apply k2_ | apply k3_)); exact BK1054.out⟩, ⟨by (with_reducible repeat (first | apply k1_ | apply k2_ | apply k3_)); refine blk_put (cs := #[.bool false, .int .i64 0, .int .i64 0, .int .i64 0, .int .i64 0, .string (⟨#[]⟩ : ByteArray), u1062006]) ?_ 6 _ rfl; (with_reducible repeat (first | apply k1_ | apply k2_ | apply k3_)); exact BK1061.out⟩, ⟨by repeat (first | (with_reducible first | exact HB.out | apply b1_ | apply b2_ | apply b3_ | refine below_set ?_ GE1054.out | refine below_set ?_ GE1061.out) | exact HB.out)⟩⟩
              ·rw [if_neg c34] at H
               exact absurd H (by simp)
             ·rw [if_neg c31] at H
              exact absurd H (by simp)
            ·rw [if_neg c30] at H
             exact absurd H (by simp)
           ·rw [if_neg c28] at H
            exact absurd H (by simp)
          ·rw [if_neg c27] at H
           exact absurd H (by simp)
         ·rw [if_neg c26] at H
          exact absurd H (by simp)
        ·rw [if_neg c25] at H
         exact absurd H (by simp)
       ·rw [if_neg c23] at H
        have c23b0 : decide (x6_1 < (wrap64 ((wrap64 (bt a0 0)) - 1))) = false := decide_eq_false c23
        clear c23
        obtain ⟨ji39, hji39⟩ : ∃ j_ : Int, (wrap64 (1 + (wrap64 (13 * (wrap64 ((wrap64 (bt a0 0)) - 1)))))) = j_ := ⟨_, rfl⟩
        replace H : (if 0 ≤ (ji39) then (if (ji39) ≤ (a0.size : Int) then ((spec_l02ReadRequest.f k1 (a0.extract ((ji39) : Int).toNat a0.size)).bind fun bt1066 => (if bt1066.2.2.2.2.2 = true then ((spec_l02BatchOK.f k1 false bt1066.1 bt1066.2.1 bt1066.2.2.1 bt1066.2.2.2.1 bt1066.2.2.2.2.1 x1062006_1).bind fun t1073 => (some (false, bt1066.1, bt1066.2.1, bt1066.2.2.1, bt1066.2.2.2.1, bt1066.2.2.2.2.1, x1062006_1, t1073))) else (some (false, bt1066.1, bt1066.2.1, bt1066.2.2.1, bt1066.2.2.2.1, bt1066.2.2.2.2.1, x1062006_1, false)))) else (none)) else (none)) = some (r1, r2, r3, r4, r5, r6, r7, r8) := by first | (rw [hji39] at H; exact H) | (simp only [hji39] at H ⊢; exact H)
        (try rw [hji39] at c13b0)
        have hji39w : (IntKind.i64.wrap (1 + (wrap64 (13 * (wrap64 ((wrap64 (bt a0 0)) - 1)))))) = ji39 := (i64_w _).trans hji39
        by_cases c40 : 0 ≤ (ji39)
        ·rw [if_pos c40] at H
         have c40b0 := eq_true c40
         have c40b1 : decide (0 ≤ (ji39)) = true := decide_eq_true c40
         clear c40
         by_cases c41 : (ji39) ≤ (a0.size : Int)
         ·rw [if_pos c41] at H
          have c41b0 := eq_true c41
          have c41b1 : decide ((ji39) ≤ (a0.size : Int)) = true := decide_eq_true c41
          clear c41
          replace H := Option.bind_eq_some_iff.mp H
          obtain ⟨⟨t1066, t1067, t1068, t1069, t1070, t1071⟩, A420, H⟩ := H
          replace H : (if t1071 = true then ((spec_l02BatchOK.f k1 false t1066 t1067 t1068 t1069 t1070 x1062006_1).bind fun t1073 => (some (false, t1066, t1067, t1068, t1069, t1070, x1062006_1, t1073))) else (some (false, t1066, t1067, t1068, t1069, t1070, x1062006_1, false))) = some (r1, r2, r3, r4, r5, r6, r7, r8) := H
          have A42 := am_ A420
          clear A420
          by_cases c43 : t1071 = true
          ·subst c43
           have H1 : ((spec_l02BatchOK.f k1 false t1066 t1067 t1068 t1069 t1070 x1062006_1).bind fun t1073 => (some (false, t1066, t1067, t1068, t1069, t1070, x1062006_1, t1073))) = some (r1, r2, r3, r4, r5, r6, r7, r8) := by rw [if_pos rfl] at H; exact H
           clear H
           have H := H1
           clear H1
           replace H := Option.bind_eq_some_iff.mp H
           obtain ⟨t1073, A440, H⟩ := H
           replace H : (some (false, t1066, t1067, t1068, t1069, t1070, x1062006_1, t1073)) = some (r1, r2, r3, r4, r5, r6, r7, r8) := H
           have A44 := am_ A440
           clear A440
           simp only [Option.some.injEq, Prod.mk.injEq] at H
           obtain ⟨rfl, rfl, rfl, rfl, rfl, rfl, rfl, rfl⟩ := H
           try go_wp2_with (first | ((with_reducible refine gate_callee (f := 137) rfl ?_); refine goesL_ (some 68) rfl rfl Try.func137 (by kernel_rfl) rfl #[.string (a0.extract ((ji39) : Int).toNat a0.size)] rfl (by (try simp only [m1_, m2_, m3_]); first | done | (simp only [hji39]; rfl) | rfl | (simp only [d1_, d2_]; rfl)) ?_; (with_reducible refine (spec_l02ReadRequest.calls k1 (a0.extract ((ji39) : Int).toNat a0.size) t1066 t1067 t1068 t1069 t1070 true _ A42.out).mono ?_); rintro e w45 ⟨rfl, hb⟩; refine ⟨_, rfl, ?_⟩; have n0_ := am_ (Kd.R_below (by (with_reducible repeat (first | apply r1_ | apply r2_ | apply r3_)); exact HO_1062006.out) hb); have n1_ := am_ (blk_below (g := gb1054) (o := .cells #[.bool false, .int .i64 0, .int .i64 0, .int .i64 0, .int .i64 0, .string (⟨#[]⟩ : ByteArray), .slice none 0 0] 67 (0, 0)) (by (with_reducible repeat (first | apply k1_ | apply k2_ | apply k3_)); exact BK1054.out) hb); have n2_ := am_ (blk_below (g := gb1061) (o := .cells #[.bool false, .int .i64 0, .int .i64 0, .int .i64 0, .int .i64 0, .string (⟨#[]⟩ : ByteArray), u1062006] 67 (0, 0)) (by (with_reducible repeat (first | apply k1_ | apply k2_ | apply k3_)); exact BK1061.out) hb); have n3_ := am_ (below_step (by repeat (first | (with_reducible first | exact HB.out | apply b1_ | apply b2_ | apply b3_ | refine below_set ?_ GE1054.out | refine below_set ?_ GE1061.out) | exact HB.out)) hb); clear HO_1062006; clear BK1054; clear BK1061; clear HB; have HO_1062006 := n0_; have BK1054 := n1_; have BK1061 := n2_; have HB := n3_; clear n0_ n1_ n2_ n3_; (try clear hb); (try clear hb2); (try clear hk); (try clear hi)) | ((with_reducible refine gate_dst (N := 8) rfl ?_); refine box_event ?hg (N := 8) ?hd (cs := #[.int .i64 0, .int .i64 0, .int .i64 0, .int .i64 0, .string (⟨#[]⟩ : ByteArray)]) (t := 36) ?hr ?_; (case hd => rfl); (case hg => rfl); (case hr => first | (go_simp; done) | (go_simp; rfl)); intro gb1072 hg w46 hbox hb; have n0_ := am_ (Kd.R_below (by (with_reducible repeat (first | apply r1_ | apply r2_ | apply r3_)); exact HO_1062006.out) hb); have n1_ := am_ (blk_below (g := gb1054) (o := .cells #[.bool false, .int .i64 0, .int .i64 0, .int .i64 0, .int .i64 0, .string (⟨#[]⟩ : ByteArray), .slice none 0 0] 67 (0, 0)) (by (with_reducible repeat (first | apply k1_ | apply k2_ | apply k3_)); exact BK1054.out) hb); have n2_ := am_ (blk_below (g := gb1061) (o := .cells #[.bool false, .int .i64 0, .int .i64 0, .int .i64 0, .int .i64 0, .string (⟨#[]⟩ : ByteArray), u1062006] 67 (0, 0)) (by (with_reducible repeat (first | apply k1_ | apply k2_ | apply k3_)); exact BK1061.out) hb); have n3_ := am_ (below_step (by repeat (first | (with_reducible first | exact HB.out | apply b1_ | apply b2_ | apply b3_ | refine below_set ?_ GE1054.out | refine below_set ?_ GE1061.out) | exact HB.out)) hb); have n4_ := am_ (hbox); have n5_ := am_ ((by rw [hg]; exact (below_size (by repeat (first | (with_reducible first | exact HB.out | apply b1_ | apply b2_ | apply b3_ | refine below_set ?_ GE1054.out | refine below_set ?_ GE1061.out) | exact HB.out))) : w.heap.size ≤ gb1072)); have n6_ := am_ ((by rw [hg]; exact (below_size (by repeat (first | (with_reducible first | exact HB.out | apply b1_ | apply b2_ | apply b3_ | refine below_set ?_ GE1054.out | refine below_set ?_ GE1061.out) | exact HB.out))) : w.heap.size ≤ gb1072)); have n7_ := am_ ((by rw [hg]; exact Nat.ne_of_lt (blk_lt (g := gb1054) (o := .cells #[.bool false, .int .i64 0, .int .i64 0, .int .i64 0, .int .i64 0, .string (⟨#[]⟩ : ByteArray), .slice none 0 0] 67 (0, 0)) (by (with_reducible repeat (first | apply k1_ | apply k2_ | apply k3_)); exact BK1054.out)) : gb1054 ≠ gb1072)); have n8_ := am_ ((by rw [hg]; exact Nat.ne_of_gt (blk_lt (g := gb1054) (o := .cells #[.bool false, .int .i64 0, .int .i64 0, .int .i64 0, .int .i64 0, .string (⟨#[]⟩ : ByteArray), .slice none 0 0] 67 (0, 0)) (by (with_reducible repeat (first | apply k1_ | apply k2_ | apply k3_)); exact BK1054.out)) : gb1072 ≠ gb1054)); have n9_ := am_ ((by rw [hg]; exact Nat.ne_of_lt (blk_lt (g := gb1061) (o := .cells #[.bool false, .int .i64 0, .int .i64 0, .int .i64 0, .int .i64 0, .string (⟨#[]⟩ : ByteArray), u1062006] 67 (0, 0)) (by (with_reducible repeat (first | apply k1_ | apply k2_ | apply k3_)); exact BK1061.out)) : gb1061 ≠ gb1072)); have n10_ := am_ ((by rw [hg]; exact Nat.ne_of_gt (blk_lt (g := gb1061) (o := .cells #[.bool false, .int .i64 0, .int .i64 0, .int .i64 0, .int .i64 0, .string (⟨#[]⟩ : ByteArray), u1062006] 67 (0, 0)) (by (with_reducible repeat (first | apply k1_ | apply k2_ | apply k3_)); exact BK1061.out)) : gb1072 ≠ gb1061)); clear HO_1062006; clear BK1054; clear BK1061; clear HB; have HO_1062006 := n0_; have BK1054 := n1_; have BK1061 := n2_; have HB := n3_; have BK1072 := n4_; have GW1072 := n5_; have GE1072 := n6_; have NB1054_1072 := n7_; have NB1072_1054 := n8_; have NB1061_1072 := n9_; have NB1072_1061 := n10_; clear n0_ n1_ n2_ n3_ n4_ n5_ n6_ n7_ n8_ n9_ n10_; clear hb hbox hg; have hnb47 := NB1072_1054.out; have hnc47 := NB1054_1072.out; have hnb48 := NB1072_1061.out; have hnc48 := NB1061_1072.out; have hcz49_0 : w46.cell? ⟨gb1072, 0, none⟩ = some (.int .i64 0) := (blk_cell BK1072.out 0).trans rfl; have hcz49_1 : w46.cell? ⟨gb1072, 1, none⟩ = some (.int .i64 0) := (blk_cell BK1072.out 1).trans rfl; have hcz49_2 : w46.cell? ⟨gb1072, 2, none⟩ = some (.int .i64 0) := (blk_cell BK1072.out 2).trans rfl; have hcz49_3 : w46.cell? ⟨gb1072, 3, none⟩ = some (.int .i64 0) := (blk_cell BK1072.out 3).trans rfl; have hcz49_4 : w46.cell? ⟨gb1072, 4, none⟩ = some (.string (⟨#[]⟩ : ByteArray)) := (blk_cell BK1072.out 4).trans rfl; have hfz49_0 := blk_frozen BK1072.out 0; have hfz49_1 := blk_frozen BK1072.out 1; have hfz49_2 := blk_frozen BK1072.out 2; have hfz49_3 := blk_frozen BK1072.out 3; have hfz49_4 := blk_frozen BK1072.out 4; have hnb50 := NB1061_1054.out; have hnc50 := NB1054_1061.out; have hcz51_0 : w46.cell? ⟨gb1061, 0, none⟩ = some (.bool false) := (blk_cell BK1061.out 0).trans rfl; have hcz51_1 : w46.cell? ⟨gb1061, 1, none⟩ = some (.int .i64 0) := (blk_cell BK1061.out 1).trans rfl; have hcz51_2 : w46.cell? ⟨gb1061, 2, none⟩ = some (.int .i64 0) := (blk_cell BK1061.out 2).trans rfl; have hcz51_3 : w46.cell? ⟨gb1061, 3, none⟩ = some (.int .i64 0) := (blk_cell BK1061.out 3).trans rfl; have hcz51_4 : w46.cell? ⟨gb1061, 4, none⟩ = some (.int .i64 0) := (blk_cell BK1061.out 4).trans rfl; have hcz51_5 : w46.cell? ⟨gb1061, 5, none⟩ = some (.string (⟨#[]⟩ : ByteArray)) := (blk_cell BK1061.out 5).trans rfl; have hcz51_6 : w46.cell? ⟨gb1061, 6, none⟩ = some (u1062006) := (blk_cell BK1061.out 6).trans rfl; have hfz51_0 := blk_frozen BK1061.out 0; have hfz51_1 := blk_frozen BK1061.out 1; have hfz51_2 := blk_frozen BK1061.out 2; have hfz51_3 := blk_frozen BK1061.out 3; have hfz51_4 := blk_frozen BK1061.out 4; have hfz51_5 := blk_frozen BK1061.out 5; have hfz51_6 := blk_frozen BK1061.out 6))
           have n0_ : Aside0 (Kd.R k161 161 ((((((((((w46.setCell ⟨gb1072, 0, none⟩ (.int .i64 t1066)).setCell ⟨gb1072, 1, none⟩ (.int .i64 t1067)).setCell ⟨gb1072, 2, none⟩ (.int .i64 t1068)).setCell ⟨gb1072, 3, none⟩ (.int .i64 t1069)).setCell ⟨gb1072, 4, none⟩ (.string t1070)).setCell ⟨gb1061, 1, none⟩ (.int .i64 t1066)).setCell ⟨gb1061, 2, none⟩ (.int .i64 t1067)).setCell ⟨gb1061, 3, none⟩ (.int .i64 t1068)).setCell ⟨gb1061, 4, none⟩ (.int .i64 t1069)).setCell ⟨gb1061, 5, none⟩ (.string t1070)) w.heap.size (fun _ => True) u1062006 x1062006_1) := ⟨by (with_reducible repeat (first | apply r1_ | apply r2_ | apply r3_)); exact Kd.R_mono (Kd.Rf (Kd.Rf (Kd.Rf (Kd.Rf (Kd.Rf (Kd.R_far (p := ⟨gb1072, 4, none⟩) (Kd.R_far (p := ⟨gb1072, 3, none⟩) (Kd.R_far (p := ⟨gb1072, 2, none⟩) (Kd.R_far (p := ⟨gb1072, 1, none⟩) (Kd.R_far (p := ⟨gb1072, 0, none⟩) (Kd.R_types (Kd.R_types HO_1062006.out BK1072.out (by decide)) BK1061.out (by decide)) (fun _ hk => hk.1.2) (.int .i64 t1066)) (fun _ hk => hk.1.2) (.int .i64 t1067)) (fun _ hk => hk.1.2) (.int .i64 t1068)) (fun _ hk => hk.1.2) (.int .i64 t1069)) (fun _ hk => hk.1.2) (.string t1070))))))) (fun _ hk => trivial)⟩
           have n1_ : Aside0 (((((((((((w46.setCell ⟨gb1072, 0, none⟩ (.int .i64 t1066)).setCell ⟨gb1072, 1, none⟩ (.int .i64 t1067)).setCell ⟨gb1072, 2, none⟩ (.int .i64 t1068)).setCell ⟨gb1072, 3, none⟩ (.int .i64 t1069)).setCell ⟨gb1072, 4, none⟩ (.string t1070)).setCell ⟨gb1061, 1, none⟩ (.int .i64 t1066)).setCell ⟨gb1061, 2, none⟩ (.int .i64 t1067)).setCell ⟨gb1061, 3, none⟩ (.int .i64 t1068)).setCell ⟨gb1061, 4, none⟩ (.int .i64 t1069)).setCell ⟨gb1061, 5, none⟩ (.string t1070)).heap[gb1054]? = some (.cells #[.bool false, .int .i64 0, .int .i64 0, .int .i64 0, .int .i64 0, .string (⟨#[]⟩ : ByteArray), .slice none 0 0] 67 (0, 0))) := ⟨by (with_reducible repeat (first | apply k1_ | apply k2_ | apply k3_)); refine blk_far ?_ NB1054_1061.out _; (with_reducible repeat (first | apply k1_ | apply k2_ | apply k3_)); refine blk_far ?_ NB1054_1061.out _; (with_reducible repeat (first | apply k1_ | apply k2_ | apply k3_)); refine blk_far ?_ NB1054_1061.out _; (with_reducible repeat (first | apply k1_ | apply k2_ | apply k3_)); refine blk_far ?_ NB1054_1061.out _; (with_reducible repeat (first | apply k1_ | apply k2_ | apply k3_)); refine blk_far ?_ NB1054_1061.out _; (with_reducible repeat (first | apply k1_ | apply k2_ | apply k3_)); refine blk_far ?_ NB1054_1072.out _; (with_reducible repeat (first | apply k1_ | apply k2_ | apply k3_)); refine blk_far ?_ NB1054_1072.out _; (with_reducible repeat (first | apply k1_ | apply k2_ | apply k3_)); refine blk_far ?_ NB1054_1072.out _; (with_reducible repeat (first | apply k1_ | apply k2_ | apply k3_)); refine blk_far ?_ NB1054_1072.out _; (with_reducible repeat (first | apply k1_ | apply k2_ | apply k3_)); refine blk_far ?_ NB1054_1072.out _; (with_reducible repeat (first | apply k1_ | apply k2_ | apply k3_)); exact BK1054.out⟩
           have n2_ : Aside0 (((((((((((w46.setCell ⟨gb1072, 0, none⟩ (.int .i64 t1066)).setCell ⟨gb1072, 1, none⟩ (.int .i64 t1067)).setCell ⟨gb1072, 2, none⟩ (.int .i64 t1068)).setCell ⟨gb1072, 3, none⟩ (.int .i64 t1069)).setCell ⟨gb1072, 4, none⟩ (.string t1070)).setCell ⟨gb1061, 1, none⟩ (.int .i64 t1066)).setCell ⟨gb1061, 2, none⟩ (.int .i64 t1067)).setCell ⟨gb1061, 3, none⟩ (.int .i64 t1068)).setCell ⟨gb1061, 4, none⟩ (.int .i64 t1069)).setCell ⟨gb1061, 5, none⟩ (.string t1070)).heap[gb1061]? = some (.cells #[.bool false, .int .i64 t1066, .int .i64 t1067, .int .i64 t1068, .int .i64 t1069, .string t1070, u1062006] 67 (0, 0))) := ⟨by (with_reducible repeat (first | apply k1_ | apply k2_ | apply k3_)); refine blk_put (cs := #[.bool false, .int .i64 t1066, .int .i64 t1067, .int .i64 t1068, .int .i64 t1069, .string (⟨#[]⟩ : ByteArray), u1062006]) ?_ 5 _ rfl; (with_reducible repeat (first | apply k1_ | apply k2_ | apply k3_)); refine blk_put (cs := #[.bool false, .int .i64 t1066, .int .i64 t1067, .int .i64 t1068, .int .i64 0, .string (⟨#[]⟩ : ByteArray), u1062006]) ?_ 4 _ rfl; (with_reducible repeat (first | apply k1_ | apply k2_ | apply k3_)); refine blk_put (cs := #[.bool false, .int .i64 t1066, .int .i64 t1067, .int .i64 0, .int .i64 0, .string (⟨#[]⟩ : ByteArray), u1062006]) ?_ 3 _ rfl; (with_reducible repeat (first | apply k1_ | apply k2_ | apply k3_)); refine blk_put (cs := #[.bool false, .int .i64 t1066, .int .i64 0, .int .i64 0, .int .i64 0, .string (⟨#[]⟩ : ByteArray), u1062006]) ?_ 2 _ rfl; (with_reducible repeat (first | apply k1_ | apply k2_ | apply k3_)); refine blk_put (cs := #[.bool false, .int .i64 0, .int .i64 0, .int .i64 0, .int .i64 0, .string (⟨#[]⟩ : ByteArray), u1062006]) ?_ 1 _ rfl; (with_reducible repeat (first | apply k1_ | apply k2_ | apply k3_)); refine blk_far ?_ NB1061_1072.out _; (with_reducible repeat (first | apply k1_ | apply k2_ | apply k3_)); refine blk_far ?_ NB1061_1072.out _; (with_reducible repeat (first | apply k1_ | apply k2_ | apply k3_)); refine blk_far ?_ NB1061_1072.out _; (with_reducible repeat (first | apply k1_ | apply k2_ | apply k3_)); refine blk_far ?_ NB1061_1072.out _; (with_reducible repeat (first | apply k1_ | apply k2_ | apply k3_)); refine blk_far ?_ NB1061_1072.out _; (with_reducible repeat (first | apply k1_ | apply k2_ | apply k3_)); exact BK1061.out⟩
           have n3_ : Aside0 (((((((((((w46.setCell ⟨gb1072, 0, none⟩ (.int .i64 t1066)).setCell ⟨gb1072, 1, none⟩ (.int .i64 t1067)).setCell ⟨gb1072, 2, none⟩ (.int .i64 t1068)).setCell ⟨gb1072, 3, none⟩ (.int .i64 t1069)).setCell ⟨gb1072, 4, none⟩ (.string t1070)).setCell ⟨gb1061, 1, none⟩ (.int .i64 t1066)).setCell ⟨gb1061, 2, none⟩ (.int .i64 t1067)).setCell ⟨gb1061, 3, none⟩ (.int .i64 t1068)).setCell ⟨gb1061, 4, none⟩ (.int .i64 t1069)).setCell ⟨gb1061, 5, none⟩ (.string t1070)).heap[gb1072]? = some (.cells #[.int .i64 t1066, .int .i64 t1067, .int .i64 t1068, .int .i64 t1069, .string t1070] 36 (0, 0))) := ⟨by (with_reducible repeat (first | apply k1_ | apply k2_ | apply k3_)); refine blk_far ?_ NB1072_1061.out _; (with_reducible repeat (first | apply k1_ | apply k2_ | apply k3_)); refine blk_far ?_ NB1072_1061.out _; (with_reducible repeat (first | apply k1_ | apply k2_ | apply k3_)); refine blk_far ?_ NB1072_1061.out _; (with_reducible repeat (first | apply k1_ | apply k2_ | apply k3_)); refine blk_far ?_ NB1072_1061.out _; (with_reducible repeat (first | apply k1_ | apply k2_ | apply k3_)); refine blk_far ?_ NB1072_1061.out _; (with_reducible repeat (first | apply k1_ | apply k2_ | apply k3_)); refine blk_put (cs := #[.int .i64 t1066, .int .i64 t1067, .int .i64 t1068, .int .i64 t1069, .string (⟨#[]⟩ : ByteArray)]) ?_ 4 _ rfl; (with_reducible repeat (first | apply k1_ | apply k2_ | apply k3_)); refine blk_put (cs := #[.int .i64 t1066, .int .i64 t1067, .int .i64 t1068, .int .i64 0, .string (⟨#[]⟩ : ByteArray)]) ?_ 3 _ rfl; (with_reducible repeat (first | apply k1_ | apply k2_ | apply k3_)); refine blk_put (cs := #[.int .i64 t1066, .int .i64 t1067, .int .i64 0, .int .i64 0, .string (⟨#[]⟩ : ByteArray)]) ?_ 2 _ rfl; (with_reducible repeat (first | apply k1_ | apply k2_ | apply k3_)); refine blk_put (cs := #[.int .i64 t1066, .int .i64 0, .int .i64 0, .int .i64 0, .string (⟨#[]⟩ : ByteArray)]) ?_ 1 _ rfl; (with_reducible repeat (first | apply k1_ | apply k2_ | apply k3_)); refine blk_put (cs := #[.int .i64 0, .int .i64 0, .int .i64 0, .int .i64 0, .string (⟨#[]⟩ : ByteArray)]) ?_ 0 _ rfl; (with_reducible repeat (first | apply k1_ | apply k2_ | apply k3_)); exact BK1072.out⟩
           have n4_ : Aside0 (Below w.heap.size w ((((((((((w46.setCell ⟨gb1072, 0, none⟩ (.int .i64 t1066)).setCell ⟨gb1072, 1, none⟩ (.int .i64 t1067)).setCell ⟨gb1072, 2, none⟩ (.int .i64 t1068)).setCell ⟨gb1072, 3, none⟩ (.int .i64 t1069)).setCell ⟨gb1072, 4, none⟩ (.string t1070)).setCell ⟨gb1061, 1, none⟩ (.int .i64 t1066)).setCell ⟨gb1061, 2, none⟩ (.int .i64 t1067)).setCell ⟨gb1061, 3, none⟩ (.int .i64 t1068)).setCell ⟨gb1061, 4, none⟩ (.int .i64 t1069)).setCell ⟨gb1061, 5, none⟩ (.string t1070))) := ⟨by repeat (first | (with_reducible first | exact HB.out | apply b1_ | apply b2_ | apply b3_ | refine below_set ?_ GE1054.out | refine below_set ?_ GE1061.out | refine below_set ?_ GE1072.out) | exact HB.out)⟩
           (try clear HO_1062006)
           (try clear BK1054)
           (try clear BK1061)
           (try clear BK1072)
           (try clear HB)
           generalize ((((((((((w46.setCell ⟨gb1072, 0, none⟩ (.int .i64 t1066)).setCell ⟨gb1072, 1, none⟩ (.int .i64 t1067)).setCell ⟨gb1072, 2, none⟩ (.int .i64 t1068)).setCell ⟨gb1072, 3, none⟩ (.int .i64 t1069)).setCell ⟨gb1072, 4, none⟩ (.string t1070)).setCell ⟨gb1061, 1, none⟩ (.int .i64 t1066)).setCell ⟨gb1061, 2, none⟩ (.int .i64 t1067)).setCell ⟨gb1061, 3, none⟩ (.int .i64 t1068)).setCell ⟨gb1061, 4, none⟩ (.int .i64 t1069)).setCell ⟨gb1061, 5, none⟩ (.string t1070)) = w52 at n0_ n1_ n2_ n3_ n4_ ⊢
           have HO_1062006 := n0_
           have BK1054 := n1_
           have BK1061 := n2_
           have BK1072 := n3_
           have HB := n4_
           clear n0_ n1_ n2_ n3_ n4_
           have n0_ := am_ (Kd.R_drew HO_1062006.out)
           have n1_ := am_ (blk_drew BK1054.out)
           have n2_ := am_ (blk_drew BK1061.out)
           have n3_ := am_ (blk_drew BK1072.out)
           have n4_ := am_ (below_drew1 HB.out)
           clear HO_1062006
           clear BK1054
           clear BK1061
           clear BK1072
           clear HB
           have HO_1062006 := n0_
           have BK1054 := n1_
           have BK1061 := n2_
           have BK1072 := n3_
           have HB := n4_
           clear n0_ n1_ n2_ n3_ n4_
           obtain ⟨Ao54, co54, eo54⟩ := Kd.R_slice HO_1062006.out
           (first | subst eo54 | (injection eo54 with f1_ f2_ f3_; have f4_ := f1_.symm; have f5_ := f3_.symm; clear f1_ f2_ f3_; subst f4_; subst f5_))
           refine start_ (n := 8) (S := fun w' => w'.cell? ⟨gb1061, 0, none⟩ = some (.bool false) ∧ w'.cell? ⟨gb1061, 1, none⟩ = some (.int .i64 t1066) ∧ w'.cell? ⟨gb1061, 2, none⟩ = some (.int .i64 t1067) ∧ w'.cell? ⟨gb1061, 3, none⟩ = some (.int .i64 t1068) ∧ w'.cell? ⟨gb1061, 4, none⟩ = some (.int .i64 t1069) ∧ w'.cell? ⟨gb1061, 5, none⟩ = some (.string t1070) ∧ w'.cell? ⟨gb1061, 6, none⟩ = some (.slice Ao54 x1062006_1.length co54)) (ds := []) #[false, false, false, false, false, false, false, false] (by kernel_rfl) rfl rfl ⟨(blk_cell BK1061.out 0).trans rfl, (blk_cell BK1061.out 1).trans rfl, (blk_cell BK1061.out 2).trans rfl, (blk_cell BK1061.out 3).trans rfl, (blk_cell BK1061.out 4).trans rfl, (blk_cell BK1061.out 5).trans rfl, (blk_cell BK1061.out 6).trans rfl⟩ (fun hHeld => ?_); refine with_tabW spec_l02ReadBatch.tab16 spec_l02ReadBatch.bits16 (fun HT_ HW_ => ?_)
           generalize w52.drew = w53 at HO_1062006 BK1054 BK1061 BK1072 HB hHeld ⊢
           refine pure_ (i := 1) (N := some 74) (v := ?_) (a' := ?_) #[false, true, false, false, false, false, false, false] rfl rfl (any_of HT_.out (by kernel_rfl)) (fun _ _ _ h => h) (Or.inl ⟨by rfl, ?_⟩) ?_ ?_
           rotate_left
           ·intro w'
            go_simp
            with_reducible rfl
           rotate_left
           ·simp only [Act.put, p1_, p2_, p3_, i64_w, i32_w]
            rfl
           refine pure_ (i := 2) (N := some 75) (v := ?_) (a' := ?_) #[false, true, true, false, false, false, false, false] rfl rfl (any_of HT_.out (by kernel_rfl)) (fun _ _ _ h => h) (Or.inl ⟨by rfl, ?_⟩) ?_ ?_
           rotate_left
           ·intro w'
            go_simp
            with_reducible rfl
           rotate_left
           ·simp only [Act.put, p1_, p2_, p3_, i64_w, i32_w]
            rfl
           refine take_ (i := 0) (N := some 73) (v := ?_) (a' := ?_) #[true, true, true, false, false, false, false, false] rfl rfl (take_ofW HT_.out HW_.out (by kernel_rfl)) (fun _ _ _ h => h) (Or.inl ⟨by rfl, ?_⟩) hHeld ?_ ?_
           rotate_left
           ·rintro w' ⟨s0, s1, s2, s3, s4, s5, s6⟩
            go_simp
            with_reducible rfl
           rotate_left
           ·simp only [Act.put, p1_, p2_, p3_, i64_w, i32_w]
            rfl
           refine take_ (i := 3) (N := some 76) (v := ?_) (a' := ?_) #[true, true, true, true, false, false, false, false] rfl rfl (take_ofW HT_.out HW_.out (by kernel_rfl)) (fun _ _ _ h => h) (Or.inl ⟨by rfl, ?_⟩) hHeld ?_ ?_
           rotate_left
           ·rintro w' ⟨s0, s1, s2, s3, s4, s5, s6⟩
            go_simp
            with_reducible rfl
           rotate_left
           ·simp only [Act.put, p1_, p2_, p3_, i64_w, i32_w]
            rfl
           refine one_ (i := 4) (N := some 77) #[true, true, true, true, true, false, false, false] rfl rfl (one_of HT_.out (by kernel_rfl)) (by decide) (fun K hK => ?_)
           refine goes_ Try.func138 (by kernel_rfl) rfl #[.agg #[.bool false, .int .i64 t1066, .int .i64 t1067, .int .i64 t1068, .int .i64 t1069, .string t1070, .slice Ao54 x1062006_1.length co54]] (by rfl) rfl rfl (by (try simp only [m1_, m2_, m3_]); first | done | rfl | (simp only [d1_, d2_]; rfl)) ?_
           with_reducible refine (spec_l02BatchOK.calls k1 false t1066 t1067 t1068 t1069 t1070 _ _ x1062006_1 t1073 _ ?side1 ?side2 A44.out).mono ?_
           (case side1 => repeat (first | exact (Kd.R_reads' HO_1062006.out).2.2 | (with_reducible refine Kd.C_alloc ?_ _) | (with_reducible refine Kd.C_drewN ?_ _) | (with_reducible refine Kd.C_drew ?_)))
           (case side2 => exact (Kd.R_reads' HO_1062006.out).2.1)
           rintro e w55 ⟨rfl, hb⟩
           refine ⟨_, rfl, ?_⟩
           have n0_ := am_ (Kd.R_below (by (with_reducible repeat (first | apply r1_ | apply r2_ | apply r3_)); exact HO_1062006.out) hb)
           have n1_ := am_ (blk_below (g := gb1054) (o := .cells #[.bool false, .int .i64 0, .int .i64 0, .int .i64 0, .int .i64 0, .string (⟨#[]⟩ : ByteArray), .slice none 0 0] 67 (0, 0)) (by (with_reducible repeat (first | apply k1_ | apply k2_ | apply k3_)); exact BK1054.out) hb)
           have n2_ := am_ (blk_below (g := gb1061) (o := .cells #[.bool false, .int .i64 t1066, .int .i64 t1067, .int .i64 t1068, .int .i64 t1069, .string t1070, .slice Ao54 x1062006_1.length co54] 67 (0, 0)) (by (with_reducible repeat (first | apply k1_ | apply k2_ | apply k3_)); exact BK1061.out) hb)
           have n3_ := am_ (blk_below (g := gb1072) (o := .cells #[.int .i64 t1066, .int .i64 t1067, .int .i64 t1068, .int .i64 t1069, .string t1070] 36 (0, 0)) (by (with_reducible repeat (first | apply k1_ | apply k2_ | apply k3_)); exact BK1072.out) hb)
           have n4_ := am_ (below_step (by repeat (first | (with_reducible first | exact HB.out | apply b1_ | apply b2_ | apply b3_ | refine below_set ?_ GE1054.out | refine below_set ?_ GE1061.out | refine below_set ?_ GE1072.out) | exact HB.out)) hb)
           clear HO_1062006
           clear BK1054
           clear BK1061
           clear BK1072
           clear HB
           have HO_1062006 := n0_
           have BK1054 := n1_
           have BK1061 := n2_
           have BK1072 := n3_
           have HB := n4_
           clear n0_ n1_ n2_ n3_ n4_
           (try clear hb)
           (try clear hb2)
           (try clear hk)
           (try clear hi)
           refine hK.out _ _ ⟨(blk_cell BK1061.out 0).trans rfl, (blk_cell BK1061.out 1).trans rfl, (blk_cell BK1061.out 2).trans rfl, (blk_cell BK1061.out 3).trans rfl, (blk_cell BK1061.out 4).trans rfl, (blk_cell BK1061.out 5).trans rfl, (blk_cell BK1061.out 6).trans rfl⟩ (fun hHeld => ?_)
           clear hK K
           refine norm_ (a' := ?_) ?_ ?_
           rotate_left
           ·show Act.put _ (some 77) _ = _
            simp only [Act.put, p1_, p2_, p3_, i64_w, i32_w]
            rfl
           refine pure_ (i := 5) (N := some 78) (v := ?_) (a' := ?_) #[true, true, true, true, true, true, false, false] rfl rfl (any_of HT_.out (by kernel_rfl)) (fun _ _ _ h => h) (Or.inl ⟨by rfl, ?_⟩) ?_ ?_
           rotate_left
           ·intro w'
            go_simp
            with_reducible rfl
           rotate_left
           ·simp only [Act.put, p1_, p2_, p3_, i64_w, i32_w]
            rfl
           refine one_ (i := 6) (N := none) #[true, true, true, true, true, true, true, false] rfl rfl (one_of HT_.out (by kernel_rfl)) (by decide) (fun K hK => ?_)
           have hs56 : w55.cell? ⟨gb1054, 0, none⟩ = some (.bool false) := (blk_cell BK1054.out 0).trans rfl
           have hfs56 := blk_frozen BK1054.out 0
           have hns56_1 := NB1061_1054.out
           have hns56_2 := NB1072_1054.out
           have hms56_1 := NB1054_1061.out
           have hms56_2 := NB1054_1072.out
           have hs57 : w55.cell? ⟨gb1054, 1, none⟩ = some (.int .i64 0) := (blk_cell BK1054.out 1).trans rfl
           have hfs57 := blk_frozen BK1054.out 1
           have hns57_1 := NB1061_1054.out
           have hns57_2 := NB1072_1054.out
           have hms57_1 := NB1054_1061.out
           have hms57_2 := NB1054_1072.out
           have hs58 : w55.cell? ⟨gb1054, 2, none⟩ = some (.int .i64 0) := (blk_cell BK1054.out 2).trans rfl
           have hfs58 := blk_frozen BK1054.out 2
           have hns58_1 := NB1061_1054.out
           have hns58_2 := NB1072_1054.out
           have hms58_1 := NB1054_1061.out
           have hms58_2 := NB1054_1072.out
           have hs59 : w55.cell? ⟨gb1054, 3, none⟩ = some (.int .i64 0) := (blk_cell BK1054.out 3).trans rfl
           have hfs59 := blk_frozen BK1054.out 3
           have hns59_1 := NB1061_1054.out
           have hns59_2 := NB1072_1054.out
           have hms59_1 := NB1054_1061.out
           have hms59_2 := NB1054_1072.out
           have hs60 : w55.cell? ⟨gb1054, 4, none⟩ = some (.int .i64 0) := (blk_cell BK1054.out 4).trans rfl
           have hfs60 := blk_frozen BK1054.out 4
           have hns60_1 := NB1061_1054.out
           have hns60_2 := NB1072_1054.out
           have hms60_1 := NB1054_1061.out
           have hms60_2 := NB1054_1072.out
           have hs61 : w55.cell? ⟨gb1054, 5, none⟩ = some (.string (⟨#[]⟩ : ByteArray)) := (blk_cell BK1054.out 5).trans rfl
           have hfs61 := blk_frozen BK1054.out 5
           have hns61_1 := NB1061_1054.out
           have hns61_2 := NB1072_1054.out
           have hms61_1 := NB1054_1061.out
           have hms61_2 := NB1054_1072.out
           have hs62 : w55.cell? ⟨gb1054, 6, none⟩ = some (.slice none 0 0) := (blk_cell BK1054.out 6).trans rfl
           have hfs62 := blk_frozen BK1054.out 6
           have hns62_1 := NB1061_1054.out
           have hns62_2 := NB1072_1054.out
           have hms62_1 := NB1054_1061.out
           have hms62_2 := NB1054_1072.out
           refine skip_ (w1 := ?_) (by rfl) rfl ?_ ?_
           rotate_left
           ·go_simp
            rfl
           refine hK.out _ _ ⟨((cell_far (p := ⟨gb1054, _, none⟩) NB1061_1054.out _).trans (((cell_far (p := ⟨gb1054, _, none⟩) NB1061_1054.out _).trans (((cell_far (p := ⟨gb1054, _, none⟩) NB1061_1054.out _).trans (((cell_far (p := ⟨gb1054, _, none⟩) NB1061_1054.out _).trans (((cell_far (p := ⟨gb1054, _, none⟩) NB1061_1054.out _).trans (((cell_far (p := ⟨gb1054, _, none⟩) NB1061_1054.out _).trans (((cell_far (p := ⟨gb1054, _, none⟩) NB1061_1054.out _).trans (hHeld.1)))))))))))))), ((cell_far (p := ⟨gb1054, _, none⟩) NB1061_1054.out _).trans (((cell_far (p := ⟨gb1054, _, none⟩) NB1061_1054.out _).trans (((cell_far (p := ⟨gb1054, _, none⟩) NB1061_1054.out _).trans (((cell_far (p := ⟨gb1054, _, none⟩) NB1061_1054.out _).trans (((cell_far (p := ⟨gb1054, _, none⟩) NB1061_1054.out _).trans (((cell_far (p := ⟨gb1054, _, none⟩) NB1061_1054.out _).trans (((cell_far (p := ⟨gb1054, _, none⟩) NB1061_1054.out _).trans (hHeld.2.1)))))))))))))), ((cell_far (p := ⟨gb1054, _, none⟩) NB1061_1054.out _).trans (((cell_far (p := ⟨gb1054, _, none⟩) NB1061_1054.out _).trans (((cell_far (p := ⟨gb1054, _, none⟩) NB1061_1054.out _).trans (((cell_far (p := ⟨gb1054, _, none⟩) NB1061_1054.out _).trans (((cell_far (p := ⟨gb1054, _, none⟩) NB1061_1054.out _).trans (((cell_far (p := ⟨gb1054, _, none⟩) NB1061_1054.out _).trans (((cell_far (p := ⟨gb1054, _, none⟩) NB1061_1054.out _).trans (hHeld.2.2.1)))))))))))))), ((cell_far (p := ⟨gb1054, _, none⟩) NB1061_1054.out _).trans (((cell_far (p := ⟨gb1054, _, none⟩) NB1061_1054.out _).trans (((cell_far (p := ⟨gb1054, _, none⟩) NB1061_1054.out _).trans (((cell_far (p := ⟨gb1054, _, none⟩) NB1061_1054.out _).trans (((cell_far (p := ⟨gb1054, _, none⟩) NB1061_1054.out _).trans (((cell_far (p := ⟨gb1054, _, none⟩) NB1061_1054.out _).trans (((cell_far (p := ⟨gb1054, _, none⟩) NB1061_1054.out _).trans (hHeld.2.2.2.1)))))))))))))), ((cell_far (p := ⟨gb1054, _, none⟩) NB1061_1054.out _).trans (((cell_far (p := ⟨gb1054, _, none⟩) NB1061_1054.out _).trans (((cell_far (p := ⟨gb1054, _, none⟩) NB1061_1054.out _).trans (((cell_far (p := ⟨gb1054, _, none⟩) NB1061_1054.out _).trans (((cell_far (p := ⟨gb1054, _, none⟩) NB1061_1054.out _).trans (((cell_far (p := ⟨gb1054, _, none⟩) NB1061_1054.out _).trans (((cell_far (p := ⟨gb1054, _, none⟩) NB1061_1054.out _).trans (hHeld.2.2.2.2.1)))))))))))))), ((cell_far (p := ⟨gb1054, _, none⟩) NB1061_1054.out _).trans (((cell_far (p := ⟨gb1054, _, none⟩) NB1061_1054.out _).trans (((cell_far (p := ⟨gb1054, _, none⟩) NB1061_1054.out _).trans (((cell_far (p := ⟨gb1054, _, none⟩) NB1061_1054.out _).trans (((cell_far (p := ⟨gb1054, _, none⟩) NB1061_1054.out _).trans (((cell_far (p := ⟨gb1054, _, none⟩) NB1061_1054.out _).trans (((cell_far (p := ⟨gb1054, _, none⟩) NB1061_1054.out _).trans (hHeld.2.2.2.2.2.1)))))))))))))), ((cell_far (p := ⟨gb1054, _, none⟩) NB1061_1054.out _).trans (((cell_far (p := ⟨gb1054, _, none⟩) NB1061_1054.out _).trans (((cell_far (p := ⟨gb1054, _, none⟩) NB1061_1054.out _).trans (((cell_far (p := ⟨gb1054, _, none⟩) NB1061_1054.out _).trans (((cell_far (p := ⟨gb1054, _, none⟩) NB1061_1054.out _).trans (((cell_far (p := ⟨gb1054, _, none⟩) NB1061_1054.out _).trans (((cell_far (p := ⟨gb1054, _, none⟩) NB1061_1054.out _).trans (hHeld.2.2.2.2.2.2))))))))))))))⟩ (fun hHeld => ?_)
           clear hK K
           refine pure_ (i := 7) (N := some 3) (v := ?_) (a' := ?_) #[true, true, true, true, true, true, true, true] rfl rfl (any_of HT_.out (by kernel_rfl)) (fun _ _ _ h => h) (Or.inl ⟨by rfl, ?_⟩) ?_ ?_
           rotate_left
           ·intro w'
            go_simp
            with_reducible rfl
           rotate_left
           ·simp only [Act.put, p1_, p2_, p3_, i64_w, i32_w]
            rfl
           refine done_ (done_of HT_.out (by kernel_rfl)) ?_
           try go_wp2
           refine bodyPost_ret (results_ct rfl _ _ gb1054 67 #[.bool false, .int .i64 t1066, .int .i64 t1067, .int .i64 t1068, .int .i64 t1069, .string t1070, .slice Ao54 x1062006_1.length co54] (0, 0) _ rfl (by (with_reducible repeat (first | apply k1_ | apply k2_ | apply k3_)); refine blk_put (cs := #[.bool false, .int .i64 t1066, .int .i64 t1067, .int .i64 t1068, .int .i64 t1069, .string t1070, .slice none 0 0]) ?_ 6 _ rfl; (with_reducible repeat (first | apply k1_ | apply k2_ | apply k3_)); refine blk_put (cs := #[.bool false, .int .i64 t1066, .int .i64 t1067, .int .i64 t1068, .int .i64 t1069, .string (⟨#[]⟩ : ByteArray), .slice none 0 0]) ?_ 5 _ rfl; (with_reducible repeat (first | apply k1_ | apply k2_ | apply k3_)); refine blk_put (cs := #[.bool false, .int .i64 t1066, .int .i64 t1067, .int .i64 t1068, .int .i64 0, .string (⟨#[]⟩ : ByteArray), .slice none 0 0]) ?_ 4 _ rfl; (with_reducible repeat (first | apply k1_ | apply k2_ | apply k3_)); refine blk_put (cs := #[.bool false, .int .i64 t1066, .int .i64 t1067, .int .i64 0, .int .i64 0, .string (⟨#[]⟩ : ByteArray), .slice none 0 0]) ?_ 3 _ rfl; (with_reducible repeat (first | apply k1_ | apply k2_ | apply k3_)); refine blk_put (cs := #[.bool false, .int .i64 t1066, .int .i64 0, .int .i64 0, .int .i64 0, .string (⟨#[]⟩ : ByteArray), .slice none 0 0]) ?_ 2 _ rfl; (with_reducible repeat (first | apply k1_ | apply k2_ | apply k3_)); refine blk_put (cs := #[.bool false, .int .i64 0, .int .i64 0, .int .i64 0, .int .i64 0, .string (⟨#[]⟩ : ByteArray), .slice none 0 0]) ?_ 1 _ rfl; (with_reducible repeat (first | apply k1_ | apply k2_ | apply k3_)); refine blk_put (cs := #[.bool false, .int .i64 0, .int .i64 0, .int .i64 0, .int .i64 0, .string (⟨#[]⟩ : ByteArray), .slice none 0 0]) ?_ 0 _ rfl; (with_reducible repeat (first | apply k1_ | apply k2_ | apply k3_)); exact BK1054.out) Try.underlying67 rfl (by kernel_rfl)) rfl ?_
           exact ⟨_, by first | rfl | (simp [e1_, e2_] <;> rfl) | (simp only [← hji39]; first | rfl | (simp [e1_, e2_] <;> rfl)) | (simp [*, e1_, e2_] <;> rfl) | (simp [e3_, e4_]; done) | (simp [*, e3_, e4_]; done), by (with_reducible repeat (first | apply r1_ | apply r2_ | apply r3_)); exact Kd.R_mono (Kd.Rf (Kd.Rf (Kd.Rf (Kd.Rf (Kd.Rf (Kd.Rf (Kd.Rf (Kd.R_types HO_1062006.out BK1054.out (by decide))))))))) (fun _ hk => trivial), by repeat (first | (with_reducible first | exact HB.out | apply b1_ | apply b2_ | apply b3_ | refine below_set ?_ GE1054.out | refine below_set ?_ GE1061.out | refine below_set ?_ GE1072.out) | exact HB.out)⟩
          ·replace c43 := Bool.eq_false_iff.mpr c43
           subst c43
           have H1 : (some (false, t1066, t1067, t1068, t1069, t1070, x1062006_1, false)) = some (r1, r2, r3, r4, r5, r6, r7, r8) := by rw [if_neg (show ¬ (false = true) by decide)] at H; exact H
           clear H
           have H := H1
           clear H1
           simp only [Option.some.injEq, Prod.mk.injEq] at H
           obtain ⟨rfl, rfl, rfl, rfl, rfl, rfl, rfl, rfl⟩ := H
           try go_wp2_with (first | ((with_reducible refine gate_callee (f := 137) rfl ?_); refine goesL_ (some 68) rfl rfl Try.func137 (by kernel_rfl) rfl #[.string (a0.extract ((ji39) : Int).toNat a0.size)] rfl (by (try simp only [m1_, m2_, m3_]); first | done | (simp only [hji39]; rfl) | rfl | (simp only [d1_, d2_]; rfl)) ?_; (with_reducible refine (spec_l02ReadRequest.calls k1 (a0.extract ((ji39) : Int).toNat a0.size) t1066 t1067 t1068 t1069 t1070 false _ A42.out).mono ?_); rintro e w63 ⟨rfl, hb⟩; refine ⟨_, rfl, ?_⟩; have n0_ := am_ (Kd.R_below (by (with_reducible repeat (first | apply r1_ | apply r2_ | apply r3_)); exact HO_1062006.out) hb); have n1_ := am_ (blk_below (g := gb1054) (o := .cells #[.bool false, .int .i64 0, .int .i64 0, .int .i64 0, .int .i64 0, .string (⟨#[]⟩ : ByteArray), .slice none 0 0] 67 (0, 0)) (by (with_reducible repeat (first | apply k1_ | apply k2_ | apply k3_)); exact BK1054.out) hb); have n2_ := am_ (blk_below (g := gb1061) (o := .cells #[.bool false, .int .i64 0, .int .i64 0, .int .i64 0, .int .i64 0, .string (⟨#[]⟩ : ByteArray), u1062006] 67 (0, 0)) (by (with_reducible repeat (first | apply k1_ | apply k2_ | apply k3_)); exact BK1061.out) hb); have n3_ := am_ (below_step (by repeat (first | (with_reducible first | exact HB.out | apply b1_ | apply b2_ | apply b3_ | refine below_set ?_ GE1054.out | refine below_set ?_ GE1061.out) | exact HB.out)) hb); clear HO_1062006; clear BK1054; clear BK1061; clear HB; have HO_1062006 := n0_; have BK1054 := n1_; have BK1061 := n2_; have HB := n3_; clear n0_ n1_ n2_ n3_; (try clear hb); (try clear hb2); (try clear hk); (try clear hi)) | ((with_reducible refine gate_dst (N := 8) rfl ?_); refine box_event ?hg (N := 8) ?hd (cs := #[.int .i64 0, .int .i64 0, .int .i64 0, .int .i64 0, .string (⟨#[]⟩ : ByteArray)]) (t := 36) ?hr ?_; (case hd => rfl); (case hg => rfl); (case hr => first | (go_simp; done) | (go_simp; rfl)); intro gb1072 hg w64 hbox hb; have n0_ := am_ (Kd.R_below (by (with_reducible repeat (first | apply r1_ | apply r2_ | apply r3_)); exact HO_1062006.out) hb); have n1_ := am_ (blk_below (g := gb1054) (o := .cells #[.bool false, .int .i64 0, .int .i64 0, .int .i64 0, .int .i64 0, .string (⟨#[]⟩ : ByteArray), .slice none 0 0] 67 (0, 0)) (by (with_reducible repeat (first | apply k1_ | apply k2_ | apply k3_)); exact BK1054.out) hb); have n2_ := am_ (blk_below (g := gb1061) (o := .cells #[.bool false, .int .i64 0, .int .i64 0, .int .i64 0, .int .i64 0, .string (⟨#[]⟩ : ByteArray), u1062006] 67 (0, 0)) (by (with_reducible repeat (first | apply k1_ | apply k2_ | apply k3_)); exact BK1061.out) hb); have n3_ := am_ (below_step (by repeat (first | (with_reducible first | exact HB.out | apply b1_ | apply b2_ | apply b3_ | refine below_set ?_ GE1054.out | refine below_set ?_ GE1061.out) | exact HB.out)) hb); have n4_ := am_ (hbox); have n5_ := am_ ((by rw [hg]; exact (below_size (by repeat (first | (with_reducible first | exact HB.out | apply b1_ | apply b2_ | apply b3_ | refine below_set ?_ GE1054.out | refine below_set ?_ GE1061.out) | exact HB.out))) : w.heap.size ≤ gb1072)); have n6_ := am_ ((by rw [hg]; exact (below_size (by repeat (first | (with_reducible first | exact HB.out | apply b1_ | apply b2_ | apply b3_ | refine below_set ?_ GE1054.out | refine below_set ?_ GE1061.out) | exact HB.out))) : w.heap.size ≤ gb1072)); have n7_ := am_ ((by rw [hg]; exact Nat.ne_of_lt (blk_lt (g := gb1054) (o := .cells #[.bool false, .int .i64 0, .int .i64 0, .int .i64 0, .int .i64 0, .string (⟨#[]⟩ : ByteArray), .slice none 0 0] 67 (0, 0)) (by (with_reducible repeat (first | apply k1_ | apply k2_ | apply k3_)); exact BK1054.out)) : gb1054 ≠ gb1072)); have n8_ := am_ ((by rw [hg]; exact Nat.ne_of_gt (blk_lt (g := gb1054) (o := .cells #[.bool false, .int .i64 0, .int .i64 0, .int .i64 0, .int .i64 0, .string (⟨#[]⟩ : ByteArray), .slice none 0 0] 67 (0, 0)) (by (with_reducible repeat (first | apply k1_ | apply k2_ | apply k3_)); exact BK1054.out)) : gb1072 ≠ gb1054)); have n9_ := am_ ((by rw [hg]; exact Nat.ne_of_lt (blk_lt (g := gb1061) (o := .cells #[.bool false, .int .i64 0, .int .i64 0, .int .i64 0, .int .i64 0, .string (⟨#[]⟩ : ByteArray), u1062006] 67 (0, 0)) (by (with_reducible repeat (first | apply k1_ | apply k2_ | apply k3_)); exact BK1061.out)) : gb1061 ≠ gb1072)); have n10_ := am_ ((by rw [hg]; exact Nat.ne_of_gt (blk_lt (g := gb1061) (o := .cells #[.bool false, .int .i64 0, .int .i64 0, .int .i64 0, .int .i64 0, .string (⟨#[]⟩ : ByteArray), u1062006] 67 (0, 0)) (by (with_reducible repeat (first | apply k1_ | apply k2_ | apply k3_)); exact BK1061.out)) : gb1072 ≠ gb1061)); clear HO_1062006; clear BK1054; clear BK1061; clear HB; have HO_1062006 := n0_; have BK1054 := n1_; have BK1061 := n2_; have HB := n3_; have BK1072 := n4_; have GW1072 := n5_; have GE1072 := n6_; have NB1054_1072 := n7_; have NB1072_1054 := n8_; have NB1061_1072 := n9_; have NB1072_1061 := n10_; clear n0_ n1_ n2_ n3_ n4_ n5_ n6_ n7_ n8_ n9_ n10_; clear hb hbox hg; have hnb65 := NB1072_1054.out; have hnc65 := NB1054_1072.out; have hnb66 := NB1072_1061.out; have hnc66 := NB1061_1072.out; have hcz67_0 : w64.cell? ⟨gb1072, 0, none⟩ = some (.int .i64 0) := (blk_cell BK1072.out 0).trans rfl; have hcz67_1 : w64.cell? ⟨gb1072, 1, none⟩ = some (.int .i64 0) := (blk_cell BK1072.out 1).trans rfl; have hcz67_2 : w64.cell? ⟨gb1072, 2, none⟩ = some (.int .i64 0) := (blk_cell BK1072.out 2).trans rfl; have hcz67_3 : w64.cell? ⟨gb1072, 3, none⟩ = some (.int .i64 0) := (blk_cell BK1072.out 3).trans rfl; have hcz67_4 : w64.cell? ⟨gb1072, 4, none⟩ = some (.string (⟨#[]⟩ : ByteArray)) := (blk_cell BK1072.out 4).trans rfl; have hfz67_0 := blk_frozen BK1072.out 0; have hfz67_1 := blk_frozen BK1072.out 1; have hfz67_2 := blk_frozen BK1072.out 2; have hfz67_3 := blk_frozen BK1072.out 3; have hfz67_4 := blk_frozen BK1072.out 4; have hnb68 := NB1061_1054.out; have hnc68 := NB1054_1061.out; have hcz69_0 : w64.cell? ⟨gb1061, 0, none⟩ = some (.bool false) := (blk_cell BK1061.out 0).trans rfl; have hcz69_1 : w64.cell? ⟨gb1061, 1, none⟩ = some (.int .i64 0) := (blk_cell BK1061.out 1).trans rfl; have hcz69_2 : w64.cell? ⟨gb1061, 2, none⟩ = some (.int .i64 0) := (blk_cell BK1061.out 2).trans rfl; have hcz69_3 : w64.cell? ⟨gb1061, 3, none⟩ = some (.int .i64 0) := (blk_cell BK1061.out 3).trans rfl; have hcz69_4 : w64.cell? ⟨gb1061, 4, none⟩ = some (.int .i64 0) := (blk_cell BK1061.out 4).trans rfl; have hcz69_5 : w64.cell? ⟨gb1061, 5, none⟩ = some (.string (⟨#[]⟩ : ByteArray)) := (blk_cell BK1061.out 5).trans rfl; have hcz69_6 : w64.cell? ⟨gb1061, 6, none⟩ = some (u1062006) := (blk_cell BK1061.out 6).trans rfl; have hfz69_0 := blk_frozen BK1061.out 0; have hfz69_1 := blk_frozen BK1061.out 1; have hfz69_2 := blk_frozen BK1061.out 2; have hfz69_3 := blk_frozen BK1061.out 3; have hfz69_4 := blk_frozen BK1061.out 4; have hfz69_5 := blk_frozen BK1061.out 5; have hfz69_6 := blk_frozen BK1061.out 6))
           have n0_ : Aside0 (Kd.R k161 161 ((((((((((w64.setCell ⟨gb1072, 0, none⟩ (.int .i64 t1066)).setCell ⟨gb1072, 1, none⟩ (.int .i64 t1067)).setCell ⟨gb1072, 2, none⟩ (.int .i64 t1068)).setCell ⟨gb1072, 3, none⟩ (.int .i64 t1069)).setCell ⟨gb1072, 4, none⟩ (.string t1070)).setCell ⟨gb1061, 1, none⟩ (.int .i64 t1066)).setCell ⟨gb1061, 2, none⟩ (.int .i64 t1067)).setCell ⟨gb1061, 3, none⟩ (.int .i64 t1068)).setCell ⟨gb1061, 4, none⟩ (.int .i64 t1069)).setCell ⟨gb1061, 5, none⟩ (.string t1070)) w.heap.size (fun _ => True) u1062006 x1062006_1) := ⟨by (with_reducible repeat (first | apply r1_ | apply r2_ | apply r3_)); exact Kd.R_mono (Kd.Rf (Kd.Rf (Kd.Rf (Kd.Rf (Kd.Rf (Kd.R_far (p := ⟨gb1072, 4, none⟩) (Kd.R_far (p := ⟨gb1072, 3, none⟩) (Kd.R_far (p := ⟨gb1072, 2, none⟩) (Kd.R_far (p := ⟨gb1072, 1, none⟩) (Kd.R_far (p := ⟨gb1072, 0, none⟩) (Kd.R_types (Kd.R_types HO_1062006.out BK1072.out (by decide)) BK1061.out (by decide)) (fun _ hk => hk.1.2) (.int .i64 t1066)) (fun _ hk => hk.1.2) (.int .i64 t1067)) (fun _ hk => hk.1.2) (.int .i64 t1068)) (fun _ hk => hk.1.2) (.int .i64 t1069)) (fun _ hk => hk.1.2) (.string t1070))))))) (fun _ hk => trivial)⟩
           have n1_ : Aside0 (((((((((((w64.setCell ⟨gb1072, 0, none⟩ (.int .i64 t1066)).setCell ⟨gb1072, 1, none⟩ (.int .i64 t1067)).setCell ⟨gb1072, 2, none⟩ (.int .i64 t1068)).setCell ⟨gb1072, 3, none⟩ (.int .i64 t1069)).setCell ⟨gb1072, 4, none⟩ (.string t1070)).setCell ⟨gb1061, 1, none⟩ (.int .i64 t1066)).setCell ⟨gb1061, 2, none⟩ (.int .i64 t1067)).setCell ⟨gb1061, 3, none⟩ (.int .i64 t1068)).setCell ⟨gb1061, 4, none⟩ (.int .i64 t1069)).setCell ⟨gb1061, 5, none⟩ (.string t1070)).heap[gb1054]? = some (.cells #[.bool false, .int .i64 0, .int .i64 0, .int .i64 0, .int .i64 0, .string (⟨#[]⟩ : ByteArray), .slice none 0 0] 67 (0, 0))) := ⟨by (with_reducible repeat (first | apply k1_ | apply k2_ | apply k3_)); refine blk_far ?_ NB1054_1061.out _; (with_reducible repeat (first | apply k1_ | apply k2_ | apply k3_)); refine blk_far ?_ NB1054_1061.out _; (with_reducible repeat (first | apply k1_ | apply k2_ | apply k3_)); refine blk_far ?_ NB1054_1061.out _; (with_reducible repeat (first | apply k1_ | apply k2_ | apply k3_)); refine blk_far ?_ NB1054_1061.out _; (with_reducible repeat (first | apply k1_ | apply k2_ | apply k3_)); refine blk_far ?_ NB1054_1061.out _; (with_reducible repeat (first | apply k1_ | apply k2_ | apply k3_)); refine blk_far ?_ NB1054_1072.out _; (with_reducible repeat (first | apply k1_ | apply k2_ | apply k3_)); refine blk_far ?_ NB1054_1072.out _; (with_reducible repeat (first | apply k1_ | apply k2_ | apply k3_)); refine blk_far ?_ NB1054_1072.out _; (with_reducible repeat (first | apply k1_ | apply k2_ | apply k3_)); refine blk_far ?_ NB1054_1072.out _; (with_reducible repeat (first | apply k1_ | apply k2_ | apply k3_)); refine blk_far ?_ NB1054_1072.out _; (with_reducible repeat (first | apply k1_ | apply k2_ | apply k3_)); exact BK1054.out⟩
           have n2_ : Aside0 (((((((((((w64.setCell ⟨gb1072, 0, none⟩ (.int .i64 t1066)).setCell ⟨gb1072, 1, none⟩ (.int .i64 t1067)).setCell ⟨gb1072, 2, none⟩ (.int .i64 t1068)).setCell ⟨gb1072, 3, none⟩ (.int .i64 t1069)).setCell ⟨gb1072, 4, none⟩ (.string t1070)).setCell ⟨gb1061, 1, none⟩ (.int .i64 t1066)).setCell ⟨gb1061, 2, none⟩ (.int .i64 t1067)).setCell ⟨gb1061, 3, none⟩ (.int .i64 t1068)).setCell ⟨gb1061, 4, none⟩ (.int .i64 t1069)).setCell ⟨gb1061, 5, none⟩ (.string t1070)).heap[gb1061]? = some (.cells #[.bool false, .int .i64 t1066, .int .i64 t1067, .int .i64 t1068, .int .i64 t1069, .string t1070, u1062006] 67 (0, 0))) := ⟨by (with_reducible repeat (first | apply k1_ | apply k2_ | apply k3_)); refine blk_put (cs := #[.bool false, .int .i64 t1066, .int .i64 t1067, .int .i64 t1068, .int .i64 t1069, .string (⟨#[]⟩ : ByteArray), u1062006]) ?_ 5 _ rfl; (with_reducible repeat (first | apply k1_ | apply k2_ | apply k3_)); refine blk_put (cs := #[.bool false, .int .i64 t1066, .int .i64 t1067, .int .i64 t1068, .int .i64 0, .string (⟨#[]⟩ : ByteArray), u1062006]) ?_ 4 _ rfl; (with_reducible repeat (first | apply k1_ | apply k2_ | apply k3_)); refine blk_put (cs := #[.bool false, .int .i64 t1066, .int .i64 t1067, .int .i64 0, .int .i64 0, .string (⟨#[]⟩ : ByteArray), u1062006]) ?_ 3 _ rfl; (with_reducible repeat (first | apply k1_ | apply k2_ | apply k3_)); refine blk_put (cs := #[.bool false, .int .i64 t1066, .int .i64 0, .int .i64 0, .int .i64 0, .string (⟨#[]⟩ : ByteArray), u1062006]) ?_ 2 _ rfl; (with_reducible repeat (first | apply k1_ | apply k2_ | apply k3_)); refine blk_put (cs := #[.bool false, .int .i64 0, .int .i64 0, .int .i64 0, .int .i64 0, .string (⟨#[]⟩ : ByteArray), u1062006]) ?_ 1 _ rfl; (with_reducible repeat (first | apply k1_ | apply k2_ | apply k3_)); refine blk_far ?_ NB1061_1072.out _; (with_reducible repeat (first | apply k1_ | apply k2_ | apply k3_)); refine blk_far ?_ NB1061_1072.out _; (with_reducible repeat (first | apply k1_ | apply k2_ | apply k3_)); refine blk_far ?_ NB1061_1072.out _; (with_reducible repeat (first | apply k1_ | apply k2_ | apply k3_)); refine blk_far ?_ NB1061_1072.out _; (with_reducible repeat (first | apply k1_ | apply k2_ | apply k3_)); refine blk_far ?_ NB1061_1072.out _; (with_reducible repeat (first | apply k1_ | apply k2_ | apply k3_)); exact BK1061.out⟩
           have n3_ : Aside0 (((((((((((w64.setCell ⟨gb1072, 0, none⟩ (.int .i64 t1066)).setCell ⟨gb1072, 1, none⟩ (.int .i64 t1067)).setCell ⟨gb1072, 2, none⟩ (.int .i64 t1068)).setCell ⟨gb1072, 3, none⟩ (.int .i64 t1069)).setCell ⟨gb1072, 4, none⟩ (.string t1070)).setCell ⟨gb1061, 1, none⟩ (.int .i64 t1066)).setCell ⟨gb1061, 2, none⟩ (.int .i64 t1067)).setCell ⟨gb1061, 3, none⟩ (.int .i64 t1068)).setCell ⟨gb1061, 4, none⟩ (.int .i64 t1069)).setCell ⟨gb1061, 5, none⟩ (.string t1070)).heap[gb1072]? = some (.cells #[.int .i64 t1066, .int .i64 t1067, .int .i64 t1068, .int .i64 t1069, .string t1070] 36 (0, 0))) := ⟨by (with_reducible repeat (first | apply k1_ | apply k2_ | apply k3_)); refine blk_far ?_ NB1072_1061.out _; (with_reducible repeat (first | apply k1_ | apply k2_ | apply k3_)); refine blk_far ?_ NB1072_1061.out _; (with_reducible repeat (first | apply k1_ | apply k2_ | apply k3_)); refine blk_far ?_ NB1072_1061.out _; (with_reducible repeat (first | apply k1_ | apply k2_ | apply k3_)); refine blk_far ?_ NB1072_1061.out _; (with_reducible repeat (first | apply k1_ | apply k2_ | apply k3_)); refine blk_far ?_ NB1072_1061.out _; (with_reducible repeat (first | apply k1_ | apply k2_ | apply k3_)); refine blk_put (cs := #[.int .i64 t1066, .int .i64 t1067, .int .i64 t1068, .int .i64 t1069, .string (⟨#[]⟩ : ByteArray)]) ?_ 4 _ rfl; (with_reducible repeat (first | apply k1_ | apply k2_ | apply k3_)); refine blk_put (cs := #[.int .i64 t1066, .int .i64 t1067, .int .i64 t1068, .int .i64 0, .string (⟨#[]⟩ : ByteArray)]) ?_ 3 _ rfl; (with_reducible repeat (first | apply k1_ | apply k2_ | apply k3_)); refine blk_put (cs := #[.int .i64 t1066, .int .i64 t1067, .int .i64 0, .int .i64 0, .string (⟨#[]⟩ : ByteArray)]) ?_ 2 _ rfl; (with_reducible repeat (first | apply k1_ | apply k2_ | apply k3_)); refine blk_put (cs := #[.int .i64 t1066, .int .i64 0, .int .i64 0, .int .i64 0, .string (⟨#[]⟩ : ByteArray)]) ?_ 1 _ rfl; (with_reducible repeat (first | apply k1_ | apply k2_ | apply k3_)); refine blk_put (cs := #[.int .i64 0, .int .i64 0, .int .i64 0, .int .i64 0, .string (⟨#[]⟩ : ByteArray)]) ?_ 0 _ rfl; (with_reducible repeat (first | apply k1_ | apply k2_ | apply k3_)); exact BK1072.out⟩
           have n4_ : Aside0 (Below w.heap.size w ((((((((((w64.setCell ⟨gb1072, 0, none⟩ (.int .i64 t1066)).setCell ⟨gb1072, 1, none⟩ (.int .i64 t1067)).setCell ⟨gb1072, 2, none⟩ (.int .i64 t1068)).setCell ⟨gb1072, 3, none⟩ (.int .i64 t1069)).setCell ⟨gb1072, 4, none⟩ (.string t1070)).setCell ⟨gb1061, 1, none⟩ (.int .i64 t1066)).setCell ⟨gb1061, 2, none⟩ (.int .i64 t1067)).setCell ⟨gb1061, 3, none⟩ (.int .i64 t1068)).setCell ⟨gb1061, 4, none⟩ (.int .i64 t1069)).setCell ⟨gb1061, 5, none⟩ (.string t1070))) := ⟨by repeat (first | (with_reducible first | exact HB.out | apply b1_ | apply b2_ | apply b3_ | refine below_set ?_ GE1054.out | refine below_set ?_ GE1061.out | refine below_set ?_ GE1072.out) | exact HB.out)⟩
           (try clear HO_1062006)
           (try clear BK1054)
           (try clear BK1061)
           (try clear BK1072)
           (try clear HB)
           generalize ((((((((((w64.setCell ⟨gb1072, 0, none⟩ (.int .i64 t1066)).setCell ⟨gb1072, 1, none⟩ (.int .i64 t1067)).setCell ⟨gb1072, 2, none⟩ (.int .i64 t1068)).setCell ⟨gb1072, 3, none⟩ (.int .i64 t1069)).setCell ⟨gb1072, 4, none⟩ (.string t1070)).setCell ⟨gb1061, 1, none⟩ (.int .i64 t1066)).setCell ⟨gb1061, 2, none⟩ (.int .i64 t1067)).setCell ⟨gb1061, 3, none⟩ (.int .i64 t1068)).setCell ⟨gb1061, 4, none⟩ (.int .i64 t1069)).setCell ⟨gb1061, 5, none⟩ (.string t1070)) = w70 at n0_ n1_ n2_ n3_ n4_ ⊢
           have HO_1062006 := n0_
           have BK1054 := n1_
           have BK1061 := n2_
           have BK1072 := n3_
           have HB := n4_
           clear n0_ n1_ n2_ n3_ n4_
           have n0_ := am_ (Kd.R_drew HO_1062006.out)
           have n1_ := am_ (blk_drew BK1054.out)
           have n2_ := am_ (blk_drew BK1061.out)
           have n3_ := am_ (blk_drew BK1072.out)
           have n4_ := am_ (below_drew1 HB.out)
           clear HO_1062006
           clear BK1054
           clear BK1061
           clear BK1072
           clear HB
           have HO_1062006 := n0_
           have BK1054 := n1_
           have BK1061 := n2_
           have BK1072 := n3_
           have HB := n4_
           clear n0_ n1_ n2_ n3_ n4_
           obtain ⟨Ao78, co78, eo78⟩ := Kd.R_slice HO_1062006.out
           (first | subst eo78 | (injection eo78 with f1_ f2_ f3_; have f4_ := f1_.symm; have f5_ := f3_.symm; clear f1_ f2_ f3_; subst f4_; subst f5_))
           refine start_ (n := 8) (S := fun w' => w'.cell? ⟨gb1061, 0, none⟩ = some (.bool false) ∧ w'.cell? ⟨gb1061, 1, none⟩ = some (.int .i64 t1066) ∧ w'.cell? ⟨gb1061, 2, none⟩ = some (.int .i64 t1067) ∧ w'.cell? ⟨gb1061, 3, none⟩ = some (.int .i64 t1068) ∧ w'.cell? ⟨gb1061, 4, none⟩ = some (.int .i64 t1069) ∧ w'.cell? ⟨gb1061, 5, none⟩ = some (.string t1070) ∧ w'.cell? ⟨gb1061, 6, none⟩ = some (.slice Ao78 x1062006_1.length co78)) (ds := []) #[false, false, false, false, false, false, false, false] (by kernel_rfl) rfl rfl ⟨(blk_cell BK1061.out 0).trans rfl, (blk_cell BK1061.out 1).trans rfl, (blk_cell BK1061.out 2).trans rfl, (blk_cell BK1061.out 3).trans rfl, (blk_cell BK1061.out 4).trans rfl, (blk_cell BK1061.out 5).trans rfl, (blk_cell BK1061.out 6).trans rfl⟩ (fun hHeld => ?_); refine with_tabW spec_l02ReadBatch.tab16 spec_l02ReadBatch.bits16 (fun HT_ HW_ => ?_)
           generalize w70.drew = w71 at HO_1062006 BK1054 BK1061 BK1072 HB hHeld ⊢
           refine pure_ (i := 1) (N := some 74) (v := ?_) (a' := ?_) #[false, true, false, false, false, false, false, false] rfl rfl (any_of HT_.out (by kernel_rfl)) (fun _ _ _ h => h) (Or.inl ⟨by rfl, ?_⟩) ?_ ?_
           rotate_left
           ·intro w'
            go_simp
            with_reducible rfl
           rotate_left
           ·simp only [Act.put, p1_, p2_, p3_, i64_w, i32_w]
            rfl
           refine pure_ (i := 2) (N := some 75) (v := ?_) (a' := ?_) #[false, true, true, false, false, false, false, false] rfl rfl (any_of HT_.out (by kernel_rfl)) (fun _ _ _ h => h) (Or.inl ⟨by rfl, ?_⟩) ?_ ?_
           rotate_left
           ·intro w'
            go_simp
            with_reducible rfl
           rotate_left
           ·simp only [Act.put, p1_, p2_, p3_, i64_w, i32_w]
            rfl
           refine pure_ (i := 3) (N := some 76) (v := undef) (a' := ?_) #[false, true, true, true, false, false, false, false] rfl rfl (any_of HT_.out (by kernel_rfl)) (fun _ _ _ h => h) (Or.inr ⟨by rfl, rfl⟩) ?_ ?_
           rotate_left
           ·simp only [Act.put, p1_, p2_, p3_, i64_w, i32_w]
            rfl
           refine pure_ (i := 4) (N := some 77) (v := undef) (a' := ?_) #[false, true, true, true, true, false, false, false] rfl rfl (any_of HT_.out (by kernel_rfl)) (fun _ _ _ h => h) (Or.inr ⟨by rfl, rfl⟩) ?_ ?_
           rotate_left
           ·simp only [Act.put, p1_, p2_, p3_, i64_w, i32_w]
            rfl
           refine pure_ (i := 5) (N := some 78) (v := ?_) (a' := ?_) #[false, true, true, true, true, true, false, false] rfl rfl (any_of HT_.out (by kernel_rfl)) (fun _ _ _ h => h) (Or.inl ⟨by rfl, ?_⟩) ?_ ?_
           rotate_left
           ·intro w'
            go_simp
            with_reducible rfl
           rotate_left
           ·simp only [Act.put, p1_, p2_, p3_, i64_w, i32_w]
            rfl
           refine take_ (i := 0) (N := some 73) (v := ?_) (a' := ?_) #[true, true, true, true, true, true, false, false] rfl rfl (take_ofW HT_.out HW_.out (by kernel_rfl)) (fun _ _ _ h => h) (Or.inl ⟨by rfl, ?_⟩) hHeld ?_ ?_
           rotate_left
           ·rintro w' ⟨s0, s1, s2, s3, s4, s5, s6⟩
            go_simp
            with_reducible rfl
           rotate_left
           ·simp only [Act.put, p1_, p2_, p3_, i64_w, i32_w]
            rfl
           refine one_ (i := 6) (N := none) #[true, true, true, true, true, true, true, false] rfl rfl (one_of HT_.out (by kernel_rfl)) (by decide) (fun K hK => ?_)
           have hs72 : w71.cell? ⟨gb1054, 0, none⟩ = some (.bool false) := (blk_cell BK1054.out 0).trans rfl
           have hfs72 := blk_frozen BK1054.out 0
           have hns72_1 := NB1061_1054.out
           have hns72_2 := NB1072_1054.out
           have hms72_1 := NB1054_1061.out
           have hms72_2 := NB1054_1072.out
           have hs73 : w71.cell? ⟨gb1054, 1, none⟩ = some (.int .i64 0) := (blk_cell BK1054.out 1).trans rfl
           have hfs73 := blk_frozen BK1054.out 1
           have hns73_1 := NB1061_1054.out
           have hns73_2 := NB1072_1054.out
           have hms73_1 := NB1054_1061.out
           have hms73_2 := NB1054_1072.out
           have hs74 : w71.cell? ⟨gb1054, 2, none⟩ = some (.int .i64 0) := (blk_cell BK1054.out 2).trans rfl
           have hfs74 := blk_frozen BK1054.out 2
           have hns74_1 := NB1061_1054.out
           have hns74_2 := NB1072_1054.out
           have hms74_1 := NB1054_1061.out
           have hms74_2 := NB1054_1072.out
           have hs75 : w71.cell? ⟨gb1054, 3, none⟩ = some (.int .i64 0) := (blk_cell BK1054.out 3).trans rfl
           have hfs75 := blk_frozen BK1054.out 3
           have hns75_1 := NB1061_1054.out
           have hns75_2 := NB1072_1054.out
           have hms75_1 := NB1054_1061.out
           have hms75_2 := NB1054_1072.out
           have hs76 : w71.cell? ⟨gb1054, 4, none⟩ = some (.int .i64 0) := (blk_cell BK1054.out 4).trans rfl
           have hfs76 := blk_frozen BK1054.out 4
           have hns76_1 := NB1061_1054.out
           have hns76_2 := NB1072_1054.out
           have hms76_1 := NB1054_1061.out
           have hms76_2 := NB1054_1072.out
           have hs77 : w71.cell? ⟨gb1054, 5, none⟩ = some (.string (⟨#[]⟩ : ByteArray)) := (blk_cell BK1054.out 5).trans rfl
           have hfs77 := blk_frozen BK1054.out 5
           have hns77_1 := NB1061_1054.out
           have hns77_2 := NB1072_1054.out
           have hms77_1 := NB1054_1061.out
           have hms77_2 := NB1054_1072.out
           have hs79 : w71.cell? ⟨gb1054, 6, none⟩ = some (.slice none 0 0) := (blk_cell BK1054.out 6).trans rfl
           have hfs79 := blk_frozen BK1054.out 6
           have hns79_1 := NB1061_1054.out
           have hns79_2 := NB1072_1054.out
           have hms79_1 := NB1054_1061.out
           have hms79_2 := NB1054_1072.out
           refine skip_ (w1 := ?_) (by rfl) rfl ?_ ?_
           rotate_left
           ·go_simp
            rfl
           refine hK.out _ _ ⟨((cell_far (p := ⟨gb1054, _, none⟩) NB1061_1054.out _).trans (((cell_far (p := ⟨gb1054, _, none⟩) NB1061_1054.out _).trans (((cell_far (p := ⟨gb1054, _, none⟩) NB1061_1054.out _).trans (((cell_far (p := ⟨gb1054, _, none⟩) NB1061_1054.out _).trans (((cell_far (p := ⟨gb1054, _, none⟩) NB1061_1054.out _).trans (((cell_far (p := ⟨gb1054, _, none⟩) NB1061_1054.out _).trans (((cell_far (p := ⟨gb1054, _, none⟩) NB1061_1054.out _).trans (hHeld.1)))))))))))))), ((cell_far (p := ⟨gb1054, _, none⟩) NB1061_1054.out _).trans (((cell_far (p := ⟨gb1054, _, none⟩) NB1061_1054.out _).trans (((cell_far (p := ⟨gb1054, _, none⟩) NB1061_1054.out _).trans (((cell_far (p := ⟨gb1054, _, none⟩) NB1061_1054.out _).trans (((cell_far (p := ⟨gb1054, _, none⟩) NB1061_1054.out _).trans (((cell_far (p := ⟨gb1054, _, none⟩) NB1061_1054.out _).trans (((cell_far (p := ⟨gb1054, _, none⟩) NB1061_1054.out _).trans (hHeld.2.1)))))))))))))), ((cell_far (p := ⟨gb1054, _, none⟩) NB1061_1054.out _).trans (((cell_far (p := ⟨gb1054, _, none⟩) NB1061_1054.out _).trans (((cell_far (p := ⟨gb1054, _, none⟩) NB1061_1054.out _).trans (((cell_far (p := ⟨gb1054, _, none⟩) NB1061_1054.out _).trans (((cell_far (p := ⟨gb1054, _, none⟩) NB1061_1054.out _).trans (((cell_far (p := ⟨gb1054, _, none⟩) NB1061_1054.out _).trans (((cell_far (p := ⟨gb1054, _, none⟩) NB1061_1054.out _).trans (hHeld.2.2.1)))))))))))))), ((cell_far (p := ⟨gb1054, _, none⟩) NB1061_1054.out _).trans (((cell_far (p := ⟨gb1054, _, none⟩) NB1061_1054.out _).trans (((cell_far (p := ⟨gb1054, _, none⟩) NB1061_1054.out _).trans (((cell_far (p := ⟨gb1054, _, none⟩) NB1061_1054.out _).trans (((cell_far (p := ⟨gb1054, _, none⟩) NB1061_1054.out _).trans (((cell_far (p := ⟨gb1054, _, none⟩) NB1061_1054.out _).trans (((cell_far (p := ⟨gb1054, _, none⟩) NB1061_1054.out _).trans (hHeld.2.2.2.1)))))))))))))), ((cell_far (p := ⟨gb1054, _, none⟩) NB1061_1054.out _).trans (((cell_far (p := ⟨gb1054, _, none⟩) NB1061_1054.out _).trans (((cell_far (p := ⟨gb1054, _, none⟩) NB1061_1054.out _).trans (((cell_far (p := ⟨gb1054, _, none⟩) NB1061_1054.out _).trans (((cell_far (p := ⟨gb1054, _, none⟩) NB1061_1054.out _).trans (((cell_far (p := ⟨gb1054, _, none⟩) NB1061_1054.out _).trans (((cell_far (p := ⟨gb1054, _, none⟩) NB1061_1054.out _).trans (hHeld.2.2.2.2.1)))))))))))))), ((cell_far (p := ⟨gb1054, _, none⟩) NB1061_1054.out _).trans (((cell_far (p := ⟨gb1054, _, none⟩) NB1061_1054.out _).trans (((cell_far (p := ⟨gb1054, _, none⟩) NB1061_1054.out _).trans (((cell_far (p := ⟨gb1054, _, none⟩) NB1061_1054.out _).trans (((cell_far (p := ⟨gb1054, _, none⟩) NB1061_1054.out _).trans (((cell_far (p := ⟨gb1054, _, none⟩) NB1061_1054.out _).trans (((cell_far (p := ⟨gb1054, _, none⟩) NB1061_1054.out _).trans (hHeld.2.2.2.2.2.1)))))))))))))), ((cell_far (p := ⟨gb1054, _, none⟩) NB1061_1054.out _).trans (((cell_far (p := ⟨gb1054, _, none⟩) NB1061_1054.out _).trans (((cell_far (p := ⟨gb1054, _, none⟩) NB1061_1054.out _).trans (((cell_far (p := ⟨gb1054, _, none⟩) NB1061_1054.out _).trans (((cell_far (p := ⟨gb1054, _, none⟩) NB1061_1054.out _).trans (((cell_far (p := ⟨gb1054, _, none⟩) NB1061_1054.out _).trans (((cell_far (p := ⟨gb1054, _, none⟩) NB1061_1054.out _).trans (hHeld.2.2.2.2.2.2))))))))))))))⟩ (fun hHeld => ?_)
           clear hK K
           refine pure_ (i := 7) (N := some 3) (v := ?_) (a' := ?_) #[true, true, true, true, true, true, true, true] rfl rfl (any_of HT_.out (by kernel_rfl)) (fun _ _ _ h => h) (Or.inl ⟨by rfl, ?_⟩) ?_ ?_
           rotate_left
           ·intro w'
            go_simp
            with_reducible rfl
           rotate_left
           ·simp only [Act.put, p1_, p2_, p3_, i64_w, i32_w]
            rfl
           refine done_ (done_of HT_.out (by kernel_rfl)) ?_
           try go_wp2
           refine bodyPost_ret (results_ct rfl _ _ gb1054 67 #[.bool false, .int .i64 t1066, .int .i64 t1067, .int .i64 t1068, .int .i64 t1069, .string t1070, .slice Ao78 x1062006_1.length co78] (0, 0) _ rfl (by (with_reducible repeat (first | apply k1_ | apply k2_ | apply k3_)); refine blk_put (cs := #[.bool false, .int .i64 t1066, .int .i64 t1067, .int .i64 t1068, .int .i64 t1069, .string t1070, .slice none 0 0]) ?_ 6 _ rfl; (with_reducible repeat (first | apply k1_ | apply k2_ | apply k3_)); refine blk_put (cs := #[.bool false, .int .i64 t1066, .int .i64 t1067, .int .i64 t1068, .int .i64 t1069, .string (⟨#[]⟩ : ByteArray), .slice none 0 0]) ?_ 5 _ rfl; (with_reducible repeat (first | apply k1_ | apply k2_ | apply k3_)); refine blk_put (cs := #[.bool false, .int .i64 t1066, .int .i64 t1067, .int .i64 t1068, .int .i64 0, .string (⟨#[]⟩ : ByteArray), .slice none 0 0]) ?_ 4 _ rfl; (with_reducible repeat (first | apply k1_ | apply k2_ | apply k3_)); refine blk_put (cs := #[.bool false, .int .i64 t1066, .int .i64 t1067, .int .i64 0, .int .i64 0, .string (⟨#[]⟩ : ByteArray), .slice none 0 0]) ?_ 3 _ rfl; (with_reducible repeat (first | apply k1_ | apply k2_ | apply k3_)); refine blk_put (cs := #[.bool false, .int .i64 t1066, .int .i64 0, .int .i64 0, .int .i64 0, .string (⟨#[]⟩ : ByteArray), .slice none 0 0]) ?_ 2 _ rfl; (with_reducible repeat (first | apply k1_ | apply k2_ | apply k3_)); refine blk_put (cs := #[.bool false, .int .i64 0, .int .i64 0, .int .i64 0, .int .i64 0, .string (⟨#[]⟩ : ByteArray), .slice none 0 0]) ?_ 1 _ rfl; (with_reducible repeat (first | apply k1_ | apply k2_ | apply k3_)); refine blk_put (cs := #[.bool false, .int .i64 0, .int .i64 0, .int .i64 0, .int .i64 0, .string (⟨#[]⟩ : ByteArray), .slice none 0 0]) ?_ 0 _ rfl; (with_reducible repeat (first | apply k1_ | apply k2_ | apply k3_)); exact BK1054.out) Try.underlying67 rfl (by kernel_rfl)) rfl ?_
           exact ⟨_, by first | rfl | (simp [e1_, e2_] <;> rfl) | (simp only [← hji39]; first | rfl | (simp [e1_, e2_] <;> rfl)) | (simp [*, e1_, e2_] <;> rfl) | (simp [e3_, e4_]; done) | (simp [*, e3_, e4_]; done), by (with_reducible repeat (first | apply r1_ | apply r2_ | apply r3_)); exact Kd.R_mono (Kd.Rf (Kd.Rf (Kd.Rf (Kd.Rf (Kd.Rf (Kd.Rf (Kd.Rf (Kd.R_types HO_1062006.out BK1054.out (by decide))))))))) (fun _ hk => trivial), by repeat (first | (with_reducible first | exact HB.out | apply b1_ | apply b2_ | apply b3_ | refine below_set ?_ GE1054.out | refine below_set ?_ GE1061.out | refine below_set ?_ GE1072.out) | exact HB.out)⟩
         ·rw [if_neg c41] at H
          exact absurd H (by simp)
        ·rw [if_neg c40] at H
         exact absurd H (by simp)
  ·rw [if_neg c5] at H
   exact absurd H (by simp)
set_option maxHeartbeats 8000000 in
set_option maxRecDepth 100000 in
theorem spec_ReadBatch.calls (k : Nat) (A0 : Option Addr) (c0 : Nat) (l0 : List Int) (r1 : Bool) (r2 : Int) (r3 : Int) (r4 : Int) (r5 : Int) (r6 : ByteArray) (r7 : List (S161)) (r8 : Int) (w : World) (hr0 : Kd.C (Kd.int .u8) w A0 l0.length l0) (hc0 : l0.length ≤ c0) (h : spec_ReadBatch.f k l0 = some (r1, r2, r3, r4, r5, r6, r7, r8)) :
  Calls Try.prog 43 #[.slice A0 l0.length c0] w fun e w' => ∃ v6_ : Value, e = .returned (.tuple #[.agg #[.bool r1, .int .i64 r2, .int .i64 r3, .int .i64 r4, .int .i64 r5, .string r6, v6_], .int .i64 r8]) ∧ Kd.R k161 161 w' w.heap.size (fun _ => True) v6_ r7 ∧ Below w.heap.size w w' := by
 have hu67 := Try.underlying67
 have HR0 := am_ hr0
 have HC0 := am_ hc0
 clear hr0 hc0
 have HB := am_ (Below.refl w.heap.size w)
 have H : (if (l0.length : Int) > 65536 then (some (false, 0, 0, 0, 0, (⟨#[]⟩ : ByteArray), ([] : List (S161)), 2)) else ((spec_l02ReadBatch.f k (strOfNums l0)).bind fun bt1075 => (if bt1075.2.2.2.2.2.2.2 = true then (some (bt1075.1, bt1075.2.1, bt1075.2.2.1, bt1075.2.2.2.1, bt1075.2.2.2.2.1, bt1075.2.2.2.2.2.1, bt1075.2.2.2.2.2.2.1, 0)) else (some (false, 0, 0, 0, 0, (⟨#[]⟩ : ByteArray), ([] : List (S161)), 3))))) = some (r1, r2, r3, r4, r5, r6, r7, r8) := h
 clear h
 by_cases c2 : (l0.length : Int) > 65536
 ·rw [if_pos c2] at H
  have c2b0 : decide (65536 < (l0.length : Int)) = true := decide_eq_true c2
  have c2b1 : decide (65536 < l0.length) = true := decide_eq_true (by omega)
  clear c2
  simp only [Option.some.injEq, Prod.mk.injEq] at H
  obtain ⟨rfl, rfl, rfl, rfl, rfl, rfl, rfl, rfl⟩ := H
  go_enter Try.func43, Try.ntmps43
  go_wp2_with (first | ((with_reducible refine gate_dst (N := 2) rfl ?_); refine box_event ?hg (N := 2) ?hd (cs := #[.bool false, .int .i64 0, .int .i64 0, .int .i64 0, .int .i64 0, .string (⟨#[]⟩ : ByteArray), .slice none 0 0]) (t := 67) ?hr ?_; (case hd => rfl); (case hg => rfl); (case hr => first | (go_simp; done) | (go_simp; rfl)); intro gb1074 hg w3 hbox hb; have n0_ := am_ (below_step (by repeat (first | (with_reducible first | exact HB.out | apply b1_ | apply b2_ | apply b3_) | exact HB.out)) hb); have n1_ := am_ (hbox); have n2_ := am_ ((by rw [hg]; exact (below_size (by repeat (first | (with_reducible first | exact HB.out | apply b1_ | apply b2_ | apply b3_) | exact HB.out))) : w.heap.size ≤ gb1074)); have n3_ := am_ ((by rw [hg]; exact (below_size (by repeat (first | (with_reducible first | exact HB.out | apply b1_ | apply b2_ | apply b3_) | exact HB.out))) : w.heap.size ≤ gb1074)); clear HB; have HB := n0_; have BK1074 := n1_; have GW1074 := n2_; have GE1074 := n3_; clear n0_ n1_ n2_ n3_; clear hb hbox hg; have hcz4_0 : w3.cell? ⟨gb1074, 0, none⟩ = some (.bool false) := (blk_cell BK1074.out 0).trans rfl; have hcz4_1 : w3.cell? ⟨gb1074, 1, none⟩ = some (.int .i64 0) := (blk_cell BK1074.out 1).trans rfl; have hcz4_2 : w3.cell? ⟨gb1074, 2, none⟩ = some (.int .i64 0) := (blk_cell BK1074.out 2).trans rfl; have hcz4_3 : w3.cell? ⟨gb1074, 3, none⟩ = some (.int .i64 0) := (blk_cell BK1074.out 3).trans rfl; have hcz4_4 : w3.cell? ⟨gb1074, 4, none⟩ = some (.int .i64 0) := (blk_cell BK1074.out 4).trans rfl; have hcz4_5 : w3.cell? ⟨gb1074, 5, none⟩ = some (.string (⟨#[]⟩ : ByteArray)) := (blk_cell BK1074.out 5).trans rfl; have hcz4_6 : w3.cell? ⟨gb1074, 6, none⟩ = some (.slice none 0 0) := (blk_cell BK1074.out 6).trans rfl; have hfz4_0 := blk_frozen BK1074.out 0; have hfz4_1 := blk_frozen BK1074.out 1; have hfz4_2 := blk_frozen BK1074.out 2; have hfz4_3 := blk_frozen BK1074.out 3; have hfz4_4 := blk_frozen BK1074.out 4; have hfz4_5 := blk_frozen BK1074.out 5; have hfz4_6 := blk_frozen BK1074.out 6))
  refine bodyPost_ret (results_ct rfl _ _ gb1074 67 #[.bool false, .int .i64 0, .int .i64 0, .int .i64 0, .int .i64 0, .string (⟨#[]⟩ : ByteArray), .slice none 0 0] (0, 0) _ rfl (by (with_reducible repeat (first | apply k1_ | apply k2_ | apply k3_)); refine blk_put (cs := #[.bool false, .int .i64 0, .int .i64 0, .int .i64 0, .int .i64 0, .string (⟨#[]⟩ : ByteArray), .slice none 0 0]) ?_ 6 _ rfl; (with_reducible repeat (first | apply k1_ | apply k2_ | apply k3_)); refine blk_put (cs := #[.bool false, .int .i64 0, .int .i64 0, .int .i64 0, .int .i64 0, .string (⟨#[]⟩ : ByteArray), .slice none 0 0]) ?_ 5 _ rfl; (with_reducible repeat (first | apply k1_ | apply k2_ | apply k3_)); refine blk_put (cs := #[.bool false, .int .i64 0, .int .i64 0, .int .i64 0, .int .i64 0, .string (⟨#[]⟩ : ByteArray), .slice none 0 0]) ?_ 4 _ rfl; (with_reducible repeat (first | apply k1_ | apply k2_ | apply k3_)); refine blk_put (cs := #[.bool false, .int .i64 0, .int .i64 0, .int .i64 0, .int .i64 0, .string (⟨#[]⟩ : ByteArray), .slice none 0 0]) ?_ 3 _ rfl; (with_reducible repeat (first | apply k1_ | apply k2_ | apply k3_)); refine blk_put (cs := #[.bool false, .int .i64 0, .int .i64 0, .int .i64 0, .int .i64 0, .string (⟨#[]⟩ : ByteArray), .slice none 0 0]) ?_ 2 _ rfl; (with_reducible repeat (first | apply k1_ | apply k2_ | apply k3_)); refine blk_put (cs := #[.bool false, .int .i64 0, .int .i64 0, .int .i64 0, .int .i64 0, .string (⟨#[]⟩ : ByteArray), .slice none 0 0]) ?_ 1 _ rfl; (with_reducible repeat (first | apply k1_ | apply k2_ | apply k3_)); refine blk_put (cs := #[.bool false, .int .i64 0, .int .i64 0, .int .i64 0, .int .i64 0, .string (⟨#[]⟩ : ByteArray), .slice none 0 0]) ?_ 0 _ rfl; (with_reducible repeat (first | apply k1_ | apply k2_ | apply k3_)); exact BK1074.out) Try.underlying67 rfl (by kernel_rfl)) rfl ?_
  exact ⟨_, by first | rfl | (simp [e1_, e2_] <;> rfl) | (simp [*, e1_, e2_] <;> rfl) | (simp [e3_, e4_]; done) | (simp [*, e3_, e4_]; done), by first | exact Kd.R_nil _ _ _ _ _ | exact Kd.N_nil _ _ _ _ _ | exact Kd.V_nil _ _ _ _ _ | exact Kd.Q_nil _ _ _ _ _ | exact Kd.S_nil _ _ _ _ _, by repeat (first | (with_reducible first | exact HB.out | apply b1_ | apply b2_ | apply b3_ | refine below_set ?_ GE1074.out) | exact HB.out)⟩
 ·rw [if_neg c2] at H
  have c2b0 : decide (65536 < (l0.length : Int)) = false := decide_eq_false c2
  have c2b1 : decide (65536 < l0.length) = false := decide_eq_false (by omega)
  clear c2
  replace H := Option.bind_eq_some_iff.mp H
  obtain ⟨⟨t1075, t1076, t1077, t1078, t1079, t1080, t1081, t1084⟩, A50, H⟩ := H
  replace H : (if t1084 = true then (some (t1075, t1076, t1077, t1078, t1079, t1080, t1081, 0)) else (some (false, 0, 0, 0, 0, (⟨#[]⟩ : ByteArray), ([] : List (S161)), 3))) = some (r1, r2, r3, r4, r5, r6, r7, r8) := H
  have A5 := am_ A50
  clear A50
  by_cases c6 : t1084 = true
  ·subst c6
   have H1 : (some (t1075, t1076, t1077, t1078, t1079, t1080, t1081, 0)) = some (r1, r2, r3, r4, r5, r6, r7, r8) := by rw [if_pos rfl] at H; exact H
   clear H
   have H := H1
   clear H1
   simp only [Option.some.injEq, Prod.mk.injEq] at H
   obtain ⟨rfl, rfl, rfl, rfl, rfl, rfl, rfl, rfl⟩ := H
   go_enter Try.func43, Try.ntmps43
   go_wp2_with (first | ((with_reducible refine gate_dst (N := 2) rfl ?_); refine box_event ?hg (N := 2) ?hd (cs := #[.bool false, .int .i64 0, .int .i64 0, .int .i64 0, .int .i64 0, .string (⟨#[]⟩ : ByteArray), .slice none 0 0]) (t := 67) ?hr ?_; (case hd => rfl); (case hg => rfl); (case hr => first | (go_simp; done) | (go_simp; rfl)); intro gb1074 hg w7 hbox hb; have n0_ := am_ (below_step (by repeat (first | (with_reducible first | exact HB.out | apply b1_ | apply b2_ | apply b3_) | exact HB.out)) hb); have n1_ := am_ (hbox); have n2_ := am_ ((by rw [hg]; exact (below_size (by repeat (first | (with_reducible first | exact HB.out | apply b1_ | apply b2_ | apply b3_) | exact HB.out))) : w.heap.size ≤ gb1074)); have n3_ := am_ ((by rw [hg]; exact (below_size (by repeat (first | (with_reducible first | exact HB.out | apply b1_ | apply b2_ | apply b3_) | exact HB.out))) : w.heap.size ≤ gb1074)); clear HB; have HB := n0_; have BK1074 := n1_; have GW1074 := n2_; have GE1074 := n3_; clear n0_ n1_ n2_ n3_; clear hb hbox hg; have hcv8 := Kd.C_string (P := Try.prog) (A := A0) (c := c0) Try.underlying24 Try.underlying5 Try.underlying9 (Kd.C_below HR0.out HB.out)) | ((with_reducible refine gate_callee (f := 92) rfl ?_); refine goesL_ (some 13) rfl rfl Try.func92 (by kernel_rfl) rfl #[.string (strOfNums l0)] rfl (by (try simp only [m1_, m2_, m3_]); first | done | rfl | (simp only [d1_, d2_]; rfl)) ?_; (with_reducible refine (spec_l02ReadBatch.calls k (strOfNums l0) t1075 t1076 t1077 t1078 t1079 t1080 t1081 true _ A5.out).mono ?_); rintro e w9 ⟨v1082, rfl, ho0, hb⟩; refine ⟨_, rfl, ?_⟩; have n0_ := am_ (Kd.R_lower ho0 (below_size (by repeat (first | (with_reducible first | exact HB.out | apply b1_ | apply b2_ | apply b3_ | refine below_set ?_ GE1074.out) | exact HB.out)))); have n1_ := am_ (blk_below (g := gb1074) (o := .cells #[.bool false, .int .i64 0, .int .i64 0, .int .i64 0, .int .i64 0, .string (⟨#[]⟩ : ByteArray), .slice none 0 0] 67 (0, 0)) (by (with_reducible repeat (first | apply k1_ | apply k2_ | apply k3_)); exact BK1074.out) hb); have n2_ := am_ (below_step (by repeat (first | (with_reducible first | exact HB.out | apply b1_ | apply b2_ | apply b3_ | refine below_set ?_ GE1074.out) | exact HB.out)) hb); clear BK1074; clear HB; have HO1083 := n0_; have BK1074 := n1_; have HB := n2_; clear n0_ n1_ n2_; (try clear hb); (try clear hb2); (try clear hk); (try clear hi); (try clear ho0)) | ((with_reducible refine gate_dst (N := 4) rfl ?_); refine box_event ?hg (N := 4) ?hd (cs := #[.bool false, .int .i64 0, .int .i64 0, .int .i64 0, .int .i64 0, .string (⟨#[]⟩ : ByteArray), .slice none 0 0]) (t := 67) ?hr ?_; (case hd => rfl); (case hg => rfl); (case hr => first | (go_simp; done) | (go_simp; rfl)); intro gb1085 hg w10 hbox hb; have n0_ := am_ (Kd.R_below (by (with_reducible repeat (first | apply r1_ | apply r2_ | apply r3_)); exact HO1083.out) hb); have n1_ := am_ (blk_below (g := gb1074) (o := .cells #[.bool false, .int .i64 0, .int .i64 0, .int .i64 0, .int .i64 0, .string (⟨#[]⟩ : ByteArray), .slice none 0 0] 67 (0, 0)) (by (with_reducible repeat (first | apply k1_ | apply k2_ | apply k3_)); exact BK1074.out) hb); have n2_ := am_ (below_step (by repeat (first | (with_reducible first | exact HB.out | apply b1_ | apply b2_ | apply b3_ | refine below_set ?_ GE1074.out) | exact HB.out)) hb); have n3_ := am_ (hbox); have n4_ := am_ ((by rw [hg]; exact (below_size (by repeat (first | (with_reducible first | exact HB.out | apply b1_ | apply b2_ | apply b3_ | refine below_set ?_ GE1074.out) | exact HB.out))) : w.heap.size ≤ gb1085)); have n5_ := am_ ((by rw [hg]; exact (below_size (by repeat (first | (with_reducible first | exact HB.out | apply b1_ | apply b2_ | apply b3_ | refine below_set ?_ GE1074.out) | exact HB.out))) : w.heap.size ≤ gb1085)); have n6_ := am_ ((by rw [hg]; exact Nat.ne_of_lt (blk_lt (g := gb1074) (o := .cells #[.bool false, .int .i64 0, .int .i64 0, .int .i64 0, .int .i64 0, .string (⟨#[]⟩ : ByteArray), .slice none 0 0] 67 (0, 0)) (by (with_reducible repeat (first | apply k1_ | apply k2_ | apply k3_)); exact BK1074.out)) : gb1074 ≠ gb1085)); have n7_ := am_ ((by rw [hg]; exact Nat.ne_of_gt (blk_lt (g := gb1074) (o := .cells #[.bool false, .int .i64 0, .int .i64 0, .int .i64 0, .int .i64 0, .string (⟨#[]⟩ : ByteArray), .slice none 0 0] 67 (0, 0)) (by (with_reducible repeat (first | apply k1_ | apply k2_ | apply k3_)); exact BK1074.out)) : gb1085 ≠ gb1074)); clear HO1083; clear BK1074; clear HB; have HO1083 := n0_; have BK1074 := n1_; have HB := n2_; have BK1085 := n3_; have GW1085 := n4_; have GE1085 := n5_; have NB1074_1085 := n6_; have NB1085_1074 := n7_; clear n0_ n1_ n2_ n3_ n4_ n5_ n6_ n7_; clear hb hbox hg; have hnb11 := NB1085_1074.out; have hnc11 := NB1074_1085.out; have hcz12_0 : w10.cell? ⟨gb1085, 0, none⟩ = some (.bool false) := (blk_cell BK1085.out 0).trans rfl; have hcz12_1 : w10.cell? ⟨gb1085, 1, none⟩ = some (.int .i64 0) := (blk_cell BK1085.out 1).trans rfl; have hcz12_2 : w10.cell? ⟨gb1085, 2, none⟩ = some (.int .i64 0) := (blk_cell BK1085.out 2).trans rfl; have hcz12_3 : w10.cell? ⟨gb1085, 3, none⟩ = some (.int .i64 0) := (blk_cell BK1085.out 3).trans rfl; have hcz12_4 : w10.cell? ⟨gb1085, 4, none⟩ = some (.int .i64 0) := (blk_cell BK1085.out 4).trans rfl; have hcz12_5 : w10.cell? ⟨gb1085, 5, none⟩ = some (.string (⟨#[]⟩ : ByteArray)) := (blk_cell BK1085.out 5).trans rfl; have hcz12_6 : w10.cell? ⟨gb1085, 6, none⟩ = some (.slice none 0 0) := (blk_cell BK1085.out 6).trans rfl; have hfz12_0 := blk_frozen BK1085.out 0; have hfz12_1 := blk_frozen BK1085.out 1; have hfz12_2 := blk_frozen BK1085.out 2; have hfz12_3 := blk_frozen BK1085.out 3; have hfz12_4 := blk_frozen BK1085.out 4; have hfz12_5 := blk_frozen BK1085.out 5; have hfz12_6 := blk_frozen BK1085.out 6; obtain ⟨Ao13, co13, eo13⟩ := Kd.R_slice HO1083.out; subst eo13; have hcz14_0 : w10.cell? ⟨gb1074, 0, none⟩ = some (.bool false) := (blk_cell BK1074.out 0).trans rfl; have hcz14_1 : w10.cell? ⟨gb1074, 1, none⟩ = some (.int .i64 0) := (blk_cell BK1074.out 1).trans rfl; have hcz14_2 : w10.cell? ⟨gb1074, 2, none⟩ = some (.int .i64 0) := (blk_cell BK1074.out 2).trans rfl; have hcz14_3 : w10.cell? ⟨gb1074, 3, none⟩ = some (.int .i64 0) := (blk_cell BK1074.out 3).trans rfl; have hcz14_4 : w10.cell? ⟨gb1074, 4, none⟩ = some (.int .i64 0) := (blk_cell BK1074.out 4).trans rfl; have hcz14_5 : w10.cell? ⟨gb1074, 5, none⟩ = some (.string (⟨#[]⟩ : ByteArray)) := (blk_cell BK1074.out 5).trans rfl; have hcz14_6 : w10.cell? ⟨gb1074, 6, none⟩ = some (.slice none 0 0) := (blk_cell BK1074.out 6).trans rfl; have hfz14_0 := blk_frozen BK1074.out 0; have hfz14_1 := blk_frozen BK1074.out 1; have hfz14_2 := blk_frozen BK1074.out 2; have hfz14_3 := blk_frozen BK1074.out 3; have hfz14_4 := blk_frozen BK1074.out 4; have hfz14_5 := blk_frozen BK1074.out 5; have hfz14_6 := blk_frozen BK1074.out 6))
   refine bodyPost_ret (results_ct rfl _ _ gb1074 67 #[.bool t1075, .int .i64 t1076, .int .i64 t1077, .int .i64 t1078, .int .i64 t1079, .string t1080, .slice Ao13 t1081.length co13] (0, 0) _ rfl (by (with_reducible repeat (first | apply k1_ | apply k2_ | apply k3_)); refine blk_put (cs := #[.bool t1075, .int .i64 t1076, .int .i64 t1077, .int .i64 t1078, .int .i64 t1079, .string t1080, .slice none 0 0]) ?_ 6 _ rfl; (with_reducible repeat (first | apply k1_ | apply k2_ | apply k3_)); refine blk_put (cs := #[.bool t1075, .int .i64 t1076, .int .i64 t1077, .int .i64 t1078, .int .i64 t1079, .string (⟨#[]⟩ : ByteArray), .slice none 0 0]) ?_ 5 _ rfl; (with_reducible repeat (first | apply k1_ | apply k2_ | apply k3_)); refine blk_put (cs := #[.bool t1075, .int .i64 t1076, .int .i64 t1077, .int .i64 t1078, .int .i64 0, .string (⟨#[]⟩ : ByteArray), .slice none 0 0]) ?_ 4 _ rfl; (with_reducible repeat (first | apply k1_ | apply k2_ | apply k3_)); refine blk_put (cs := #[.bool t1075, .int .i64 t1076, .int .i64 t1077, .int .i64 0, .int .i64 0, .string (⟨#[]⟩ : ByteArray), .slice none 0 0]) ?_ 3 _ rfl; (with_reducible repeat (first | apply k1_ | apply k2_ | apply k3_)); refine blk_put (cs := #[.bool t1075, .int .i64 t1076, .int .i64 0, .int .i64 0, .int .i64 0, .string (⟨#[]⟩ : ByteArray), .slice none 0 0]) ?_ 2 _ rfl; (with_reducible repeat (first | apply k1_ | apply k2_ | apply k3_)); refine blk_put (cs := #[.bool t1075, .int .i64 0, .int .i64 0, .int .i64 0, .int .i64 0, .string (⟨#[]⟩ : ByteArray), .slice none 0 0]) ?_ 1 _ rfl; (with_reducible repeat (first | apply k1_ | apply k2_ | apply k3_)); refine blk_put (cs := #[.bool false, .int .i64 0, .int .i64 0, .int .i64 0, .int .i64 0, .string (⟨#[]⟩ : ByteArray), .slice none 0 0]) ?_ 0 _ rfl; (with_reducible repeat (first | apply k1_ | apply k2_ | apply k3_)); refine blk_far ?_ NB1074_1085.out _; (with_reducible repeat (first | apply k1_ | apply k2_ | apply k3_)); refine blk_far ?_ NB1074_1085.out _; (with_reducible repeat (first | apply k1_ | apply k2_ | apply k3_)); refine blk_far ?_ NB1074_1085.out _; (with_reducible repeat (first | apply k1_ | apply k2_ | apply k3_)); refine blk_far ?_ NB1074_1085.out _; (with_reducible repeat (first | apply k1_ | apply k2_ | apply k3_)); refine blk_far ?_ NB1074_1085.out _; (with_reducible repeat (first | apply k1_ | apply k2_ | apply k3_)); refine blk_far ?_ NB1074_1085.out _; (with_reducible repeat (first | apply k1_ | apply k2_ | apply k3_)); refine blk_far ?_ NB1074_1085.out _; (with_reducible repeat (first | apply k1_ | apply k2_ | apply k3_)); exact BK1074.out) Try.underlying67 rfl (by kernel_rfl)) rfl ?_
   exact ⟨_, by first | rfl | (simp [e1_, e2_] <;> rfl) | (simp [*, e1_, e2_] <;> rfl) | (simp [e3_, e4_]; done) | (simp [*, e3_, e4_]; done), by (with_reducible repeat (first | apply r1_ | apply r2_ | apply r3_)); exact Kd.R_mono (Kd.Rf (Kd.Rf (Kd.Rf (Kd.Rf (Kd.Rf (Kd.Rf (Kd.Rf (Kd.R_far (p := ⟨gb1085, 6, none⟩) (Kd.R_far (p := ⟨gb1085, 5, none⟩) (Kd.R_far (p := ⟨gb1085, 4, none⟩) (Kd.R_far (p := ⟨gb1085, 3, none⟩) (Kd.R_far (p := ⟨gb1085, 2, none⟩) (Kd.R_far (p := ⟨gb1085, 1, none⟩) (Kd.R_far (p := ⟨gb1085, 0, none⟩) (Kd.R_types (Kd.R_types HO1083.out BK1085.out (by decide)) BK1074.out (by decide)) (fun _ hk => hk.1.2) (.bool t1075)) (fun _ hk => hk.1.2) (.int .i64 t1076)) (fun _ hk => hk.1.2) (.int .i64 t1077)) (fun _ hk => hk.1.2) (.int .i64 t1078)) (fun _ hk => hk.1.2) (.int .i64 t1079)) (fun _ hk => hk.1.2) (.string t1080)) (fun _ hk => hk.1.2) (.slice Ao13 t1081.length co13))))))))) (fun _ hk => trivial), by repeat (first | (with_reducible first | exact HB.out | apply b1_ | apply b2_ | apply b3_ | refine below_set ?_ GE1074.out | refine below_set ?_ GE1085.out) | exact HB.out)⟩
  ·replace c6 := Bool.eq_false_iff.mpr c6
   subst c6
   have H1 : (some (false, 0, 0, 0, 0, (⟨#[]⟩ : ByteArray), ([] : List (S161)), 3)) = some (r1, r2, r3, r4, r5, r6, r7, r8) := by rw [if_neg (show ¬ (false = true) by decide)] at H; exact H
   clear H
   have H := H1
   clear H1
   simp only [Option.some.injEq, Prod.mk.injEq] at H
   obtain ⟨rfl, rfl, rfl, rfl, rfl, rfl, rfl, rfl⟩ := H
   go_enter Try.func43, Try.ntmps43
   go_wp2_with (first | ((with_reducible refine gate_dst (N := 2) rfl ?_); refine box_event ?hg (N := 2) ?hd (cs := #[.bool false, .int .i64 0, .int .i64 0, .int .i64 0, .int .i64 0, .string (⟨#[]⟩ : ByteArray), .slice none 0 0]) (t := 67) ?hr ?_; (case hd => rfl); (case hg => rfl); (case hr => first | (go_simp; done) | (go_simp; rfl)); intro gb1074 hg w15 hbox hb; have n0_ := am_ (below_step (by repeat (first | (with_reducible first | exact HB.out | apply b1_ | apply b2_ | apply b3_) | exact HB.out)) hb); have n1_ := am_ (hbox); have n2_ := am_ ((by rw [hg]; exact (below_size (by repeat (first | (with_reducible first | exact HB.out | apply b1_ | apply b2_ | apply b3_) | exact HB.out))) : w.heap.size ≤ gb1074)); have n3_ := am_ ((by rw [hg]; exact (below_size (by repeat (first | (with_reducible first | exact HB.out | apply b1_ | apply b2_ | apply b3_) | exact HB.out))) : w.heap.size ≤ gb1074)); clear HB; have HB := n0_; have BK1074 := n1_; have GW1074 := n2_; have GE1074 := n3_; clear n0_ n1_ n2_ n3_; clear hb hbox hg; have hcv16 := Kd.C_string (P := Try.prog) (A := A0) (c := c0) Try.underlying24 Try.underlying5 Try.underlying9 (Kd.C_below HR0.out HB.out)) | ((with_reducible refine gate_callee (f := 92) rfl ?_); refine goesL_ (some 13) rfl rfl Try.func92 (by kernel_rfl) rfl #[.string (strOfNums l0)] rfl (by (try simp only [m1_, m2_, m3_]); first | done | rfl | (simp only [d1_, d2_]; rfl)) ?_; (with_reducible refine (spec_l02ReadBatch.calls k (strOfNums l0) t1075 t1076 t1077 t1078 t1079 t1080 t1081 false _ A5.out).mono ?_); rintro e w17 ⟨v1082, rfl, ho0, hb⟩; refine ⟨_, rfl, ?_⟩; have n0_ := am_ (Kd.R_lower ho0 (below_size (by repeat (first | (with_reducible first | exact HB.out | apply b1_ | apply b2_ | apply b3_ | refine below_set ?_ GE1074.out) | exact HB.out)))); have n1_ := am_ (blk_below (g := gb1074) (o := .cells #[.bool false, .int .i64 0, .int .i64 0, .int .i64 0, .int .i64 0, .string (⟨#[]⟩ : ByteArray), .slice none 0 0] 67 (0, 0)) (by (with_reducible repeat (first | apply k1_ | apply k2_ | apply k3_)); exact BK1074.out) hb); have n2_ := am_ (below_step (by repeat (first | (with_reducible first | exact HB.out | apply b1_ | apply b2_ | apply b3_ | refine below_set ?_ GE1074.out) | exact HB.out)) hb); clear BK1074; clear HB; have HO1083 := n0_; have BK1074 := n1_; have HB := n2_; clear n0_ n1_ n2_; (try clear hb); (try clear hb2); (try clear hk); (try clear hi); (try clear ho0)) | ((with_reducible refine gate_dst (N := 4) rfl ?_); refine box_event ?hg (N := 4) ?hd (cs := #[.bool false, .int .i64 0, .int .i64 0, .int .i64 0, .int .i64 0, .string (⟨#[]⟩ : ByteArray), .slice none 0 0]) (t := 67) ?hr ?_; (case hd => rfl); (case hg => rfl); (case hr => first | (go_simp; done) | (go_simp; rfl)); intro gb1085 hg w18 hbox hb; have n0_ := am_ (Kd.R_below (by (with_reducible repeat (first | apply r1_ | apply r2_ | apply r3_)); exact HO1083.out) hb); have n1_ := am_ (blk_below (g := gb1074) (o := .cells #[.bool false, .int .i64 0, .int .i64 0, .int .i64 0, .int .i64 0, .string (⟨#[]⟩ : ByteArray), .slice none 0 0] 67 (0, 0)) (by (with_reducible repeat (first | apply k1_ | apply k2_ | apply k3_)); exact BK1074.out) hb); have n2_ := am_ (below_step (by repeat (first | (with_reducible first | exact HB.out | apply b1_ | apply b2_ | apply b3_ | refine below_set ?_ GE1074.out) | exact HB.out)) hb); have n3_ := am_ (hbox); have n4_ := am_ ((by rw [hg]; exact (below_size (by repeat (first | (with_reducible first | exact HB.out | apply b1_ | apply b2_ | apply b3_ | refine below_set ?_ GE1074.out) | exact HB.out))) : w.heap.size ≤ gb1085)); have n5_ := am_ ((by rw [hg]; exact (below_size (by repeat (first | (with_reducible first | exact HB.out | apply b1_ | apply b2_ | apply b3_ | refine below_set ?_ GE1074.out) | exact HB.out))) : w.heap.size ≤ gb1085)); have n6_ := am_ ((by rw [hg]; exact Nat.ne_of_lt (blk_lt (g := gb1074) (o := .cells #[.bool false, .int .i64 0, .int .i64 0, .int .i64 0, .int .i64 0, .string (⟨#[]⟩ : ByteArray), .slice none 0 0] 67 (0, 0)) (by (with_reducible repeat (first | apply k1_ | apply k2_ | apply k3_)); exact BK1074.out)) : gb1074 ≠ gb1085)); have n7_ := am_ ((by rw [hg]; exact Nat.ne_of_gt (blk_lt (g := gb1074) (o := .cells #[.bool false, .int .i64 0, .int .i64 0, .int .i64 0, .int .i64 0, .string (⟨#[]⟩ : ByteArray), .slice none 0 0] 67 (0, 0)) (by (with_reducible repeat (first | apply k1_ | apply k2_ | apply k3_)); exact BK1074.out)) : gb1085 ≠ gb1074)); clear HO1083; clear BK1074; clear HB; have HO1083 := n0_; have BK1074 := n1_; have HB := n2_; have BK1085 := n3_; have GW1085 := n4_; have GE1085 := n5_; have NB1074_1085 := n6_; have NB1085_1074 := n7_; clear n0_ n1_ n2_ n3_ n4_ n5_ n6_ n7_; clear hb hbox hg; have hnb19 := NB1085_1074.out; have hnc19 := NB1074_1085.out; have hcz20_0 : w18.cell? ⟨gb1085, 0, none⟩ = some (.bool false) := (blk_cell BK1085.out 0).trans rfl; have hcz20_1 : w18.cell? ⟨gb1085, 1, none⟩ = some (.int .i64 0) := (blk_cell BK1085.out 1).trans rfl; have hcz20_2 : w18.cell? ⟨gb1085, 2, none⟩ = some (.int .i64 0) := (blk_cell BK1085.out 2).trans rfl; have hcz20_3 : w18.cell? ⟨gb1085, 3, none⟩ = some (.int .i64 0) := (blk_cell BK1085.out 3).trans rfl; have hcz20_4 : w18.cell? ⟨gb1085, 4, none⟩ = some (.int .i64 0) := (blk_cell BK1085.out 4).trans rfl; have hcz20_5 : w18.cell? ⟨gb1085, 5, none⟩ = some (.string (⟨#[]⟩ : ByteArray)) := (blk_cell BK1085.out 5).trans rfl; have hcz20_6 : w18.cell? ⟨gb1085, 6, none⟩ = some (.slice none 0 0) := (blk_cell BK1085.out 6).trans rfl; have hfz20_0 := blk_frozen BK1085.out 0; have hfz20_1 := blk_frozen BK1085.out 1; have hfz20_2 := blk_frozen BK1085.out 2; have hfz20_3 := blk_frozen BK1085.out 3; have hfz20_4 := blk_frozen BK1085.out 4; have hfz20_5 := blk_frozen BK1085.out 5; have hfz20_6 := blk_frozen BK1085.out 6; obtain ⟨Ao21, co21, eo21⟩ := Kd.R_slice HO1083.out; subst eo21; have hcz22_0 : w18.cell? ⟨gb1074, 0, none⟩ = some (.bool false) := (blk_cell BK1074.out 0).trans rfl; have hcz22_1 : w18.cell? ⟨gb1074, 1, none⟩ = some (.int .i64 0) := (blk_cell BK1074.out 1).trans rfl; have hcz22_2 : w18.cell? ⟨gb1074, 2, none⟩ = some (.int .i64 0) := (blk_cell BK1074.out 2).trans rfl; have hcz22_3 : w18.cell? ⟨gb1074, 3, none⟩ = some (.int .i64 0) := (blk_cell BK1074.out 3).trans rfl; have hcz22_4 : w18.cell? ⟨gb1074, 4, none⟩ = some (.int .i64 0) := (blk_cell BK1074.out 4).trans rfl; have hcz22_5 : w18.cell? ⟨gb1074, 5, none⟩ = some (.string (⟨#[]⟩ : ByteArray)) := (blk_cell BK1074.out 5).trans rfl; have hcz22_6 : w18.cell? ⟨gb1074, 6, none⟩ = some (.slice none 0 0) := (blk_cell BK1074.out 6).trans rfl; have hfz22_0 := blk_frozen BK1074.out 0; have hfz22_1 := blk_frozen BK1074.out 1; have hfz22_2 := blk_frozen BK1074.out 2; have hfz22_3 := blk_frozen BK1074.out 3; have hfz22_4 := blk_frozen BK1074.out 4; have hfz22_5 := blk_frozen BK1074.out 5; have hfz22_6 := blk_frozen BK1074.out 6))
   refine bodyPost_ret (results_ct rfl _ _ gb1074 67 #[.bool false, .int .i64 0, .int .i64 0, .int .i64 0, .int .i64 0, .string (⟨#[]⟩ : ByteArray), .slice none 0 0] (0, 0) _ rfl (by (with_reducible repeat (first | apply k1_ | apply k2_ | apply k3_)); refine blk_put (cs := #[.bool false, .int .i64 0, .int .i64 0, .int .i64 0, .int .i64 0, .string (⟨#[]⟩ : ByteArray), .slice none 0 0]) ?_ 6 _ rfl; (with_reducible repeat (first | apply k1_ | apply k2_ | apply k3_)); refine blk_put (cs := #[.bool false, .int .i64 0, .int .i64 0, .int .i64 0, .int .i64 0, .string (⟨#[]⟩ : ByteArray), .slice none 0 0]) ?_ 5 _ rfl; (with_reducible repeat (first | apply k1_ | apply k2_ | apply k3_)); refine blk_put (cs := #[.bool false, .int .i64 0, .int .i64 0, .int .i64 0, .int .i64 0, .string (⟨#[]⟩ : ByteArray), .slice none 0 0]) ?_ 4 _ rfl; (with_reducible repeat (first | apply k1_ | apply k2_ | apply k3_)); refine blk_put (cs := #[.bool false, .int .i64 0, .int .i64 0, .int .i64 0, .int .i64 0, .string (⟨#[]⟩ : ByteArray), .slice none 0 0]) ?_ 3 _ rfl; (with_reducible repeat (first | apply k1_ | apply k2_ | apply k3_)); refine blk_put (cs := #[.bool false, .int .i64 0, .int .i64 0, .int .i64 0, .int .i64 0, .string (⟨#[]⟩ : ByteArray), .slice none 0 0]) ?_ 2 _ rfl; (with_reducible repeat (first | apply k1_ | apply k2_ | apply k3_)); refine blk_put (cs := #[.bool false, .int .i64 0, .int .i64 0, .int .i64 0, .int .i64 0, .string (⟨#[]⟩ : ByteArray), .slice none 0 0]) ?_ 1 _ rfl; (with_reducible repeat (first | apply k1_ | apply k2_ | apply k3_)); refine blk_put (cs := #[.bool false, .int .i64 0, .int .i64 0, .int .i64 0, .int .i64 0, .string (⟨#[]⟩ : ByteArray), .slice none 0 0]) ?_ 0 _ rfl; (with_reducible repeat (first | apply k1_ | apply k2_ | apply k3_)); refine blk_far ?_ NB1074_1085.out _; (with_reducible repeat (first | apply k1_ | apply k2_ | apply k3_)); refine blk_far ?_ NB1074_1085.out _; (with_reducible repeat (first | apply k1_ | apply k2_ | apply k3_)); refine blk_far ?_ NB1074_1085.out _; (with_reducible repeat (first | apply k1_ | apply k2_ | apply k3_)); refine blk_far ?_ NB1074_1085.out _; (with_reducible repeat (first | apply k1_ | apply k2_ | apply k3_)); refine blk_far ?_ NB1074_1085.out _; (with_reducible repeat (first | apply k1_ | apply k2_ | apply k3_)); refine blk_far ?_ NB1074_1085.out _; (with_reducible repeat (first | apply k1_ | apply k2_ | apply k3_)); refine blk_far ?_ NB1074_1085.out _; (with_reducible repeat (first | apply k1_ | apply k2_ | apply k3_)); exact BK1074.out) Try.underlying67 rfl (by kernel_rfl)) rfl ?_
   exact ⟨_, by first | rfl | (simp [e1_, e2_] <;> rfl) | (simp [*, e1_, e2_] <;> rfl) | (simp [e3_, e4_]; done) | (simp [*, e3_, e4_]; done), by first | exact Kd.R_nil _ _ _ _ _ | exact Kd.N_nil _ _ _ _ _ | exact Kd.V_nil _ _ _ _ _ | exact Kd.Q_nil _ _ _ _ _ | exact Kd.S_nil _ _ _ _ _, by repeat (first | (with_reducible first | exact HB.out | apply b1_ | apply b2_ | apply b3_ | refine below_set ?_ GE1074.out | refine below_set ?_ GE1085.out) | exact HB.out)⟩
end Go.Proofs.Ytofkobbiomhblaa.A
end
